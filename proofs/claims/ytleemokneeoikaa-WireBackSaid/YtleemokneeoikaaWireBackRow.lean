/-
  The statement signpost/signpostlaw14.WireBack: whatever it is handed, it returns true and leaves what it was handed as it was. No condition.
-/
import Derived.Test.YtleemokneeoikaaRows
import Derived.Test.YtleemokneeoikaaWireBackPure
import Derived.Test.YtleemokneeoikaaWireBackRd
import Derived.Test.YtleemokneeoikaaWireBackW5
namespace Go.Proofs.Ytleemokneeoikaa.wireBack
open Go Go.ChangeShapes Go.WideShapes Go.ChangeAt Go.RowKit
set_option linter.unusedVariables false
set_option linter.unusedSimpArgs false
theorem own : ownKnob Try.prog.godebug = none := by kernel_rfl
theorem laidOut : laidOutB Try.prog = true := by kernel_rfl
set_option maxRecDepth 100000 in
theorem lifted (os : Os) (started : os.Started) (H : Type) (enc : TypeId × Value → H) :
    ReturnsInHanded {} Try.checked os 5 .any (Rows.wireBackSpec.pre6 enc Try.prog Try.f5 Rows.wireBackRow.domain false) (Rows.wireBackSpec.post enc Try.prog Try.f5 false true false false) := by
  refine returnsInHanded_of_change_sized (C := Try.checked) own started (by kernel_rfl) Try.func5
    (ChangeSpec.witness6 (enc := enc) (C := Try.checked) false ⟨#[], #[.agg #[.int .i64 0, .int .u32 0, .int .u8 0, .int .u8 0, .int .u8 0, .int .u8 0, .int .u8 0, .int .u8 0, .int .u8 0, .int .u8 0, .int .u8 0, .int .u8 0, .int .u8 0, .int .u8 0, .int .u8 0, .int .u8 0, .int .u8 0, .int .u8 0, .int .u8 0, .int .u8 0, .int .u8 0, .int .u8 0, .int .u8 0, .int .u8 0, .int .u8 0, .int .u8 0, .int .u8 0, .int .u8 0, .int .u8 0, .int .u8 0, .int .u8 0, .int .u8 0, .int .u8 0, .int .u8 0, .int .u8 0, .int .u8 0, .int .u8 0, .int .u8 0, .int .u8 0, .int .u8 0, .int .u8 0, .int .u8 0, .slice none 0 0, .slice none 0 0], .agg #[.int .i64 0, .int .u32 0, .int .u8 0, .int .u8 0, .int .u8 0, .int .u8 0, .int .u8 0, .int .u8 0, .int .u8 0, .int .u8 0, .int .u8 0, .int .u8 0, .int .u8 0, .int .u8 0, .int .u8 0, .int .u8 0, .int .u8 0, .int .u8 0, .int .u8 0, .int .u8 0, .int .u8 0, .int .u8 0, .int .u8 0, .int .u8 0, .int .u8 0, .int .u8 0, .int .u8 0, .int .u8 0, .int .u8 0, .int .u8 0, .int .u8 0, .int .u8 0, .int .u8 0, .int .u8 0, .int .u8 0, .int .u8 0, .int .u8 0, .int .u8 0, .int .u8 0, .int .u8 0, .int .u8 0, .int .u8 0, .slice none 0 0, .slice none 0 0]], []⟩ 8 (by kernel_rfl) (by kernel_rfl) (by kernel_rfl) (by kernel_rfl)) ?_
  intro W base args ds gs before hval0 hW hcnd hsz0 _
  have hval : ∀ (j : Nat) t v, Try.f5.params[j]? = some t → args[j]? = some v → Value.okWide Try.prog W .any base t v := hval0
  have hW' := hW
  obtain ⟨p, q, hA0, hV, rfl, hfz, hnd⟩ := hW
  have hA : DataW.TrodAll enc Try.prog W 0 (fun _ => true) true Try.f5.params.toList args.toList ds p := hA0
  rw [Try.params5] at hA hval
  obtain ⟨v0, vs0, d0, ds0, p0, q0, hargs, rfl, rfl, h0, r0⟩ := trodAll_cons hA
  obtain ⟨v1, vs1, d1, ds1, p1, q1, rfl, rfl, rfl, h1, r1⟩ := trodAll_cons r0
  obtain ⟨rfl, rfl, rfl⟩ := trodAll_nil r1
  obtain rfl : args = #[v0, v1] := by cases args; simp_all
  obtain ⟨rfl, rfl⟩ := trodVars_none hV
  have hsz := hsz0
  rw [Try.params5] at hsz
  have k0 := h0
  have k1 := h1
  obtain ⟨cs0, rfl⟩ := okWide_agg ag28 (hval 0 28 v0 rfl rfl)
  have rd0 := Rd.of (j := 0) hsz h0 (by rfl) (by rfl)
  rw [show (Value.agg cs0.toArray).cells.toList = cs0 by simp [Value.cells]] at rd0
  have ln0 := rd0.struct Try.underlying28 (n := 44) (by kernel_rfl)
  have g0_0 := rd0.field Try.underlying28 (i := 0) (t' := 3) (o := 0) (m := 1) rfl (by kernel_rfl)
  obtain ⟨Kind, e0_0, wf_Kind⟩ := g0_0.i64 Try.underlying3
  have g0_1 := rd0.field Try.underlying28 (i := 1) (t' := 22) (o := 1) (m := 1) rfl (by kernel_rfl)
  obtain ⟨Txn, e0_1⟩ := g0_1.u32 Try.underlying22
  have g0_2 := rd0.field Try.underlying28 (i := 2) (t' := 24) (o := 2) (m := 20) rfl (by kernel_rfl)
  obtain ⟨From, e0_2⟩ := g0_2.arr Try.underlying24 Try.underlying5 (by kernel_rfl) (by kernel_rfl)
  have g0_3 := rd0.field Try.underlying28 (i := 3) (t' := 24) (o := 22) (m := 20) rfl (by kernel_rfl)
  obtain ⟨Key, e0_3⟩ := g0_3.arr Try.underlying24 Try.underlying5 (by kernel_rfl) (by kernel_rfl)
  have g0_4 := rd0.field Try.underlying28 (i := 4) (t' := 25) (o := 42) (m := 1) rfl (by kernel_rfl)
  obtain ⟨a_Contacts, c_Contacts, Contacts, e0_4, hq_Contacts, hm_Contacts, hv_Contacts, wf_Contacts⟩ := g0_4.rowsE (E := el_G_api_Contact) (Q := fun x => G_api_Contact_wf x) Try.underlying25 (by kernel_rfl) (by decide) (G_api_Contact_rd)
  have hl_Contacts : Contacts.length * 28 ≤ 140737488351232 := Rd.reach (e0_4 ▸ g0_4) Try.underlying25 (by kernel_rfl) hq_Contacts
  have g0_5 := rd0.field Try.underlying28 (i := 5) (t' := 26) (o := 43) (m := 1) rfl (by kernel_rfl)
  obtain ⟨a_Roster, c_Roster, Roster, e0_5, hq_Roster, hm_Roster, hv_Roster, wf_Roster⟩ := g0_5.rowsE (E := el_G_api_Instance) (Q := fun x => G_api_Instance_wf x) Try.underlying26 (by kernel_rfl) (by decide) (G_api_Instance_rd)
  have hl_Roster : Roster.length * 72 ≤ 140737488351232 := Rd.reach (e0_5 ▸ g0_5) Try.underlying26 (by kernel_rfl) hq_Roster
  have ee0 : cs0 = cs0.drop 0 := rfl
  rw [drop_part cs0 0 1 e0_0, drop_part cs0 1 1 e0_1, drop_part cs0 2 20 e0_2, drop_part cs0 22 20 e0_3, drop_part cs0 42 1 e0_4, drop_part cs0 43 1 e0_5, List.drop_of_length_le (by rw [ln0]; decide)] at ee0
  simp only [List.append_nil, List.append_assoc, List.cons_append, List.nil_append] at ee0
  obtain rfl := ee0
  obtain ⟨cs1, rfl⟩ := okWide_agg ag28 (hval 1 28 v1 rfl rfl)
  have rd1 := Rd.of (j := 1) hsz h1 (by rfl) (by rfl)
  rw [show (Value.agg cs1.toArray).cells.toList = cs1 by simp [Value.cells]] at rd1
  have ln1 := rd1.struct Try.underlying28 (n := 44) (by kernel_rfl)
  have g1_0 := rd1.field Try.underlying28 (i := 0) (t' := 3) (o := 0) (m := 1) rfl (by kernel_rfl)
  obtain ⟨Kind2, e1_0, wf_Kind2⟩ := g1_0.i64 Try.underlying3
  have g1_1 := rd1.field Try.underlying28 (i := 1) (t' := 22) (o := 1) (m := 1) rfl (by kernel_rfl)
  obtain ⟨Txn2, e1_1⟩ := g1_1.u32 Try.underlying22
  have g1_2 := rd1.field Try.underlying28 (i := 2) (t' := 24) (o := 2) (m := 20) rfl (by kernel_rfl)
  obtain ⟨From2, e1_2⟩ := g1_2.arr Try.underlying24 Try.underlying5 (by kernel_rfl) (by kernel_rfl)
  have g1_3 := rd1.field Try.underlying28 (i := 3) (t' := 24) (o := 22) (m := 20) rfl (by kernel_rfl)
  obtain ⟨Key2, e1_3⟩ := g1_3.arr Try.underlying24 Try.underlying5 (by kernel_rfl) (by kernel_rfl)
  have g1_4 := rd1.field Try.underlying28 (i := 4) (t' := 25) (o := 42) (m := 1) rfl (by kernel_rfl)
  obtain ⟨a_Contacts2, c_Contacts2, Contacts2, e1_4, hq_Contacts2, hm_Contacts2, hv_Contacts2, wf_Contacts2⟩ := g1_4.rowsE (E := el_G_api_Contact) (Q := fun x => G_api_Contact_wf x) Try.underlying25 (by kernel_rfl) (by decide) (G_api_Contact_rd)
  have hl_Contacts2 : Contacts2.length * 28 ≤ 140737488351232 := Rd.reach (e1_4 ▸ g1_4) Try.underlying25 (by kernel_rfl) hq_Contacts2
  have g1_5 := rd1.field Try.underlying28 (i := 5) (t' := 26) (o := 43) (m := 1) rfl (by kernel_rfl)
  obtain ⟨a_Roster2, c_Roster2, Roster2, e1_5, hq_Roster2, hm_Roster2, hv_Roster2, wf_Roster2⟩ := g1_5.rowsE (E := el_G_api_Instance) (Q := fun x => G_api_Instance_wf x) Try.underlying26 (by kernel_rfl) (by decide) (G_api_Instance_rd)
  have hl_Roster2 : Roster2.length * 72 ≤ 140737488351232 := Rd.reach (e1_5 ▸ g1_5) Try.underlying26 (by kernel_rfl) hq_Roster2
  have ee1 : cs1 = cs1.drop 0 := rfl
  rw [drop_part cs1 0 1 e1_0, drop_part cs1 1 1 e1_1, drop_part cs1 2 20 e1_2, drop_part cs1 22 20 e1_3, drop_part cs1 42 1 e1_4, drop_part cs1 43 1 e1_5, List.drop_of_length_le (by rw [ln1]; decide)] at ee1
  simp only [List.append_nil, List.append_assoc, List.cons_append, List.nil_append] at ee1
  obtain rfl := ee1
  clear hA0 hval0 hsz0 hsz
  refine (M_signpostlaw14_WireBack_vvvv_w (W := Base.old W) hv_Contacts hq_Contacts hv_Roster hq_Roster hv_Contacts2 hq_Contacts2 hv_Roster2 hq_Roster2 (Sat.begin W) (r1 := true) (pure_WireBack Kind Txn From Key Contacts Roster Kind2 Txn2 From2 Key2 Contacts2 Roster2 wf_Kind hl_Contacts wf_Contacts hl_Roster wf_Roster wf_Kind2 hl_Contacts2 wf_Contacts2 hl_Roster2 wf_Roster2)).mono fun e W' hh => ?_
  obtain ⟨v, he, hv', hS⟩ := Ret.open hh
  subst he; subst hv'
  have bel := hS.old_below
  exact ⟨_, rfl, _, _, _, [], _, [], hW', trodAll_mk1 (shut_bool Try.underlying4 _), (trodAll_cons_mk (trod_old laidOut (by kernel_rfl) (of_decide_eq_true (by kernel_rfl)) k0 bel) (trodAll_cons_mk (trod_old laidOut (by kernel_rfl) (of_decide_eq_true (by kernel_rfl)) k1 bel) trodAll_mk0)), rfl, bel.frame _, fun h => by cases h⟩
theorem over : Rows.wireBackRow.holds Try.pinned (OpenSpec.ofChange Rows.wireBackSpec) :=
  OpenClaim.holds_of_wide 5 Try.f5 rfl rfl rfl rfl rfl rfl rfl ⟨rfl, rfl, rfl, rfl, rfl⟩ rfl rfl rfl rfl rfl (by kernel_rfl) Try.func5 (by kernel_rfl)
    (of_decide_eq_true (by kernel_rfl)) (by unfold Func.isWrapper; first | (rw [if_pos (by decide +kernel)]; kernel_rfl) | (rw [if_neg (by decide +kernel)]; exact ⟨rfl, rfl⟩))
    (fun os started H enc _ => lifted os started H enc)
theorem proved : Rows.WireBackSaid := over
#print axioms proved
end Go.Proofs.Ytleemokneeoikaa.wireBack
