/-
  The statement signpost/signpostlaw11.InstBack: whatever it is handed, it returns true and leaves what it was handed as it was. No condition.
-/
import Derived.Test.YtgabplankmljfaaRows
import Derived.Test.YtgabplankmljfaaInstBackPure
import Derived.Test.YtgabplankmljfaaInstBackRd
import Derived.Test.YtgabplankmljfaaInstBackW2
namespace Go.Proofs.Ytgabplankmljfaa.instBack
open Go Go.ChangeShapes Go.WideShapes Go.ChangeAt Go.RowKit
set_option linter.unusedVariables false
set_option linter.unusedSimpArgs false
theorem own : ownKnob Try.prog.godebug = none := by kernel_rfl
theorem laidOut : laidOutB Try.prog = true := by kernel_rfl
set_option maxRecDepth 100000 in
theorem lifted (os : Os) (started : os.Started) (H : Type) (enc : TypeId × Value → H) :
    ReturnsInHanded {} Try.checked os 10 .any (Rows.instBackSpec.pre6 enc Try.prog Try.f10 Rows.instBackRow.domain false) (Rows.instBackSpec.post enc Try.prog Try.f10 false true false false) := by
  refine returnsInHanded_of_change_sized (C := Try.checked) own started (by kernel_rfl) Try.func10
    (ChangeSpec.witness6 (enc := enc) (C := Try.checked) false ⟨#[], #[.agg #[.int .u8 0, .int .u8 0, .int .u8 0, .int .u8 0, .int .u8 0, .int .u8 0, .int .u8 0, .int .u8 0, .int .u8 0, .int .u8 0, .int .u8 0, .int .u8 0, .int .u8 0, .int .u8 0, .int .u8 0, .int .u8 0, .int .u8 0, .int .u8 0, .int .u8 0, .int .u8 0, .int .u64 0, .int .u64 0, .int .u32 0, .bool false, .int .u16 0, .int .u16 0, .int .u16 0, .string ByteArray.empty], .agg #[.int .u8 0, .int .u8 0, .int .u8 0, .int .u8 0, .int .u8 0, .int .u8 0, .int .u8 0, .int .u8 0, .int .u8 0, .int .u8 0, .int .u8 0, .int .u8 0, .int .u8 0, .int .u8 0, .int .u8 0, .int .u8 0, .int .u8 0, .int .u8 0, .int .u8 0, .int .u8 0, .int .u64 0, .int .u64 0, .int .u32 0, .bool false, .int .u16 0, .int .u16 0, .int .u16 0, .string ByteArray.empty], .slice none 0 0], []⟩ 8 (by kernel_rfl) (by kernel_rfl) (by kernel_rfl) (by kernel_rfl)) ?_
  intro W base args ds gs before hval0 hW hcnd hsz0 _
  have hval : ∀ (j : Nat) t v, Try.f10.params[j]? = some t → args[j]? = some v → Value.okWide Try.prog W .any base t v := hval0
  have hW' := hW
  obtain ⟨p, q, hA0, hV, rfl, hfz, hnd⟩ := hW
  have hA : DataW.TrodAll enc Try.prog W 0 (fun _ => true) true Try.f10.params.toList args.toList ds p := hA0
  rw [Try.params10] at hA hval
  obtain ⟨v0, vs0, d0, ds0, p0, q0, hargs, rfl, rfl, h0, r0⟩ := trodAll_cons hA
  obtain ⟨v1, vs1, d1, ds1, p1, q1, rfl, rfl, rfl, h1, r1⟩ := trodAll_cons r0
  obtain ⟨v2, vs2, d2, ds2, p2, q2, rfl, rfl, rfl, h2, r2⟩ := trodAll_cons r1
  obtain ⟨rfl, rfl, rfl⟩ := trodAll_nil r2
  obtain rfl : args = #[v0, v1, v2] := by cases args; simp_all
  obtain ⟨rfl, rfl⟩ := trodVars_none hV
  have hsz := hsz0
  rw [Try.params10] at hsz
  have k0 := h0
  have k1 := h1
  have k2 := h2
  obtain ⟨cs0, rfl⟩ := okWide_agg ag47 (hval 0 47 v0 rfl rfl)
  obtain ⟨a, e0, wf_a⟩ := G_api_Instance_rd _ (Rd.of (j := 0) hsz h0 (by rfl) (by rfl))
  simp only [Value.cells] at e0
  subst e0
  obtain ⟨cs1, rfl⟩ := okWide_agg ag47 (hval 1 47 v1 rfl rfl)
  obtain ⟨b, e1, wf_b⟩ := G_api_Instance_rd _ (Rd.of (j := 1) hsz h1 (by rfl) (by rfl))
  simp only [Value.cells] at e1
  subst e1
  obtain ⟨q2, n2, m2, rfl⟩ := okWide_slice Try.underlying49 (hval 2 49 v2 rfl rfl)
  obtain ⟨a_behind, c_behind, behind, e2, hq_behind, hm_behind, hv_behind⟩ := (Rd.of (j := 2) hsz h2 (by rfl) (by rfl)).bytesE Try.underlying49 Try.underlying5 (by kernel_rfl)
  simp only [Value.cells, List.cons.injEq, and_true, Value.slice.injEq] at e2
  obtain ⟨rfl, rfl, rfl⟩ := e2
  have hl_behind : behind.length * 1 ≤ 140737488351232 := slice_reach (j := 2) hsz k2 Try.underlying49 (by kernel_rfl) (by rfl) (by rfl) hq_behind
  rw [Nat.mul_one] at hl_behind
  clear hA0 hval0 hsz0 hsz
  refine (M_signpostlaw11_InstBack_v_w (W := Base.old W) hv_behind hq_behind (Sat.begin W) (r1 := true) (pure_InstBack a b behind wf_a wf_b hl_behind)).mono fun e W' hh => ?_
  obtain ⟨v, he, hv', hS⟩ := Ret.open hh
  subst he; subst hv'
  have bel := hS.old_below
  exact ⟨_, rfl, _, _, _, [], _, [], hW', trodAll_mk1 (shut_bool Try.underlying4 _), (trodAll_cons_mk (trod_old laidOut (by kernel_rfl) (of_decide_eq_true (by kernel_rfl)) k0 bel) (trodAll_cons_mk (trod_old laidOut (by kernel_rfl) (of_decide_eq_true (by kernel_rfl)) k1 bel) (trodAll_cons_mk (trod_old laidOut (by kernel_rfl) (of_decide_eq_true (by kernel_rfl)) k2 bel) trodAll_mk0))), rfl, bel.frame _, fun h => by cases h⟩
theorem over : Rows.instBackRow.holds Try.pinned (OpenSpec.ofChange Rows.instBackSpec) :=
  OpenClaim.holds_of_wide 10 Try.f10 rfl rfl rfl rfl rfl rfl rfl ⟨rfl, rfl, rfl, rfl, rfl⟩ rfl rfl rfl rfl rfl (by kernel_rfl) Try.func10 (by kernel_rfl)
    (of_decide_eq_true (by kernel_rfl)) (by unfold Func.isWrapper; first | (rw [if_pos (by decide +kernel)]; kernel_rfl) | (rw [if_neg (by decide +kernel)]; exact ⟨rfl, rfl⟩))
    (fun os started H enc _ => lifted os started H enc)
theorem proved : Rows.InstBackSaid := over
#print axioms proved
end Go.Proofs.Ytgabplankmljfaa.instBack
