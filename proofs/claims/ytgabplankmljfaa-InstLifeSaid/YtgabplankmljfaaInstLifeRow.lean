/-
  The statement signpost/signpostlaw11.InstLife: whatever it is handed, it returns true and leaves what it was handed as it was. No condition.
-/
import Derived.Test.YtgabplankmljfaaRows
import Derived.Test.YtgabplankmljfaaInstLifePure
import Derived.Test.YtgabplankmljfaaInstLifeRd
import Derived.Test.YtgabplankmljfaaInstLifeW2
namespace Go.Proofs.Ytgabplankmljfaa.instLife
open Go Go.ChangeShapes Go.WideShapes Go.ChangeAt Go.RowKit
set_option linter.unusedVariables false
set_option linter.unusedSimpArgs false
theorem own : ownKnob Try.prog.godebug = none := by kernel_rfl
theorem laidOut : laidOutB Try.prog = true := by kernel_rfl
set_option maxRecDepth 100000 in
theorem lifted (os : Os) (started : os.Started) (H : Type) (enc : TypeId × Value → H) :
    ReturnsInHanded {} Try.checked os 7 .any (Rows.instLifeSpec.pre6 enc Try.prog Try.f7 Rows.instLifeRow.domain false) (Rows.instLifeSpec.post enc Try.prog Try.f7 false true false false) := by
  refine returnsInHanded_of_change_sized (C := Try.checked) own started (by kernel_rfl) Try.func7
    (ChangeSpec.witness6 (enc := enc) (C := Try.checked) false ⟨#[], #[.agg #[.int .u8 0, .int .u8 0, .int .u8 0, .int .u8 0, .int .u8 0, .int .u8 0, .int .u8 0, .int .u8 0, .int .u8 0, .int .u8 0, .int .u8 0, .int .u8 0, .int .u8 0, .int .u8 0, .int .u8 0, .int .u8 0, .int .u8 0, .int .u8 0, .int .u8 0, .int .u8 0, .int .u64 0, .int .u64 0, .int .u32 0, .bool false, .int .u16 0, .int .u16 0, .int .u16 0, .string ByteArray.empty], .agg #[.int .u8 0, .int .u8 0, .int .u8 0, .int .u8 0, .int .u8 0, .int .u8 0, .int .u8 0, .int .u8 0, .int .u8 0, .int .u8 0, .int .u8 0, .int .u8 0, .int .u8 0, .int .u8 0, .int .u8 0, .int .u8 0, .int .u8 0, .int .u8 0, .int .u8 0, .int .u8 0, .int .u64 0, .int .u64 0, .int .u32 0, .bool false, .int .u16 0, .int .u16 0, .int .u16 0, .string ByteArray.empty], .agg #[.int .u8 0, .int .u8 0, .int .u8 0, .int .u8 0, .int .u8 0, .int .u8 0, .int .u8 0, .int .u8 0, .int .u8 0, .int .u8 0, .int .u8 0, .int .u8 0, .int .u8 0, .int .u8 0, .int .u8 0, .int .u8 0, .int .u8 0, .int .u8 0, .int .u8 0, .int .u8 0, .int .u64 0, .int .u64 0, .int .u32 0, .bool false, .int .u16 0, .int .u16 0, .int .u16 0, .string ByteArray.empty], .int .u64 0, .int .u64 0], []⟩ 8 (by kernel_rfl) (by kernel_rfl) (by kernel_rfl) (by kernel_rfl)) ?_
  intro W base args ds gs before hval0 hW hcnd hsz0 _
  have hval : ∀ (j : Nat) t v, Try.f7.params[j]? = some t → args[j]? = some v → Value.okWide Try.prog W .any base t v := hval0
  have hW' := hW
  obtain ⟨p, q, hA0, hV, rfl, hfz, hnd⟩ := hW
  have hA : DataW.TrodAll enc Try.prog W 0 (fun _ => true) true Try.f7.params.toList args.toList ds p := hA0
  rw [Try.params7] at hA hval
  obtain ⟨v0, vs0, d0, ds0, p0, q0, hargs, rfl, rfl, h0, r0⟩ := trodAll_cons hA
  obtain ⟨v1, vs1, d1, ds1, p1, q1, rfl, rfl, rfl, h1, r1⟩ := trodAll_cons r0
  obtain ⟨v2, vs2, d2, ds2, p2, q2, rfl, rfl, rfl, h2, r2⟩ := trodAll_cons r1
  obtain ⟨v3, vs3, d3, ds3, p3, q3, rfl, rfl, rfl, h3, r3⟩ := trodAll_cons r2
  obtain ⟨v4, vs4, d4, ds4, p4, q4, rfl, rfl, rfl, h4, r4⟩ := trodAll_cons r3
  obtain ⟨rfl, rfl, rfl⟩ := trodAll_nil r4
  obtain rfl : args = #[v0, v1, v2, v3, v4] := by cases args; simp_all
  obtain ⟨rfl, rfl⟩ := trodVars_none hV
  have hsz := hsz0
  rw [Try.params7] at hsz
  have k0 := h0
  have k1 := h1
  have k2 := h2
  have k3 := h3
  have k4 := h4
  obtain ⟨cs0, rfl⟩ := okWide_agg ag47 (hval 0 47 v0 rfl rfl)
  obtain ⟨a, e0, wf_a⟩ := G_api_Instance_rd _ (Rd.of (j := 0) hsz h0 (by rfl) (by rfl))
  simp only [Value.cells] at e0
  subst e0
  obtain ⟨cs1, rfl⟩ := okWide_agg ag47 (hval 1 47 v1 rfl rfl)
  obtain ⟨b, e1, wf_b⟩ := G_api_Instance_rd _ (Rd.of (j := 1) hsz h1 (by rfl) (by rfl))
  simp only [Value.cells] at e1
  subst e1
  obtain ⟨cs2, rfl⟩ := okWide_agg ag47 (hval 2 47 v2 rfl rfl)
  obtain ⟨c, e2, wf_c⟩ := G_api_Instance_rd _ (Rd.of (j := 2) hsz h2 (by rfl) (by rfl))
  simp only [Value.cells] at e2
  subst e2
  obtain ⟨m3, rfl⟩ := okWide_int Try.underlying28 (hval 3 28 v3 rfl rfl)
  obtain ⟨now, e3⟩ := (Rd.of (j := 3) hsz h3 (by rfl) (by rfl)).u64 Try.underlying28
  obtain rfl : m3 = (now.toNat : Int) := by simpa [Value.cells] using e3
  obtain ⟨m4, rfl⟩ := okWide_int Try.underlying28 (hval 4 28 v4 rfl rfl)
  obtain ⟨more, e4⟩ := (Rd.of (j := 4) hsz h4 (by rfl) (by rfl)).u64 Try.underlying28
  obtain rfl : m4 = (more.toNat : Int) := by simpa [Value.cells] using e4
  clear hA0 hval0 hsz0 hsz
  refine (M_signpostlaw11_InstLife_w (W := Base.old W)  (Sat.begin W) (r1 := true) (pure_InstLife a b c now more wf_a wf_b wf_c)).mono fun e W' hh => ?_
  obtain ⟨v, he, hv', hS⟩ := Ret.open hh
  subst he; subst hv'
  have bel := hS.old_below
  exact ⟨_, rfl, _, _, _, [], _, [], hW', trodAll_mk1 (shut_bool Try.underlying4 _), (trodAll_cons_mk (trod_old laidOut (by kernel_rfl) (of_decide_eq_true (by kernel_rfl)) k0 bel) (trodAll_cons_mk (trod_old laidOut (by kernel_rfl) (of_decide_eq_true (by kernel_rfl)) k1 bel) (trodAll_cons_mk (trod_old laidOut (by kernel_rfl) (of_decide_eq_true (by kernel_rfl)) k2 bel) (trodAll_cons_mk (trod_old laidOut (by kernel_rfl) (of_decide_eq_true (by kernel_rfl)) k3 bel) (trodAll_cons_mk (trod_old laidOut (by kernel_rfl) (of_decide_eq_true (by kernel_rfl)) k4 bel) trodAll_mk0))))), rfl, bel.frame _, fun h => by cases h⟩
theorem over : Rows.instLifeRow.holds Try.pinned (OpenSpec.ofChange Rows.instLifeSpec) :=
  OpenClaim.holds_of_wide 7 Try.f7 rfl rfl rfl rfl rfl rfl rfl ⟨rfl, rfl, rfl, rfl, rfl⟩ rfl rfl rfl rfl rfl (by kernel_rfl) Try.func7 (by kernel_rfl)
    (of_decide_eq_true (by kernel_rfl)) (by unfold Func.isWrapper; first | (rw [if_pos (by decide +kernel)]; kernel_rfl) | (rw [if_neg (by decide +kernel)]; exact ⟨rfl, rfl⟩))
    (fun os started H enc _ => lifted os started H enc)
theorem proved : Rows.InstLifeSaid := over
#print axioms proved
end Go.Proofs.Ytgabplankmljfaa.instLife
