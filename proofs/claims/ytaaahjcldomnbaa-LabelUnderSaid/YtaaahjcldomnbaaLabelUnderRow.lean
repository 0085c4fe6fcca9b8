/-
  The statement signpost/signpostlaw09.LabelUnder: whatever it is handed, it returns true and leaves what it was handed as it was. No condition.
-/
import Derived.Test.YtaaahjcldomnbaaRows
import Derived.Test.YtaaahjcldomnbaaLabelUnderPure
import Derived.Test.YtaaahjcldomnbaaLabelUnderRd
import Derived.Test.YtaaahjcldomnbaaLabelUnderW0
namespace Go.Proofs.Ytaaahjcldomnbaa.labelUnder
open Go Go.ChangeShapes Go.WideShapes Go.ChangeAt Go.RowKit
set_option linter.unusedVariables false
set_option linter.unusedSimpArgs false
theorem own : ownKnob Try.prog.godebug = none := by kernel_rfl
theorem laidOut : laidOutB Try.prog = true := by kernel_rfl
set_option maxRecDepth 100000 in
theorem lifted (os : Os) (started : os.Started) (H : Type) (enc : TypeId × Value → H) :
    ReturnsInHanded {} Try.checked os 9 .any (Rows.labelUnderSpec.pre6 enc Try.prog Try.f9 Rows.labelUnderRow.domain false) (Rows.labelUnderSpec.post enc Try.prog Try.f9 false true false false) := by
  refine returnsInHanded_of_change_sized (C := Try.checked) own started (by kernel_rfl) Try.func9
    (ChangeSpec.witness6 (enc := enc) (C := Try.checked) false ⟨#[], #[.string ByteArray.empty, .string ByteArray.empty, .string ByteArray.empty], []⟩ 8 (by kernel_rfl) (by kernel_rfl) (by kernel_rfl) (by kernel_rfl)) ?_
  intro W base args ds gs before hval0 hW hcnd hsz0 _
  have hval : ∀ (j : Nat) t v, Try.f9.params[j]? = some t → args[j]? = some v → Value.okWide Try.prog W .any base t v := hval0
  have hW' := hW
  obtain ⟨p, q, hA0, hV, rfl, hfz, hnd⟩ := hW
  have hA : DataW.TrodAll enc Try.prog W 0 (fun _ => true) true Try.f9.params.toList args.toList ds p := hA0
  rw [Try.params9] at hA hval
  obtain ⟨v0, vs0, d0, ds0, p0, q0, hargs, rfl, rfl, h0, r0⟩ := trodAll_cons hA
  obtain ⟨v1, vs1, d1, ds1, p1, q1, rfl, rfl, rfl, h1, r1⟩ := trodAll_cons r0
  obtain ⟨v2, vs2, d2, ds2, p2, q2, rfl, rfl, rfl, h2, r2⟩ := trodAll_cons r1
  obtain ⟨rfl, rfl, rfl⟩ := trodAll_nil r2
  obtain rfl : args = #[v0, v1, v2] := by cases args; simp_all
  obtain ⟨rfl, rfl⟩ := trodVars_none hV
  have hsz := hsz0
  rw [Try.params9] at hsz
  have k0 := h0
  have k1 := h1
  have k2 := h2
  obtain ⟨m0, rfl⟩ := okWide_string Try.underlying9 (hval 0 9 v0 rfl rfl)
  obtain ⟨a, e0, _⟩ := (Rd.of h0).str Try.underlying9
  obtain rfl : m0 = str a := by simpa [Value.cells] using e0
  have wf_a : a.length ≤ 140737488351232 := by have := string_reach (j := 0) hsz k0 Try.underlying9 (by rfl) (by rfl); rwa [str_size] at this
  obtain ⟨m1, rfl⟩ := okWide_string Try.underlying9 (hval 1 9 v1 rfl rfl)
  obtain ⟨b, e1, _⟩ := (Rd.of h1).str Try.underlying9
  obtain rfl : m1 = str b := by simpa [Value.cells] using e1
  have wf_b : b.length ≤ 140737488351232 := by have := string_reach (j := 1) hsz k1 Try.underlying9 (by rfl) (by rfl); rwa [str_size] at this
  obtain ⟨m2, rfl⟩ := okWide_string Try.underlying9 (hval 2 9 v2 rfl rfl)
  obtain ⟨c, e2, _⟩ := (Rd.of h2).str Try.underlying9
  obtain rfl : m2 = str c := by simpa [Value.cells] using e2
  have wf_c : c.length ≤ 140737488351232 := by have := string_reach (j := 2) hsz k2 Try.underlying9 (by rfl) (by rfl); rwa [str_size] at this
  clear hA0 hval0 hsz0 hsz
  refine (M_signpostlaw09_LabelUnder_w (W := Base.old W)  (Sat.begin W) (r1 := true) (pure_LabelUnder a b c wf_a wf_b wf_c)).mono fun e W' hh => ?_
  obtain ⟨v, he, hv', hS⟩ := Ret.open hh
  subst he; subst hv'
  have bel := hS.old_below
  exact ⟨_, rfl, _, _, _, [], _, [], hW', trodAll_mk1 (shut_bool Try.underlying4 _), (trodAll_cons_mk (trod_old laidOut (by kernel_rfl) (of_decide_eq_true (by kernel_rfl)) k0 bel) (trodAll_cons_mk (trod_old laidOut (by kernel_rfl) (of_decide_eq_true (by kernel_rfl)) k1 bel) (trodAll_cons_mk (trod_old laidOut (by kernel_rfl) (of_decide_eq_true (by kernel_rfl)) k2 bel) trodAll_mk0))), rfl, bel.frame _, fun h => by cases h⟩
theorem over : Rows.labelUnderRow.holds Try.pinned (OpenSpec.ofChange Rows.labelUnderSpec) :=
  OpenClaim.holds_of_wide 9 Try.f9 rfl rfl rfl rfl rfl rfl rfl ⟨rfl, rfl, rfl, rfl, rfl⟩ rfl rfl rfl rfl rfl (by kernel_rfl) Try.func9 (by kernel_rfl)
    (of_decide_eq_true (by kernel_rfl)) (by unfold Func.isWrapper; first | (rw [if_pos (by decide +kernel)]; kernel_rfl) | (rw [if_neg (by decide +kernel)]; exact ⟨rfl, rfl⟩))
    (fun os started H enc _ => lifted os started H enc)
theorem proved : Rows.LabelUnderSaid := over
#print axioms proved
end Go.Proofs.Ytaaahjcldomnbaa.labelUnder
