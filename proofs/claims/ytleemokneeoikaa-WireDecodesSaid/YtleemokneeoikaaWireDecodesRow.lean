/-
  The statement signpost/signpostlaw14.WireDecodes: whatever it is handed, it returns true and leaves what it was handed as it was. No condition.
-/
import Derived.Test.YtleemokneeoikaaRows
import Derived.Test.YtleemokneeoikaaWireDecodesPure
import Derived.Test.YtleemokneeoikaaWireDecodesRd
import Derived.Test.YtleemokneeoikaaWireDecodesW7
namespace Go.Proofs.Ytleemokneeoikaa.wireDecodes
open Go Go.ChangeShapes Go.WideShapes Go.ChangeAt Go.RowKit
set_option linter.unusedVariables false
set_option linter.unusedSimpArgs false
theorem own : ownKnob Try.prog.godebug = none := by kernel_rfl
theorem laidOut : laidOutB Try.prog = true := by kernel_rfl
set_option maxRecDepth 100000 in
theorem lifted (os : Os) (started : os.Started) (H : Type) (enc : TypeId × Value → H) :
    ReturnsInHanded {} Try.checked os 4 .any (Rows.wireDecodesSpec.pre6 enc Try.prog Try.f4 Rows.wireDecodesRow.domain false) (Rows.wireDecodesSpec.post enc Try.prog Try.f4 false true false false) := by
  refine returnsInHanded_of_change_sized (C := Try.checked) own started (by kernel_rfl) Try.func4
    (ChangeSpec.witness6 (enc := enc) (C := Try.checked) false ⟨#[], #[.slice none 0 0], []⟩ 8 (by kernel_rfl) (by kernel_rfl) (by kernel_rfl) (by kernel_rfl)) ?_
  intro W base args ds gs before hval0 hW hcnd hsz0 _
  have hval : ∀ (j : Nat) t v, Try.f4.params[j]? = some t → args[j]? = some v → Value.okWide Try.prog W .any base t v := hval0
  have hW' := hW
  obtain ⟨p, q, hA0, hV, rfl, hfz, hnd⟩ := hW
  have hA : DataW.TrodAll enc Try.prog W 0 (fun _ => true) true Try.f4.params.toList args.toList ds p := hA0
  rw [Try.params4] at hA hval
  obtain ⟨v0, vs0, d0, ds0, p0, q0, hargs, rfl, rfl, h0, r0⟩ := trodAll_cons hA
  obtain ⟨rfl, rfl, rfl⟩ := trodAll_nil r0
  obtain rfl : args = #[v0] := by cases args; simp_all
  obtain ⟨rfl, rfl⟩ := trodVars_none hV
  have hsz := hsz0
  rw [Try.params4] at hsz
  have k0 := h0
  obtain ⟨q0, n0, m0, rfl⟩ := okWide_slice Try.underlying31 (hval 0 31 v0 rfl rfl)
  obtain ⟨a_b, c_b, b, e0, hq_b, hm_b, hv_b⟩ := (Rd.of (j := 0) hsz h0 (by rfl) (by rfl)).bytesE Try.underlying31 Try.underlying5 (by kernel_rfl)
  simp only [Value.cells, List.cons.injEq, and_true, Value.slice.injEq] at e0
  obtain ⟨rfl, rfl, rfl⟩ := e0
  have hl_b : b.length * 1 ≤ 140737488351232 := slice_reach (j := 0) hsz k0 Try.underlying31 (by kernel_rfl) (by rfl) (by rfl) hq_b
  rw [Nat.mul_one] at hl_b
  clear hA0 hval0 hsz0 hsz
  refine (M_signpostlaw14_WireDecodes_v_w (W := Base.old W) hv_b hq_b (Sat.begin W) (r1 := true) (pure_WireDecodes b hl_b)).mono fun e W' hh => ?_
  obtain ⟨v, he, hv', hS⟩ := Ret.open hh
  subst he; subst hv'
  have bel := hS.old_below
  exact ⟨_, rfl, _, _, _, [], _, [], hW', trodAll_mk1 (shut_bool Try.underlying4 _), (trodAll_cons_mk (trod_old laidOut (by kernel_rfl) (of_decide_eq_true (by kernel_rfl)) k0 bel) trodAll_mk0), rfl, bel.frame _, fun h => by cases h⟩
theorem over : Rows.wireDecodesRow.holds Try.pinned (OpenSpec.ofChange Rows.wireDecodesSpec) :=
  OpenClaim.holds_of_wide 4 Try.f4 rfl rfl rfl rfl rfl rfl rfl ⟨rfl, rfl, rfl, rfl, rfl⟩ rfl rfl rfl rfl rfl (by kernel_rfl) Try.func4 (by kernel_rfl)
    (of_decide_eq_true (by kernel_rfl)) (by unfold Func.isWrapper; first | (rw [if_pos (by decide +kernel)]; kernel_rfl) | (rw [if_neg (by decide +kernel)]; exact ⟨rfl, rfl⟩))
    (fun os started H enc _ => lifted os started H enc)
theorem proved : Rows.WireDecodesSaid := over
#print axioms proved
end Go.Proofs.Ytleemokneeoikaa.wireDecodes
