/-
  The statement signpost/signpostlaw12.RosterMerges: whatever it is handed, it returns true and leaves what it was handed as it was. No condition.
-/
import Derived.Test.YtmjcemhojhbijaaRows
import Derived.Test.YtmjcemhojhbijaaRosterMergesPure
import Derived.Test.YtmjcemhojhbijaaRosterMergesRd
import Derived.Test.YtmjcemhojhbijaaRosterMergesW4
namespace Go.Proofs.Ytmjcemhojhbijaa.rosterMerges
open Go Go.ChangeShapes Go.WideShapes Go.ChangeAt Go.RowKit
set_option linter.unusedVariables false
set_option linter.unusedSimpArgs false
theorem own : ownKnob Try.prog.godebug = none := by kernel_rfl
theorem laidOut : laidOutB Try.prog = true := by kernel_rfl
set_option maxRecDepth 100000 in
theorem lifted (os : Os) (started : os.Started) (H : Type) (enc : TypeId × Value → H) :
    ReturnsInHanded {} Try.checked os 5 .any (Rows.rosterMergesSpec.pre6 enc Try.prog Try.f5 Rows.rosterMergesRow.domain false) (Rows.rosterMergesSpec.post enc Try.prog Try.f5 false true false false) := by
  refine returnsInHanded_of_change_sized (C := Try.checked) own started (by kernel_rfl) Try.func5
    (ChangeSpec.witness6 (enc := enc) (C := Try.checked) false ⟨#[], #[.slice none 0 0, .slice none 0 0, .slice none 0 0], []⟩ 8 (by kernel_rfl) (by kernel_rfl) (by kernel_rfl) (by kernel_rfl)) ?_
  intro W base args ds gs before hval0 hW hcnd hsz0 _
  have hval : ∀ (j : Nat) t v, Try.f5.params[j]? = some t → args[j]? = some v → Value.okWide Try.prog W .any base t v := hval0
  have hW' := hW
  obtain ⟨p, q, hA0, hV, rfl, hfz, hnd⟩ := hW
  have hA : DataW.TrodAll enc Try.prog W 0 (fun _ => true) true Try.f5.params.toList args.toList ds p := hA0
  rw [Try.params5] at hA hval
  obtain ⟨v0, vs0, d0, ds0, p0, q0, hargs, rfl, rfl, h0, r0⟩ := trodAll_cons hA
  obtain ⟨v1, vs1, d1, ds1, p1, q1, rfl, rfl, rfl, h1, r1⟩ := trodAll_cons r0
  obtain ⟨v2, vs2, d2, ds2, p2, q2, rfl, rfl, rfl, h2, r2⟩ := trodAll_cons r1
  obtain ⟨rfl, rfl, rfl⟩ := trodAll_nil r2
  obtain rfl : args = #[v0, v1, v2] := by cases args; simp_all
  obtain ⟨rfl, rfl⟩ := trodVars_none hV
  have hsz := hsz0
  rw [Try.params5] at hsz
  have k0 := h0
  have k1 := h1
  have k2 := h2
  obtain ⟨q0, n0, m0, rfl⟩ := okWide_slice Try.underlying22 (hval 0 22 v0 rfl rfl)
  obtain ⟨a_a2, c_a2, a2, e0, hq_a2, hm_a2, hv_a2, wf_a2⟩ := (Rd.of (j := 0) hsz h0 (by rfl) (by rfl)).rowsE (E := el_G_api_Instance) (Q := fun x => G_api_Instance_wf x) Try.underlying22 (by kernel_rfl) (by decide) (G_api_Instance_rd)
  simp only [Value.cells, List.cons.injEq, and_true, Value.slice.injEq] at e0
  obtain ⟨rfl, rfl, rfl⟩ := e0
  have hl_a2 : a2.length * 72 ≤ 140737488351232 := slice_reach (j := 0) hsz k0 Try.underlying22 (by kernel_rfl) (by rfl) (by rfl) hq_a2
  obtain ⟨q1, n1, m1, rfl⟩ := okWide_slice Try.underlying22 (hval 1 22 v1 rfl rfl)
  obtain ⟨a_b, c_b, b, e1, hq_b, hm_b, hv_b, wf_b⟩ := (Rd.of (j := 1) hsz h1 (by rfl) (by rfl)).rowsE (E := el_G_api_Instance) (Q := fun x => G_api_Instance_wf x) Try.underlying22 (by kernel_rfl) (by decide) (G_api_Instance_rd)
  simp only [Value.cells, List.cons.injEq, and_true, Value.slice.injEq] at e1
  obtain ⟨rfl, rfl, rfl⟩ := e1
  have hl_b : b.length * 72 ≤ 140737488351232 := slice_reach (j := 1) hsz k1 Try.underlying22 (by kernel_rfl) (by rfl) (by rfl) hq_b
  obtain ⟨q2, n2, m2, rfl⟩ := okWide_slice Try.underlying22 (hval 2 22 v2 rfl rfl)
  obtain ⟨a_c4, c_c4, c4, e2, hq_c4, hm_c4, hv_c4, wf_c4⟩ := (Rd.of (j := 2) hsz h2 (by rfl) (by rfl)).rowsE (E := el_G_api_Instance) (Q := fun x => G_api_Instance_wf x) Try.underlying22 (by kernel_rfl) (by decide) (G_api_Instance_rd)
  simp only [Value.cells, List.cons.injEq, and_true, Value.slice.injEq] at e2
  obtain ⟨rfl, rfl, rfl⟩ := e2
  have hl_c4 : c4.length * 72 ≤ 140737488351232 := slice_reach (j := 2) hsz k2 Try.underlying22 (by kernel_rfl) (by rfl) (by rfl) hq_c4
  clear hA0 hval0 hsz0 hsz
  refine (M_signpostlaw12_RosterMerges_vvv_w (W := Base.old W) hv_a2 hq_a2 hv_b hq_b hv_c4 hq_c4 (Sat.begin W) (r1 := true) (pure_RosterMerges a2 b c4 hl_a2 wf_a2 hl_b wf_b hl_c4 wf_c4)).mono fun e W' hh => ?_
  obtain ⟨v, he, hv', hS⟩ := Ret.open hh
  subst he; subst hv'
  have bel := hS.old_below
  exact ⟨_, rfl, _, _, _, [], _, [], hW', trodAll_mk1 (shut_bool Try.underlying4 _), (trodAll_cons_mk (trod_old laidOut (by kernel_rfl) (of_decide_eq_true (by kernel_rfl)) k0 bel) (trodAll_cons_mk (trod_old laidOut (by kernel_rfl) (of_decide_eq_true (by kernel_rfl)) k1 bel) (trodAll_cons_mk (trod_old laidOut (by kernel_rfl) (of_decide_eq_true (by kernel_rfl)) k2 bel) trodAll_mk0))), rfl, bel.frame _, fun h => by cases h⟩
theorem over : Rows.rosterMergesRow.holds Try.pinned (OpenSpec.ofChange Rows.rosterMergesSpec) :=
  OpenClaim.holds_of_wide 5 Try.f5 rfl rfl rfl rfl rfl rfl rfl ⟨rfl, rfl, rfl, rfl, rfl⟩ rfl rfl rfl rfl rfl (by kernel_rfl) Try.func5 (by kernel_rfl)
    (of_decide_eq_true (by kernel_rfl)) (by unfold Func.isWrapper; first | (rw [if_pos (by decide +kernel)]; kernel_rfl) | (rw [if_neg (by decide +kernel)]; exact ⟨rfl, rfl⟩))
    (fun os started H enc _ => lifted os started H enc)
theorem proved : Rows.RosterMergesSaid := over
#print axioms proved
end Go.Proofs.Ytmjcemhojhbijaa.rosterMerges
