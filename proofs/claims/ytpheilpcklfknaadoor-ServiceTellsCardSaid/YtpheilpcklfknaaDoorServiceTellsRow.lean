/-
  The statement signpost/signpostlaw10.ServiceTells: whatever it is handed, it returns true and leaves what it was handed as it was. No condition.
-/
import Derived.Test.YtpheilpcklfknaaDoorRows
import Derived.Test.YtpheilpcklfknaaDoorTie
import Derived.Test.YtpheilpcklfknaaDoorCards
import Derived.SevenTiedAt
import Derived.LaidLaws
import Derived.LaidHandle
import Derived.Test.YtpheilpcklfknaaDoorServiceTellsPure
import Derived.Test.YtpheilpcklfknaaDoorServiceTellsRd
import Derived.Test.YtpheilpcklfknaaDoorServiceTellsW3
namespace Go.Proofs.YtpheilpcklfknaaDoor.serviceTells
open Go Go.ChangeShapes Go.WideShapes Go.ChangeAt Go.RowKit
set_option linter.unusedVariables false
set_option linter.unusedSimpArgs false
theorem own : ownKnob Tryd.prog.godebug = none := by kernel_rfl
theorem laidOut : laidOutB Tryd.prog = true := by kernel_rfl
/-- A listed table's cells. -/
noncomputable def cellOf {H : Type} : DataW H → Value
  | .lit (.int k n) => .int k n
  | _ => .nilFunc
noncomputable def cellsOf {H : Type} : DataW H → List Value
  | .agg ps => ps.flatMap fun d => match d with
    | .agg qs => qs.map cellOf
    | d => [cellOf d]
  | d => [cellOf d]
noncomputable def lay (cs : List Value) : Obj → Obj
  | .cells _ t frozen => .cells cs.toArray t frozen
  | o => o
noncomputable def place (n : String) : Nat := (Tryd.prog.globalNamed n).getD 0
/-- A world that meets the condition: the settled one, the tables laid. -/
noncomputable def laidWorld (os : Os) : World :=
  let w0 := World.holding Tryd.prog os ⟨#[], #[], []⟩
  { w0 with heap := (w0.heap.modify (place "unicode/utf8.acceptRanges") (lay (cellsOf Rows.laid_unicode_utf8_acceptRanges (H := Unit)))).modify (place "unicode/utf8.first") (lay (cellsOf Rows.laid_unicode_utf8_first)) }
set_option maxRecDepth 100000 in
theorem laidWorld_met (os : Os) (args : Array Value) : laidMet Tryd.prog Rows.serviceTellsRow.laid ((laidWorld os).forCall (fun _ _ => 0) ⟨#[], args, []⟩).memory :=
  laidMet_of_run' 8 (by kernel_rfl) (by kernel_rfl)
set_option maxRecDepth 100000 in
theorem lifted (os : Os) (started : os.Started) (H : Type) (enc : TypeId × Value → H) :
    ReturnsInHanded {} Tryd.checked os 4 .any (fun w args => (Rows.serviceTellsSpec.pre enc Tryd.prog Tryd.f4 [] false w args ∧ laidMetH Tryd.prog Rows.serviceTellsRow.laid w) ∧ sizedMet enc Tryd.prog Tryd.f4 (OpenSpec.ofChange Rows.serviceTellsSpec) false w args)
      (Rows.serviceTellsSpec.post enc Tryd.prog Tryd.f4 false true false false) := by
  refine returnsInHanded_of_change_and (C := Tryd.checked) (X := fun w _ => laidMetH Tryd.prog Rows.serviceTellsRow.laid w) (fun _ _ _ hh h => h.of_heap hh) own started (by kernel_rfl) Tryd.func4
    (ChangeSpec.witness_at (enc := enc) (C := Tryd.checked) (os := os) (X := fun w _ => laidMetH Tryd.prog Rows.serviceTellsRow.laid w) false (laidWorld os) #[.string ByteArray.empty] 8 rfl (by kernel_rfl) (by kernel_rfl) (by kernel_rfl) (by kernel_rfl) (by kernel_rfl) (laidWorld_met os _)) ?_
  intro W base args ds gs before hval0 hW hcnd hsz0 _ _
  have hval : ∀ (j : Nat) t v, Tryd.f4.params[j]? = some t → args[j]? = some v → Value.okWide Tryd.prog W .any base t v := hval0
  have hW' := hW
  obtain ⟨p, q, hA0, hV, rfl, hfz, hnd⟩ := hW
  have hA : DataW.TrodAll enc Tryd.prog W 0 (fun _ => true) true Tryd.f4.params.toList args.toList ds p := hA0
  rw [Tryd.params4] at hA hval
  obtain ⟨v0, vs0, d0, ds0, p0, q0, hargs, rfl, rfl, h0, r0⟩ := trodAll_cons hA
  obtain ⟨rfl, rfl, rfl⟩ := trodAll_nil r0
  obtain rfl : args = #[v0] := by cases args; simp_all
  obtain ⟨rfl, rfl⟩ := trodVars_none hV
  have hsz := hsz0
  rw [Tryd.params4] at hsz
  have k0 := h0
  obtain ⟨m0, rfl⟩ := okWide_string Tryd.underlying9 (hval 0 9 v0 rfl rfl)
  obtain ⟨s, e0, _⟩ := (Rd.of (j := 0) hsz h0 (by rfl) (by rfl)).str Tryd.underlying9
  obtain rfl : m0 = str s := by simpa [Value.cells] using e0
  have wf_s : s.length ≤ 140737488351232 := by have := string_reach (j := 0) hsz k0 Tryd.underlying9 (by rfl) (by rfl); rwa [str_size] at this
  clear hA0 hval0 hsz0 hsz
  refine (M_signpostlaw10_ServiceTells_w (W := Base.old W)  (Sat.begin W) (r1 := true) (pure_ServiceTells s wf_s)).mono fun e W' hh => ?_
  obtain ⟨v, he, hv', hS⟩ := Ret.open hh
  subst he; subst hv'
  have bel := hS.old_below
  exact ⟨_, rfl, _, _, _, [], _, [], hW', trodAll_mk1 (shut_bool Tryd.underlying4 _), (trodAll_cons_mk (trod_old laidOut (by kernel_rfl) (of_decide_eq_true (by kernel_rfl)) k0 bel) trodAll_mk0), rfl, bel.frame _, fun h => by cases h⟩
theorem over : Rows.serviceTellsRow.holds Tryd.pinned (OpenSpec.ofChange Rows.serviceTellsSpec) :=
  OpenClaim.holds_of_wide 4 Tryd.f4 rfl rfl rfl rfl rfl rfl rfl ⟨rfl, rfl, rfl, rfl, rfl⟩ rfl rfl rfl rfl rfl (by kernel_rfl) Tryd.func4 (by kernel_rfl)
    (of_decide_eq_true (by kernel_rfl)) (by unfold Func.isWrapper; first | (rw [if_pos (by decide +kernel)]; kernel_rfl) | (rw [if_neg (by decide +kernel)]; exact ⟨rfl, rfl⟩))
    (fun os started H enc _ => lifted os started H enc)
theorem proved : Rows.ServiceTellsCardSaid :=
  Claim7.holds_tied_plain_at .later [] [.data, .pinned] true (true, "bd1078a53ade0bf4161af77fb7dc4c2c058e85d5d7b1c13844812ebcb026b539") false
    over (fun _ h => by cases h) (by kernel_rfl) (fun _ h => by cases h) serviceTells_row_tie rfl ⟨rfl, rfl⟩ (by kernel_rfl) rfl
    (fun f fn hf hfn => by
      obtain rfl : f = 4 := Option.some.inj ((show Tryd.prog.funcNamed Rows.serviceTellsRow.func = some 4 by kernel_rfl).symm.trans hf) |>.symm
      obtain rfl : fn = Tryd.f4 := (Option.some.inj (Tryd.func4.symm.trans hfn)).symm
      exact ⟨by kernel_rfl, fun j t ht => by
        rw [Tryd.params4] at ht
        have h3 : t = 9 := by
          rcases j with _ | _ | _ | _ | j <;> simp at ht <;> exact ht.symm
        subst h3
        exact (show Tryd.prog.wantsStandIn 9 = false by kernel_rfl)⟩)
    (by kernel_rfl)
#print axioms proved
end Go.Proofs.YtpheilpcklfknaaDoor.serviceTells
