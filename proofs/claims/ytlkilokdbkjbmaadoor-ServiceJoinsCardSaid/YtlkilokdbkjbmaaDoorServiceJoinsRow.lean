/-
  The statement signpost/signpostlaw10.ServiceJoins: whatever it is handed, it returns true and leaves what it was handed as it was. No condition.
-/
import Derived.Test.YtlkilokdbkjbmaaDoorRows
import Derived.Test.YtlkilokdbkjbmaaDoorTie
import Derived.Test.YtlkilokdbkjbmaaDoorCards
import Derived.SevenTiedAt
import Derived.LaidLaws
import Derived.LaidHandle
import Derived.Test.YtlkilokdbkjbmaaDoorServiceJoinsPure
import Derived.Test.YtlkilokdbkjbmaaDoorServiceJoinsRd
import Derived.Test.YtlkilokdbkjbmaaDoorServiceJoinsW1
namespace Go.Proofs.YtlkilokdbkjbmaaDoor.serviceJoins
open Go Go.ChangeShapes Go.WideShapes Go.ChangeAt Go.RowKit
set_option linter.unusedVariables false
set_option linter.unusedSimpArgs false
theorem own : ownKnob Tryd.prog.godebug = none := by kernel_rfl
theorem laidOut : laidOutB Tryd.prog = true := by kernel_rfl
/-- A listed table's cells. -/
noncomputable def cellOf {H : Type} : DataW H → Value
  | .lit (.int k n) => .int k n
  | _ => .nilFunc
noncomputable def cellsOf {H : Type} : DataW H → List Value
  | .agg ps => ps.flatMap fun d => match d with
    | .agg qs => qs.map cellOf
    | d => [cellOf d]
  | d => [cellOf d]
noncomputable def lay (cs : List Value) : Obj → Obj
  | .cells _ t frozen => .cells cs.toArray t frozen
  | o => o
noncomputable def place (n : String) : Nat := (Tryd.prog.globalNamed n).getD 0
/-- A world that meets the condition: the settled one, the tables laid. -/
noncomputable def laidWorld (os : Os) : World :=
  let w0 := World.holding Tryd.prog os ⟨#[], #[], []⟩
  { w0 with heap := (w0.heap.modify (place "unicode/utf8.acceptRanges") (lay (cellsOf Rows.laid_unicode_utf8_acceptRanges (H := Unit)))).modify (place "unicode/utf8.first") (lay (cellsOf Rows.laid_unicode_utf8_first)) }
set_option maxRecDepth 100000 in
theorem laidWorld_met (os : Os) (args : Array Value) : laidMet Tryd.prog Rows.serviceJoinsRow.laid ((laidWorld os).forCall (fun _ _ => 0) ⟨#[], args, []⟩).memory :=
  laidMet_of_run' 8 (by kernel_rfl) (by kernel_rfl)
set_option maxRecDepth 100000 in
theorem lifted (os : Os) (started : os.Started) (H : Type) (enc : TypeId × Value → H) :
    ReturnsInHanded {} Tryd.checked os 3 .any (fun w args => (Rows.serviceJoinsSpec.pre enc Tryd.prog Tryd.f3 [] false w args ∧ laidMetH Tryd.prog Rows.serviceJoinsRow.laid w) ∧ sizedMet enc Tryd.prog Tryd.f3 (OpenSpec.ofChange Rows.serviceJoinsSpec) false w args)
      (Rows.serviceJoinsSpec.post enc Tryd.prog Tryd.f3 false true false false) := by
  refine returnsInHanded_of_change_and (C := Tryd.checked) (X := fun w _ => laidMetH Tryd.prog Rows.serviceJoinsRow.laid w) (fun _ _ _ hh h => h.of_heap hh) own started (by kernel_rfl) Tryd.func3
    (ChangeSpec.witness_at (enc := enc) (C := Tryd.checked) (os := os) (X := fun w _ => laidMetH Tryd.prog Rows.serviceJoinsRow.laid w) false (laidWorld os) #[.string ByteArray.empty, .string ByteArray.empty, .string ByteArray.empty, .string ByteArray.empty] 8 rfl (by kernel_rfl) (by kernel_rfl) (by kernel_rfl) (by kernel_rfl) (by kernel_rfl) (laidWorld_met os _)) ?_
  intro W base args ds gs before hval0 hW hcnd hsz0 _ _
  have hval : ∀ (j : Nat) t v, Tryd.f3.params[j]? = some t → args[j]? = some v → Value.okWide Tryd.prog W .any base t v := hval0
  have hW' := hW
  obtain ⟨p, q, hA0, hV, rfl, hfz, hnd⟩ := hW
  have hA : DataW.TrodAll enc Tryd.prog W 0 (fun _ => true) true Tryd.f3.params.toList args.toList ds p := hA0
  rw [Tryd.params3] at hA hval
  obtain ⟨v0, vs0, d0, ds0, p0, q0, hargs, rfl, rfl, h0, r0⟩ := trodAll_cons hA
  obtain ⟨v1, vs1, d1, ds1, p1, q1, rfl, rfl, rfl, h1, r1⟩ := trodAll_cons r0
  obtain ⟨v2, vs2, d2, ds2, p2, q2, rfl, rfl, rfl, h2, r2⟩ := trodAll_cons r1
  obtain ⟨v3, vs3, d3, ds3, p3, q3, rfl, rfl, rfl, h3, r3⟩ := trodAll_cons r2
  obtain ⟨rfl, rfl, rfl⟩ := trodAll_nil r3
  obtain rfl : args = #[v0, v1, v2, v3] := by cases args; simp_all
  obtain ⟨rfl, rfl⟩ := trodVars_none hV
  have hsz := hsz0
  rw [Tryd.params3] at hsz
  have k0 := h0
  have k1 := h1
  have k2 := h2
  have k3 := h3
  obtain ⟨m0, rfl⟩ := okWide_string Tryd.underlying9 (hval 0 9 v0 rfl rfl)
  obtain ⟨a, e0, _⟩ := (Rd.of (j := 0) hsz h0 (by rfl) (by rfl)).str Tryd.underlying9
  obtain rfl : m0 = str a := by simpa [Value.cells] using e0
  have wf_a : a.length ≤ 140737488351232 := by have := string_reach (j := 0) hsz k0 Tryd.underlying9 (by rfl) (by rfl); rwa [str_size] at this
  obtain ⟨m1, rfl⟩ := okWide_string Tryd.underlying9 (hval 1 9 v1 rfl rfl)
  obtain ⟨b, e1, _⟩ := (Rd.of (j := 1) hsz h1 (by rfl) (by rfl)).str Tryd.underlying9
  obtain rfl : m1 = str b := by simpa [Value.cells] using e1
  have wf_b : b.length ≤ 140737488351232 := by have := string_reach (j := 1) hsz k1 Tryd.underlying9 (by rfl) (by rfl); rwa [str_size] at this
  obtain ⟨m2, rfl⟩ := okWide_string Tryd.underlying9 (hval 2 9 v2 rfl rfl)
  obtain ⟨c, e2, _⟩ := (Rd.of (j := 2) hsz h2 (by rfl) (by rfl)).str Tryd.underlying9
  obtain rfl : m2 = str c := by simpa [Value.cells] using e2
  have wf_c : c.length ≤ 140737488351232 := by have := string_reach (j := 2) hsz k2 Tryd.underlying9 (by rfl) (by rfl); rwa [str_size] at this
  obtain ⟨m3, rfl⟩ := okWide_string Tryd.underlying9 (hval 3 9 v3 rfl rfl)
  obtain ⟨s, e3, _⟩ := (Rd.of (j := 3) hsz h3 (by rfl) (by rfl)).str Tryd.underlying9
  obtain rfl : m3 = str s := by simpa [Value.cells] using e3
  have wf_s : s.length ≤ 140737488351232 := by have := string_reach (j := 3) hsz k3 Tryd.underlying9 (by rfl) (by rfl); rwa [str_size] at this
  clear hA0 hval0 hsz0 hsz
  refine (M_signpostlaw10_ServiceJoins_w (W := Base.old W)  (Sat.begin W) (r1 := true) (pure_ServiceJoins a b c s wf_a wf_b wf_c wf_s)).mono fun e W' hh => ?_
  obtain ⟨v, he, hv', hS⟩ := Ret.open hh
  subst he; subst hv'
  have bel := hS.old_below
  exact ⟨_, rfl, _, _, _, [], _, [], hW', trodAll_mk1 (shut_bool Tryd.underlying4 _), (trodAll_cons_mk (trod_old laidOut (by kernel_rfl) (of_decide_eq_true (by kernel_rfl)) k0 bel) (trodAll_cons_mk (trod_old laidOut (by kernel_rfl) (of_decide_eq_true (by kernel_rfl)) k1 bel) (trodAll_cons_mk (trod_old laidOut (by kernel_rfl) (of_decide_eq_true (by kernel_rfl)) k2 bel) (trodAll_cons_mk (trod_old laidOut (by kernel_rfl) (of_decide_eq_true (by kernel_rfl)) k3 bel) trodAll_mk0)))), rfl, bel.frame _, fun h => by cases h⟩
theorem over : Rows.serviceJoinsRow.holds Tryd.pinned (OpenSpec.ofChange Rows.serviceJoinsSpec) :=
  OpenClaim.holds_of_wide 3 Tryd.f3 rfl rfl rfl rfl rfl rfl rfl ⟨rfl, rfl, rfl, rfl, rfl⟩ rfl rfl rfl rfl rfl (by kernel_rfl) Tryd.func3 (by kernel_rfl)
    (of_decide_eq_true (by kernel_rfl)) (by unfold Func.isWrapper; first | (rw [if_pos (by decide +kernel)]; kernel_rfl) | (rw [if_neg (by decide +kernel)]; exact ⟨rfl, rfl⟩))
    (fun os started H enc _ => lifted os started H enc)
theorem proved : Rows.ServiceJoinsCardSaid :=
  Claim7.holds_tied_plain_at .later [] [.data, .pinned] true (true, "e0289b0ca95a237af30f123d1c43572e15e7f8dfd45debc5e45ceb4d57b6c35d") false
    over (fun _ h => by cases h) (by kernel_rfl) (fun _ h => by cases h) serviceJoins_row_tie rfl ⟨rfl, rfl⟩ (by kernel_rfl) rfl
    (fun f fn hf hfn => by
      obtain rfl : f = 3 := Option.some.inj ((show Tryd.prog.funcNamed Rows.serviceJoinsRow.func = some 3 by kernel_rfl).symm.trans hf) |>.symm
      obtain rfl : fn = Tryd.f3 := (Option.some.inj (Tryd.func3.symm.trans hfn)).symm
      exact ⟨by kernel_rfl, fun j t ht => by
        rw [Tryd.params3] at ht
        have h3 : t = 9 := by
          rcases j with _ | _ | _ | _ | j <;> simp at ht <;> exact ht.symm
        subst h3
        exact (show Tryd.prog.wantsStandIn 9 = false by kernel_rfl)⟩)
    (by kernel_rfl)
#print axioms proved
end Go.Proofs.YtlkilokdbkjbmaaDoor.serviceJoins
