/-
  Regions that draw their order: what yields the same in every world of a class may be taken first; what does something comes when it must. No condition.
-/
import Derived.Test.YtaaahjcldomnbaaSlMore
namespace Go.Proofs.Ytaaahjcldomnbaa
open Go Go.RowKit
set_option linter.unusedVariables false
set_option linter.unusedSimpArgs false
/-- No panic comes out. -/
def NP (Q : Post) : Prop := ∀ c a w, ¬ Q (.panic c) a w
section
variable {N : Nat} {P : Program} {L : Slots} {Q : Post} {W w : World} {ops : Array Oper} {rest : List Oper} {o : Oper} {d : Nat} {R : List Res}
theorem NP.body {fn : Func} {Φ : Value → World → Prop} : NP (bodyPost P fn (Ret Φ)) := fun _ _ _ h => h.2
theorem NP.next {n : Act → World → Prop} (h : NP Q) : NP (Exit.then n Q) := fun c a w => h c a w
theorem NP.block {id : Nat} (h : NP Q) : NP (Exit.inBlock id Q) := fun c a w => h c a w
/-- A region that draws: whatever comes up. -/
def GH (N : Nat) (P : Program) (ops : Array Oper) (S : World → Prop) (fuel : Nat) (listed : Array Bool) (L : Slots) (Q : Post) (w : World) : Prop :=
  ∀ a, Agr N L a → wpAnyH P .any ops Q S fuel listed a w
theorem C.draw {id n : Nat} {S : World → Prop} {l0 : Array Bool} (hm : P.follows .mixedOrders = true) (hs : Sat W w R) (hn : ops.size = n) (hl : Array.replicate n false = l0) (h : ∀ w', Sat W w' R → GH N P ops S n l0 L Q w') :
    C N P (.region id ops true) L Q w := fun a ha => by
  refine wp_region_held (S := S) hm ?_
  rw [hn, hl]
  exact h w.drew hs.drew a ha
theorem GH.yl {S : World → Prop} {fuel i : Nat} {listed listed' : Array Bool} {v : Value} (hi : ops[i]? = some o) (hs : Region.noSelect ops = true) (hf : Region.free .any ops listed i = true)
    (hr : (Region.ready .any ops listed).contains i = true) (hl : listed.setIfInBounds i true = listed') (hQ : NP Q) (hg : o.guard = none) (hd : o.dst = some d) (hN : Nat.blt d N = true)
    (hy : ∀ w', S w' → Yl N P w' o L v) (hS : S w) (k : GH N P ops S fuel listed' ((d, v) :: L) Q w) : GH N P ops S (fuel + 1) listed L Q w := fun a ha => by
  refine wpAnyH_take hi hs hf hr (fun c a w h => absurd h (hQ c _ w)) (.inl ⟨by simp [Region.wanted, hg], fun w' hw' => hy w' hw' a ha⟩) hS ?_
  rw [hl, hd]
  exact k _ (ha.put hN v)
theorem GH.on {S : World → Prop} {fuel i j dj : Nat} {listed listed' : Array Bool} {v : Value} {want b : Bool} {dst : Option Tmp} {op : Op} {ty : TypeId} {pos : String} {af : Array Edge}
    (hi : ops[i]? = some ⟨dst, op, ty, pos, af, some (j, want)⟩) (hs : Region.noSelect ops = true) (hf : Region.free .any ops listed i = true)
    (hr : (Region.ready .any ops listed).contains i = true) (hl : listed.setIfInBounds i true = listed') (hQ : NP Q) (hd : dst = some d) (hN : Nat.blt d N = true)
    (hj : (ops[j]?).bind (·.dst) = some dj) (hlk : look L dj = some (.bool b)) (hb : b = want)
    (hy : ∀ w', S w' → Yl N P w' ⟨dst, op, ty, pos, af, some (j, want)⟩ L v) (hS : S w) (k : GH N P ops S fuel listed' ((d, v) :: L) Q w) : GH N P ops S (fuel + 1) listed L Q w := fun a ha => by
  refine wpAnyH_take hi hs hf hr (fun c a w h => absurd h (hQ c _ w)) (.inl ⟨by simp [Region.wanted, yielded_of ha hj hlk, hb], fun w' hw' => hy w' hw' a ha⟩) hS ?_
  subst hd
  rw [hl]
  exact k _ (ha.put hN v)
theorem GH.off {S : World → Prop} {fuel i j dj : Nat} {listed listed' : Array Bool} {want b : Bool} {dst : Option Tmp} {op : Op} {ty : TypeId} {pos : String} {af : Array Edge}
    (hi : ops[i]? = some ⟨dst, op, ty, pos, af, some (j, want)⟩) (hs : Region.noSelect ops = true) (hf : Region.free .any ops listed i = true)
    (hr : (Region.ready .any ops listed).contains i = true) (hl : listed.setIfInBounds i true = listed') (hQ : NP Q) (hd : dst = some d) (hN : Nat.blt d N = true)
    (hj : (ops[j]?).bind (·.dst) = some dj) (hlk : look L dj = some (.bool b)) (hb : b = !want)
    (hS : S w) (k : GH N P ops S fuel listed' ((d, undef) :: L) Q w) : GH N P ops S (fuel + 1) listed L Q w := fun a ha => by
  refine wpAnyH_take hi hs hf hr (fun c a w h => absurd h (hQ c _ w)) (.inr ⟨by simp [Region.wanted, yielded_of ha hj hlk, hb], rfl⟩) hS ?_
  subst hd
  rw [hl]
  exact k _ (ha.put hN undef)
/-- Just this one may come up. -/
theorem GH.does {S : World → Prop} {fuel i : Nat} {listed listed' : Array Bool} {Φ : Value → World → Prop} (hi : ops[i]? = some o) (hr : Region.ready .any ops listed = [i]) (hl : listed.setIfInBounds i true = listed')
    (hg : o.guard = none) (hd : o.dst = some d) (hN : Nat.blt d N = true) (h : Does N P w o L Φ) (k : ∀ v w', Φ v w' → S w' ∧ GH N P ops S fuel listed' ((d, v) :: L) Q w') : GH N P ops S (fuel + 1) listed L Q w := fun a ha => by
  refine wpAnyH_all hr (by simp) ?_
  intro i' hi'
  simp only [List.mem_singleton] at hi'
  subst hi'
  rw [hl]
  unfold wpOp
  simp only [hi]
  rw [if_pos (by simp [Region.wanted, hg])]
  refine .inl (h a ha _ Q (fun v w' e => ?_))
  obtain ⟨h1, h2⟩ := k v w' e
  rw [hd]
  exact ⟨h1, h2 _ (ha.put hN v)⟩
theorem GH.unit {S : World → Prop} {fuel i : Nat} {listed listed' : Array Bool} {Φ : Value → World → Prop} (hi : ops[i]? = some o) (hr : Region.ready .any ops listed = [i]) (hl : listed.setIfInBounds i true = listed')
    (hg : o.guard = none) (hd : o.dst = none) (h : Does N P w o L Φ) (k : ∀ v w', Φ v w' → S w' ∧ GH N P ops S fuel listed' L Q w') : GH N P ops S (fuel + 1) listed L Q w := fun a ha => by
  refine wpAnyH_all hr (by simp) ?_
  intro i' hi'
  simp only [List.mem_singleton] at hi'
  subst hi'
  rw [hl]
  unfold wpOp
  simp only [hi]
  rw [if_pos (by simp [Region.wanted, hg])]
  refine .inl (h a ha _ Q (fun v w' e => ?_))
  obtain ⟨h1, h2⟩ := k v w' e
  rw [hd]
  exact ⟨h1, h2 _ ha⟩
/-- Either of two may come up. -/
theorem GH.two {S : World → Prop} {fuel i j : Nat} {listed : Array Bool} (hr : Region.ready .any ops listed = [i, j])
    (h1 : ∀ a, Agr N L a → wpOp P ops Q i (fun a' w' => S w' ∧ wpAnyH P .any ops Q S fuel (listed.setIfInBounds i true) a' w') a w)
    (h2 : ∀ a, Agr N L a → wpOp P ops Q j (fun a' w' => S w' ∧ wpAnyH P .any ops Q S fuel (listed.setIfInBounds j true) a' w') a w) : GH N P ops S (fuel + 1) listed L Q w := fun a ha => by
  refine wpAnyH_all hr (by simp) ?_
  intro i' hi'
  simp only [List.mem_cons, List.not_mem_nil, or_false] at hi'
  rcases hi' with rfl | rfl
  · exact h1 a ha
  · exact h2 a ha
theorem wpOp_does {S : World → Prop} {fuel i : Nat} {listed listed' : Array Bool} {Φ : Value → World → Prop} (hi : ops[i]? = some o) (hl : listed.setIfInBounds i true = listed')
    (hg : o.guard = none) (hd : o.dst = some d) (hN : Nat.blt d N = true) (h : Does N P w o L Φ) (k : ∀ v w', Φ v w' → S w' ∧ GH N P ops S fuel listed' ((d, v) :: L) Q w') :
    ∀ a, Agr N L a → wpOp P ops Q i (fun a' w' => S w' ∧ wpAnyH P .any ops Q S fuel (listed.setIfInBounds i true) a' w') a w := fun a ha => by
  rw [hl]
  unfold wpOp
  simp only [hi]
  rw [if_pos (by simp [Region.wanted, hg])]
  refine .inl (h a ha _ Q (fun v w' e => ?_))
  obtain ⟨h1, h2⟩ := k v w' e
  rw [hd]
  exact ⟨h1, h2 _ (ha.put hN v)⟩
theorem GH.done {S : World → Prop} {fuel : Nat} {listed : Array Bool} (hr : Region.ready .any ops listed = []) (h : QA N .normal L Q w) : GH N P ops S fuel listed L Q w := fun a ha =>
  wpAnyH_done hr (h a ha) fuel
end
end Go.Proofs.Ytaaahjcldomnbaa
