/-
  Regions that draw their order: what yields the same in every world of a class may be taken first; what does something comes when it must. The class is asked for only as long as somebody still has to read. No condition.
-/
import Derived.Test.YtpheilpcklfknaaDoorBMore
namespace Go.Proofs.YtpheilpcklfknaaDoor
open Go Go.RowKit
/-- Short words. -/
abbrev yy : Bool := true
abbrev nn : Bool := false
set_option linter.unusedVariables false
set_option linter.unusedSimpArgs false
/-- No panic comes out. -/
def NP (Q : Post) : Prop := ∀ c a w, ¬ Q (.panic c) a w
section
variable {P : Program} {ops : Array Oper} {Q : Exit → Act → World → Prop} {V : World → Prop} {nd sp : List Nat}
/-- The class: nobody has spoilt it ahead of a reader; and as long as it is not spoilt, it can be read. -/
def Cls (V : World → Prop) (nd sp : List Nat) (l : Array Bool) (w : World) : Prop :=
  (∀ j ∈ sp, l.getD j true = true → ∀ i ∈ nd, l.getD i true = true) ∧ ((∀ j ∈ sp, l.getD j true = false) → V w)
/-- Whichever order comes up: behind each operation the class holds. -/
def Any (P : Program) (ops : Array Oper) (Q : Exit → Act → World → Prop) (V : World → Prop) (nd sp : List Nat) : Nat → Array Bool → Act → World → Prop
  | 0, listed, a, w => Region.ready .any ops listed = [] ∧ Q .normal a w
  | fuel + 1, listed, a, w =>
    (Region.ready .any ops listed = [] → Q .normal a w) ∧
    ∀ i ∈ Region.ready .any ops listed, wpOp P ops Q i (fun a' w' => Cls V nd sp (listed.setIfInBounds i true) w' ∧ Any P ops Q V nd sp fuel (listed.setIfInBounds i true) a' w') a w
theorem Any.bare : ∀ (fuel : Nat) (listed : Array Bool) (a : Act) (w : World), Any P ops Q V nd sp fuel listed a w → wpAny P .any ops Q fuel listed a w
  | 0, _, _, _, h => h
  | fuel + 1, _, _, _, h => ⟨h.1, fun i hi => wpOp_mono (fun a' w' h' => Any.bare fuel _ a' w' h'.2) (h.2 i hi)⟩
/-- The worlds in which the operation has not come up. -/
def Ahead (V : World → Prop) (nd sp : List Nat) (i : Nat) (w : World) : Prop := ∃ l, l.getD i true = false ∧ Cls V nd sp l w
theorem getD_set_self {l : Array Bool} {i : Nat} : (l.setIfInBounds i true).getD i true = true := by
  rcases Nat.lt_or_ge i l.size with h | h
  · simp [h]
  · simp [Array.getElem?_eq_none, h]
theorem getD_up {l : Array Bool} {i k : Nat} (h : l.getD k true = true) : (l.setIfInBounds i true).getD k true = true := by
  by_cases e : i = k
  · subst e; exact getD_set_self
  · rw [getD_set_ne true e]; exact h
theorem getD_down {l : Array Bool} {i k : Nat} (h : (l.setIfInBounds i true).getD k true = false) : l.getD k true = false := by
  cases hh : l.getD k true with
  | false => rfl
  | true => rw [getD_up hh] at h; cases h
/-- What comes behind what, also by others. -/
def waitsB (ops : Array Oper) : Nat → Nat → Nat → Bool
  | 0, _, _ => false
  | n + 1, j, i => match ops[j]? with
    | some oj => oj.after.any fun e => Region.binds .any e && (e.on == i || waitsB ops n e.on i)
    | none => false
def Closed (ops : Array Oper) (listed : Array Bool) : Prop := ∀ k ok, ops[k]? = some ok → listed.getD k true = true → ∀ e ∈ ok.after, Region.binds .any e = true → listed.getD e.on true = true
theorem waits_listed {listed : Array Bool} (hc : Closed ops listed) {i : Nat} : ∀ (n j : Nat) (oj : Oper), ops[j]? = some oj → (∀ e ∈ oj.after, Region.binds .any e = true → listed.getD e.on true = true) → waitsB ops n j i = true → listed.getD i true = true := by
  intro n
  induction n with
  | zero => intro j oj _ _ h; cases h
  | succ n ih =>
    intro j oj hj hall h
    unfold waitsB at h
    rw [hj] at h
    obtain ⟨k, hk, he⟩ := Array.any_eq_true.1 h
    simp only [Bool.and_eq_true, Bool.or_eq_true, beq_iff_eq] at he
    have hl := hall _ (Array.getElem_mem hk) he.1
    rcases he.2 with e | e
    · rw [← e]; exact hl
    · cases ho : ops[(oj.after[k]).on]? with
      | none =>
        unfold waitsB at e
        cases n with
        | zero => cases e
        | succ n => simp only [ho] at e; cases e
      | some o => exact ih _ o ho (hc _ o ho hl) e
theorem Closed.set {listed : Array Bool} (hc : Closed ops listed) {j : Nat} {oj : Oper} (hj : ops[j]? = some oj) (hall : ∀ e ∈ oj.after, Region.binds .any e = true → listed.getD e.on true = true) : Closed ops (listed.setIfInBounds j true) := by
  intro k ok hk hl e he hb
  refine getD_up ?_
  by_cases hjk : j = k
  · subst hjk
    rw [hj] at hk
    cases hk
    exact hall e he hb
  · rw [getD_set_ne true hjk] at hl
    exact hc k ok hk hl e he hb
theorem Any.first {i : Nat} {oi : Oper} {v : Value} (hi : ops[i]? = some oi) (hsel : ∀ (j : Nat) (o : Oper) cs b, ops[j]? = some o → o.op ≠ .select cs b) (hQ : ∀ c a w, Q (.panic c) (a.put oi.dst v) w → Q (.panic c) a w)
    (hisp : i ∉ sp) (hwait : ∀ j ∈ sp, i ∈ nd → waitsB ops 64 j i = true) :
    ∀ (fuel : Nat) (listed : Array Bool) (a : Act) (w : World), (sp ≠ [] → Closed ops listed) →
      (∀ j oj, ops[j]? = some oj → j ≠ i → listed.getD j true = false → (∀ e ∈ oj.after, Region.binds .any e = true → e.on ≠ i) → oi.apart ops oj = true) →
      i ∈ Region.ready .any ops listed → YieldsIf P ops (Ahead V nd sp i) oi v a → Cls V nd sp listed w →
      Any P ops Q V nd sp fuel (listed.setIfInBounds i true) (a.put oi.dst v) w → Any P ops Q V nd sp (fuel + 1) listed a w := by
  have up : ∀ l w, Cls V nd sp l w → Cls V nd sp (l.setIfInBounds i true) w := by
    intro l w h
    refine ⟨fun j hj hl k hk => ?_, fun hn => h.2 fun j hj => getD_down (hn j hj)⟩
    have hji : i ≠ j := fun e => hisp (e ▸ hj)
    rw [getD_set_ne true hji] at hl
    exact getD_up (h.1 j hj hl k hk)
  intro fuel
  induction fuel with
  | zero =>
    intro listed a w _ _ hr hy hS H
    refine ⟨fun h => (by rw [h] at hr; cases hr), fun j hj => ?_⟩
    have h0 := (mem_ready.1 hr).1
    by_cases e : j = i
    · subst e; exact hy.wpOp hi ⟨listed, h0, hS⟩ ⟨up _ _ hS, H⟩
    · have := ready_mono hj e
      rw [H.1] at this
      cases this
  | succ fuel ih =>
    intro listed a w hcl hfree hr hy hS H
    have h0 := (mem_ready.1 hr).1
    refine ⟨fun h => (by rw [h] at hr; cases hr), fun j hj => ?_⟩
    by_cases e : j = i
    · subst e; exact hy.wpOp hi ⟨listed, h0, hS⟩ ⟨up _ _ hS, H⟩
    · obtain ⟨hun, oj, hoj, hall⟩ := mem_ready.1 hj
      have hnot : ∀ e ∈ oj.after, Region.binds .any e = true → e.on ≠ i := by
        intro e' he hb heq
        have h1 := hall e' he hb
        rw [heq] at h1
        rcases Nat.lt_or_ge i listed.size with h' | h'
        · simp [h'] at h0 h1; rw [h0] at h1; cases h1
        · simp [Array.getElem?_eq_none h'] at h1
      have h2 := wpOp_putIf hoj (hfree j oj hoj e hun hnot) (fun cs b => hsel i oi cs b hi) (fun cs b => hsel j oj cs b hoj) hQ hy (H.2 j (ready_mono hj e))
      have hfree' : ∀ k ok, ops[k]? = some ok → k ≠ i → (listed.setIfInBounds j true).getD k true = false → (∀ e ∈ ok.after, Region.binds .any e = true → e.on ≠ i) → oi.apart ops ok = true := by
        intro k ok hk hki hun' hno
        refine hfree k ok hk hki ?_ hno
        by_cases hjk : j = k
        · subst hjk; exact hun
        · rwa [getD_set_ne true hjk] at hun'
      have hall' : ∀ e ∈ oj.after, Region.binds .any e = true → listed.getD e.on true = true := by
        intro e' he hb
        have h1 := hall e' he hb
        rcases Nat.lt_or_ge e'.on listed.size with h' | h'
        · simp [h'] at h1 ⊢; exact h1
        · simp [Array.getElem?_eq_none h']
      have hjn : j ∈ sp → i ∉ nd := fun hj' hin => by
        have hne : sp ≠ [] := fun e => by rw [e] at hj'; cases hj'
        have hdeps : ∀ e ∈ oj.after, Region.binds .any e = true → listed.getD e.on true = true := hall'
        have := waits_listed (hcl hne) 64 j oj hoj hdeps (hwait j hj' hin)
        rw [h0] at this; cases this
      refine wpOp_mono (fun a' w' h3 => ?_) h2
      obtain ⟨hy', hC, hA⟩ := h3
      have hC' : Cls V nd sp (listed.setIfInBounds j true) w' := by
        refine ⟨fun k hk hl m hm => ?_, fun hn => hC.2 fun k hk => ?_⟩
        · have hki : i ≠ k := fun e => hisp (e ▸ hk)
          by_cases hjk : j = k
          · subst hjk
            have hni := hjn hk
            have := hC.1 j hk getD_set_self m hm
            rw [Array.setIfInBounds_comm _ _ (Ne.symm e)] at this
            have hmi : i ≠ m := fun e => hni (e ▸ hm)
            rwa [getD_set_ne true hmi] at this
          · rw [getD_set_ne true hjk] at hl
            exact getD_up (hS.1 k hk hl m hm)
        · have hki : i ≠ k := fun e => hisp (e ▸ hk)
          rw [Array.setIfInBounds_comm _ _ (Ne.symm e), getD_set_ne true hki]
          exact hn k hk
      refine ⟨hC', ih (listed.setIfInBounds j true) a' w' (fun hne => (hcl hne).set hoj hall') hfree' (ready_mono hr (Ne.symm e)) hy' hC' ?_⟩
      rw [Array.setIfInBounds_comm _ _ e]
      exact hA
end
section
variable {mks : List Deferred} {N : Nat} {P : Program} {L : Slots} {Q : Post} {W : Base} {w : World} {ops : Array Oper} {rest : List Oper} {o : Oper} {d : Nat} {R : List Res}
theorem NP.body {fn : Func} {Φ : Value → World → Prop} : NP (bodyPost P fn (Ret Φ)) := fun _ _ _ h => h.2
theorem NP.next {n : Act → World → Prop} (h : NP Q) : NP (Exit.then n Q) := fun c a w => h c a w
theorem NP.block {id : Nat} (h : NP Q) : NP (Exit.inBlock id Q) := fun c a w => h c a w
/-- A region that draws: whatever comes up. -/
def GH (mks : List Deferred) (N : Nat) (P : Program) (ops : Array Oper) (V : World → Prop) (nd sp : List Nat) (fuel : Nat) (listed : Array Bool) (L : Slots) (Q : Post) (w : World) : Prop :=
  ∀ a, At mks N L a → Any P ops Q V nd sp fuel listed a w
theorem C.draw {id n : Nat} {V : World → Prop} {nd sp : List Nat} {l0 : Array Bool} (hm : P.follows .mixedOrders = true) (hs : Sat W w R) (hn : ops.size = n) (hl : Array.replicate n false = l0) (h : ∀ w', Sat W w' R → GH mks N P ops V nd sp n l0 L Q w') :
    C (rd := none) (mks := mks) N P (.region id ops true) L Q w := fun a ha => wpIn_wide.2 <| by
  have h2 := h w.drew hs.drew a ha
  rw [← hn, ← hl, ← hn] at h2
  exact wp_region_any hm (Any.bare _ _ _ _ h2)
/-- That all is as the laws of a region want it, as one answer. -/
def closedB (ops : Array Oper) (listed : Array Bool) : Bool := (List.range ops.size).all fun k => !listed.getD k true || match ops[k]? with | some ok => ok.after.all (fun e => !Region.binds .any e || listed.getD e.on true) | none => true
theorem closedB_spec {listed : Array Bool} (h : closedB ops listed = true) : Closed ops listed := by
  intro k ok hk hl e he hb
  have hlt : k < ops.size := (Array.getElem?_eq_some_iff.1 hk).1
  have h1 := List.all_eq_true.1 h k (List.mem_range.2 hlt)
  rw [hl, hk] at h1
  simp only [Bool.not_true, Bool.false_or] at h1
  obtain ⟨n, hn, rfl⟩ := Array.getElem_of_mem he
  have h2 := Array.all_eq_true.1 h1 n hn
  rw [hb] at h2
  simpa using h2
def ghOk (ops : Array Oper) (nd sp : List Nat) (listed : Array Bool) (i : Nat) : Bool :=
  Region.noSelect ops && Region.free .any ops listed i && (Region.ready .any ops listed).contains i && !sp.contains i &&
  (sp.all fun j => !nd.contains i || waitsB ops 64 j i) && (sp.isEmpty || closedB ops listed)
theorem ghOk_spec {nd sp : List Nat} {listed : Array Bool} {i : Nat} (h : ghOk ops nd sp listed i = true) :
    Region.noSelect ops = true ∧ Region.free .any ops listed i = true ∧ (Region.ready .any ops listed).contains i = true ∧ i ∉ sp ∧ (∀ j ∈ sp, i ∈ nd → waitsB ops 64 j i = true) ∧ (sp ≠ [] → Closed ops listed) := by
  simp only [ghOk, Bool.and_eq_true, Bool.not_eq_true', List.all_eq_true, Bool.or_eq_true] at h
  obtain ⟨⟨⟨⟨⟨h1, h2⟩, h3⟩, h4⟩, h5⟩, h6⟩ := h
  refine ⟨h1, h2, h3, fun hh => (by rw [List.contains_iff_mem.2 hh] at h4; cases h4), fun j hj hin => ?_, fun hne => ?_⟩
  · rcases h5 j hj with h | h
    · rw [List.contains_iff_mem.2 hin] at h; cases h
    · exact h
  · rcases h6 with h | h
    · exact absurd (List.isEmpty_iff.1 h) hne
    · exact closedB_spec h
variable {V : World → Prop} {nd sp : List Nat} {fuel i : Nat} {listed listed' : Array Bool} {v : Value}
theorem Ahead.view {w : World} (hin : nd.contains i = true) (h : Ahead V nd sp i w) : V w := by
  obtain ⟨l, hl, h1, h2⟩ := h
  refine h2 fun j hj => ?_
  cases hh : l.getD j true with
  | false => rfl
  | true => rw [h1 j hj hh i (List.contains_iff_mem.1 hin)] at hl; cases hl
/-- A yield that reads nothing. -/
theorem GH.yl (hi : ops[i]? = some o) (hk : ghOk ops nd sp listed i = true) (hl : listed.setIfInBounds i true = listed') (hQ : NP Q) (hg : o.guard = none) (hd : o.dst = some d) (hN : Nat.blt d N = true)
    (hy : ∀ w', Yl N P w' o L v) (hS : Cls V nd sp listed w) (k : Cls V nd sp listed' w → GH mks N P ops V nd sp fuel listed' ((d, v) :: L) Q w) : GH mks N P ops V nd sp (fuel + 1) listed L Q w := fun a ha => by
  obtain ⟨h1, h2, h3, h4, h5, h6⟩ := ghOk_spec hk
  have hS' : Cls V nd sp (listed.setIfInBounds i true) w := ⟨fun j hj hl m hm => by
      have hji : i ≠ j := fun e => h4 (e ▸ hj)
      rw [getD_set_ne true hji] at hl
      exact getD_up (hS.1 j hj hl m hm), fun hn => hS.2 fun j hj => getD_down (hn j hj)⟩
  refine Any.first hi (Region.noSelect_spec h1) (fun c a w h => absurd h (hQ c _ w)) h4 h5 fuel listed a w h6 (Region.free_spec hi h2) (by simpa using h3) (.inl ⟨by simp [Region.wanted, hg], fun w' _ => hy w' a ha.toAgr⟩) hS ?_
  rw [hl] at hS' ⊢
  rw [hd]
  exact k hS' _ (ha.put hN v)
/-- A yield that reads. -/
theorem GH.yr (hi : ops[i]? = some o) (hk : ghOk ops nd sp listed i = true) (hin : nd.contains i = true) (hl : listed.setIfInBounds i true = listed') (hQ : NP Q) (hg : o.guard = none) (hd : o.dst = some d) (hN : Nat.blt d N = true)
    (hy : ∀ w', V w' → Yl N P w' o L v) (hS : Cls V nd sp listed w) (k : Cls V nd sp listed' w → GH mks N P ops V nd sp fuel listed' ((d, v) :: L) Q w) : GH mks N P ops V nd sp (fuel + 1) listed L Q w := fun a ha => by
  obtain ⟨h1, h2, h3, h4, h5, h6⟩ := ghOk_spec hk
  have hS' : Cls V nd sp (listed.setIfInBounds i true) w := ⟨fun j hj hl m hm => by
      have hji : i ≠ j := fun e => h4 (e ▸ hj)
      rw [getD_set_ne true hji] at hl
      exact getD_up (hS.1 j hj hl m hm), fun hn => hS.2 fun j hj => getD_down (hn j hj)⟩
  refine Any.first hi (Region.noSelect_spec h1) (fun c a w h => absurd h (hQ c _ w)) h4 h5 fuel listed a w h6 (Region.free_spec hi h2) (by simpa using h3) (.inl ⟨by simp [Region.wanted, hg], fun w' hw' => hy w' (hw'.view hin) a ha.toAgr⟩) hS ?_
  rw [hl] at hS' ⊢
  rw [hd]
  exact k hS' _ (ha.put hN v)
theorem GH.on {j dj : Nat} {want b : Bool} {dst : Option Tmp} {op : Op} {ty : TypeId} {pos : String} {af : Array Edge} (hi : ops[i]? = some ⟨dst, op, ty, pos, af, some (j, want)⟩) (hk : ghOk ops nd sp listed i = true) (hin : nd.contains i = true) (hl : listed.setIfInBounds i true = listed') (hQ : NP Q) (hd : dst = some d) (hN : Nat.blt d N = true)
    (hj : (ops[j]?).bind (·.dst) = some dj) (hlk : look L dj = some (.bool b)) (hb : b = want)
    (hy : ∀ w', V w' → Yl N P w' ⟨dst, op, ty, pos, af, some (j, want)⟩ L v) (hS : Cls V nd sp listed w) (k : Cls V nd sp listed' w → GH mks N P ops V nd sp fuel listed' ((d, v) :: L) Q w) : GH mks N P ops V nd sp (fuel + 1) listed L Q w := fun a ha => by
  obtain ⟨h1, h2, h3, h4, h5, h6⟩ := ghOk_spec hk
  have hS' : Cls V nd sp (listed.setIfInBounds i true) w := ⟨fun j hj hl m hm => by
      have hji : i ≠ j := fun e => h4 (e ▸ hj)
      rw [getD_set_ne true hji] at hl
      exact getD_up (hS.1 j hj hl m hm), fun hn => hS.2 fun j hj => getD_down (hn j hj)⟩
  refine Any.first hi (Region.noSelect_spec h1) (fun c a w h => absurd h (hQ c _ w)) h4 h5 fuel listed a w h6 (Region.free_spec hi h2) (by simpa using h3) (.inl ⟨by simp [Region.wanted, yielded_of ha.toAgr hj hlk, hb], fun w' hw' => hy w' (hw'.view hin) a ha.toAgr⟩) hS ?_
  subst hd
  rw [hl] at hS' ⊢
  exact k hS' _ (ha.put hN v)
theorem GH.off {j dj : Nat} {want b : Bool} {dst : Option Tmp} {op : Op} {ty : TypeId} {pos : String} {af : Array Edge} (hi : ops[i]? = some ⟨dst, op, ty, pos, af, some (j, want)⟩) (hk : ghOk ops nd sp listed i = true) (hl : listed.setIfInBounds i true = listed') (hQ : NP Q) (hd : dst = some d) (hN : Nat.blt d N = true)
    (hj : (ops[j]?).bind (·.dst) = some dj) (hlk : look L dj = some (.bool b)) (hb : b = !want)
    (hS : Cls V nd sp listed w) (k : Cls V nd sp listed' w → GH mks N P ops V nd sp fuel listed' ((d, undef) :: L) Q w) : GH mks N P ops V nd sp (fuel + 1) listed L Q w := fun a ha => by
  obtain ⟨h1, h2, h3, h4, h5, h6⟩ := ghOk_spec hk
  have hS' : Cls V nd sp (listed.setIfInBounds i true) w := ⟨fun j hj hl m hm => by
      have hji : i ≠ j := fun e => h4 (e ▸ hj)
      rw [getD_set_ne true hji] at hl
      exact getD_up (hS.1 j hj hl m hm), fun hn => hS.2 fun j hj => getD_down (hn j hj)⟩
  refine Any.first hi (Region.noSelect_spec h1) (fun c a w h => absurd h (hQ c _ w)) h4 h5 fuel listed a w h6 (Region.free_spec hi h2) (by simpa using h3) (.inr ⟨by simp [Region.wanted, yielded_of ha.toAgr hj hlk, hb], rfl⟩) hS ?_
  subst hd
  rw [hl] at hS' ⊢
  exact k hS' _ (ha.put hN undef)
/-- Behind a test that was left out. -/
theorem GH.offU {j dj : Nat} {want : Bool} {dst : Option Tmp} {op : Op} {ty : TypeId} {pos : String} {af : Array Edge} (hi : ops[i]? = some ⟨dst, op, ty, pos, af, some (j, want)⟩) (hk : ghOk ops nd sp listed i = true) (hl : listed.setIfInBounds i true = listed') (hQ : NP Q) (hd : dst = some d) (hN : Nat.blt d N = true)
    (hj : (ops[j]?).bind (·.dst) = some dj) (hlk : look L dj = some undef)
    (hS : Cls V nd sp listed w) (k : Cls V nd sp listed' w → GH mks N P ops V nd sp fuel listed' ((d, undef) :: L) Q w) : GH mks N P ops V nd sp (fuel + 1) listed L Q w := fun a ha => by
  obtain ⟨h1, h2, h3, h4, h5, h6⟩ := ghOk_spec hk
  have hS' : Cls V nd sp (listed.setIfInBounds i true) w := ⟨fun j hj hl m hm => by
      have hji : i ≠ j := fun e => h4 (e ▸ hj)
      rw [getD_set_ne true hji] at hl
      exact getD_up (hS.1 j hj hl m hm), fun hn => hS.2 fun j hj => getD_down (hn j hj)⟩
  refine Any.first hi (Region.noSelect_spec h1) (fun c a w h => absurd h (hQ c _ w)) h4 h5 fuel listed a w h6 (Region.free_spec hi h2) (by simpa using h3) (.inr ⟨by simp [Region.wanted, yielded_undef ha.toAgr hj hlk], rfl⟩) hS ?_
  subst hd
  rw [hl] at hS' ⊢
  exact k hS' _ (ha.put hN undef)
/-- The class anew, behind what does something: it can be read still, or nobody reads any more. -/
def clsOk (nd sp : List Nat) (l : Array Bool) : Bool := sp.all (fun j => !l.getD j true) 
def clsOff (nd sp : List Nat) (l : Array Bool) : Bool := nd.all (fun j => l.getD j true) && sp.any (fun j => l.getD j true)
theorem Cls.keep {w : World} (h : V w) (hk : clsOk nd sp listed = true) : Cls V nd sp listed w := ⟨fun j hj hl => by
    have := List.all_eq_true.1 hk j hj
    (rw [hl] at this; cases this), fun _ => h⟩
theorem Cls.off {w : World} (hk : clsOff nd sp listed = true) : Cls V nd sp listed w := by
  simp only [clsOff, Bool.and_eq_true] at hk
  refine ⟨fun j hj hl i hi => List.all_eq_true.1 hk.1 i hi, fun hn => ?_⟩
  obtain ⟨j, hj, h⟩ := List.any_eq_true.1 hk.2
  rw [hn j hj] at h; cases h
theorem GH.does {Φ : Value → World → Prop} (hi : ops[i]? = some o) (hr : Region.ready .any ops listed = [i]) (hl : listed.setIfInBounds i true = listed')
    (hg : o.guard = none) (hd : o.dst = some d) (hN : Nat.blt d N = true) (h : Does N P w o L Φ) (k : ∀ v w', Φ v w' → Cls V nd sp listed' w' ∧ GH mks N P ops V nd sp fuel listed' ((d, v) :: L) Q w') : GH mks N P ops V nd sp (fuel + 1) listed L Q w := fun a ha => by
  refine ⟨fun h => (by rw [hr] at h; cases h), fun i' hi' => ?_⟩
  rw [hr] at hi'
  simp only [List.mem_singleton] at hi'
  subst hi'
  rw [hl]
  unfold wpOp
  simp only [hi]
  rw [if_pos (by simp [Region.wanted, hg])]
  refine .inl (h a ha.toAgr _ Q (fun v w' e => ?_))
  obtain ⟨h1, h2⟩ := k v w' e
  rw [hd]
  exact ⟨h1, h2 _ (ha.put hN v)⟩
theorem GH.doesOn {j dj : Nat} {Φ : Value → World → Prop} {want b : Bool} {dst : Option Tmp} {op : Op} {ty : TypeId} {pos : String} {af : Array Edge}
    (hi : ops[i]? = some ⟨dst, op, ty, pos, af, some (j, want)⟩) (hr : Region.ready .any ops listed = [i]) (hl : listed.setIfInBounds i true = listed')
    (hj : (ops[j]?).bind (·.dst) = some dj) (hlk : look L dj = some (.bool b)) (hb : b = want) (hd : dst = some d) (hN : Nat.blt d N = true) (h : Does N P w ⟨dst, op, ty, pos, af, some (j, want)⟩ L Φ)
    (k : ∀ v w', Φ v w' → Cls V nd sp listed' w' ∧ GH mks N P ops V nd sp fuel listed' ((d, v) :: L) Q w') : GH mks N P ops V nd sp (fuel + 1) listed L Q w := fun a ha => by
  refine ⟨fun h => (by rw [hr] at h; cases h), fun i' hi' => ?_⟩
  rw [hr] at hi'
  simp only [List.mem_singleton] at hi'
  subst hi' hd
  rw [hl]
  unfold wpOp
  simp only [hi]
  rw [if_pos (by simp [Region.wanted, yielded_of ha.toAgr hj hlk, hb])]
  refine .inl (h a ha.toAgr _ Q (fun v w' e => ?_))
  obtain ⟨h1, h2⟩ := k v w' e
  exact ⟨h1, h2 _ (ha.put hN v)⟩
theorem GH.unit {Φ : Value → World → Prop} (hi : ops[i]? = some o) (hr : Region.ready .any ops listed = [i]) (hl : listed.setIfInBounds i true = listed')
    (hg : o.guard = none) (hd : o.dst = none) (h : Does N P w o L Φ) (k : ∀ v w', Φ v w' → Cls V nd sp listed' w' ∧ GH mks N P ops V nd sp fuel listed' L Q w') : GH mks N P ops V nd sp (fuel + 1) listed L Q w := fun a ha => by
  refine ⟨fun h => (by rw [hr] at h; cases h), fun i' hi' => ?_⟩
  rw [hr] at hi'
  simp only [List.mem_singleton] at hi'
  subst hi'
  rw [hl]
  unfold wpOp
  simp only [hi]
  rw [if_pos (by simp [Region.wanted, hg])]
  refine .inl (h a ha.toAgr _ Q (fun v w' e => ?_))
  obtain ⟨h1, h2⟩ := k v w' e
  rw [hd]
  exact ⟨h1, h2 _ ha⟩
/-- Either of two may come up. -/
theorem GH.two {j : Nat} (hr : Region.ready .any ops listed = [i, j])
    (h1 : ∀ a, At mks N L a → wpOp P ops Q i (fun a' w' => Cls V nd sp (listed.setIfInBounds i true) w' ∧ Any P ops Q V nd sp fuel (listed.setIfInBounds i true) a' w') a w)
    (h2 : ∀ a, At mks N L a → wpOp P ops Q j (fun a' w' => Cls V nd sp (listed.setIfInBounds j true) w' ∧ Any P ops Q V nd sp fuel (listed.setIfInBounds j true) a' w') a w) : GH mks N P ops V nd sp (fuel + 1) listed L Q w := fun a ha => by
  refine ⟨fun h => (by rw [hr] at h; cases h), fun i' hi' => ?_⟩
  rw [hr] at hi'
  simp only [List.mem_cons, List.not_mem_nil, or_false] at hi'
  rcases hi' with rfl | rfl
  · exact h1 a ha
  · exact h2 a ha
theorem wpOp_does {Φ : Value → World → Prop} (hi : ops[i]? = some o) (hl : listed.setIfInBounds i true = listed')
    (hg : o.guard = none) (hd : o.dst = some d) (hN : Nat.blt d N = true) (h : Does N P w o L Φ) (k : ∀ v w', Φ v w' → Cls V nd sp listed' w' ∧ GH mks N P ops V nd sp fuel listed' ((d, v) :: L) Q w') :
    ∀ a, At mks N L a → wpOp P ops Q i (fun a' w' => Cls V nd sp (listed.setIfInBounds i true) w' ∧ Any P ops Q V nd sp fuel (listed.setIfInBounds i true) a' w') a w := fun a ha => by
  rw [hl]
  unfold wpOp
  simp only [hi]
  rw [if_pos (by simp [Region.wanted, hg])]
  refine .inl (h a ha.toAgr _ Q (fun v w' e => ?_))
  obtain ⟨h1, h2⟩ := k v w' e
  rw [hd]
  exact ⟨h1, h2 _ (ha.put hN v)⟩
theorem wpOp_unit {Φ : Value → World → Prop} (hi : ops[i]? = some o) (hl : listed.setIfInBounds i true = listed')
    (hg : o.guard = none) (hd : o.dst = none) (h : Does N P w o L Φ) (k : ∀ v w', Φ v w' → Cls V nd sp listed' w' ∧ GH mks N P ops V nd sp fuel listed' L Q w') :
    ∀ a, At mks N L a → wpOp P ops Q i (fun a' w' => Cls V nd sp (listed.setIfInBounds i true) w' ∧ Any P ops Q V nd sp fuel (listed.setIfInBounds i true) a' w') a w := fun a ha => by
  rw [hl]
  unfold wpOp
  simp only [hi]
  rw [if_pos (by simp [Region.wanted, hg])]
  refine .inl (h a ha.toAgr _ Q (fun v w' e => ?_))
  obtain ⟨h1, h2⟩ := k v w' e
  rw [hd]
  exact ⟨h1, h2 _ ha⟩
theorem Any.done (hr : Region.ready .any ops listed = []) {a : Act} (h : Q .normal a w) : ∀ fuel, Any P ops Q V nd sp fuel listed a w
  | 0 => ⟨hr, h⟩
  | _ + 1 => ⟨fun _ => h, by rw [hr]; simp⟩
theorem Any.more {V' : World → Prop} (hv : ∀ w, V' w → V w) : ∀ (fuel : Nat) (listed : Array Bool) (a : Act) (w : World), Any P ops Q V' nd sp fuel listed a w → Any P ops Q V nd sp fuel listed a w
  | 0, _, _, _, h => h
  | fuel + 1, _, _, _, h => ⟨h.1, fun i hi => wpOp_mono (fun a' w' h' => ⟨⟨h'.1.1, fun hn => hv _ (h'.1.2 hn)⟩, Any.more hv fuel _ _ _ h'.2⟩) (h.2 i hi)⟩
/-- More to read from here on. -/
theorem GH.more {V' : World → Prop} (hv : ∀ w, V' w → V w) (h : GH mks N P ops V' nd sp fuel listed L Q w) : GH mks N P ops V nd sp fuel listed L Q w := fun a ha => Any.more hv fuel listed a w (h a ha)
theorem GH.done (hr : Region.ready .any ops listed = []) (h : QA (mks := mks) N .normal L Q w) : GH mks N P ops V nd sp fuel listed L Q w := fun a ha => Any.done hr (h a ha) fuel
end
end Go.Proofs.YtpheilpcklfknaaDoor
