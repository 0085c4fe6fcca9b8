/-
  A small logic of blocks for the walks of this seat: slots that are known, resources that lie apart, one rule for each operation. No condition.
-/
import Derived.WalkKit
import Derived.OrdersHeld
import Derived.TacticsIn
import Derived.LoopNIn
import Derived.RangeFuncLeaves
import Derived.RangeFuncOwn
namespace Go.Proofs.YtpheilpcklfknaaDoor
open Go Go.RowKit
set_option linter.unusedVariables false
set_option linter.unusedSimpArgs false

/-! ### slots -/
abbrev Slots := List (Nat × Value)
def look : Slots → Nat → Option Value
  | [], _ => none
  | (d, v) :: l, t => cond (Nat.beq d t) (some v) (look l t)
def ev (L : Slots) : Operand → Option Value
  | .tmp t => look L t
  | .const v => some v
  | .global g => some (.pointer (some ⟨g, 0, none⟩))
  | .func f => some (.func (.func f) #[] #[])
def evs (L : Slots) : List Operand → Option (List Value)
  | [] => some []
  | x :: l => match ev L x, evs L l with
    | some v, some vs => some (v :: vs)
    | _, _ => none

structure Agr (N : Nat) (L : Slots) (a : Act) : Prop where
  size : a.tmps.size = N
  slot : ∀ t v, look L t = some v → a.tmps.getD t undef = v

theorem Agr.eval {N : Nat} {L : Slots} {a : Act} (h : Agr N L a) {x : Operand} {v : Value} (hx : ev L x = some v) : a.eval x = v := by
  cases x with
  | tmp t => exact h.slot t v hx
  | const c => simpa [ev, Act.eval] using hx
  | global g => simpa [ev, Act.eval] using hx
  | func f => simpa [ev, Act.eval] using hx

theorem Agr.evals {N : Nat} {L : Slots} {a : Act} (h : Agr N L a) : ∀ {xs : List Operand} {vs : List Value}, evs L xs = some vs → xs.map a.eval = vs
  | [], vs, hx => by simp [evs] at hx; simp [hx]
  | x :: l, vs, hx => by
    simp only [evs] at hx
    split at hx
    · rename_i v vs' h1 h2
      cases hx
      simp [h.eval h1, h.evals h2]
    · cases hx

theorem Agr.put {N : Nat} {L : Slots} {a : Act} (h : Agr N L a) {d : Nat} (hd : Nat.blt d N = true) (v : Value) : Agr N ((d, v) :: L) (a.put (some d) v) := by
  have hlt : d < a.tmps.size := by rw [h.size]; rw [Nat.blt_eq] at hd; exact hd
  refine ⟨by simp [Act.put, h.size], fun t u hu => ?_⟩
  simp only [look] at hu
  cases hb : Nat.beq d t with
  | true =>
    have : d = t := Nat.eq_of_beq_eq_true hb
    subst this
    simp only [hb, cond_true, Option.some.injEq] at hu
    subst hu
    simp [Act.put, hlt]
  | false =>
    have hne : d ≠ t := Nat.ne_of_beq_eq_false hb
    simp only [hb, cond_false] at hu
    have := h.slot t u hu
    simp only [Act.put, Array.getD_eq_getD_getElem?, Array.getElem?_setIfInBounds_ne hne] at this ⊢
    exact this

theorem Agr.skip {N : Nat} {L : Slots} {a : Act} (h : Agr N L a) {d : Nat} (hd : look L d = none) (v : Value) : Agr N L (a.put (some d) v) := by
  refine ⟨by simp [Act.put, h.size], fun t u hu => ?_⟩
  have hne : d ≠ t := fun e => by subst e; rw [hd] at hu; cases hu
  have := h.slot t u hu
  simp only [Act.put, Array.getD_eq_getD_getElem?, Array.getElem?_setIfInBounds_ne hne] at this ⊢
  exact this

/-- All that the first list knows the second knows. -/
def Sub (A L : Slots) : Prop := ∀ t v, look A t = some v → look L t = some v
theorem Sub.nil (L : Slots) : Sub [] L := fun _ _ h => by cases h
theorem Sub.cons {A L : Slots} {t : Nat} {v : Value} (h : look L t = some v) (h' : Sub A L) : Sub ((t, v) :: A) L := by
  intro u x hx
  simp only [look] at hx
  cases hb : Nat.beq t u with
  | true => have e := Nat.eq_of_beq_eq_true hb; subst e; simp [hb] at hx; subst hx; exact h
  | false => simp [hb] at hx; exact h' u x hx
theorem Agr.sub {N : Nat} {A L : Slots} {a : Act} (h : Agr N L a) (hs : Sub A L) : Agr N A a := ⟨h.size, fun t v hv => h.slot t v (hs t v hv)⟩
theorem look_int {L : Slots} {t : Nat} {k : IntKind} {a b : Int} (h : look L t = some (.int k a)) (e : a = b) : look L t = some (.int k b) := e ▸ h
theorem look_eq {L : Slots} {t : Nat} {a b : Value} (h : look L t = some a) (e : a = b) : look L t = some b := e ▸ h

/-- Slots, and what is left to do when the function is left. -/
structure At (mks : List Deferred) (N : Nat) (L : Slots) (a : Act) : Prop extends Agr N L a where
  defers : a.defers = mks
theorem act_put_defers (a : Act) (d : Option Tmp) (v : Value) : (a.put d v).defers = a.defers := by cases d <;> rfl
theorem At.put {mks : List Deferred} {N : Nat} {L : Slots} {a : Act} (h : At mks N L a) {d : Nat} (hd : Nat.blt d N = true) (v : Value) : At mks N ((d, v) :: L) (a.put (some d) v) := ⟨h.toAgr.put hd v, by rw [act_put_defers]; exact h.defers⟩
theorem At.skip {mks : List Deferred} {N : Nat} {L : Slots} {a : Act} (h : At mks N L a) {d : Nat} (hd : look L d = none) (v : Value) : At mks N L (a.put (some d) v) := ⟨h.toAgr.skip hd v, by rw [act_put_defers]; exact h.defers⟩
theorem At.sub {mks : List Deferred} {N : Nat} {A L : Slots} {a : Act} (h : At mks N L a) (hs : Sub A L) : At mks N A a := ⟨h.toAgr.sub hs, h.defers⟩
/-- Where code runs: in a function's own frame, or in a round of a loop. -/
def modeF (rd : Option Nat) : Fence := { Fence.wide with round := rd }
abbrev Code.wpR (rd : Option Nat) (P : Program) (c : Code) (Q : Exit → Act → World → Prop) (a : Act) (w : World) : Prop := c.wpIn (modeF rd) 0 P Q a w
theorem wpR_mono {rd : Option Nat} {P : Program} {c : Code} {Q Q' : Exit → Act → World → Prop} {a : Act} {w : World} (hq : ∀ e a w, Q e a w → Q' e a w) (h : Code.wpR rd P c Q a w) : Code.wpR rd P c Q' a w := wpIn_mono h hq
/-! ### judgements -/
section
variable {rd : Option Nat} {mks : List Deferred} (N : Nat) (P : Program)
abbrev Post := Exit → Act → World → Prop
def C (c : Code) (L : Slots) (Q : Post) (w : World) : Prop := ∀ a, At mks N L a → Code.wpR rd P c Q a w
def G (ops : Array Oper) (l : List Oper) (L : Slots) (Q : Post) (w : World) : Prop := ∀ a, At mks N L a → wpListIn (modeF rd) 0 P ops Q l a w
def QA (e : Exit) (L : Slots) (Q : Post) (w : World) : Prop := ∀ a, At mks N L a → Q e a w
end
section
variable {rd : Option Nat} {mks : List Deferred} {N : Nat} {P : Program} {L : Slots} {Q : Post} {w : World}
theorem C.sub {c : Code} {A : Slots} (hs : Sub A L) (h : C (rd := rd) (mks := mks) N P c A Q w) : C (rd := rd) (mks := mks) N P c L Q w := fun a ha => h a (ha.sub hs)
theorem G.sub {ops : Array Oper} {l : List Oper} {A : Slots} (hs : Sub A L) (h : G (rd := rd) (mks := mks) N P ops l A Q w) : G (rd := rd) (mks := mks) N P ops l L Q w := fun a ha => h a (ha.sub hs)
theorem QA.sub {e : Exit} {A : Slots} (hs : Sub A L) (h : QA (mks := mks) N e A Q w) : QA (mks := mks) N e L Q w := fun a ha => h a (ha.sub hs)
theorem C.seq {x y : Code} (h : C (rd := rd) (mks := mks) N P x L (Exit.then (fun a w => Code.wpR rd P y Q a w) Q) w) : C (rd := rd) (mks := mks) N P (.seq x y) L Q w := fun a ha => wpIn_seq (h a ha)
theorem C.region {id : Nat} {l : List Oper} (h : G (rd := rd) (mks := mks) N P l.toArray l L Q w) : C (rd := rd) (mks := mks) N P (.region id l.toArray false) L Q w := fun a ha => wpIn_region_lit (h a ha)
theorem C.skip (h : QA (mks := mks) N .normal L Q w) : C (rd := rd) (mks := mks) N P .skip L Q w := fun a ha => wpIn_skip (h a ha)
theorem C.exit {id : Nat} (h : QA (mks := mks) N (.exit id) L Q w) : C (rd := rd) (mks := mks) N P (.exit id) L Q w := fun a ha => wpIn_exit (h a ha)
theorem C.ret (h : QA (mks := mks) N .ret L Q w) : C (rd := rd) (mks := mks) N P .ret L Q w := fun a ha => wpIn_ret (h a ha)
theorem C.block {id : Nat} {c : Code} (h : C (rd := rd) (mks := mks) N P c L (Exit.inBlock id Q) w) : C (rd := rd) (mks := mks) N P (.block id c) L Q w := fun a ha => wpIn_block (h a ha)
theorem C.cond_t {c : Operand} {x y : Code} {b : Bool} (hc : ev L c = some (.bool b)) (hb : b = true) (h : C (rd := rd) (mks := mks) N P x L Q w) : C (rd := rd) (mks := mks) N P (.cond c x y) L Q w :=
  fun a ha => wpIn_cond_true (by rw [ha.eval hc, hb]) (h a ha)
theorem C.cond_f {c : Operand} {x y : Code} {b : Bool} (hc : ev L c = some (.bool b)) (hb : b = false) (h : C (rd := rd) (mks := mks) N P y L Q w) : C (rd := rd) (mks := mks) N P (.cond c x y) L Q w :=
  fun a ha => wpIn_cond_false (by rw [ha.eval hc, hb]) (h a ha)
theorem QA.then_normal {y : Code} (h : C (rd := rd) (mks := mks) N P y L Q w) : QA (mks := mks) N .normal L (Exit.then (fun a w => Code.wpR rd P y Q a w) Q) w := fun a ha => h a ha
theorem QA.then_exit {n : Act → World → Prop} {id : Nat} (h : QA (mks := mks) N (.exit id) L Q w) : QA (mks := mks) N (.exit id) L (Exit.then n Q) w := fun a ha => h a ha
theorem QA.then_ret {n : Act → World → Prop} (h : QA (mks := mks) N .ret L Q w) : QA (mks := mks) N .ret L (Exit.then n Q) w := fun a ha => h a ha
theorem QA.block_normal {id : Nat} (h : QA (mks := mks) N .normal L Q w) : QA (mks := mks) N .normal L (Exit.inBlock id Q) w := fun a ha => h a ha
theorem QA.block_ret {id : Nat} (h : QA (mks := mks) N .ret L Q w) : QA (mks := mks) N .ret L (Exit.inBlock id Q) w := fun a ha => h a ha
theorem QA.block_here {id : Nat} (h : QA (mks := mks) N .normal L Q w) : QA (mks := mks) N (.exit id) L (Exit.inBlock id Q) w := fun a ha => by
  simp only [Exit.inBlock, if_true]; exact h a ha
theorem QA.block_other {id id' : Nat} (hne : Nat.beq id' id = false) (h : QA (mks := mks) N (.exit id') L Q w) : QA (mks := mks) N (.exit id') L (Exit.inBlock id Q) w := fun a ha => by
  have : ¬ id' = id := Nat.ne_of_beq_eq_false hne
  simp only [Exit.inBlock, this, if_false]; exact h a ha
theorem G.nil {ops : Array Oper} (h : QA (mks := mks) N .normal L Q w) : G (rd := rd) (mks := mks) N P ops [] L Q w := fun a ha => (h a ha)

/-- How a call ends: it hands back a value. -/
def Ret (Φ : Value → World → Prop) : Ending → World → Prop
  | .returned v, w => Φ v w
  | _, _ => False
theorem Ret.mono {Φ Ψ : Value → World → Prop} (h : ∀ v w, Φ v w → Ψ v w) : ∀ e w, Ret Φ e w → Ret Ψ e w
  | .returned v, w, hh => h v w hh
theorem call_mono {f : FuncId} {args : Array Value} {Φ Ψ : Value → World → Prop} (h : Calls P f args w (Ret Φ)) (hm : ∀ v w', Φ v w' → Ψ v w') : Calls P f args w (Ret Ψ) :=
  h.mono (Ret.mono hm)

/-- The slots when a function is entered. -/
def start : Nat → List Value → Slots
  | _, [] => []
  | i, v :: l => (i, v) :: start (i + 1) l
theorem look_start : ∀ (vs : List Value) (i t : Nat) (v : Value), look (start i vs) t = some v → i ≤ t ∧ vs[t - i]? = some v
  | [], i, t, v, h => by simp [start, look] at h
  | x :: l, i, t, v, h => by
    simp only [start, look] at h
    cases hb : Nat.beq i t with
    | true =>
      have e := Nat.eq_of_beq_eq_true hb; subst e
      simp [hb] at h; subst h
      exact ⟨Nat.le_refl _, by simp⟩
    | false =>
      simp [hb] at h
      have hne := Nat.ne_of_beq_eq_false hb
      obtain ⟨h1, h2⟩ := look_start l (i + 1) t v h
      refine ⟨by omega, ?_⟩
      have : t - i = (t - (i + 1)) + 1 := by omega
      rw [this, List.getElem?_cons_succ]
      exact h2

theorem C.enter {f : FuncId} {fn : Func} {c : Code} {vs : List Value} {R : Ending → World → Prop} (hf : P.funcs[f]? = some fn) (hb : fn.body = some c)
    (hn : fn.ntmps = N) (hl : Nat.ble vs.length N = true) (h : C (rd := none) (mks := []) N P c (start 0 vs) (bodyPost P fn R) w) : Calls P f vs.toArray w R := by
  refine calls_of_wp hf hb (wpIn_wide.1 (h _ ⟨⟨?_, fun t v ht => ?_⟩, rfl⟩))
  · have := Nat.le_of_ble_eq_true hl
    simp [hn]; omega
  · obtain ⟨_, h2⟩ := look_start vs 0 t v ht
    simp only [Nat.sub_zero] at h2
    have hlt : t < vs.length := (List.getElem?_eq_some_iff.1 h2).1
    have h3 : vs[t] = v := (List.getElem?_eq_some_iff.1 h2).2
    simp [Array.getD_eq_getD_getElem?, Array.getElem?_append_left (by simpa using hlt : t < vs.toArray.size), hlt, h3]

theorem QA.ret1 {fn : Func} {Φ : Value → World → Prop} {t : Tmp} {v : Value} (hr : fn.results = #[.tmp t]) (hl : look L t = some v) (h : Φ v w) : QA (mks := []) N .ret L (bodyPost P fn (Ret Φ)) w := fun a ha => by
  refine bodyPost_ret (results_tmp hr _ _ _) ha.defers ?_
  rw [ha.slot t v hl]; exact h
theorem QA.end1 {fn : Func} {Φ : Value → World → Prop} {t : Tmp} {v : Value} (hr : fn.results = #[.tmp t]) (hl : look L t = some v) (h : Φ v w) : QA (mks := []) N .normal L (bodyPost P fn (Ret Φ)) w := fun a ha => by
  refine bodyPost_end (results_tmp hr _ _ _) ha.defers ?_
  rw [ha.slot t v hl]; exact h
theorem QA.ret0 {fn : Func} {Φ : Value → World → Prop} (hr : fn.results = #[]) (h : Φ (.tuple #[]) w) : QA (mks := []) N .ret L (bodyPost P fn (Ret Φ)) w := fun a ha =>
  bodyPost_ret (results_none hr _ _ _) ha.defers h
theorem QA.end0 {fn : Func} {Φ : Value → World → Prop} (hr : fn.results = #[]) (h : Φ (.tuple #[]) w) : QA (mks := []) N .normal L (bodyPost P fn (Ret Φ)) w := fun a ha =>
  bodyPost_end (results_none hr _ _ _) ha.defers h
theorem QA.ret2 {fn : Func} {Φ : Value → World → Prop} {t u : Tmp} {v x : Value} (hr : fn.results = #[.tmp t, .tmp u]) (hl : look L t = some v) (hl' : look L u = some x) (h : Φ (.tuple #[v, x]) w) :
    QA (mks := []) N .ret L (bodyPost P fn (Ret Φ)) w := fun a ha => by
  refine bodyPost_ret (results_tmp2 hr _ _ _) ha.defers ?_
  rw [ha.slot t v hl, ha.slot u x hl']; exact h
theorem results_tmp3 {fn : Func} {t u s : Tmp} (h : fn.results = #[.tmp t, .tmp u, .tmp s]) (tmps : Array Value) (P : Program) (w : World) :
    (results fn tmps).run P w = .ok (.tuple #[tmps.getD t undef, tmps.getD u undef, tmps.getD s undef]) w := by
  simp [results, h]
theorem QA.ret3 {fn : Func} {Φ : Value → World → Prop} {t u s : Tmp} {v x y : Value} (hr : fn.results = #[.tmp t, .tmp u, .tmp s]) (hl : look L t = some v) (hl' : look L u = some x) (hl'' : look L s = some y)
    (h : Φ (.tuple #[v, x, y]) w) : QA (mks := []) N .ret L (bodyPost P fn (Ret Φ)) w := fun a ha => by
  refine bodyPost_ret (results_tmp3 hr _ _ _) ha.defers ?_
  rw [ha.slot t v hl, ha.slot u x hl', ha.slot s y hl'']; exact h
end

/-! ### loops -/
section
variable {rd : Option Nat} {mks : List Deferred} {N : Nat} {P : Program} {L : Slots} {Q : Post} {w : World}
theorem wp_loop_ghost {γ : Type} {c : Code} (J : γ → Act → World → Prop) (μ : γ → Nat) (g0 : γ) {a : Act} (h0 : J g0 a w)
    (round : ∀ g a w, J g a w → Code.wpR rd P c (Exit.then (fun a' w' => ∃ g', J g' a' w' ∧ μ g' < μ g) Q) a w) : Code.wpR rd P (Code.loop c) Q a w := by
  have key : ∀ n g a w, μ g ≤ n → J g a w → Code.roundsIn (modeF rd) 0 P c Q (n + 1) a w := by
    intro n
    induction n with
    | zero =>
      intro g a w hn hJ
      refine wpR_mono ?_ (round g a w hJ)
      intro e a' w' he
      cases e with
      | normal => obtain ⟨g', _, hlt⟩ := he; omega
      | _ => exact he
    | succ n ih =>
      intro g a w hn hJ
      refine wpR_mono ?_ (round g a w hJ)
      intro e a' w' he
      cases e with
      | normal => obtain ⟨g', hJ', hlt⟩ := he; exact ih g' a' w' (by omega) hJ'
      | _ => exact he
  exact wpIn_loop_rounds _ (key _ g0 a w (Nat.le_refl _) h0)

/-- The next round's state. -/
def Again (mks : List Deferred) (N : Nat) {γ : Type} (I : γ → Slots) (S : γ → World → Prop) (μ : γ → Nat) (g : γ) : Act → World → Prop :=
  fun a w => ∃ g', (At mks N (I g') a ∧ S g' w) ∧ μ g' < μ g
theorem C.loop {γ : Type} {c : Code} (I : γ → Slots) (S : γ → World → Prop) (μ : γ → Nat) (g0 : γ) (hL : Sub (I g0) L) (h0 : S g0 w)
    (round : ∀ g w, S g w → C (rd := rd) (mks := mks) N P c (I g) (Exit.then (Again mks N I S μ g) Q) w) : C (rd := rd) (mks := mks) N P (.loop c) L Q w :=
  fun a ha => wp_loop_ghost (fun g a w => At mks N (I g) a ∧ S g w) μ g0 ⟨ha.sub hL, h0⟩ (fun g a w ⟨h1, h2⟩ => round g w h2 a h1)
theorem QA.again {γ : Type} {I : γ → Slots} {S : γ → World → Prop} {μ : γ → Nat} {g : γ} (g' : γ) (hL : Sub (I g') L) (h : S g' w) (hμ : μ g' < μ g) :
    QA (mks := mks) N .normal L (Exit.then (Again mks N I S μ g) Q) w := fun _ ha => ⟨g', ⟨ha.sub hL, h⟩, hμ⟩
end

/-! ### loops of models: rounds, until one ends them -/
def iter {σ ρ : Type} (body : σ → Option (σ ⊕ ρ)) : Nat → σ → Option ρ
  | 0, _ => none
  | k + 1, s => match body s with
    | none => none
    | some (.inl s') => iter body k s'
    | some (.inr r) => some r
section
variable {σ ρ : Type} {body : σ → Option (σ ⊕ ρ)}
theorem iter_more : ∀ {k : Nat} {s : σ} {r : ρ}, iter body k s = some r → ∀ m, iter body (k + m) s = some r
  | 0, _, _, h, _ => by cases h
  | k + 1, s, r, h, m => by
    rw [show k + 1 + m = (k + m) + 1 by omega]
    unfold iter at h ⊢
    split at h
    · cases h
    · exact iter_more h m
    · exact h
theorem iter_one {k m : Nat} {s : σ} {r r' : ρ} (h : iter body k s = some r) (h' : iter body m s = some r') : r = r' := by
  have h1 := iter_more h m
  have h2 := iter_more h' k
  rw [Nat.add_comm, h1] at h2
  exact Option.some.inj h2
open Classical in
noncomputable def loopO (body : σ → Option (σ ⊕ ρ)) (s : σ) : Option ρ := if h : ∃ r k, iter body k s = some r then some h.choose else none
theorem loopO_some {s : σ} {r : ρ} : loopO body s = some r ↔ ∃ k, iter body k s = some r := by
  unfold loopO
  constructor
  · intro h
    split at h
    · rename_i hh
      have := hh.choose_spec
      rw [Option.some.inj h] at this
      exact this
    · cases h
  · rintro ⟨k, hk⟩
    have hh : ∃ r k, iter body k s = some r := ⟨r, k, hk⟩
    rw [dif_pos hh]
    obtain ⟨m, hm⟩ := hh.choose_spec
    rw [iter_one hm hk]
theorem loopO_next {s s' : σ} (h : body s = some (.inl s')) : loopO body s = loopO body s' := by
  apply Option.ext
  intro r
  simp only [loopO_some]
  constructor
  · rintro ⟨k, hk⟩
    cases k with
    | zero => cases hk
    | succ k => unfold iter at hk; rw [h] at hk; exact ⟨k, hk⟩
  · rintro ⟨k, hk⟩
    exact ⟨k + 1, by unfold iter; rw [h]; exact hk⟩
theorem loopO_end {s : σ} {r : ρ} (h : body s = some (.inr r)) : loopO body s = some r := loopO_some.2 ⟨1, by unfold iter; rw [h]⟩
/-- What holds at the start, and from round to round, with less to do each time, ends well. -/
theorem loopO_run {I : σ → Prop} {Φ : ρ → Prop} (μ : σ → Nat) (step : ∀ s, I s → (∃ s', body s = some (.inl s') ∧ I s' ∧ μ s' < μ s) ∨ (∃ r, body s = some (.inr r) ∧ Φ r)) : ∀ s, I s → ∃ r, loopO body s = some r ∧ Φ r := by
  have key : ∀ n s, μ s = n → I s → ∃ r, loopO body s = some r ∧ Φ r := by
    intro n
    induction n using Nat.strongRecOn with
    | _ n ih =>
      intro s hn hs
      rcases step s hs with ⟨s', h1, h2, h3⟩ | ⟨r, h1, h2⟩
      · rw [loopO_next h1]; exact ih (μ s') (hn ▸ h3) s' rfl h2
      · exact ⟨r, loopO_end h1, h2⟩
  exact fun s hs => key _ s rfl hs
/-- How a round ends, if all ends with o. -/
def Goes (body : σ → Option (σ ⊕ ρ)) (k : Nat) (o : ρ) : σ ⊕ ρ → Prop
  | .inl s' => iter body k s' = some o
  | .inr r => r = o
theorem iter_round {k : Nat} {s : σ} {o : ρ} (h : iter body (k + 1) s = some o) : ∃ y, body s = some y ∧ Goes body k o y := by
  unfold iter at h
  split at h
  · cases h
  · rename_i s' hb; exact ⟨_, hb, h⟩
  · rename_i r hb; exact ⟨_, hb, Option.some.inj h⟩
end
section
variable {rd : Option Nat} {mks : List Deferred} {N : Nat} {P : Program} {L : Slots} {Q : Post} {w : World}
def AgainO (mks : List Deferred) (N : Nat) {γ σ ρ : Type} (I : γ → Slots) (S : γ → World → Prop) (st : γ → σ) (body : σ → Option (σ ⊕ ρ)) (k : Nat) (o : ρ) : Act → World → Prop :=
  fun a w => ∃ g', (At mks N (I g') a ∧ S g' w) ∧ iter body k (st g') = some o
theorem C.loopO {γ σ ρ : Type} {c : Code} {body : σ → Option (σ ⊕ ρ)} {o : ρ} (I : γ → Slots) (S : γ → World → Prop) (st : γ → σ) (g0 : γ) (ho : loopO body (st g0) = some o) (hL : Sub (I g0) L) (h0 : S g0 w)
    (round : ∀ g k w y, S g w → body (st g) = some y → Goes body k o y → C (rd := rd) (mks := mks) N P c (I g) (Exit.then (AgainO mks N I S st body k o) Q) w) : C (rd := rd) (mks := mks) N P (.loop c) L Q w := fun a ha => by
  obtain ⟨k0, hk0⟩ := loopO_some.1 ho
  refine wp_loop_ghost (γ := γ × Nat) (fun g a w => (At mks N (I g.1) a ∧ S g.1 w) ∧ iter body g.2 (st g.1) = some o) (fun g => g.2) (g0, k0) ⟨⟨ha.sub hL, h0⟩, hk0⟩ ?_
  rintro ⟨g, k⟩ a w ⟨⟨h1, h2⟩, h3⟩
  cases k with
  | zero => cases h3
  | succ k =>
    obtain ⟨y, hy, hg⟩ := iter_round h3
    have := round g k w y h2 hy hg a h1
    refine wpR_mono ?_ this
    intro e a' w' he
    cases e with
    | normal => obtain ⟨g', h, hk⟩ := he; exact ⟨(g', k), ⟨h, hk⟩, Nat.lt_succ_self k⟩
    | _ => exact he
theorem QA.againO {γ σ ρ : Type} {I : γ → Slots} {S : γ → World → Prop} {st : γ → σ} {body : σ → Option (σ ⊕ ρ)} {k : Nat} {o : ρ} (g' : γ) (hk : Goes body k o (.inl (st g'))) (hL : Sub (I g') L) (h : S g' w) :
    QA (mks := mks) N .normal L (Exit.then (AgainO mks N I S st body k o) Q) w := fun _ ha => ⟨g', ⟨ha.sub hL, h⟩, hk⟩
/-- Several ways come together ahead of y. -/
theorem C.join {γ : Type} {x y : Code} (J : γ → Slots) (S : γ → World → Prop) (hx : C (rd := rd) (mks := mks) N P x L (Exit.then (fun a w => ∃ g, At mks N (J g) a ∧ S g w) Q) w) (hy : ∀ g w, S g w → C (rd := rd) (mks := mks) N P y (J g) Q w) : C (rd := rd) (mks := mks) N P (.seq x y) L Q w := by
  refine C.seq fun a ha => wpR_mono ?_ (hx a ha)
  intro e a' w' he
  cases e with
  | normal => obtain ⟨g, h1, h2⟩ := he; exact hy g w' h2 a' h1
  | _ => exact he
theorem QA.join {γ : Type} {J : γ → Slots} {S : γ → World → Prop} (g : γ) (hL : Sub (J g) L) (h : S g w) : QA (mks := mks) N .normal L (Exit.then (fun a w => ∃ g, At mks N (J g) a ∧ S g w) Q) w := fun _ ha => ⟨g, ha.sub hL, h⟩
/-- A loop that is left by one way. -/
theorem C.left {γ : Type} {c : Code} (e : Exit) (J : γ → Slots) (S : γ → World → Prop) (hc : C (rd := rd) (mks := mks) N P c L (fun e' a w => (e' = e ∧ ∃ g, At mks N (J g) a ∧ S g w) ∨ (e' ≠ e ∧ Q e' a w)) w) (hy : ∀ g w, S g w → QA (mks := mks) N e (J g) Q w) : C (rd := rd) (mks := mks) N P c L Q w := fun a ha => by
  refine wpR_mono ?_ (hc a ha)
  rintro e' a' w' (⟨rfl, g, h1, h2⟩ | ⟨_, h⟩)
  · exact hy g w' h2 a' h1
  · exact h
theorem QA.left {γ : Type} {e : Exit} {J : γ → Slots} {S : γ → World → Prop} (g : γ) (hL : Sub (J g) L) (h : S g w) : QA (mks := mks) N e L (fun e' a w => (e' = e ∧ ∃ g, At mks N (J g) a ∧ S g w) ∨ (e' ≠ e ∧ Q e' a w)) w := fun _ ha => .inl ⟨rfl, g, ha.sub hL, h⟩
theorem QA.past {γ : Type} {e e' : Exit} {J : γ → Slots} {S : γ → World → Prop} (hne : e' ≠ e) (h : QA (mks := mks) N e' L Q w) : QA (mks := mks) N e' L (fun e' a w => (e' = e ∧ ∃ g, At mks N (J g) a ∧ S g w) ∨ (e' ≠ e ∧ Q e' a w)) w := fun a ha => .inr ⟨hne, h a ha⟩
end
/-! ### a model's value taken apart -/
section
variable {α β : Type} {a b : Option α} {r : α}
theorem sp_ite {p : Prop} [Decidable p] (h : (if p then a else b) = some r) : (p ∧ a = some r) ∨ (¬ p ∧ b = some r) := by
  by_cases hp : p
  · rw [if_pos hp] at h; exact .inl ⟨hp, h⟩
  · rw [if_neg hp] at h; exact .inr ⟨hp, h⟩
theorem sp_b {p : Bool} (h : (if p = true then a else b) = some r) : (p = true ∧ a = some r) ∨ (p = false ∧ b = some r) := by
  cases p
  · exact .inr ⟨rfl, by simpa using h⟩
  · exact .inl ⟨rfl, by simpa using h⟩
theorem sp_chk {p : Prop} [Decidable p] (h : (if p then a else none) = some r) : p ∧ a = some r := by
  rcases sp_ite h with h | ⟨_, h⟩
  · exact h
  · cases h
theorem sp_bind {x : Option β} {f : β → Option α} (h : x.bind f = some r) : ∃ y, x = some y ∧ f y = some r := Option.bind_eq_some_iff.1 h
theorem sp_ret (h : some r = b) {r' : α} (hb : b = some r') : r = r' := by subst hb; exact Option.some.inj h
/-- An element of a list, if its place is there. -/
def at? (l : List α) (i : Int) : Option α := if 0 ≤ i then l[i.toNat]? else none
theorem at?_some {l : List α} {i : Int} {x : α} (h : at? l i = some x) : 0 ≤ i ∧ l[i.toNat]? = some x := by
  unfold at? at h
  rcases sp_ite h with h | ⟨_, h⟩
  · exact h
  · cases h
theorem at?_lt {l : List α} {i : Int} {x : α} (h : at? l i = some x) : 0 ≤ i ∧ i < l.length := by
  obtain ⟨h1, h2⟩ := at?_some h
  have := (List.getElem?_eq_some_iff.1 h2).1
  omega
theorem at?_nat {l : List α} {i : Nat} : at? l (i : Int) = l[i]? := by unfold at?; rw [if_pos (by omega)]; rfl
def ok64 (n : Int) : Prop := -9223372036854775808 ≤ n ∧ n ≤ 9223372036854775807
instance (n : Int) : Decidable (ok64 n) := by unfold ok64; infer_instance
theorem ok64_of {n : Int} (h : -9223372036854775808 ≤ n ∧ n ≤ 9223372036854775807) : ok64 n := h
end
end Go.Proofs.YtpheilpcklfknaaDoor
