/-
  A small logic of blocks for the walks of this seat: slots that are known, resources that lie apart, one rule for each operation. No condition.
-/
import Derived.WalkKit
import Derived.OrdersHeld
namespace Go.Proofs.Ytaaahjcldomnbaa
open Go Go.RowKit
set_option linter.unusedVariables false
set_option linter.unusedSimpArgs false

/-! ### slots -/
abbrev Slots := List (Nat × Value)
def look : Slots → Nat → Option Value
  | [], _ => none
  | (d, v) :: l, t => cond (Nat.beq d t) (some v) (look l t)
def ev (L : Slots) : Operand → Option Value
  | .tmp t => look L t
  | .const v => some v
  | .global g => some (.pointer (some ⟨g, 0, none⟩))
  | .func f => some (.func (.func f) #[] #[])
def evs (L : Slots) : List Operand → Option (List Value)
  | [] => some []
  | x :: l => match ev L x, evs L l with
    | some v, some vs => some (v :: vs)
    | _, _ => none

structure Agr (N : Nat) (L : Slots) (a : Act) : Prop where
  defers : a.defers = []
  size : a.tmps.size = N
  slot : ∀ t v, look L t = some v → a.tmps.getD t undef = v

theorem Agr.eval {N : Nat} {L : Slots} {a : Act} (h : Agr N L a) {x : Operand} {v : Value} (hx : ev L x = some v) : a.eval x = v := by
  cases x with
  | tmp t => exact h.slot t v hx
  | const c => simpa [ev, Act.eval] using hx
  | global g => simpa [ev, Act.eval] using hx
  | func f => simpa [ev, Act.eval] using hx

theorem Agr.evals {N : Nat} {L : Slots} {a : Act} (h : Agr N L a) : ∀ {xs : List Operand} {vs : List Value}, evs L xs = some vs → xs.map a.eval = vs
  | [], vs, hx => by simp [evs] at hx; simp [hx]
  | x :: l, vs, hx => by
    simp only [evs] at hx
    split at hx
    · rename_i v vs' h1 h2
      cases hx
      simp [h.eval h1, h.evals h2]
    · cases hx

theorem Agr.put {N : Nat} {L : Slots} {a : Act} (h : Agr N L a) {d : Nat} (hd : Nat.blt d N = true) (v : Value) : Agr N ((d, v) :: L) (a.put (some d) v) := by
  have hlt : d < a.tmps.size := by rw [h.size]; rw [Nat.blt_eq] at hd; exact hd
  refine ⟨h.defers, by simp [Act.put, h.size], fun t u hu => ?_⟩
  simp only [look] at hu
  cases hb : Nat.beq d t with
  | true =>
    have : d = t := Nat.eq_of_beq_eq_true hb
    subst this
    simp only [hb, cond_true, Option.some.injEq] at hu
    subst hu
    simp [Act.put, hlt]
  | false =>
    have hne : d ≠ t := Nat.ne_of_beq_eq_false hb
    simp only [hb, cond_false] at hu
    have := h.slot t u hu
    simp only [Act.put, Array.getD_eq_getD_getElem?, Array.getElem?_setIfInBounds_ne hne] at this ⊢
    exact this

theorem Agr.skip {N : Nat} {L : Slots} {a : Act} (h : Agr N L a) {d : Nat} (hd : look L d = none) (v : Value) : Agr N L (a.put (some d) v) := by
  refine ⟨h.defers, by simp [Act.put, h.size], fun t u hu => ?_⟩
  have hne : d ≠ t := fun e => by subst e; rw [hd] at hu; cases hu
  have := h.slot t u hu
  simp only [Act.put, Array.getD_eq_getD_getElem?, Array.getElem?_setIfInBounds_ne hne] at this ⊢
  exact this

/-- All that the first list knows the second knows. -/
def Sub (A L : Slots) : Prop := ∀ t v, look A t = some v → look L t = some v
theorem Sub.nil (L : Slots) : Sub [] L := fun _ _ h => by cases h
theorem Sub.cons {A L : Slots} {t : Nat} {v : Value} (h : look L t = some v) (h' : Sub A L) : Sub ((t, v) :: A) L := by
  intro u x hx
  simp only [look] at hx
  cases hb : Nat.beq t u with
  | true => have e := Nat.eq_of_beq_eq_true hb; subst e; simp [hb] at hx; subst hx; exact h
  | false => simp [hb] at hx; exact h' u x hx
theorem Agr.sub {N : Nat} {A L : Slots} {a : Act} (h : Agr N L a) (hs : Sub A L) : Agr N A a := ⟨h.defers, h.size, fun t v hv => h.slot t v (hs t v hv)⟩
theorem look_int {L : Slots} {t : Nat} {k : IntKind} {a b : Int} (h : look L t = some (.int k a)) (e : a = b) : look L t = some (.int k b) := e ▸ h
theorem look_eq {L : Slots} {t : Nat} {a b : Value} (h : look L t = some a) (e : a = b) : look L t = some b := e ▸ h

/-! ### judgements -/
section
variable (N : Nat) (P : Program)
abbrev Post := Exit → Act → World → Prop
def C (c : Code) (L : Slots) (Q : Post) (w : World) : Prop := ∀ a, Agr N L a → c.wp P Q a w
def G (ops : Array Oper) (l : List Oper) (L : Slots) (Q : Post) (w : World) : Prop := ∀ a, Agr N L a → wpList P ops Q l a w
def QA (e : Exit) (L : Slots) (Q : Post) (w : World) : Prop := ∀ a, Agr N L a → Q e a w
end
section
variable {N : Nat} {P : Program} {L : Slots} {Q : Post} {w : World}
theorem C.sub {c : Code} {A : Slots} (hs : Sub A L) (h : C N P c A Q w) : C N P c L Q w := fun a ha => h a (ha.sub hs)
theorem G.sub {ops : Array Oper} {l : List Oper} {A : Slots} (hs : Sub A L) (h : G N P ops l A Q w) : G N P ops l L Q w := fun a ha => h a (ha.sub hs)
theorem QA.sub {e : Exit} {A : Slots} (hs : Sub A L) (h : QA N e A Q w) : QA N e L Q w := fun a ha => h a (ha.sub hs)
theorem C.seq {x y : Code} (h : C N P x L (Exit.then (fun a w => y.wp P Q a w) Q) w) : C N P (.seq x y) L Q w := fun a ha => wp_seq (h a ha)
theorem C.region {id : Nat} {l : List Oper} (h : G N P l.toArray l L Q w) : C N P (.region id l.toArray false) L Q w := fun a ha => wp_region_lit (h a ha)
theorem C.skip (h : QA N .normal L Q w) : C N P .skip L Q w := fun a ha => wp_skip (h a ha)
theorem C.exit {id : Nat} (h : QA N (.exit id) L Q w) : C N P (.exit id) L Q w := fun a ha => wp_exit (h a ha)
theorem C.ret (h : QA N .ret L Q w) : C N P .ret L Q w := fun a ha => wp_ret (h a ha)
theorem C.block {id : Nat} {c : Code} (h : C N P c L (Exit.inBlock id Q) w) : C N P (.block id c) L Q w := fun a ha => wp_block (h a ha)
theorem C.cond_t {c : Operand} {x y : Code} {b : Bool} (hc : ev L c = some (.bool b)) (hb : b = true) (h : C N P x L Q w) : C N P (.cond c x y) L Q w :=
  fun a ha => wp_cond_true (by rw [ha.eval hc, hb]) (h a ha)
theorem C.cond_f {c : Operand} {x y : Code} {b : Bool} (hc : ev L c = some (.bool b)) (hb : b = false) (h : C N P y L Q w) : C N P (.cond c x y) L Q w :=
  fun a ha => wp_cond_false (by rw [ha.eval hc, hb]) (h a ha)
theorem QA.then_normal {y : Code} (h : C N P y L Q w) : QA N .normal L (Exit.then (fun a w => y.wp P Q a w) Q) w := fun a ha => h a ha
theorem QA.then_exit {n : Act → World → Prop} {id : Nat} (h : QA N (.exit id) L Q w) : QA N (.exit id) L (Exit.then n Q) w := fun a ha => h a ha
theorem QA.then_ret {n : Act → World → Prop} (h : QA N .ret L Q w) : QA N .ret L (Exit.then n Q) w := fun a ha => h a ha
theorem QA.block_normal {id : Nat} (h : QA N .normal L Q w) : QA N .normal L (Exit.inBlock id Q) w := fun a ha => h a ha
theorem QA.block_ret {id : Nat} (h : QA N .ret L Q w) : QA N .ret L (Exit.inBlock id Q) w := fun a ha => h a ha
theorem QA.block_here {id : Nat} (h : QA N .normal L Q w) : QA N (.exit id) L (Exit.inBlock id Q) w := fun a ha => by
  simp only [Exit.inBlock, if_true]; exact h a ha
theorem QA.block_other {id id' : Nat} (hne : Nat.beq id' id = false) (h : QA N (.exit id') L Q w) : QA N (.exit id') L (Exit.inBlock id Q) w := fun a ha => by
  have : ¬ id' = id := Nat.ne_of_beq_eq_false hne
  simp only [Exit.inBlock, this, if_false]; exact h a ha
theorem G.nil {ops : Array Oper} (h : QA N .normal L Q w) : G N P ops [] L Q w := fun a ha => wpList_nil (h a ha)

/-- How a call ends: it hands back a value. -/
def Ret (Φ : Value → World → Prop) : Ending → World → Prop
  | .returned v, w => Φ v w
  | _, _ => False
theorem Ret.mono {Φ Ψ : Value → World → Prop} (h : ∀ v w, Φ v w → Ψ v w) : ∀ e w, Ret Φ e w → Ret Ψ e w
  | .returned v, w, hh => h v w hh
theorem call_mono {f : FuncId} {args : Array Value} {Φ Ψ : Value → World → Prop} (h : Calls P f args w (Ret Φ)) (hm : ∀ v w', Φ v w' → Ψ v w') : Calls P f args w (Ret Ψ) :=
  h.mono (Ret.mono hm)

/-- The slots when a function is entered. -/
def start : Nat → List Value → Slots
  | _, [] => []
  | i, v :: l => (i, v) :: start (i + 1) l
theorem look_start : ∀ (vs : List Value) (i t : Nat) (v : Value), look (start i vs) t = some v → i ≤ t ∧ vs[t - i]? = some v
  | [], i, t, v, h => by simp [start, look] at h
  | x :: l, i, t, v, h => by
    simp only [start, look] at h
    cases hb : Nat.beq i t with
    | true =>
      have e := Nat.eq_of_beq_eq_true hb; subst e
      simp [hb] at h; subst h
      exact ⟨Nat.le_refl _, by simp⟩
    | false =>
      simp [hb] at h
      have hne := Nat.ne_of_beq_eq_false hb
      obtain ⟨h1, h2⟩ := look_start l (i + 1) t v h
      refine ⟨by omega, ?_⟩
      have : t - i = (t - (i + 1)) + 1 := by omega
      rw [this, List.getElem?_cons_succ]
      exact h2

theorem C.enter {f : FuncId} {fn : Func} {c : Code} {vs : List Value} {R : Ending → World → Prop} (hf : P.funcs[f]? = some fn) (hb : fn.body = some c)
    (hn : fn.ntmps = N) (hl : Nat.ble vs.length N = true) (h : C N P c (start 0 vs) (bodyPost P fn R) w) : Calls P f vs.toArray w R := by
  refine calls_of_wp hf hb (h _ ⟨rfl, ?_, fun t v ht => ?_⟩)
  · have := Nat.le_of_ble_eq_true hl
    simp [hn]; omega
  · obtain ⟨_, h2⟩ := look_start vs 0 t v ht
    simp only [Nat.sub_zero] at h2
    have hlt : t < vs.length := (List.getElem?_eq_some_iff.1 h2).1
    have h3 : vs[t] = v := (List.getElem?_eq_some_iff.1 h2).2
    simp [Array.getD_eq_getD_getElem?, Array.getElem?_append_left (by simpa using hlt : t < vs.toArray.size), hlt, h3]

theorem QA.ret1 {fn : Func} {Φ : Value → World → Prop} {t : Tmp} {v : Value} (hr : fn.results = #[.tmp t]) (hl : look L t = some v) (h : Φ v w) : QA N .ret L (bodyPost P fn (Ret Φ)) w := fun a ha => by
  refine bodyPost_ret (results_tmp hr _ _ _) ha.defers ?_
  rw [ha.slot t v hl]; exact h
theorem QA.end1 {fn : Func} {Φ : Value → World → Prop} {t : Tmp} {v : Value} (hr : fn.results = #[.tmp t]) (hl : look L t = some v) (h : Φ v w) : QA N .normal L (bodyPost P fn (Ret Φ)) w := fun a ha => by
  refine bodyPost_end (results_tmp hr _ _ _) ha.defers ?_
  rw [ha.slot t v hl]; exact h
theorem QA.ret0 {fn : Func} {Φ : Value → World → Prop} (hr : fn.results = #[]) (h : Φ (.tuple #[]) w) : QA N .ret L (bodyPost P fn (Ret Φ)) w := fun a ha =>
  bodyPost_ret (results_none hr _ _ _) ha.defers h
theorem QA.end0 {fn : Func} {Φ : Value → World → Prop} (hr : fn.results = #[]) (h : Φ (.tuple #[]) w) : QA N .normal L (bodyPost P fn (Ret Φ)) w := fun a ha =>
  bodyPost_end (results_none hr _ _ _) ha.defers h
theorem QA.ret2 {fn : Func} {Φ : Value → World → Prop} {t u : Tmp} {v x : Value} (hr : fn.results = #[.tmp t, .tmp u]) (hl : look L t = some v) (hl' : look L u = some x) (h : Φ (.tuple #[v, x]) w) :
    QA N .ret L (bodyPost P fn (Ret Φ)) w := fun a ha => by
  refine bodyPost_ret (results_tmp2 hr _ _ _) ha.defers ?_
  rw [ha.slot t v hl, ha.slot u x hl']; exact h
theorem results_tmp3 {fn : Func} {t u s : Tmp} (h : fn.results = #[.tmp t, .tmp u, .tmp s]) (tmps : Array Value) (P : Program) (w : World) :
    (results fn tmps).run P w = .ok (.tuple #[tmps.getD t undef, tmps.getD u undef, tmps.getD s undef]) w := by
  simp [results, h]
theorem QA.ret3 {fn : Func} {Φ : Value → World → Prop} {t u s : Tmp} {v x y : Value} (hr : fn.results = #[.tmp t, .tmp u, .tmp s]) (hl : look L t = some v) (hl' : look L u = some x) (hl'' : look L s = some y)
    (h : Φ (.tuple #[v, x, y]) w) : QA N .ret L (bodyPost P fn (Ret Φ)) w := fun a ha => by
  refine bodyPost_ret (results_tmp3 hr _ _ _) ha.defers ?_
  rw [ha.slot t v hl, ha.slot u x hl', ha.slot s y hl'']; exact h
end

/-! ### loops -/
section
variable {N : Nat} {P : Program} {L : Slots} {Q : Post} {w : World}
theorem wp_loop_ghost {γ : Type} {c : Code} (J : γ → Act → World → Prop) (μ : γ → Nat) (g0 : γ) {a : Act} (h0 : J g0 a w)
    (round : ∀ g a w, J g a w → c.wp P (Exit.then (fun a' w' => ∃ g', J g' a' w' ∧ μ g' < μ g) Q) a w) : (Code.loop c).wp P Q a w := by
  intro b k cs
  have key : ∀ n g a w, μ g = n → J g a w →
      ∃ e a' w', Q e a' w' ∧ Arrives P (lone (b.at a (.code c :: .inLoop c :: k)) cs w) b k cs e a' w' := by
    intro n
    induction n using Nat.strongRecOn with
    | _ n ih =>
      intro g a w hn hI
      obtain ⟨e, a₁, w₁, hq, harr⟩ := round g a w hI b (.inLoop c :: k) cs
      cases e with
      | normal =>
        obtain ⟨g', hI₁, hlt⟩ := hq
        obtain ⟨e₂, a₂, w₂, hq₂, harr₂⟩ := ih (μ g') (hn ▸ hlt) g' a₁ w₁ rfl hI₁
        exact ⟨e₂, a₂, w₂, hq₂, .of_steps (Steps.trans harr (.one step_inLoop)) harr₂⟩
      | exit id => exact ⟨_, a₁, w₁, hq, .pass (x := .inLoop c) rfl (fun _ _ => .inl (by simp)) harr⟩
      | goto l => exact ⟨_, a₁, w₁, hq, .pass (x := .inLoop c) rfl (fun _ _ => .inl (by simp)) harr⟩
      | ret => exact ⟨_, a₁, w₁, hq, .pass (x := .inLoop c) rfl (fun _ _ => .inl (by simp)) harr⟩
      | panic ch => exact ⟨_, a₁, w₁, hq, .pass (x := .inLoop c) rfl (fun _ _ => .inl (by simp)) harr⟩
      | outgrown => exact ⟨_, a₁, w₁, hq, .pass (x := .inLoop c) rfl (fun _ _ => .inl (by simp)) harr⟩
  obtain ⟨e, a', w', hq, harr⟩ := key _ g0 a w rfl h0
  exact ⟨e, a', w', hq, .of_steps (.one step_loop) harr⟩

/-- The next round's state. -/
def Again (N : Nat) {γ : Type} (I : γ → Slots) (S : γ → World → Prop) (μ : γ → Nat) (g : γ) : Act → World → Prop :=
  fun a w => ∃ g', (Agr N (I g') a ∧ S g' w) ∧ μ g' < μ g
theorem C.loop {γ : Type} {c : Code} (I : γ → Slots) (S : γ → World → Prop) (μ : γ → Nat) (g0 : γ) (hL : Sub (I g0) L) (h0 : S g0 w)
    (round : ∀ g w, S g w → C N P c (I g) (Exit.then (Again N I S μ g) Q) w) : C N P (.loop c) L Q w :=
  fun a ha => wp_loop_ghost (fun g a w => Agr N (I g) a ∧ S g w) μ g0 ⟨ha.sub hL, h0⟩ (fun g a w ⟨h1, h2⟩ => round g w h2 a h1)
theorem QA.again {γ : Type} {I : γ → Slots} {S : γ → World → Prop} {μ : γ → Nat} {g : γ} (g' : γ) (hL : Sub (I g') L) (h : S g' w) (hμ : μ g' < μ g) :
    QA N .normal L (Exit.then (Again N I S μ g) Q) w := fun _ ha => ⟨g', ⟨ha.sub hL, h⟩, hμ⟩
end
end Go.Proofs.Ytaaahjcldomnbaa
