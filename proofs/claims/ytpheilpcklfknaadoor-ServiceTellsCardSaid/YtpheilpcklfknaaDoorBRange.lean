/-
  Ranges over functions: what an iterator owes, what a loop over it does; a function's way out behind such a loop. No condition.
-/
import Derived.Test.YtpheilpcklfknaaDoorBExt
import Derived.RangeFuncRecord
namespace Go.Proofs.YtpheilpcklfknaaDoor
open Go Go.RowKit
set_option linter.unusedVariables false
set_option linter.unusedSimpArgs false
/-! ### the model: a fold that may be left -/
section
variable {α σ ρ : Type} {f : σ → α → Option (σ ⊕ ρ)}
def rangeO (f : σ → α → Option (σ ⊕ ρ)) : List α → σ → Option (σ ⊕ ρ)
  | [], s => some (.inl s)
  | x :: l, s => match f s x with
    | none => none
    | some (.inl s') => rangeO f l s'
    | some (.inr r) => some (.inr r)
theorem rangeO_append : ∀ (l l' : List α) (s : σ), rangeO f (l ++ l') s = match rangeO f l s with
    | none => none
    | some (.inl s') => rangeO f l' s'
    | some (.inr r) => some (.inr r)
  | [], l', s => rfl
  | x :: l, l', s => by
    simp only [List.cons_append, rangeO]
    cases f s x with
    | none => rfl
    | some y =>
      cases y with
      | inl s' => exact rangeO_append l l' s'
      | inr r => rfl
theorem rangeO_step {items pre : List α} {x : α} {s0 s : σ} {o : σ ⊕ ρ} (hm : rangeO f items s0 = some o) (hp : pre ++ [x] <+: items) (hs : rangeO f pre s0 = some (.inl s)) :
    ∃ y, f s x = some y ∧ rangeO f (pre ++ [x]) s0 = some y ∧ ∀ r, y = .inr r → o = .inr r := by
  obtain ⟨t, rfl⟩ := hp
  rw [List.append_assoc, rangeO_append, hs] at hm
  simp only [List.singleton_append] at hm
  unfold rangeO at hm
  rw [rangeO_append, hs]
  simp only [rangeO]
  cases hf : f s x with
  | none => rw [hf] at hm; cases hm
  | some y =>
    refine ⟨y, rfl, ?_, fun r hr => ?_⟩
    · cases y <;> rfl
    · subst hr
      rw [hf] at hm
      exact (Option.some.inj hm).symm
theorem rangeO_all {items : List α} {s0 s : σ} {o : σ ⊕ ρ} (hm : rangeO f items s0 = some o) (hs : rangeO f items s0 = some (.inl s)) : o = .inl s := Option.some.inj (hm.symm.trans hs)
end
/-! ### an object that is no cells -/
def obj (b : Nat) (o : Obj) : Res := ⟨fun w S => S b ∧ w.heap[b]? = some o, fun ⟨h1, h2⟩ _ hk => ⟨h1, (hk b h1).trans h2⟩⟩
section
variable {W : Base} {w : World} {R : List Res} {b : Nat} {o : Obj}
theorem Sat.obj_at (h : Sat W w (obj b o :: R)) : w.heap[b]? = some o := by
  obtain ⟨hb, T, hT, ⟨h1, h2⟩, hl⟩ := h; exact h2
theorem ch_putObj (w : World) (b : Nat) (o : Obj) {T : Nat → Prop} (hT : T b) : Ch w (w.putObj b o) T :=
  ⟨rfl, rfl, rfl, by simp, fun k _ hk => World.putObj_heap_other (fun e => hk (by rw [e]; exact hT))⟩
theorem Sat.obj_put (h : Sat W w (obj b o :: R)) (o' : Obj) : Sat W (w.putObj b o') (obj b o' :: R) := by
  have hlt : b < w.heap.size := (Array.getElem?_eq_some_iff.1 h.obj_at).1
  exact Sat.turn (rs := [obj b o']) h fun T hT _ => ⟨ch_putObj w b o' hT.1, T, fun k hk => ⟨.inl hk, by have := (‹∀ b, T b → ¬ W.O b ∧ b < w.heap.size› k hk).2; simpa using this⟩, ⟨hT.1, World.putObj_heap_same hlt⟩, trivial⟩
theorem Sat.obj_new (h : Sat W w R) (o : Obj) : Sat W (w.alloc o) (obj w.heap.size o :: R) :=
  Sat.more (rs := [obj w.heap.size o]) h (Ch.alloc w o _) ⟨fun k => k = w.heap.size, fun k hk => ⟨by rw [hk]; exact Nat.le_refl _, by rw [hk]; simp⟩, ⟨rfl, World.alloc_heap_new w o⟩, trivial⟩
end
/-! ### a function's way in and out -/
section
variable {P : Program} {N : Nat} {L : Slots} {w : World} {mks : List Deferred} {fn : Func} {R : Ending → World → Prop} {e : Exit}
def mark (D : Nat) : Deferred := { target := .collected D, args := #[] }
theorem C.enterM {f : FuncId} {c : Code} {vs : List Value} (hf : P.funcs[f]? = some fn) (hb : fn.body = some c)
    (hn : fn.ntmps = N) (hl : Nat.ble vs.length N = true) (h : C (rd := none) (mks := []) N P c (start 0 vs) (bodyPostM (modeF none) 0 P fn R) w) : Calls P f vs.toArray w R := by
  refine callsIn_wide.1 (callsIn_of_wp_marks (F := modeF none) (n := 0) hf hb trivial (h _ ⟨⟨?_, fun t v ht => ?_⟩, rfl⟩))
  · have := Nat.le_of_ble_eq_true hl
    simp [hn]; omega
  · obtain ⟨_, h2⟩ := look_start vs 0 t v ht
    simp only [Nat.sub_zero] at h2
    have hlt : t < vs.length := (List.getElem?_eq_some_iff.1 h2).1
    have h3 : vs[t] = v := (List.getElem?_eq_some_iff.1 h2).2
    simp [Array.getD_eq_getD_getElem?, Array.getElem?_append_left (by simpa using hlt : t < vs.toArray.size), hlt, h3]
/-- The way out: what is left to do, one by one; then as ever. -/
theorem QA.out (he : e = .ret ∨ e = .normal) (h : QA (mks := []) N e L (bodyPost P fn R) w) : QA (mks := []) N e L (bodyPostM (modeF none) 0 P fn R) w := fun a ha => by
  have h1 := h a ha
  rcases he with rfl | rfl
  · simp only [bodyPostM, ha.defers, LeavesInM]
    exact h1.2
  · simp only [bodyPostM, ha.defers, LeavesInM]
    exact h1.2
theorem QA.outM {D : Nat} (he : e = .ret ∨ e = .normal) (hD : w.heap[D]? = some (.deferred (some []))) (h : QA (mks := mks) N e L (bodyPostM (modeF none) 0 P fn R) (w.putObj D (.deferred none))) :
    QA (mks := mark D :: mks) N e L (bodyPostM (modeF none) 0 P fn R) w := fun a ha => by
  have h1 := h { a with defers := mks } ⟨⟨ha.size, ha.slot⟩, rfl⟩
  rcases he with rfl | rfl
  · simp only [bodyPostM, ha.defers, LeavesInM] at h1 ⊢
    exact ⟨by simp, .inl ⟨D, _, rfl, run_takeDeferred hD, h1⟩⟩
  · simp only [bodyPostM, ha.defers, LeavesInM] at h1 ⊢
    exact ⟨by simp, .inl ⟨D, _, rfl, run_takeDeferred hD, h1⟩⟩
end
/-! ### the iterator -/
section
variable {P : Program} {N : Nat} {L : Slots} {w : World} {mks : List Deferred} {Q : Post} {ops : Array Oper} {rest : List Oper}
/-- What a round is told, and how it ends: it goes on, or it has said that no more come. B: the loop's things; X: when it was left. f: what a round does, as a function. -/
def YieldOk (P : Program) (V : Base) (l : Nat) {α σ ρ : Type} (enc : α → List Value) (f : σ → α → Option (σ ⊕ ρ)) (B : σ → Res) (X : ρ → Res) : Prop :=
  ∀ (s : σ) (x : α) (y : σ ⊕ ρ) (u : World) (l' : List Res), f s x = some y → Sat V u (B s :: l') →
    YieldAt (modeF none) 0 P l (enc x).toArray u fun e u' => (e = .returned (.bool true) ∧ ∃ s', y = .inl s' ∧ Sat V u' (B s' :: l')) ∨ (e = .returned (.bool false) ∧ ∃ r, y = .inr r ∧ Sat V u' (X r :: l'))
/-- What an iterator does with whatever its rounds do. -/
abbrev IterM (α : Type) := ∀ {σ ρ : Type}, (σ → α → Option (σ ⊕ ρ)) → σ → Option (σ ⊕ ρ)
/-- How it ends. -/
def EndOk {σ ρ : Type} (V : Base) (B : σ → Res) (X : ρ → Res) (o : σ ⊕ ρ) (u : World) : Prop := (∃ s, o = .inl s ∧ Sat V u [B s]) ∨ ∃ r, o = .inr r ∧ Sat V u [X r]
/-- An iterator is called with a loop's yield. -/
def IterOk (P : Program) (gf : FuncId) (lb : List Value) {α : Type} (enc : α → List Value) (M : IterM α) (K : List Res) (V : Base) (w : World) : Prop :=
  ∀ {σ ρ : Type} (f : σ → α → Option (σ ⊕ ρ)) (s0 : σ) (o : σ ⊕ ρ) (B : σ → Res) (X : ρ → Res) (l : Nat), M f s0 = some o → YieldOk P V l enc f B X → ∀ u, Ch w u (fun _ => False) → Sat V u (K ++ [B s0]) →
    Calls P gf (.func (.yield l) #[] #[] :: lb).toArray u (Ret fun v u' => EndOk V B X o u')
theorem G.yieldc {fo : Operand} {as : Array Operand} {ats : Array TypeId} {dst : Option Tmp} {d l : Nat} {ty : TypeId} {pos : String} {af : Array Edge} {vs : List Value} {R : Ending → World → Prop}
    (hf : ev L fo = some (.func (.yield l) #[] #[])) (ha : evs L as.toList = some vs) (hy : YieldAt (modeF none) 0 P l vs.toArray w R) (hd : dst = some d) (hN : Nat.blt d N = true)
    (k : ∀ e w', R e w' → ∃ v, e = .returned v ∧ G (rd := none) (mks := mks) N P ops rest ((d, v) :: L) Q w') :
    G (rd := none) (mks := mks) N P ops (⟨dst, .call { callee := .value fo, args := as, argTypes := ats }, ty, pos, af, none⟩ :: rest) L Q w := fun a ha' => by
  obtain ⟨fn, tmps, assign, body, h1, h2⟩ := hy
  unfold wpListIn
  rw [if_pos (by simp [Region.wanted])]
  refine ⟨fun f _ => trivial, ?_⟩
  have h3 : as.map a.eval = vs.toArray := by apply Array.ext'; rw [Array.toList_map, ha'.toAgr.evals ha]
  have h4 : (Oper.semAt (modeF none).round a.eval ⟨dst, .call { callee := .value fo, args := as, argTypes := ats }, ty, pos, af, none⟩).run P w = .ok (.round l fn tmps assign body) w := by
    rw [Oper.semAt_eq _ _ _ (by intro c h; cases h)]
    simp only [execOp, resolve, h3, ha'.toAgr.eval hf, Deferred.ofValue, Sem.run_bind, Sem.run_pure, Result.andThen_ok, invoke, h1]
    simpa [Result.andThen] using h1
  rw [h4]
  refine ⟨(by intro h; cases h), h2.mono ?_⟩
  intro e w' he
  obtain ⟨v, rfl, h5⟩ := k e w' he
  subst hd
  exact h5 _ (ha'.put hN v)
/-- A yield that goes on; one that says that no more come. -/
theorem G.yield_go {α σ ρ : Type} {enc : α → List Value} {f : σ → α → Option (σ ⊕ ρ)} {B : σ → Res} {X : ρ → Res} {V : Base} {s s' : σ} {x : α} {l' : List Res} {fo : Operand} {as : Array Operand} {ats : Array TypeId} {dst : Option Tmp} {d l : Nat} {ty : TypeId} {pos : String} {af : Array Edge}
    (hy : YieldOk P V l enc f B X) (hf : ev L fo = some (.func (.yield l) #[] #[])) (ha : evs L as.toList = some (enc x)) (hx : f s x = some (.inl s')) (h : Sat V w (B s :: l')) (hd : dst = some d) (hN : Nat.blt d N = true)
    (k : ∀ w', Sat V w' (B s' :: l') → G (rd := none) (mks := mks) N P ops rest ((d, .bool true) :: L) Q w') :
    G (rd := none) (mks := mks) N P ops (⟨dst, .call { callee := .value fo, args := as, argTypes := ats }, ty, pos, af, none⟩ :: rest) L Q w :=
  G.yieldc hf ha (hy s x _ w l' hx h) hd hN fun e w' he => by
    rcases he with ⟨rfl, z, e, h2⟩ | ⟨_, r, e, _⟩
    · cases e; exact ⟨_, rfl, k w' h2⟩
    · cases e
theorem G.yield_stop {α σ ρ : Type} {enc : α → List Value} {f : σ → α → Option (σ ⊕ ρ)} {B : σ → Res} {X : ρ → Res} {V : Base} {s : σ} {r : ρ} {x : α} {l' : List Res} {fo : Operand} {as : Array Operand} {ats : Array TypeId} {dst : Option Tmp} {d l : Nat} {ty : TypeId} {pos : String} {af : Array Edge}
    (hy : YieldOk P V l enc f B X) (hf : ev L fo = some (.func (.yield l) #[] #[])) (ha : evs L as.toList = some (enc x)) (hx : f s x = some (.inr r)) (h : Sat V w (B s :: l')) (hd : dst = some d) (hN : Nat.blt d N = true)
    (k : ∀ w', Sat V w' (X r :: l') → G (rd := none) (mks := mks) N P ops rest ((d, .bool false) :: L) Q w') :
    G (rd := none) (mks := mks) N P ops (⟨dst, .call { callee := .value fo, args := as, argTypes := ats }, ty, pos, af, none⟩ :: rest) L Q w :=
  G.yieldc hf ha (hy s x _ w l' hx h) hd hN fun e w' he => by
    rcases he with ⟨_, z, e, _⟩ | ⟨rfl, z, e, h2⟩
    · cases e
    · cases e; exact ⟨_, rfl, k w' h2⟩
theorem Sat.one {W : Base} {w : World} {a : Res} {l : List Res} (h : Sat W w (a :: l)) : Sat W w [a] := by
  obtain ⟨hb, T, hT, ho, _⟩ := h; exact ⟨hb, T, hT, ho, trivial⟩
end
/-! ### the loop -/
theorem SatIn.perm {w : World} {l l' : List Res} (hp : l.Perm l') : ∀ {S : Nat → Prop}, SatIn w S l → SatIn w S l' := by
  induction hp with
  | nil => exact fun h => h
  | cons x _ ih => exact fun ⟨T, hT, ho, hl⟩ => ⟨T, hT, ho, ih hl⟩
  | swap x y l => exact fun h => SatIn.swap h
  | trans _ _ ih1 ih2 => exact fun h => ih2 (ih1 h)
theorem Sat.perm {W : Base} {w : World} {l l' : List Res} (h : Sat W w l) (hp : l.Perm l') : Sat W w l' := ⟨h.below, h.own.perm hp⟩
theorem Sat.shut_tail {W : Base} {w : World} {A l : List Res} (h : Sat W w (A ++ l)) : Sat W w (A ++ [Res.sep l]) :=
  (Sat.sep_shut (rs := l) (l := A) (h.perm List.perm_append_comm)).perm (List.perm_append_singleton _ _).symm
theorem Sat.open_tail {W : Base} {w : World} {A l : List Res} (h : Sat W w (A ++ [Res.sep l])) : Sat W w (A ++ l) :=
  (Sat.sep_open (rs := l) (l := A) (h.perm (List.perm_append_singleton _ _))).perm List.perm_append_comm
/-- The code of a jump that leaves a round. -/
def jumpC : Exit → Option Code
  | .ret => some .ret
  | .exit id => some (.exit id)
  | .goto t => some (.goto t)
  | _ => none
/-- The slots of a round: what has come is in its places. -/
def zl : List Tmp → List Value → Slots → Slots
  | p :: ps, v :: vs, L => zl ps vs ((p, v) :: L)
  | _, _, L => L
theorem At.zl {mks : List Deferred} {N : Nat} : ∀ (ps : List Tmp) (vs : List Value) {L : Slots} {t : Array Value} {ds : List Deferred}, At mks N L { tmps := t, defers := ds } → ps.all (fun p => Nat.blt p N) = true →
    At mks N (zl ps vs L) { tmps := (ps.zip vs).foldl (fun t (p, v) => t.setIfInBounds p v) t, defers := ds }
  | [], vs, L, t, ds, h, _ => h
  | p :: ps, [], L, t, ds, h, _ => h
  | p :: ps, v :: vs, L, t, ds, h, hN => by
    rw [List.all_cons, Bool.and_eq_true] at hN
    exact At.zl ps vs (h.put hN.1 v) hN.2
section
variable {P : Program} {N : Nat} {L : Slots} {w : World} {mks : List Deferred} {Q : Post} {W : Base}
variable {α σ ρ γ δ : Type} {g : Operand} {ps : Array Tmp} {assign body : Code} {gf : FuncId} {lb : List Value} {M : IterM α} {enc : α → List Value} {f : σ → α → Option (σ ⊕ ρ)} {s0 : σ} {o : σ ⊕ ρ} {K l : List Res}
/-- How a round's body is left. γ: what goes on from round to round (st: its part in the model); δ: what is there where the loop is left (ox: its part in the model; jc: by which jump). -/
def RoundQ (V : Base) (I : γ → List Res) (FI : γ → Prop) (st : γ → σ) (X : δ → List Res) (FX : δ → Prop) (ox : δ → ρ) (jc : δ → Exit) (l' : List Res) (y : σ ⊕ ρ) : Post := fun e _ u =>
  (e = .normal ∧ ∃ g', y = .inl (st g') ∧ FI g' ∧ Sat V u (I g' ++ l')) ∨ (∃ r, y = .inr (ox r) ∧ FX r ∧ e = jc r ∧ (jumpC e).isSome = true ∧ Sat V u (X r ++ l'))
theorem C.rangeFunc (I : γ → List Res) (FI : γ → Prop) (st : γ → σ) (X : δ → List Res) (FX : δ → Prop) (ox : δ → ρ) (jc : δ → Exit) (La : α → Slots) (g0 : γ) (hm : M f (st g0) = some o) (hf0 : FI g0)
    (hg : ev L g = some (.func (.func gf) #[] lb.toArray)) (eg : Enters P gf) (h : Sat W w (K ++ (I g0 ++ l)))
    (it : ∀ V w1, Sees W V w1 → Ch w w1 (fun _ => False) → IterOk P gf lb enc M K V w1)
    (hps : ∀ x, (enc x).length = ps.size) (hN : ps.toList.all (fun p => Nat.blt p N) = true)
    (hass : ∀ rd x u, C (rd := some rd) (mks := []) N P assign (zl ps.toList (enc x) L) (fun e a' u' => e = .normal ∧ At [] N (La x) a' ∧ u' = u) u)
    (round : ∀ V w1, Sees W V w1 → ∀ rd s x y u (R' : Res), FI s → Sat V u (I s ++ [R']) → f (st s) x = some y → C (rd := some rd) (mks := []) N P body (La x) (RoundQ V I FI st X FX ox jc [R'] y) u)
    (done : ∀ D s w', o = .inl (st s) → FI s → Sat W w' (obj D (.deferred (some [])) :: (I s ++ l)) → QA (mks := mark D :: mks) N .normal L Q w')
    (stop : ∀ D r w', o = .inr (ox r) → FX r → Sat W w' (obj D (.deferred (some [])) :: (X r ++ l)) → QA (mks := mark D :: mks) N (jc r) L Q w') :
    C (rd := none) (mks := mks) N P (.rangeFunc g ps assign body) L Q w := fun a ha => by
  refine wpIn_rangeFunc ?_
  intro fn hfn
  obtain ⟨rec, hrec⟩ : ∃ rec : LoopState → Option Code → Loop, rec = fun st pe => { state := st, pending := pe, fn, tmps := a.tmps, params := ps, assign, body, defers := w.heap.size } := ⟨_, rfl⟩
  have hsz : (w.alloc (.deferred (some []))).heap.size = w.heap.size + 1 := World.size_alloc _ _
  have h1 : Sat W ((w.alloc (.deferred (some []))).alloc (.loop (rec .ready none))) (obj (w.heap.size + 1) (.loop (rec .ready none)) :: obj w.heap.size (.deferred (some [])) :: (K ++ (I g0 ++ l))) := by
    have := (h.obj_new (.deferred (some []))).obj_new (.loop (rec .ready none))
    rwa [hsz] at this
  have hch : Ch w ((w.alloc (.deferred (some []))).alloc (.loop (rec .ready none))) (fun _ => False) := (Ch.alloc w _ _).trans (Ch.alloc _ _ _)
  obtain ⟨W1, hW1⟩ : ∃ W1, (w.alloc (.deferred (some []))).alloc (.loop (rec .ready none)) = W1 := ⟨_, rfl⟩
  rw [hW1] at h1 hch
  obtain ⟨D, hD⟩ : ∃ D, w.heap.size = D := ⟨_, rfl⟩
  rw [hD] at h1
  -- the loop's things, as the iterator's rounds hand them on
  obtain ⟨B, hB⟩ : ∃ B : σ → Res, B = fun s => Res.ex fun g : γ => Res.pre (st g = s ∧ FI g) (Res.sep (obj (D + 1) (.loop (rec .ready none)) :: obj D (.deferred (some [])) :: I g)) := ⟨_, rfl⟩
  obtain ⟨X', hX'⟩ : ∃ X' : ρ → Res, X' = fun r => Res.ex fun d : δ => Res.pre (ox d = r ∧ FX d ∧ (jumpC (jc d)).isSome = true) (Res.sep (obj (D + 1) (.loop (rec .done (jumpC (jc d)))) :: obj D (.deferred (some [])) :: X d)) := ⟨_, rfl⟩
  have h2 : Sat W W1 ((K ++ [B (st g0)]) ++ l) := by
    have h3 : Sat W W1 ((obj (D + 1) (.loop (rec .ready none)) :: obj D (.deferred (some [])) :: I g0) ++ (K ++ l)) := h1.perm (by
      refine List.Perm.cons _ (List.Perm.cons _ ?_)
      show (K ++ (I g0 ++ l)).Perm (I g0 ++ (K ++ l))
      rw [← List.append_assoc, ← List.append_assoc]
      exact List.Perm.append_right l List.perm_append_comm)
    have h4 : Sat W W1 (B (st g0) :: (K ++ l)) := by rw [hB]; exact Sat.ex_shut g0 (Sat.pre_shut ⟨rfl, hf0⟩ (Sat.sep_shut h3))
    exact h4.perm (by
      rw [List.append_assoc]
      exact List.perm_middle.symm)
  obtain ⟨V, hVw, hV, hrest, hsees, hback⟩ := Sat.call h2
  refine ⟨D + 1, [mark D], W1, { target := .fn (.func gf) lb.toArray, args := #[.func (.yield (D + 1)) #[] #[]] }, W1, gf, #[.func (.yield (D + 1)) #[] #[]] ++ lb.toArray, W1, ?_, ?_, ?_, ?_, (by intro h; cases h), ?_⟩
  · rw [← hW1, hrec, ← hD]; exact run_enterLoop_outer _ _ _ _ _
  · simp only [resolve, ha.toAgr.eval hg]
    simp [go_sem]
  · intro f' hf'; exact trivial
  · simp [invoke, go_sem, eg _ _]
  have hyield : YieldOk P V (D + 1) enc f B X' := by
    intro z x y u l' hy1 hs
    rw [hB] at hs
    obtain ⟨s, hs⟩ := Sat.ex_open hs
    obtain ⟨⟨hz, hfi⟩, hs1⟩ := Sat.pre_open hs
    subst hz
    have hs := Sat.sep_open hs1
    have hl : u.heap[D + 1]? = some (.loop (rec .ready none)) := hs.obj_at
    have hrun := run_yield (P := P) (args := (enc x).toArray) hl (by rw [hrec]; simpa using hps x)
    rw [hrec] at hrun
    refine ⟨fn, _, assign, body, hrun, roundIn_of_wpIn trivial ?_⟩
    have hz : At [] N (zl ps.toList (enc x) L) { tmps := (ps.zip (enc x).toArray).foldl (fun t (p, v) => t.setIfInBounds p v) a.tmps, defers := [] } := by
      have := At.zl (mks := []) (N := N) ps.toList (enc x) (L := L) (t := a.tmps) (ds := []) ⟨⟨ha.size, ha.slot⟩, rfl⟩ hN
      have e : (ps.zip (enc x).toArray).foldl (fun t (p, v) => t.setIfInBounds p v) a.tmps = (ps.toList.zip (enc x)).foldl (fun t (p, v) => t.setIfInBounds p v) a.tmps := by
        rw [← Array.foldl_toList, Array.toList_zip]
      rw [e]; exact this
    refine wpIn_mono (hass (D + 1) x u _ hz) ?_
    rintro e a1 u' ⟨rfl, hat, rfl⟩
    refine ⟨_, run_beginRound hl (by rw [hrec]), ?_⟩
    have hs2 := hs.obj_put (.loop { rec .ready none with state := .busy })
    have hs3 : Sat V (u'.putObj (D + 1) (.loop { rec .ready none with state := .busy })) (I s ++ (obj (D + 1) (.loop { rec .ready none with state := .busy }) :: obj D (.deferred (some [])) :: l')) := hs2.perm (by
      refine (List.perm_append_comm (l₁ := [obj (D + 1) (.loop { rec .ready none with state := .busy }), obj D (.deferred (some []))]) (l₂ := I s)).append_right l' |>.trans ?_
      rw [List.append_assoc]; exact List.Perm.refl _)
    refine wpIn_mono (round V W1 hsees (D + 1) s x y _ _ hfi hs3.shut_tail hy1 a1 hat) ?_
    have back : ∀ (J : List Res) {u3 : World}, Sat V u3 (J ++ (obj (D + 1) (.loop { rec .ready none with state := .busy }) :: obj D (.deferred (some [])) :: l')) → Sat V u3 (obj (D + 1) (.loop { rec .ready none with state := .busy }) :: obj D (.deferred (some [])) :: (J ++ l')) := fun J u3 h => h.perm (by
      refine List.Perm.trans ?_ ((List.perm_append_comm (l₁ := J) (l₂ := [obj (D + 1) (.loop { rec .ready none with state := .busy }), obj D (.deferred (some []))])).append_right l')
      rw [List.append_assoc]; exact List.Perm.refl _)
    have fin : ∀ (J : List Res) (jump : Option Code) {u3 : World}, Sat V u3 (J ++ (obj (D + 1) (.loop { rec .ready none with state := .busy }) :: obj D (.deferred (some [])) :: l')) →
        ∃ u4, (Instr.endRound (D + 1) jump).run P u3 = .ok (.bool jump.isNone) u4 ∧ Sat V u4 (Res.sep (obj (D + 1) (.loop (rec (if jump.isNone then .ready else .done) jump)) :: obj D (.deferred (some [])) :: J) :: l') := fun J jump u3 h => by
      have h5 := back J h
      refine ⟨_, run_endRound jump h5.obj_at, ?_⟩
      have h6 := h5.obj_put (.loop (rec (if jump.isNone then .ready else .done) jump))
      rw [hrec] at h6 ⊢
      exact Sat.sep_shut (rs := obj (D + 1) _ :: obj D (.deferred (some [])) :: J) h6
    rintro e a3 u3 (⟨rfl, s', rfl, hfs, hsat⟩ | ⟨r, rfl, hfx, he, hj, hsat⟩)
    · obtain ⟨u4, hr4, hs4⟩ := fin _ none hsat.open_tail
      refine ⟨_, u4, hr4, .inl ⟨rfl, _, rfl, ?_⟩⟩
      rw [hB]
      exact Sat.ex_shut s' (Sat.pre_shut ⟨rfl, hfs⟩ hs4)
    · cases e with
      | ret =>
        obtain ⟨u4, hr4, hs4⟩ := fin _ (some .ret) hsat.open_tail
        refine ⟨_, u4, hr4, .inr ⟨rfl, _, rfl, ?_⟩⟩
        rw [hX']
        exact Sat.ex_shut r (Sat.pre_shut ⟨rfl, hfx, by rw [← he]; rfl⟩ (by rw [← he]; exact hs4))
      | exit id =>
        obtain ⟨u4, hr4, hs4⟩ := fin _ (some (.exit id)) hsat.open_tail
        refine ⟨_, u4, hr4, .inr ⟨rfl, _, rfl, ?_⟩⟩
        rw [hX']
        exact Sat.ex_shut r (Sat.pre_shut ⟨rfl, hfx, by rw [← he]; rfl⟩ (by rw [← he]; exact hs4))
      | goto t =>
        obtain ⟨u4, hr4, hs4⟩ := fin _ (some (.goto t)) hsat.open_tail
        refine ⟨_, u4, hr4, .inr ⟨rfl, _, rfl, ?_⟩⟩
        rw [hX']
        exact Sat.ex_shut r (Sat.pre_shut ⟨rfl, hfx, by rw [← he]; rfl⟩ (by rw [← he]; exact hs4))
      | normal => cases hj
      | panic c => cases hj
      | outgrown => cases hj
  have hat : At (mark D :: mks) N L { a with defers := [mark D] ++ a.defers } := ⟨⟨ha.size, ha.slot⟩, by rw [ha.defers]; rfl⟩
  have hcall := it V W1 hsees hch f (st g0) o B X' (D + 1) hm hyield W1 (Ch.refl _ _) hV
  have hargs : (#[.func (.yield (D + 1)) #[] #[]] ++ lb.toArray : Array Value) = (.func (.yield (D + 1)) #[] #[] :: lb).toArray := by apply Array.ext'; simp
  rw [hargs]
  refine callsIn_wide.2 (hcall.mono ?_)
  intro e W2 he
  cases e with
  | panicked c => exact he.elim
  | outgrown => exact he.elim
  | returned v =>
    rcases he with ⟨z, hr, he⟩ | ⟨z, hr, he⟩
    · have h5 := hback he
      rw [hB] at h5
      obtain ⟨s, h5⟩ := Sat.ex_open h5
      obtain ⟨⟨hz, hfs⟩, h5a⟩ := Sat.pre_open h5
      subst hz
      have h5 := Sat.sep_open h5a
      refine ⟨none, _, by have := run_endLoop (P := P) h5.obj_at (by rw [hrec]; simp); rw [hrec] at this; exact this, ?_⟩
      exact done D s _ hr hfs (h5.obj_put _).tail _ hat
    · have h5 := hback he
      rw [hX'] at h5
      obtain ⟨r, h5⟩ := Sat.ex_open h5
      obtain ⟨⟨hz, hfx, hj⟩, h5a⟩ := Sat.pre_open h5
      subst hz
      have h5 := Sat.sep_open h5a
      have h6 := stop D r _ hr hfx (h5.obj_put (.loop { rec .done (jumpC (jc r)) with state := .exhausted })).tail _ hat
      refine ⟨jumpC (jc r), _, by have := run_endLoop (P := P) h5.obj_at (by rw [hrec]; simp); rw [hrec] at this; exact this, ?_⟩
      rw [hrec] at h6
      revert h6 hj
      cases jc r with
      | ret => exact fun _ h6 => wpIn_ret h6
      | exit id => exact fun _ h6 => wpIn_exit h6
      | goto t => exact fun _ h6 => wpIn_goto h6
      | normal => exact fun hj _ => by cases hj
      | panic c => exact fun hj _ => by cases hj
      | outgrown => exact fun hj _ => by cases hj
end
end Go.Proofs.YtpheilpcklfknaaDoor
