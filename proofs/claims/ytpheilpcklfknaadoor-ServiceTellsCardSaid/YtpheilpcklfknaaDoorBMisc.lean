/-
  Words that the printed walks lean on. No condition.
-/
import Derived.Test.YtpheilpcklfknaaDoorBRow
namespace Go.Proofs.YtpheilpcklfknaaDoor
open Go Go.RowKit
set_option linter.unusedVariables false
set_option linter.unusedSimpArgs false
theorem sp_ret6 {A B C D E F : Type} {a a' : A} {b b' : B} {c c' : C} {d d' : D} {e e' : E} {f f' : F} (h : some (a, b, c, d, e, f) = some (a', b', c', d', e', f')) : a = a' ∧ b = b' ∧ c = c' ∧ d = d' ∧ e = e' ∧ f = f' := by simpa using h
theorem sp_ret7 {A B C D E F G : Type} {a a' : A} {b b' : B} {c c' : C} {d d' : D} {e e' : E} {f f' : F} {g g' : G} (h : some (a, b, c, d, e, f, g) = some (a', b', c', d', e', f', g')) : a = a' ∧ b = b' ∧ c = c' ∧ d = d' ∧ e = e' ∧ f = f' ∧ g = g' := by simpa using h
theorem sp_ret8 {A B C D E F G H : Type} {a a' : A} {b b' : B} {c c' : C} {d d' : D} {e e' : E} {f f' : F} {g g' : G} {h1 h' : H} (h : some (a, b, c, d, e, f, g, h1) = some (a', b', c', d', e', f', g', h')) : a = a' ∧ b = b' ∧ c = c' ∧ d = d' ∧ e = e' ∧ f = f' ∧ g = g' ∧ h1 = h' := by simpa using h
theorem sp_ret9 {T0 T1 T2 T3 T4 T5 T6 T7 T8 : Type} {a0 b0 : T0} {a1 b1 : T1} {a2 b2 : T2} {a3 b3 : T3} {a4 b4 : T4} {a5 b5 : T5} {a6 b6 : T6} {a7 b7 : T7} {a8 b8 : T8} (h : some (a0, a1, a2, a3, a4, a5, a6, a7, a8) = some (b0, b1, b2, b3, b4, b5, b6, b7, b8)) : a0 = b0 ∧ a1 = b1 ∧ a2 = b2 ∧ a3 = b3 ∧ a4 = b4 ∧ a5 = b5 ∧ a6 = b6 ∧ a7 = b7 ∧ a8 = b8 := by simpa only [Option.some.injEq, Prod.mk.injEq] using h
theorem sp_ret10 {T0 T1 T2 T3 T4 T5 T6 T7 T8 T9 : Type} {a0 b0 : T0} {a1 b1 : T1} {a2 b2 : T2} {a3 b3 : T3} {a4 b4 : T4} {a5 b5 : T5} {a6 b6 : T6} {a7 b7 : T7} {a8 b8 : T8} {a9 b9 : T9} (h : some (a0, a1, a2, a3, a4, a5, a6, a7, a8, a9) = some (b0, b1, b2, b3, b4, b5, b6, b7, b8, b9)) : a0 = b0 ∧ a1 = b1 ∧ a2 = b2 ∧ a3 = b3 ∧ a4 = b4 ∧ a5 = b5 ∧ a6 = b6 ∧ a7 = b7 ∧ a8 = b8 ∧ a9 = b9 := by simpa only [Option.some.injEq, Prod.mk.injEq] using h
theorem sp_ret11 {T0 T1 T2 T3 T4 T5 T6 T7 T8 T9 T10 : Type} {a0 b0 : T0} {a1 b1 : T1} {a2 b2 : T2} {a3 b3 : T3} {a4 b4 : T4} {a5 b5 : T5} {a6 b6 : T6} {a7 b7 : T7} {a8 b8 : T8} {a9 b9 : T9} {a10 b10 : T10} (h : some (a0, a1, a2, a3, a4, a5, a6, a7, a8, a9, a10) = some (b0, b1, b2, b3, b4, b5, b6, b7, b8, b9, b10)) : a0 = b0 ∧ a1 = b1 ∧ a2 = b2 ∧ a3 = b3 ∧ a4 = b4 ∧ a5 = b5 ∧ a6 = b6 ∧ a7 = b7 ∧ a8 = b8 ∧ a9 = b9 ∧ a10 = b10 := by simpa only [Option.some.injEq, Prod.mk.injEq] using h
theorem sp_ret12 {T0 T1 T2 T3 T4 T5 T6 T7 T8 T9 T10 T11 : Type} {a0 b0 : T0} {a1 b1 : T1} {a2 b2 : T2} {a3 b3 : T3} {a4 b4 : T4} {a5 b5 : T5} {a6 b6 : T6} {a7 b7 : T7} {a8 b8 : T8} {a9 b9 : T9} {a10 b10 : T10} {a11 b11 : T11} (h : some (a0, a1, a2, a3, a4, a5, a6, a7, a8, a9, a10, a11) = some (b0, b1, b2, b3, b4, b5, b6, b7, b8, b9, b10, b11)) : a0 = b0 ∧ a1 = b1 ∧ a2 = b2 ∧ a3 = b3 ∧ a4 = b4 ∧ a5 = b5 ∧ a6 = b6 ∧ a7 = b7 ∧ a8 = b8 ∧ a9 = b9 ∧ a10 = b10 ∧ a11 = b11 := by simpa only [Option.some.injEq, Prod.mk.injEq] using h
theorem sp_ret16 {T0 T1 T2 T3 T4 T5 T6 T7 T8 T9 T10 T11 T12 T13 T14 T15 : Type} {a0 b0 : T0} {a1 b1 : T1} {a2 b2 : T2} {a3 b3 : T3} {a4 b4 : T4} {a5 b5 : T5} {a6 b6 : T6} {a7 b7 : T7} {a8 b8 : T8} {a9 b9 : T9} {a10 b10 : T10} {a11 b11 : T11} {a12 b12 : T12} {a13 b13 : T13} {a14 b14 : T14} {a15 b15 : T15} (h : some (a0, a1, a2, a3, a4, a5, a6, a7, a8, a9, a10, a11, a12, a13, a14, a15) = some (b0, b1, b2, b3, b4, b5, b6, b7, b8, b9, b10, b11, b12, b13, b14, b15)) : a0 = b0 ∧ a1 = b1 ∧ a2 = b2 ∧ a3 = b3 ∧ a4 = b4 ∧ a5 = b5 ∧ a6 = b6 ∧ a7 = b7 ∧ a8 = b8 ∧ a9 = b9 ∧ a10 = b10 ∧ a11 = b11 ∧ a12 = b12 ∧ a13 = b13 ∧ a14 = b14 ∧ a15 = b15 := by simpa only [Option.some.injEq, Prod.mk.injEq] using h
theorem sp_ret17 {T0 T1 T2 T3 T4 T5 T6 T7 T8 T9 T10 T11 T12 T13 T14 T15 T16 : Type} {a0 b0 : T0} {a1 b1 : T1} {a2 b2 : T2} {a3 b3 : T3} {a4 b4 : T4} {a5 b5 : T5} {a6 b6 : T6} {a7 b7 : T7} {a8 b8 : T8} {a9 b9 : T9} {a10 b10 : T10} {a11 b11 : T11} {a12 b12 : T12} {a13 b13 : T13} {a14 b14 : T14} {a15 b15 : T15} {a16 b16 : T16} (h : some (a0, a1, a2, a3, a4, a5, a6, a7, a8, a9, a10, a11, a12, a13, a14, a15, a16) = some (b0, b1, b2, b3, b4, b5, b6, b7, b8, b9, b10, b11, b12, b13, b14, b15, b16)) : a0 = b0 ∧ a1 = b1 ∧ a2 = b2 ∧ a3 = b3 ∧ a4 = b4 ∧ a5 = b5 ∧ a6 = b6 ∧ a7 = b7 ∧ a8 = b8 ∧ a9 = b9 ∧ a10 = b10 ∧ a11 = b11 ∧ a12 = b12 ∧ a13 = b13 ∧ a14 = b14 ∧ a15 = b15 ∧ a16 = b16 := by simpa only [Option.some.injEq, Prod.mk.injEq] using h
theorem sp_ret18 {T0 T1 T2 T3 T4 T5 T6 T7 T8 T9 T10 T11 T12 T13 T14 T15 T16 T17 : Type} {a0 b0 : T0} {a1 b1 : T1} {a2 b2 : T2} {a3 b3 : T3} {a4 b4 : T4} {a5 b5 : T5} {a6 b6 : T6} {a7 b7 : T7} {a8 b8 : T8} {a9 b9 : T9} {a10 b10 : T10} {a11 b11 : T11} {a12 b12 : T12} {a13 b13 : T13} {a14 b14 : T14} {a15 b15 : T15} {a16 b16 : T16} {a17 b17 : T17} (h : some (a0, a1, a2, a3, a4, a5, a6, a7, a8, a9, a10, a11, a12, a13, a14, a15, a16, a17) = some (b0, b1, b2, b3, b4, b5, b6, b7, b8, b9, b10, b11, b12, b13, b14, b15, b16, b17)) : a0 = b0 ∧ a1 = b1 ∧ a2 = b2 ∧ a3 = b3 ∧ a4 = b4 ∧ a5 = b5 ∧ a6 = b6 ∧ a7 = b7 ∧ a8 = b8 ∧ a9 = b9 ∧ a10 = b10 ∧ a11 = b11 ∧ a12 = b12 ∧ a13 = b13 ∧ a14 = b14 ∧ a15 = b15 ∧ a16 = b16 ∧ a17 = b17 := by simpa only [Option.some.injEq, Prod.mk.injEq] using h
theorem sl_blk {W : Base} {w : World} {b : Nat} {cs cs' : List Value} {t : TypeId} {R : List Res} (e : cs = cs') (h : Sat W w (blk b cs t :: R)) : Sat W w (blk b cs' t :: R) := e ▸ h
theorem at?_pre {α : Type} {l l' : List α} {i : Int} {x : α} (h : at? l' i = some x) (e : l' = l.take l'.length) : l[i.toNat]? = some x := by
  have h2 := (at?_some h).2
  rw [e, List.getElem?_take] at h2
  split at h2
  · exact h2
  · cases h2
theorem str_inj {a b : List UInt8} : str a = str b ↔ a = b := by
  constructor
  · intro h
    have := congrArg (fun s => s.data.toList) h
    exact this
  · rintro rfl; rfl
theorem leaf_u8 (n : UInt8) : (Leaf.int .u8).ok (v8 n) := ⟨_, rfl, by have := toNat_u8 n; simp [Lit.wf, IntKind.min, IntKind.max, IntKind.signed, IntKind.bits]; omega⟩
theorem leaf_u16 (n : UInt16) : (Leaf.int .u16).ok (v16 n) := ⟨_, rfl, by have := toNat_u16 n; simp [Lit.wf, IntKind.min, IntKind.max, IntKind.signed, IntKind.bits]; omega⟩
theorem leaf_u32 (n : UInt32) : (Leaf.int .u32).ok (v32 n) := ⟨_, rfl, by have := toNat_u32 n; simp [Lit.wf, IntKind.min, IntKind.max, IntKind.signed, IntKind.bits]; omega⟩
theorem leaf_u64 (n : UInt64) : (Leaf.int .u64).ok (v64 n) := ⟨_, rfl, by have := toNat_u64 n; simp [Lit.wf, IntKind.min, IntKind.max, IntKind.signed, IntKind.bits]; omega⟩
theorem leaf_i64 {n : Int} (h : ok64 n) : (Leaf.int .i64).ok (vI n) := ⟨_, rfl, by unfold ok64 at h; simp [Lit.wf, IntKind.min, IntKind.max, IntKind.signed, IntKind.bits]; omega⟩
theorem leaf_str {s : List UInt8} (h : s.length ≤ maxLen) : Leaf.str.ok (.string (str s)) := ⟨_, rfl, by rw [str_size]; exact h⟩
/-- What '==' of structs and arrays wants of a type. -/
def EqT (P : Program) (t : TypeId) (ks : List Leaf) : Prop := P.eqGuardType P.depth t = false ∧ P.keyTypeAt 8 t = true ∧ leaves P 9 t = some ks ∧ P.cellsOf t = ks.length ∧ (match P.underlying t with | some (.struct _) | some (.array _ _) => true | _ => false) = true
theorem arr_inj {n : Nat} {f g : Fin n → UInt8} : f = g ↔ bytesV (List.ofFn f) = bytesV (List.ofFn g) := ⟨fun h => by rw [h], fun h => ofFn_inj'.1 (bytesV_inj h)⟩
/-- In a loop, ahead of a round. -/
def InWp (rd : Option Nat) (P : Program) (c : Code) (Q : Post) (a : Act) (w : World) : Prop := ∀ (b : Frame) (k : List Item) (cs : List Frame), b.roundOf = (modeF rd).round → (modeF rd).fn b.fn → (modeF rd).room (cs.length + 1 + 0) →
  ∃ e a' w', Q e a' w' ∧ ArrivesIn (Machine.fenced P (modeF rd)) P (lone (b.atR a (.code c :: .inLoop c :: k)) cs w) b k cs e a' w'
section
variable {rd : Option Nat} {mks : List Deferred} {N : Nat} {P : Program} {L : Slots} {Q : Post} {w : World} {c : Code}
def CIn (rd : Option Nat) (mks : List Deferred) (N : Nat) (P : Program) (c : Code) (L : Slots) (Q : Post) (w : World) : Prop := ∀ a, At mks N L a → InWp rd P c Q a w
theorem C.loop_in (h : CIn rd mks N P c L Q w) : C (rd := rd) (mks := mks) N P (.loop c) L Q w := fun a ha => by
  intro b k cs hro hb hr
  obtain ⟨e, a', w', hq, harr⟩ := h a ha b k cs hro hb hr
  exact ⟨e, a', w', hq, .of_steps (.one (fenced_calm hb hr rfl) stepR_loop) harr⟩
theorem CIn.round (h : C (rd := rd) (mks := mks) N P c L (Exit.then (fun a w => InWp rd P c Q a w) Q) w) : CIn rd mks N P c L Q w := fun a ha => by
  intro b k cs hro hb hr
  obtain ⟨e, a₁, w₁, hq, harr⟩ := h a ha b (.inLoop c :: k) cs hro hb hr
  cases e with
  | normal =>
    obtain ⟨e₂, a₂, w₂, hq₂, harr₂⟩ := hq b k cs hro hb hr
    exact ⟨e₂, a₂, w₂, hq₂, .of_steps (StepsIn.trans harr (.one (fenced_calm hb hr rfl) stepR_inLoop)) harr₂⟩
  | exit id => exact ⟨_, a₁, w₁, hq, .pass (x := .inLoop c) rfl (fun _ _ => .inl (by simp)) harr⟩
  | goto l => exact ⟨_, a₁, w₁, hq, .pass (x := .inLoop c) rfl (fun _ _ => .inl (by simp)) harr⟩
  | ret => exact ⟨_, a₁, w₁, hq, .pass (x := .inLoop c) rfl (fun _ _ => .inl (by simp)) harr⟩
  | panic ch => exact ⟨_, a₁, w₁, hq, .pass (x := .inLoop c) rfl (fun _ _ => .inl (by simp)) harr⟩
  | outgrown => exact ⟨_, a₁, w₁, hq, .pass (x := .inLoop c) rfl (fun _ _ => .inl (by simp)) harr⟩
theorem QA.in_normal (h : CIn rd mks N P c L Q w) : QA (mks := mks) N .normal L (Exit.then (fun a w => InWp rd P c Q a w) Q) w := fun a ha => h a ha
end
section
variable {Q : Post}
theorem NP.left {mks : List Deferred} {N : Nat} {γ : Type} {e : Exit} {J : γ → Slots} {S : γ → World → Prop} (he : ∀ c, Exit.panic c ≠ e) (h : NP Q) : NP (fun e' a w => (e' = e ∧ ∃ g, At mks N (J g) a ∧ S g w) ∨ (e' ≠ e ∧ Q e' a w)) := fun c a w hh => by
  rcases hh with ⟨h1, _⟩ | ⟨_, h2⟩
  · exact he c h1
  · exact h c a w h2
end
section
variable {W : Base} {w : World} {a : Option Addr} {xs : List Value}
theorem V.take (h : V W a xs) (n : Nat) : V W a (xs.take n) := by
  intro j v hj
  rw [List.getElem?_take] at hj
  split at hj
  · exact h j v hj
  · cases hj
theorem V.drop {b o : Nat} (h : V W (some ⟨b, o, none⟩) xs) (n : Nat) : V W (some ⟨b, o + n, none⟩) (xs.drop n) := by
  intro j v hj
  rw [List.getElem?_drop] at hj
  obtain ⟨b', o', e, hO, h1⟩ := h _ v hj
  cases e
  exact ⟨b, o + n, rfl, hO, by rw [Nat.add_assoc]; exact h1⟩
theorem V.span_head {k : Nat} {f : Fin k → UInt8} {r : List Value} (h : V W a (bytesV (List.ofFn f) ++ r)) : V W a (bytesV (List.ofFn f)) := by
  have := h.take k
  rwa [List.take_append_of_le_length (by simp [bytesV_length]), List.take_of_length_le (by simp [bytesV_length])] at this
theorem V.span_tail {b o k : Nat} {f : Fin k → UInt8} {r : List Value} (h : V W (some ⟨b, o, none⟩) (bytesV (List.ofFn f) ++ r)) : V W (some ⟨b, o + k, none⟩) r := by
  have := h.drop k
  rwa [List.drop_append_of_le_length (by simp [bytesV_length]), List.drop_of_length_le (by simp [bytesV_length]), List.nil_append] at this
theorem V.ones_head {l r : List Value} (h : V W a (l ++ r)) : V W a l := by
  have := h.take l.length
  rwa [List.take_left] at this
theorem V.ones_tail {b o : Nat} {l r : List Value} (h : V W (some ⟨b, o, none⟩) (l ++ r)) : V W (some ⟨b, o + l.length, none⟩) r := by
  have := h.drop l.length
  rwa [List.drop_left] at this
end
section
variable {N : Nat} {P : Program} {L : Slots} {Q : Post} {W : Base} {w : World} {ops : Array Oper} {rest : List Oper} {o : Oper} {d : Nat} {R : List Res}
variable {x y z : Operand} {v u : Value} {dst : Option Tmp} {ty : TypeId} {pos : String} {af : Array Edge} {gd : Option (Nat × Bool)} {t : TypeId}
variable {α : Type} {E : El α} {l l2 : List α} {a a2 : Option Addr} {n c c2 m : Nat}
theorem yl_cast (h : Yl N P w o L v) (e : v = u) : Yl N P w o L u := e ▸ h
theorem yl_eqB {a b : Bool} {yt : TypeId} (ht : P.underlying t = some .bool) (hx : ev L x = some (.bool a)) (hy : ev L y = some (.bool b)) :
    Yl N P w ⟨dst, .binOp .eql t x y yt, ty, pos, af, gd⟩ L (.bool (decide (a = b))) := yl_cast (yl_eq_bool ht hx hy) (by cases a <;> cases b <;> rfl)
theorem yl_neB {a b : Bool} {yt : TypeId} (ht : P.underlying t = some .bool) (hx : ev L x = some (.bool a)) (hy : ev L y = some (.bool b)) :
    Yl N P w ⟨dst, .binOp .neq t x y yt, ty, pos, af, gd⟩ L (.bool (!decide (a = b))) := yl_cast (yl_ne_bool ht hx hy) (by cases a <;> cases b <;> rfl)
theorem yl_convS {s : List UInt8} {t' : TypeId} (hs : P.underlying t' = some .string) (ht : P.underlying t = some .string) (hx : ev L x = some (.string (str s))) : Yl N P w ⟨dst, .convert t' t x, ty, pos, af, gd⟩ L (.string (str s)) := fun A hA => by
  simp [execOp, hA.eval hx, convert, run_underlying hs, run_underlying ht]
theorem yl_slA {e : TypeId} (ht : SlT P t E.s) (hx : ev L x = some (.slice a n c)) (hn : n = l.length) (hc : l.length ≤ c) :
    Yl N P w ⟨dst, .slice t x none none none, ty, pos, af, gd⟩ L (.slice a l.length c) := fun A hA => by
  subst hn
  have := run_slice_all (P := P) w t a l.length c ht.1
  simp [execOp, hA.eval hx, run_sliceAt_slice w _ _ _ _ _ ht.1, this, run_sizeOf' ht.2, sliced]
  intro _
  cases a <;> simp [Addr.add]
end
end Go.Proofs.YtpheilpcklfknaaDoor
