/-
  Words that the printed walks lean on. No condition.
-/
import Derived.Test.YtleemokneeoikaaBRow
namespace Go.Proofs.Ytleemokneeoikaa
open Go Go.RowKit
set_option linter.unusedVariables false
set_option linter.unusedSimpArgs false
theorem sp_ret7 {A B C D E F G : Type} {a a' : A} {b b' : B} {c c' : C} {d d' : D} {e e' : E} {f f' : F} {g g' : G} (h : some (a, b, c, d, e, f, g) = some (a', b', c', d', e', f', g')) : a = a' ∧ b = b' ∧ c = c' ∧ d = d' ∧ e = e' ∧ f = f' ∧ g = g' := by simpa using h
theorem sl_blk {W : Base} {w : World} {b : Nat} {cs cs' : List Value} {t : TypeId} {R : List Res} (e : cs = cs') (h : Sat W w (blk b cs t :: R)) : Sat W w (blk b cs' t :: R) := e ▸ h
theorem str_inj {a b : List UInt8} : str a = str b ↔ a = b := by
  constructor
  · intro h
    have := congrArg (fun s => s.data.toList) h
    exact this
  · rintro rfl; rfl
theorem leaf_u16 (n : UInt16) : (Leaf.int .u16).ok (v16 n) := ⟨_, rfl, by have := toNat_u16 n; simp [Lit.wf, IntKind.min, IntKind.max, IntKind.signed, IntKind.bits]; omega⟩
theorem leaf_u32 (n : UInt32) : (Leaf.int .u32).ok (v32 n) := ⟨_, rfl, by have := toNat_u32 n; simp [Lit.wf, IntKind.min, IntKind.max, IntKind.signed, IntKind.bits]; omega⟩
theorem leaf_u64 (n : UInt64) : (Leaf.int .u64).ok (v64 n) := ⟨_, rfl, by have := toNat_u64 n; simp [Lit.wf, IntKind.min, IntKind.max, IntKind.signed, IntKind.bits]; omega⟩
theorem leaf_str {s : List UInt8} (h : s.length ≤ maxLen) : Leaf.str.ok (.string (str s)) := ⟨_, rfl, by rw [str_size]; exact h⟩
/-- What '==' of structs and arrays wants of a type. -/
def EqT (P : Program) (t : TypeId) (ks : List Leaf) : Prop := P.eqGuardType P.depth t = false ∧ P.keyTypeAt 8 t = true ∧ leaves P 9 t = some ks ∧ P.cellsOf t = ks.length ∧ (match P.underlying t with | some (.struct _) | some (.array _ _) => true | _ => false) = true
theorem arr_inj {n : Nat} {f g : Fin n → UInt8} : f = g ↔ bytesV (List.ofFn f) = bytesV (List.ofFn g) := ⟨fun h => by rw [h], fun h => ofFn_inj'.1 (bytesV_inj h)⟩
/-- In a loop, ahead of a round. -/
def InWp (rd : Option Nat) (P : Program) (c : Code) (Q : Post) (a : Act) (w : World) : Prop := ∀ (b : Frame) (k : List Item) (cs : List Frame), b.roundOf = (modeF rd).round → (modeF rd).fn b.fn → (modeF rd).room (cs.length + 1 + 0) →
  ∃ e a' w', Q e a' w' ∧ ArrivesIn (Machine.fenced P (modeF rd)) P (lone (b.atR a (.code c :: .inLoop c :: k)) cs w) b k cs e a' w'
section
variable {rd : Option Nat} {mks : List Deferred} {N : Nat} {P : Program} {L : Slots} {Q : Post} {w : World} {c : Code}
def CIn (rd : Option Nat) (mks : List Deferred) (N : Nat) (P : Program) (c : Code) (L : Slots) (Q : Post) (w : World) : Prop := ∀ a, At mks N L a → InWp rd P c Q a w
theorem C.loop_in (h : CIn rd mks N P c L Q w) : C (rd := rd) (mks := mks) N P (.loop c) L Q w := fun a ha => by
  intro b k cs hro hb hr
  obtain ⟨e, a', w', hq, harr⟩ := h a ha b k cs hro hb hr
  exact ⟨e, a', w', hq, .of_steps (.one (fenced_calm hb hr rfl) stepR_loop) harr⟩
theorem CIn.round (h : C (rd := rd) (mks := mks) N P c L (Exit.then (fun a w => InWp rd P c Q a w) Q) w) : CIn rd mks N P c L Q w := fun a ha => by
  intro b k cs hro hb hr
  obtain ⟨e, a₁, w₁, hq, harr⟩ := h a ha b (.inLoop c :: k) cs hro hb hr
  cases e with
  | normal =>
    obtain ⟨e₂, a₂, w₂, hq₂, harr₂⟩ := hq b k cs hro hb hr
    exact ⟨e₂, a₂, w₂, hq₂, .of_steps (StepsIn.trans harr (.one (fenced_calm hb hr rfl) stepR_inLoop)) harr₂⟩
  | exit id => exact ⟨_, a₁, w₁, hq, .pass (x := .inLoop c) rfl (fun _ _ => .inl (by simp)) harr⟩
  | goto l => exact ⟨_, a₁, w₁, hq, .pass (x := .inLoop c) rfl (fun _ _ => .inl (by simp)) harr⟩
  | ret => exact ⟨_, a₁, w₁, hq, .pass (x := .inLoop c) rfl (fun _ _ => .inl (by simp)) harr⟩
  | panic ch => exact ⟨_, a₁, w₁, hq, .pass (x := .inLoop c) rfl (fun _ _ => .inl (by simp)) harr⟩
  | outgrown => exact ⟨_, a₁, w₁, hq, .pass (x := .inLoop c) rfl (fun _ _ => .inl (by simp)) harr⟩
theorem QA.in_normal (h : CIn rd mks N P c L Q w) : QA (mks := mks) N .normal L (Exit.then (fun a w => InWp rd P c Q a w) Q) w := fun a ha => h a ha
end
section
variable {Q : Post}
theorem NP.left {mks : List Deferred} {N : Nat} {γ : Type} {e : Exit} {J : γ → Slots} {S : γ → World → Prop} (he : ∀ c, Exit.panic c ≠ e) (h : NP Q) : NP (fun e' a w => (e' = e ∧ ∃ g, At mks N (J g) a ∧ S g w) ∨ (e' ≠ e ∧ Q e' a w)) := fun c a w hh => by
  rcases hh with ⟨h1, _⟩ | ⟨_, h2⟩
  · exact he c h1
  · exact h c a w h2
end
section
variable {W : Base} {w : World} {a : Option Addr} {xs : List Value}
theorem V.take (h : V W a xs) (n : Nat) : V W a (xs.take n) := by
  intro j v hj
  rw [List.getElem?_take] at hj
  split at hj
  · exact h j v hj
  · cases hj
theorem V.drop {b o : Nat} (h : V W (some ⟨b, o, none⟩) xs) (n : Nat) : V W (some ⟨b, o + n, none⟩) (xs.drop n) := by
  intro j v hj
  rw [List.getElem?_drop] at hj
  obtain ⟨b', o', e, hO, h1⟩ := h _ v hj
  cases e
  exact ⟨b, o + n, rfl, hO, by rw [Nat.add_assoc]; exact h1⟩
theorem V.span_head {k : Nat} {f : Fin k → UInt8} {r : List Value} (h : V W a (bytesV (List.ofFn f) ++ r)) : V W a (bytesV (List.ofFn f)) := by
  have := h.take k
  rwa [List.take_append_of_le_length (by simp [bytesV_length]), List.take_of_length_le (by simp [bytesV_length])] at this
theorem V.span_tail {b o k : Nat} {f : Fin k → UInt8} {r : List Value} (h : V W (some ⟨b, o, none⟩) (bytesV (List.ofFn f) ++ r)) : V W (some ⟨b, o + k, none⟩) r := by
  have := h.drop k
  rwa [List.drop_append_of_le_length (by simp [bytesV_length]), List.drop_of_length_le (by simp [bytesV_length]), List.nil_append] at this
theorem V.ones_head {l r : List Value} (h : V W a (l ++ r)) : V W a l := by
  have := h.take l.length
  rwa [List.take_left] at this
theorem V.ones_tail {b o : Nat} {l r : List Value} (h : V W (some ⟨b, o, none⟩) (l ++ r)) : V W (some ⟨b, o + l.length, none⟩) r := by
  have := h.drop l.length
  rwa [List.drop_left] at this
end
section
variable {N : Nat} {P : Program} {L : Slots} {Q : Post} {W : Base} {w : World} {ops : Array Oper} {rest : List Oper} {o : Oper} {d : Nat} {R : List Res}
variable {x y z : Operand} {v u : Value} {dst : Option Tmp} {ty : TypeId} {pos : String} {af : Array Edge} {gd : Option (Nat × Bool)} {t : TypeId}
variable {α : Type} {E : El α} {l l2 : List α} {a a2 : Option Addr} {n c c2 m : Nat}
end
end Go.Proofs.Ytleemokneeoikaa
