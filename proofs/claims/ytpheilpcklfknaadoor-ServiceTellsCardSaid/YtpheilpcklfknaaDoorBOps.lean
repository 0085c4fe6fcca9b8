/-
  One rule for each operation, over slots that are known and resources that lie apart. No condition.
-/
import Derived.Test.YtpheilpcklfknaaDoorBWorld
namespace Go.Proofs.YtpheilpcklfknaaDoor
open Go Go.RowKit
set_option linter.unusedVariables false
set_option linter.unusedSimpArgs false

/-! ### an operation that yields a value and leaves the world alone · one that does something -/
def Yl (N : Nat) (P : Program) (w : World) (o : Oper) (L : Slots) (v : Value) : Prop := ∀ a, Agr N L a → (execOp a.eval o).run P w = .ok (.value v) w
def Does (N : Nat) (P : Program) (w : World) (o : Oper) (L : Slots) (Φ : Value → World → Prop) : Prop :=
  ∀ a, Agr N L a → ∀ (K : Act → World → Prop) (Q : Post), (∀ v w', Φ v w' → K (a.put o.dst v) w') → o.wp P a w K Q
/-- No statement that puts a call off. -/
def Op.now : Op → Bool
  | .defer _ => false
  | _ => true
theorem Op.now_spec {op : Op} (h : Op.now op = true) : ∀ c, op ≠ .defer c := fun c e => by subst e; cases h
section
variable {rd : Option Nat} {mks : List Deferred} {N : Nat} {P : Program} {L : Slots} {Q : Post} {w : World} {ops : Array Oper} {rest : List Oper} {o : Oper} {d : Nat}
/-- What runs in a function's own frame runs so in a round. -/
theorem opIn {a : Act} {K : Act → World → Prop} (hd : ∀ c, o.op ≠ .defer c) (h : o.wp P a w K Q) : o.wpIn (modeF rd) 0 P a w K Q := by
  refine ⟨fun f _ => trivial, ?_⟩
  rw [Oper.semAt_eq _ _ _ hd]
  unfold Oper.wp at h
  generalize (execOp a.eval o).run P w = r at h ⊢
  cases r with
  | ok x w' =>
    cases x with
    | value v => exact h
    | skip => exact h
    | defer d => exact h
    | enter f args => exact ⟨(by intro h'; cases h'), (by cases rd <;> exact callsIn_wide.2 h)⟩
    | row n args => exact ⟨(by intro h'; cases h'), (by cases rd <;> exact fun c cs _ => let ⟨v, w'', r, s⟩ := h c cs; ⟨v, w'', r, stepsIn_wide.2 s⟩)⟩
    | _ => exact h.elim
  | halt x w' => cases x <;> first | exact h | exact h.elim
theorem listIn {a : Act} (hg : o.guard = none) (hd : ∀ c, o.op ≠ .defer c) (h : ∀ K : Act → World → Prop, (∀ a' w', wpListIn (modeF rd) 0 P ops Q rest a' w' → K a' w') → o.wp P a w K Q) : wpListIn (modeF rd) 0 P ops Q (o :: rest) a w := by
  unfold wpListIn
  rw [if_pos (by simp [Region.wanted, hg])]
  exact opIn hd (h _ fun _ _ h => h)
theorem Yl.now {v : Value} {a : Act} (ha : Agr N L a) (h : Yl N P w o L v) : ∀ c, o.op ≠ .defer c := fun c e => by
  have h1 := h a ha
  unfold execOp at h1
  rw [e] at h1
  simp only [Sem.run_bind] at h1
  cases hr : (resolve a.eval c o.type).run P w with
  | ok x w' => rw [hr] at h1; simp [Result.andThen] at h1
  | halt x w' => rw [hr] at h1; simp [Result.andThen] at h1
theorem Yl.does {v : Value} (h : Yl N P w o L v) : Does N P w o L (fun u w' => u = v ∧ w' = w) := fun a ha K Q hK => by
  unfold Oper.wp; rw [h a ha]; exact hK _ _ ⟨rfl, rfl⟩
theorem G.yl {v : Value} (h : Yl N P w o L v) (hg : o.guard = none) (hd : o.dst = some d) (hN : Nat.blt d N = true) (k : G (rd := rd) (mks := mks) N P ops rest ((d, v) :: L) Q w) : G (rd := rd) (mks := mks) N P ops (o :: rest) L Q w :=
  fun a ha => listIn hg (h.now ha.toAgr) fun K hK => h.does a ha.toAgr K Q (fun v' w' e => by obtain ⟨rfl, rfl⟩ := e; rw [hd]; exact hK _ _ (k _ (ha.put hN _)))
theorem G.does {Φ : Value → World → Prop} (h : Does N P w o L Φ) (hg : o.guard = none) (hd : o.dst = some d) (hN : Nat.blt d N = true)
    (k : ∀ v w', Φ v w' → G (rd := rd) (mks := mks) N P ops rest ((d, v) :: L) Q w') (hnow : Op.now o.op = true := by rfl) : G (rd := rd) (mks := mks) N P ops (o :: rest) L Q w :=
  fun a ha => listIn hg (Op.now_spec hnow) fun K hK => h a ha.toAgr K Q (fun v' w' e => by rw [hd]; exact hK _ _ (k _ _ e _ (ha.put hN _)))
theorem G.unit {Φ : Value → World → Prop} (h : Does N P w o L Φ) (hg : o.guard = none) (hd : o.dst = none)
    (k : ∀ v w', Φ v w' → G (rd := rd) (mks := mks) N P ops rest L Q w') (hnow : Op.now o.op = true := by rfl) : G (rd := rd) (mks := mks) N P ops (o :: rest) L Q w :=
  fun a ha => listIn hg (Op.now_spec hnow) fun K hK => h a ha.toAgr K Q (fun v' w' e => by rw [hd]; exact hK _ _ (k _ _ e _ ha))
/-- What has no guard, in the place of the same with one. -/
def Oper.bare (o : Oper) : Oper := ⟨o.dst, o.op, o.type, o.pos, o.after, none⟩
theorem yielded_of {j dj : Nat} {a : Act} {b : Bool} (ha : Agr N L a) (hj : (ops[j]?).bind (·.dst) = some dj) (hl : look L dj = some (.bool b)) : yielded ops a.tmps j = some b := by
  have h := ha.slot _ _ hl
  have h2 : a.tmps[dj]? = some (.bool b) := by
    rw [Array.getD_eq_getD_getElem?] at h
    cases hh : a.tmps[dj]? with
    | none => rw [hh] at h; simp [undef] at h
    | some x => rw [hh] at h; simp at h; rw [h]
  unfold yielded
  rw [hj]
  simp [h2]
theorem G.on {j dj : Nat} {want b : Bool} {dst : Option Tmp} {op : Op} {ty : TypeId} {pos : String} {af : Array Edge} (hj : (ops[j]?).bind (·.dst) = some dj) (hl : look L dj = some (.bool b)) (hb : b = want)
    (k : G (rd := rd) (mks := mks) N P ops (⟨dst, op, ty, pos, af, none⟩ :: rest) L Q w) : G (rd := rd) (mks := mks) N P ops (⟨dst, op, ty, pos, af, some (j, want)⟩ :: rest) L Q w := fun a ha => by
  have h := k a ha
  unfold wpListIn at h ⊢
  rw [if_pos (by simp [Region.wanted])] at h
  rw [if_pos (by simp [Region.wanted, yielded_of ha.toAgr hj hl, hb])]
  exact h
theorem G.off {j dj : Nat} {want b : Bool} {op : Op} {ty : TypeId} {pos : String} {af : Array Edge} (hj : (ops[j]?).bind (·.dst) = some dj) (hl : look L dj = some (.bool b)) (hb : b = !want)
    (hd : look L d = none) (k : G (rd := rd) (mks := mks) N P ops rest L Q w) : G (rd := rd) (mks := mks) N P ops (⟨some d, op, ty, pos, af, some (j, want)⟩ :: rest) L Q w := fun a ha => by
  unfold wpListIn
  rw [if_neg (by simp [Region.wanted, yielded_of ha.toAgr hj hl, hb])]
  exact ⟨fun _ _ => trivial, k _ (ha.skip hd _)⟩
/-- The guard's own operation was passed over: so is this. -/
theorem yielded_undef {j dj : Nat} {a : Act} (ha : Agr N L a) (hj : (ops[j]?).bind (·.dst) = some dj) (hl : look L dj = some undef) : yielded ops a.tmps j = none := by
  have h := ha.slot _ _ hl
  unfold yielded
  rw [hj]
  rw [Array.getD_eq_getD_getElem?] at h
  cases hh : a.tmps[dj]? with
  | none => simp [hh]
  | some x => rw [hh] at h; simp at h; simp [hh, h, undef]
theorem G.offU {j dj : Nat} {want b : Bool} {op : Op} {ty : TypeId} {pos : String} {af : Array Edge} (hj : (ops[j]?).bind (·.dst) = some dj) (hl : look L dj = some (.bool b)) (hb : b = !want)
    (hN : Nat.blt d N = true) (k : G (rd := rd) (mks := mks) N P ops rest ((d, undef) :: L) Q w) : G (rd := rd) (mks := mks) N P ops (⟨some d, op, ty, pos, af, some (j, want)⟩ :: rest) L Q w := fun a ha => by
  unfold wpListIn
  rw [if_neg (by simp [Region.wanted, yielded_of ha.toAgr hj hl, hb])]
  exact ⟨fun _ _ => trivial, k _ (ha.put hN _)⟩
theorem G.offUU {j dj : Nat} {want : Bool} {op : Op} {ty : TypeId} {pos : String} {af : Array Edge} (hj : (ops[j]?).bind (·.dst) = some dj) (hl : look L dj = some undef)
    (hN : Nat.blt d N = true) (k : G (rd := rd) (mks := mks) N P ops rest ((d, undef) :: L) Q w) : G (rd := rd) (mks := mks) N P ops (⟨some d, op, ty, pos, af, some (j, want)⟩ :: rest) L Q w := fun a ha => by
  unfold wpListIn
  rw [if_neg (by simp [Region.wanted, yielded_undef ha.toAgr hj hl])]
  exact ⟨fun _ _ => trivial, k _ (ha.put hN _)⟩

variable {x y z : Operand} {v u : Value} {dst : Option Tmp} {ty : TypeId} {pos : String} {af : Array Edge} {gd : Option (Nat × Bool)} {t : TypeId}
theorem yl_move (hx : ev L x = some v) : Yl N P w ⟨dst, .move x, ty, pos, af, gd⟩ L v := fun a ha => by simp [execOp, ha.eval hx]
theorem yl_assign (hx : ev L x = some v) : Yl N P w ⟨dst, .assign x, ty, pos, af, gd⟩ L v := fun a ha => by simp [execOp, ha.eval hx]
theorem yl_pick_t {b : Bool} (hc : ev L x = some (.bool b)) (hb : b = true) (hy : ev L y = some v) : Yl N P w ⟨dst, .pick x y z, ty, pos, af, gd⟩ L v := fun a ha => by
  simp [execOp, ha.eval hc, ha.eval hy, asBool, hb]
theorem yl_pick_f {b : Bool} (hc : ev L x = some (.bool b)) (hb : b = false) (hz : ev L z = some v) : Yl N P w ⟨dst, .pick x y z, ty, pos, af, gd⟩ L v := fun a ha => by
  simp [execOp, ha.eval hc, ha.eval hz, asBool, hb]
theorem yl_nilCheck {p : Addr} (hx : ev L x = some (.pointer (some p))) : Yl N P w ⟨dst, .nilCheck x, ty, pos, af, gd⟩ L (.pointer (some p)) := fun a ha => by
  simp [execOp, ha.eval hx]

def icmp (op : BinOp) (a b : Int) : Option Bool :=
  match op with
  | .eql => some (a == b)
  | .neq => some (a != b)
  | .lss => some (decide (a < b))
  | .leq => some (decide (a ≤ b))
  | .gtr => some (decide (a > b))
  | .geq => some (decide (a ≥ b))
  | _ => none
theorem yl_cmp {op : BinOp} {k : IntKind} {a b : Int} {r : Bool} {yt : TypeId} (hx : ev L x = some (.int k a)) (hy : ev L y = some (.int k b)) (hr : icmp op a b = some r) :
    Yl N P w ⟨dst, .binOp op t x y yt, ty, pos, af, gd⟩ L (.bool r) := fun c hc => by
  cases op <;> simp only [icmp, Option.some.injEq, reduceCtorEq] at hr <;> simp [execOp, hc.eval hx, hc.eval hy, binOp, Op.intCmp, eqGuard, hr]
/-- The result of a sum, a difference, a product, as the kind bears it. -/
def iar (op : BinOp) (k : IntKind) (a b : Int) : Option Int :=
  match op with
  | .add => some (k.wrap (a + b))
  | .sub => some (k.wrap (a - b))
  | .mul => some (k.wrap (a * b))
  | _ => none
theorem yl_arith {op : BinOp} {k : IntKind} {a b r : Int} {yt : TypeId} (hx : ev L x = some (.int k a)) (hy : ev L y = some (.int k b)) (hr : iar op k a b = some r) :
    Yl N P w ⟨dst, .binOp op t x y yt, ty, pos, af, gd⟩ L (.int k r) := fun c hc => by
  cases op <;> simp only [iar, Option.some.injEq, reduceCtorEq] at hr <;> simp [execOp, hc.eval hx, hc.eval hy, binOp, Op.intArith, eqGuard, hr]
theorem add64 {a b r : Int} (h : r = a + b ∧ -9223372036854775808 ≤ r ∧ r ≤ 9223372036854775807) : iar .add .i64 a b = some r := by
  simp only [iar, Option.some.injEq]; rw [IntWalk.i64_in _ (by omega)]; omega
theorem sub64 {a b r : Int} (h : r = a - b ∧ -9223372036854775808 ≤ r ∧ r ≤ 9223372036854775807) : iar .sub .i64 a b = some r := by
  simp only [iar, Option.some.injEq]; rw [IntWalk.i64_in _ (by omega)]; omega
theorem mul64 {a b r : Int} (h : a * b = r) (h' : -9223372036854775808 ≤ r ∧ r ≤ 9223372036854775807) : iar .mul .i64 a b = some r := by
  simp only [iar, Option.some.injEq]; rw [h, IntWalk.i64_in _ h']
theorem addu64 {a b r : Int} (h : r = a + b ∧ 0 ≤ r ∧ r ≤ 18446744073709551615) : iar .add .u64 a b = some r := by
  simp only [iar, Option.some.injEq]; rw [IntWalk.u64_in _ (by omega)]; omega
theorem subu64 {a b r : Int} (h : r = a - b ∧ 0 ≤ r ∧ r ≤ 18446744073709551615) : iar .sub .u64 a b = some r := by
  simp only [iar, Option.some.injEq]; rw [IntWalk.u64_in _ (by omega)]; omega
theorem mulu64 {a b r : Int} (h : a * b = r) (h' : 0 ≤ r ∧ r ≤ 18446744073709551615) : iar .mul .u64 a b = some r := by
  simp only [iar, Option.some.injEq]; rw [h, IntWalk.u64_in _ h']
theorem addu32 {a b r : Int} (h : r = a + b ∧ 0 ≤ r ∧ r ≤ 4294967295) : iar .add .u32 a b = some r := by
  simp only [iar, Option.some.injEq]; rw [IntWalk.u32_in _ (by omega)]; omega
theorem subu32 {a b r : Int} (h : r = a - b ∧ 0 ≤ r ∧ r ≤ 4294967295) : iar .sub .u32 a b = some r := by
  simp only [iar, Option.some.injEq]; rw [IntWalk.u32_in _ (by omega)]; omega
theorem mulu32 {a b r : Int} (h : a * b = r) (h' : 0 ≤ r ∧ r ≤ 4294967295) : iar .mul .u32 a b = some r := by
  simp only [iar, Option.some.injEq]; rw [h, IntWalk.u32_in _ h']
def idiv (op : BinOp) (k : IntKind) (a b : Int) : Option Int :=
  match op with
  | .quo => some (k.wrap (a.tdiv b))
  | .rem => some (a.tmod b)
  | _ => none
theorem yl_div {op : BinOp} {k : IntKind} {a b r : Int} {yt : TypeId} (hx : ev L x = some (.int k a)) (hy : ev L y = some (.int k b)) (hb : b ≠ 0) (hr : idiv op k a b = some r) :
    Yl N P w ⟨dst, .binOp op t x y yt, ty, pos, af, gd⟩ L (.int k r) := fun c hc => by
  cases op <;> simp only [idiv, Option.some.injEq, reduceCtorEq] at hr <;> simp [execOp, hc.eval hx, hc.eval hy, binOp, Op.intDiv, eqGuard, hr, hb]
theorem rem_nat {k : IntKind} {a b : Int} (ha : 0 ≤ a) : idiv .rem k a b = some (a % b) := by simp only [idiv, Option.some.injEq]; exact Int.tmod_eq_emod_of_nonneg ha
def ibits (op : BinOp) (k : IntKind) (a b : Int) : Option Int :=
  match op with
  | .and => some (k.wrap (BitVec.ofInt k.bits a &&& BitVec.ofInt k.bits b).toNat)
  | .or => some (k.wrap (BitVec.ofInt k.bits a ||| BitVec.ofInt k.bits b).toNat)
  | .xor => some (k.wrap (BitVec.ofInt k.bits a ^^^ BitVec.ofInt k.bits b).toNat)
  | .andNot => some (k.wrap (BitVec.ofInt k.bits a &&& ~~~ BitVec.ofInt k.bits b).toNat)
  | _ => none
theorem yl_bits {op : BinOp} {k : IntKind} {a b r : Int} {yt : TypeId} (hx : ev L x = some (.int k a)) (hy : ev L y = some (.int k b)) (hr : ibits op k a b = some r) :
    Yl N P w ⟨dst, .binOp op t x y yt, ty, pos, af, gd⟩ L (.int k r) := fun c hc => by
  cases op <;> simp only [ibits, Option.some.injEq, reduceCtorEq] at hr <;> subst hr <;> simp only [execOp, hc.eval hx, hc.eval hy, binOp, Op.intBits, eqGuard, Sem.run_bind, Sem.run_pure, Result.andThen_ok, ne_eq, not_true_eq_false, ↓reduceIte, Bool.not_false, Bool.not_true, Bool.false_eq_true] <;> rfl
theorem yl_cpl {k : IntKind} {b r : Int} (hs : k.signed = false) (hx : ev L x = some (.int k b)) (hr : ibits .xor k k.max b = some r) : Yl N P w ⟨dst, .unOp .xor t x, ty, pos, af, gd⟩ L (.int k r) := fun c hc => by
  simp only [ibits, Option.some.injEq] at hr
  subst hr
  simp only [execOp, hc.eval hx, Op.unary, hs, Op.intBits, Sem.run_bind, Sem.run_pure, Result.andThen_ok, Bool.false_eq_true, ↓reduceIte] <;> rfl
def ishift (op : BinOp) (k : IntKind) (a b : Int) : Option Int :=
  match op with
  | .shl => some (k.wrap (a * 2 ^ (min b.toNat k.bits)))
  | .shr => some (a.fdiv (2 ^ (min b.toNat k.bits)))
  | _ => none
theorem yl_shift {op : BinOp} {k k' : IntKind} {a b r : Int} {yt : TypeId} (hx : ev L x = some (.int k a)) (hy : ev L y = some (.int k' b)) (hb : 0 ≤ b) (hr : ishift op k a b = some r) :
    Yl N P w ⟨dst, .binOp op t x y yt, ty, pos, af, gd⟩ L (.int k r) := fun c hc => by
  have hb' : ¬ b < 0 := by omega
  cases op <;> simp only [ishift, Option.some.injEq, reduceCtorEq] at hr <;> simp [execOp, hc.eval hx, hc.eval hy, binOp, Op.shift, eqGuard, hr, hb']
theorem yl_not {b : Bool} (hx : ev L x = some (.bool b)) : Yl N P w ⟨dst, .unOp .not t x, ty, pos, af, gd⟩ L (.bool (!b)) := fun c hc => by
  simp [execOp, hc.eval hx, Op.unary]
theorem yl_neg {k : IntKind} {a r : Int} (hx : ev L x = some (.int k a)) (hr : iar .sub k 0 a = some r) : Yl N P w ⟨dst, .unOp .neg t x, ty, pos, af, gd⟩ L (.int k r) := fun c hc => by
  simp only [iar, Option.some.injEq] at hr
  simp only [Int.zero_sub] at hr
  simp [execOp, hc.eval hx, Op.unary, Op.intArith, hr]
theorem yl_conv {k k' : IntKind} {a r : Int} {s : TypeId} (hs : (P.underlying s).isSome = true) (ht : P.underlying t = some (.int k')) (hx : ev L x = some (.int k a)) (hr : k'.wrap a = r) :
    Yl N P w ⟨dst, .convert s t x, ty, pos, af, gd⟩ L (.int k' r) := fun c hc => by
  cases hh : P.underlying s with
  | none => simp [hh] at hs
  | some q => simp [execOp, hc.eval hx, convert, run_underlying hh, run_underlying ht, Conv.intToInt, hr]
theorem yl_eq_bool {a b : Bool} {yt : TypeId} (ht : P.underlying t = some .bool) (hx : ev L x = some (.bool a)) (hy : ev L y = some (.bool b)) :
    Yl N P w ⟨dst, .binOp .eql t x y yt, ty, pos, af, gd⟩ L (.bool (a == b)) := fun c hc => by
  simp [execOp, hc.eval hx, hc.eval hy, binOp, eqGuard, run_equal_bool w t a b ht]
theorem yl_ne_bool {a b : Bool} {yt : TypeId} (ht : P.underlying t = some .bool) (hx : ev L x = some (.bool a)) (hy : ev L y = some (.bool b)) :
    Yl N P w ⟨dst, .binOp .neq t x y yt, ty, pos, af, gd⟩ L (.bool (!(a == b))) := fun c hc => by
  simp [execOp, hc.eval hx, hc.eval hy, binOp, eqGuard, run_equal_bool w t a b ht]
def scmp (op : BinOp) (a b : List UInt8) : Option Bool :=
  match op with
  | .eql => some (a == b)
  | .neq => some (!(a == b))
  | .lss => some (Op.bytesLess a b)
  | .leq => some (Op.bytesLess a b || a == b)
  | .gtr => some (!(Op.bytesLess a b || a == b))
  | .geq => some (!Op.bytesLess a b)
  | _ => none
theorem yl_scmp {op : BinOp} {a b : ByteArray} {r : Bool} {yt : TypeId} (hx : ev L x = some (.string a)) (hy : ev L y = some (.string b)) (hr : scmp op a.toList b.toList = some r) :
    Yl N P w ⟨dst, .binOp op t x y yt, ty, pos, af, gd⟩ L (.bool r) := fun c hc => by
  cases op <;> simp only [scmp, Option.some.injEq, reduceCtorEq] at hr <;> simp [execOp, hc.eval hx, hc.eval hy, binOp, Op.stringOp, eqGuard, hr]
theorem yl_concat {a b : ByteArray} {yt : TypeId} (hx : ev L x = some (.string a)) (hy : ev L y = some (.string b)) (h : a.size + b.size ≤ 9223372036854775807) :
    Yl N P w ⟨dst, .binOp .add t x y yt, ty, pos, af, gd⟩ L (.string (a ++ b)) := fun c hc => by
  have h' : ¬ (9223372036854775807 < (a.size : Int) + (b.size : Int)) := by omega
  simp [execOp, hc.eval hx, hc.eval hy, binOp, Op.stringOp, eqGuard, IntKind.max, IntKind.signed, IntKind.bits, h']
theorem yl_eq_nil {p : Option Addr} {yt : TypeId} (ht : P.underlying t = some (.pointer (P.pointee t))) (hx : ev L x = some (.pointer p)) (hy : ev L y = some (.pointer none)) :
    Yl N P w ⟨dst, .binOp .eql t x y yt, ty, pos, af, gd⟩ L (.bool p.isNone) := fun c hc => by
  simp [execOp, hc.eval hx, hc.eval hy, eqGuard, run_eql_pointer_nil w t p ht]
theorem yl_ne_nil {p : Option Addr} {yt : TypeId} (ht : P.underlying t = some (.pointer (P.pointee t))) (hx : ev L x = some (.pointer p)) (hy : ev L y = some (.pointer none)) :
    Yl N P w ⟨dst, .binOp .neq t x y yt, ty, pos, af, gd⟩ L (.bool (!p.isNone)) := fun c hc => by
  simp [execOp, hc.eval hx, hc.eval hy, eqGuard, binOp, run_equal_pointer_nil w t p ht]
theorem yl_extract {vs : Array Value} {i : Nat} (hx : ev L x = some (.tuple vs)) (hv : vs[i]? = some v) : Yl N P w ⟨dst, .extract x i, ty, pos, af, gd⟩ L v := fun c hc => by
  simp [execOp, hc.eval hx, Instr.extract, hv]
theorem yl_func {fn : Fn} {fs cs : Array Operand} {vf vc : List Value} (hf : evs L fs.toList = some vf) (hc : evs L cs.toList = some vc) :
    Yl N P w ⟨dst, .makeFunc fn fs cs, ty, pos, af, gd⟩ L (.func fn vf.toArray vc.toArray) := fun a ha => by
  have h1 : fs.map a.eval = vf.toArray := by apply Array.ext'; rw [Array.toList_map, ha.evals hf]
  have h2 : cs.map a.eval = vc.toArray := by apply Array.ext'; rw [Array.toList_map, ha.evals hc]
  simp [execOp, Instr.makeFunc, h1, h2]

/-! #### structs, as values and behind pointers -/
def fieldOff (P : Program) (s f : Nat) : Option Nat :=
  match P.underlying s with
  | some (.struct fs) => match fs[f]? with
    | some fld => match P.info? fld.type with
      | some i => if i.size = 0 then none else some fld.offset
      | none => none
    | none => none
  | _ => none
theorem add_lit (b o n : Nat) : (⟨b, o, none⟩ : Addr).add n = ⟨b, o + n, none⟩ := by unfold Addr.add; split <;> simp_all
theorem yl_fieldAddr {s f off b o : Nat} (hF : fieldOff P s f = some off) (hx : ev L x = some (.pointer (some ⟨b, o, none⟩))) :
    Yl N P w ⟨dst, .fieldAddr s x f, ty, pos, af, gd⟩ L (.pointer (some ⟨b, o + off, none⟩)) := fun a ha => by
  unfold fieldOff at hF
  split at hF
  · rename_i fs hu
    split at hF
    · rename_i fld hfld
      split at hF
      · rename_i i hi
        split at hF
        · cases hF
        · rename_i hne
          cases hF
          simp [execOp, ha.eval hx, Instr.fieldAt, run_underlying hu, hfld, Instr.sureAddr, fieldPlace, sizeOf, typeInfo, hi, hne, add_lit]
      · cases hF
    · cases hF
  · cases hF
def aggB (P : Program) (t : TypeId) : Option Bool := (P.underlying t).map fun d => match d with | .struct _ | .array _ _ => true | _ => false
def szOf (P : Program) (t : TypeId) : Option Nat := (P.info? t).map (·.size)
theorem run_isAgg {b : Bool} (h : aggB P t = some b) (w : World) : (isAgg t).run P w = .ok b w := by
  unfold aggB at h
  cases hu : P.underlying t with
  | none => simp [hu] at h
  | some q =>
    simp [hu] at h
    unfold isAgg
    rw [Sem.run_bind, run_underlying hu w]
    cases q <;> simp_all
theorem run_sizeOf' {n : Nat} (h : szOf P t = some n) (w : World) : (sizeOf t).run P w = .ok n w := by
  unfold szOf at h
  cases hi : P.info? t with
  | none => simp [hi] at h
  | some i => simp [hi] at h; simp [sizeOf, typeInfo, hi, h]
theorem yl_load {b o : Nat} (ht : aggB P t = some false) (hx : ev L x = some (.pointer (some ⟨b, o, none⟩))) (hc : w.cell? ⟨b, o, none⟩ = some v) :
    Yl N P w ⟨dst, .load t x, ty, pos, af, gd⟩ L v := fun a ha => by
  simp [execOp, ha.eval hx, Instr.loadAt, Instr.sureAddr, loadVar, run_isAgg ht, hc]
theorem run_loadVar_view {n : Nat} (ht : aggB P t = some true) (hs : szOf P t = some n) {b o : Nat} {vs : List Value} (hl : vs.length = n) (hv : View w (some ⟨b, o, none⟩) vs) :
    (loadVar t ⟨b, o, none⟩).run P w = .ok (.agg vs.toArray) w := by
  subst hl
  have := run_loadCells_list (P := P) w ⟨b, o, none⟩ vs hv.add
  simp [loadVar, run_isAgg ht, run_sizeOf' hs, this]
theorem yl_loadN {b o n : Nat} {vs : List Value} (ht : aggB P t = some true) (hs : szOf P t = some n) (hl : vs.length = n) (hx : ev L x = some (.pointer (some ⟨b, o, none⟩))) (hv : View w (some ⟨b, o, none⟩) vs) :
    Yl N P w ⟨dst, .load t x, ty, pos, af, gd⟩ L (.agg vs.toArray) := fun a ha => by
  simp [execOp, ha.eval hx, Instr.loadAt, Instr.sureAddr, run_loadVar_view ht hs hl hv]
theorem yl_build {parts : Array (Nat × Operand)} {vs : List Value} {cells : Array Value} (hp : evs L (parts.toList.map (·.2)) = some vs)
    (hb : P.built t ((parts.toList.map (·.1)).zip vs) = some cells) : Yl N P w ⟨dst, .build t parts, ty, pos, af, gd⟩ L (.agg cells) := fun a ha => by
  have h1 : (parts.map fun (i, x) => (i, a.eval x)).toList = (parts.toList.map (·.1)).zip vs := by
    rw [← ha.evals hp, Array.toList_map, List.map_map, List.zip_map']
    rfl
  have h2 := run_build (P := P) w t (parts.map fun (i, x) => (i, a.eval x)) cells (by rw [h1]; exact hb)
  simp only [execOp, Sem.run_bind, h2, Result.andThen_ok, Sem.run_pure]
/-- A struct's field: one cell, or the cells from its place on. -/
def fieldVal (P : Program) (s f : Nat) (cs : List Value) : Option Value :=
  match P.underlying s with
  | some (.struct fs) => match fs[f]? with
    | some fld => match aggB P fld.type, szOf P fld.type with
      | some true, some n => some (.agg ((cs.drop fld.offset).take n).toArray)
      | some false, some _ => cs[fld.offset]?
      | _, _ => none
    | none => none
  | _ => none
theorem yl_field {s f : Nat} {cs : List Value} (hF : fieldVal P s f cs = some v) (hx : ev L x = some (.agg cs.toArray)) :
    Yl N P w ⟨dst, .field s x f, ty, pos, af, gd⟩ L v := fun a ha => by
  unfold fieldVal at hF
  split at hF
  · rename_i fs hu
    split at hF
    · rename_i fld hfld
      split at hF
      · rename_i n ha1 hs1
        cases hF
        simp [execOp, ha.eval hx, Instr.field, run_underlying hu, hfld, asAgg, part, run_isAgg ha1, run_sizeOf' hs1, List.extract_eq_take_drop]
      · rename_i n ha1 hs1
        simp [execOp, ha.eval hx, Instr.field, run_underlying hu, hfld, asAgg, part, run_isAgg ha1, hF]
      · cases hF
    · cases hF
  · cases hF
/-! #### slices -/
theorem yl_len {p : Option Addr} {n c : Nat} {e : TypeId} (ht : P.underlying t = some (.slice e)) (hx : ev L x = some (.slice p n c)) :
    Yl N P w ⟨dst, .call { callee := .builtin .len, args := #[x], argTypes := #[t] }, ty, pos, af, gd⟩ L (.int .i64 n) := fun a ha => by
  simp [execOp, resolve, invoke, builtin, Builtin.len_, ha.eval hx, run_underlying ht, goInt]
theorem yl_cap {p : Option Addr} {n c : Nat} {e : TypeId} (ht : P.underlying t = some (.slice e)) (hx : ev L x = some (.slice p n c)) :
    Yl N P w ⟨dst, .call { callee := .builtin .cap, args := #[x], argTypes := #[t] }, ty, pos, af, gd⟩ L (.int .i64 c) := fun a ha => by
  simp [execOp, resolve, invoke, builtin, Builtin.cap_, ha.eval hx, run_underlying ht, goInt]
theorem yl_slen {s : ByteArray} (ht : P.underlying t = some .string) (hx : ev L x = some (.string s)) :
    Yl N P w ⟨dst, .call { callee := .builtin .len, args := #[x], argTypes := #[t] }, ty, pos, af, gd⟩ L (.int .i64 s.size) := fun a ha => by
  simp [execOp, resolve, invoke, builtin, Builtin.len_, ha.eval hx, run_underlying ht, goInt]
theorem yl_indexAddr {b o n c s off : Nat} {k : IntKind} {j : Int} (ht : P.underlying t = some (.slice (P.elem t))) (hs : szOf P (P.elem t) = some s) (hx : ev L x = some (.slice (some ⟨b, o, none⟩) n c)) (hy : ev L y = some (.int k j))
    (h0 : 0 ≤ j ∧ j < n) (ho : o + j.toNat * s = off) : Yl N P w ⟨dst, .indexAddr t x y, ty, pos, af, gd⟩ L (.pointer (some ⟨b, off, none⟩)) := fun a ha => by
  simp [execOp, ha.eval hx, ha.eval hy, run_indexAt_slice w t ⟨b, o, none⟩ n c k j ht, h0, run_sizeOf' hs, add_lit, ho]
theorem yl_indexArr {b o n s off : Nat} {k : IntKind} {j : Int} (ht : P.underlying t = some (.array n (P.elem t))) (hs : szOf P (P.elem t) = some s) (hx : ev L x = some (.pointer (some ⟨b, o, none⟩))) (hy : ev L y = some (.int k j))
    (h0 : 0 ≤ j ∧ j < n) (ho : o + j.toNat * s = off) : Yl N P w ⟨dst, .indexAddr t x y, ty, pos, af, gd⟩ L (.pointer (some ⟨b, off, none⟩)) := fun a ha => by
  simp [execOp, ha.eval hx, ha.eval hy, Instr.indexAt, run_underlying ht, asIntOf, Instr.sureAddr, h0, run_sizeOf' hs, add_lit, ho]
theorem yl_index_str {s : ByteArray} {k : IntKind} {j : Int} {m : Nat} {c : UInt8} (ht : P.underlying t = some .string) (hx : ev L x = some (.string s)) (hy : ev L y = some (.int k j)) (hj : j = m) (hc : s.data.toList[m]? = some c) :
    Yl N P w ⟨dst, .index t x y, ty, pos, af, gd⟩ L (.int .u8 c.toNat) := fun a ha => by
  subst hj
  have h1 : s[m]? = some c := by
    have := (List.getElem?_eq_some_iff.1 hc)
    obtain ⟨h2, h3⟩ := this
    have h4 : m < s.size := by simpa using h2
    rw [getElem?_pos s m h4]
    simp only [Option.some.injEq]
    rw [← h3]; rfl
  simp [execOp, ha.eval hx, ha.eval hy, Instr.index, run_underlying ht, asIntOf, h1]
/-- The address of a slice of a slice. -/
def Cut (p' p : Option Addr) (c l s : Nat) : Prop := p' = if c = l then p else p.map (·.add (l * s))
theorem Cut.mk (p : Option Addr) (c l s : Nat) : ∃ p', Cut p' p c l s := ⟨_, rfl⟩
theorem Cut.view {p' p : Option Addr} {c l s : Nat} {xs : List Value} (h : Cut p' p c l s) (hv : View w p xs) (hl : xs.length ≤ c * s) : View w p' (xs.drop (l * s)) := by
  unfold Cut at h
  by_cases e : c = l
  · subst e; rw [List.drop_of_length_le hl]; exact View.nil w p'
  · rw [if_neg e] at h
    cases p with
    | none =>
      have : xs = [] := by
        cases xs with
        | nil => rfl
        | cons a r => obtain ⟨_, _, h1, _⟩ := hv 0 a rfl; cases h1
      subst this; simp; exact View.nil w p'
    | some ad =>
      intro j v hj
      rw [List.getElem?_drop] at hj
      obtain ⟨b, o, e1, h1⟩ := hv _ v hj
      cases e1
      exact ⟨b, o + l * s, by rw [h]; simp [add_lit], by rw [Nat.add_assoc]; exact h1⟩
theorem Cut.zero {p' p : Option Addr} {c s : Nat} (h : Cut p' p c 0 s) : p' = p := by
  unfold Cut at h; subst h; split
  · rfl
  · cases p with
    | none => rfl
    | some a => simp [Addr.add]
theorem yl_slice_lh {p : Option Addr} {n c l h s : Nat} {k k' : IntKind} {i j : Int} (ht : P.underlying t = some (.slice (P.elem t))) (hs : szOf P (P.elem t) = some s)
    (hx : ev L x = some (.slice p n c)) (hy : ev L y = some (.int k i)) (hz : ev L z = some (.int k' j)) (hi : i = l) (hj : j = h) (h1 : l ≤ h) (h2 : h ≤ c) {p' : Option Addr} (hp : Cut p' p c l s) :
    Yl N P w ⟨dst, .slice t x (some y) (some z) none, ty, pos, af, gd⟩ L (.slice p' (h - l) (c - l)) := fun a ha => by
  subst hi hj hp
  have := run_slice_lh (P := P) w t p n c ht k k' l h (by omega) (by omega) (by omega)
  simp [execOp, ha.eval hx, ha.eval hy, ha.eval hz, run_sliceAt_slice w _ _ _ _ _ ht, this, run_sizeOf' hs, sliced]
theorem yl_slice_h {p : Option Addr} {n c h : Nat} {k' : IntKind} {j : Int} (ht : P.underlying t = some (.slice (P.elem t))) (hs : (szOf P (P.elem t)).isSome = true)
    (hx : ev L x = some (.slice p n c)) (hz : ev L z = some (.int k' j)) (hj : j = h) (h2 : h ≤ c) :
    Yl N P w ⟨dst, .slice t x none (some z) none, ty, pos, af, gd⟩ L (.slice p h c) := fun a ha => by
  subst hj
  cases hh : szOf P (P.elem t) with
  | none => simp [hh] at hs
  | some s =>
    have := run_slice_h (P := P) w t p n c ht k' h (by omega) (by omega)
    simp [execOp, ha.eval hx, ha.eval hz, run_sliceAt_slice w _ _ _ _ _ ht, this, run_sizeOf' hh, sliced]
    intro _
    cases p <;> simp [Addr.add]
theorem yl_slice_l {p : Option Addr} {n c l s : Nat} {k : IntKind} {i : Int} (ht : P.underlying t = some (.slice (P.elem t))) (hs : szOf P (P.elem t) = some s)
    (hx : ev L x = some (.slice p n c)) (hy : ev L y = some (.int k i)) (hi : i = l) (h1 : l ≤ n) {p' : Option Addr} (hp : Cut p' p c l s) :
    Yl N P w ⟨dst, .slice t x (some y) none none, ty, pos, af, gd⟩ L (.slice p' (n - l) (c - l)) := fun a ha => by
  subst hi hp
  have := run_slice_l (P := P) w t p n c ht k l (by omega) (by omega)
  simp [execOp, ha.eval hx, ha.eval hy, run_sliceAt_slice w _ _ _ _ _ ht, this, run_sizeOf' hs, sliced]
end
end Go.Proofs.YtpheilpcklfknaaDoor
