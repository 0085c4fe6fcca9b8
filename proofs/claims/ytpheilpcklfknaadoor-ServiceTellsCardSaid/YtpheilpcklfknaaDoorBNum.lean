/-
  Whole numbers of the kinds without a sign, as Lean's own words. No condition.
-/
import Derived.Test.YtpheilpcklfknaaDoorBOps
namespace Go.Proofs.YtpheilpcklfknaaDoor
open Go Go.RowKit
set_option linter.unusedVariables false
set_option linter.unusedSimpArgs false
section
variable {N : Nat} {P : Program} {L : Slots} {w : World}
variable {x y z : Operand} {v u : Value} {dst : Option Tmp} {ty : TypeId} {pos : String} {af : Array Edge} {gd : Option (Nat × Bool)} {t yt : TypeId}
@[reducible] def vI (n : Int) : Value := .int .i64 n
theorem yl_eqI {a b : Int} {k : IntKind} (hx : ev L x = some (.int k a)) (hy : ev L y = some (.int k b)) : Yl N P w ⟨dst, .binOp .eql t x y yt, ty, pos, af, gd⟩ L (.bool (decide (a = b))) := yl_cmp hx hy (by simp only [icmp, Option.some.injEq]; rw [Bool.eq_iff_iff]; simp)
theorem yl_neI {a b : Int} {k : IntKind} (hx : ev L x = some (.int k a)) (hy : ev L y = some (.int k b)) : Yl N P w ⟨dst, .binOp .neq t x y yt, ty, pos, af, gd⟩ L (.bool (!decide (a = b))) := yl_cmp hx hy (by simp only [icmp, Option.some.injEq]; rw [Bool.eq_iff_iff]; simp)
theorem yl_ltI {a b : Int} {k : IntKind} (hx : ev L x = some (.int k a)) (hy : ev L y = some (.int k b)) : Yl N P w ⟨dst, .binOp .lss t x y yt, ty, pos, af, gd⟩ L (.bool (decide (a < b))) := yl_cmp hx hy rfl
theorem yl_leI {a b : Int} {k : IntKind} (hx : ev L x = some (.int k a)) (hy : ev L y = some (.int k b)) : Yl N P w ⟨dst, .binOp .leq t x y yt, ty, pos, af, gd⟩ L (.bool (decide (a ≤ b))) := yl_cmp hx hy rfl
theorem yl_gtI {a b : Int} {k : IntKind} (hx : ev L x = some (.int k a)) (hy : ev L y = some (.int k b)) : Yl N P w ⟨dst, .binOp .gtr t x y yt, ty, pos, af, gd⟩ L (.bool (decide (b < a))) := yl_cmp hx hy rfl
theorem yl_geI {a b : Int} {k : IntKind} (hx : ev L x = some (.int k a)) (hy : ev L y = some (.int k b)) : Yl N P w ⟨dst, .binOp .geq t x y yt, ty, pos, af, gd⟩ L (.bool (decide (b ≤ a))) := yl_cmp hx hy rfl
theorem wrap_ok {n : Int} (h : ok64 n) : IntKind.i64.wrap n = n := IntWalk.i64_in _ (by unfold ok64 at h; omega)
theorem yl_addI {a b : Int} (hx : ev L x = some (.int .i64 a)) (hy : ev L y = some (.int .i64 b)) (h : ok64 (a + b)) : Yl N P w ⟨dst, .binOp .add t x y yt, ty, pos, af, gd⟩ L (.int .i64 (a + b)) := yl_arith hx hy (by simp only [iar]; rw [wrap_ok h])
theorem yl_subI {a b : Int} (hx : ev L x = some (.int .i64 a)) (hy : ev L y = some (.int .i64 b)) (h : ok64 (a - b)) : Yl N P w ⟨dst, .binOp .sub t x y yt, ty, pos, af, gd⟩ L (.int .i64 (a - b)) := yl_arith hx hy (by simp only [iar]; rw [wrap_ok h])
theorem yl_mulI {a b : Int} (hx : ev L x = some (.int .i64 a)) (hy : ev L y = some (.int .i64 b)) (h : ok64 (a * b)) : Yl N P w ⟨dst, .binOp .mul t x y yt, ty, pos, af, gd⟩ L (.int .i64 (a * b)) := yl_arith hx hy (by simp only [iar]; rw [wrap_ok h])
theorem yl_quoI {a b : Int} (hx : ev L x = some (.int .i64 a)) (hy : ev L y = some (.int .i64 b)) (h : b ≠ 0 ∧ ok64 (a.tdiv b)) : Yl N P w ⟨dst, .binOp .quo t x y yt, ty, pos, af, gd⟩ L (.int .i64 (a.tdiv b)) := yl_div hx hy h.1 (by simp only [idiv]; rw [wrap_ok h.2])
theorem yl_remI {a b : Int} (hx : ev L x = some (.int .i64 a)) (hy : ev L y = some (.int .i64 b)) (h : b ≠ 0) : Yl N P w ⟨dst, .binOp .rem t x y yt, ty, pos, af, gd⟩ L (.int .i64 (a.tmod b)) := yl_div hx hy h rfl
theorem yl_negI {a : Int} (hx : ev L x = some (.int .i64 a)) (h : ok64 (-a)) : Yl N P w ⟨dst, .unOp .neg t x, ty, pos, af, gd⟩ L (.int .i64 (-a)) := yl_neg hx (by simp only [iar, Int.zero_sub]; rw [wrap_ok h])
theorem yl_shlI {a b : Int} {k : IntKind} (hx : ev L x = some (.int .i64 a)) (hy : ev L y = some (.int k b)) (h : (0 ≤ b ∧ b ≤ 63) ∧ ok64 (a * 2 ^ b.toNat)) : Yl N P w ⟨dst, .binOp .shl t x y yt, ty, pos, af, gd⟩ L (.int .i64 (a * 2 ^ b.toNat)) :=
  yl_shift hx hy h.1.1 (by have : min b.toNat IntKind.i64.bits = b.toNat := by (have : IntKind.i64.bits = 64 := rfl); omega
                           simp only [ishift, this]; rw [wrap_ok h.2])
theorem yl_shrI {a b : Int} {k : IntKind} (hx : ev L x = some (.int .i64 a)) (hy : ev L y = some (.int k b)) (h : 0 ≤ b ∧ b ≤ 63) : Yl N P w ⟨dst, .binOp .shr t x y yt, ty, pos, af, gd⟩ L (.int .i64 (a / 2 ^ b.toNat)) :=
  yl_shift hx hy h.1 (by have : min b.toNat IntKind.i64.bits = b.toNat := by (have : IntKind.i64.bits = 64 := rfl); omega
                         simp only [ishift, this, Option.some.injEq]; exact Int.fdiv_eq_ediv_of_nonneg _ (Int.le_of_lt (Int.pow_pos (by decide))))
def andI (a b : Int) : Int := IntKind.i64.wrap (BitVec.ofInt 64 a &&& BitVec.ofInt 64 b).toNat
def orI (a b : Int) : Int := IntKind.i64.wrap (BitVec.ofInt 64 a ||| BitVec.ofInt 64 b).toNat
def xorI (a b : Int) : Int := IntKind.i64.wrap (BitVec.ofInt 64 a ^^^ BitVec.ofInt 64 b).toNat
theorem yl_andI {a b : Int} (hx : ev L x = some (.int .i64 a)) (hy : ev L y = some (.int .i64 b)) : Yl N P w ⟨dst, .binOp .and t x y yt, ty, pos, af, gd⟩ L (.int .i64 (andI a b)) := yl_bits hx hy rfl
theorem yl_orI {a b : Int} (hx : ev L x = some (.int .i64 a)) (hy : ev L y = some (.int .i64 b)) : Yl N P w ⟨dst, .binOp .or t x y yt, ty, pos, af, gd⟩ L (.int .i64 (orI a b)) := yl_bits hx hy rfl
theorem yl_xorI {a b : Int} (hx : ev L x = some (.int .i64 a)) (hy : ev L y = some (.int .i64 b)) : Yl N P w ⟨dst, .binOp .xor t x y yt, ty, pos, af, gd⟩ L (.int .i64 (xorI a b)) := yl_bits hx hy rfl
theorem uconv {s : TypeId} {k k' : IntKind} {a r : Int} (hs : (P.underlying s).isSome = true) (ht : P.underlying t = some (.int k')) (hx : ev L x = some (.int k a)) (hr : k'.wrap a = r) :
    Yl N P w ⟨dst, .convert s t x, ty, pos, af, gd⟩ L (.int k' r) := yl_conv hs ht hx hr
theorem wrap_nat (B : Nat) (k : IntKind) (hk : k.signed = false) (hb : k.bits = B) (n : Int) : k.wrap n = n % (2 ^ B : Nat) := by
  simp only [IntKind.wrap, hk, hb]
  simp


/-! ### UInt8 -/
@[reducible] def v8 (n : UInt8) : Value := .int .u8 (n.toNat : Int)
theorem wrap_u8 (n : Int) : IntKind.u8.wrap n = n % 256 := by
  rw [wrap_nat 8 .u8 rfl rfl]; rfl
theorem toNat_u8 (n : UInt8) : n.toNat < 256 := n.toNat_lt
theorem yl_eq8 {a b : UInt8} (hx : ev L x = some (v8 a)) (hy : ev L y = some (v8 b)) : Yl N P w ⟨dst, .binOp .eql t x y yt, ty, pos, af, gd⟩ L (.bool (decide (a = b))) := yl_cmp hx hy (by
  simp only [icmp, Option.some.injEq]; rw [Bool.eq_iff_iff]; simp [UInt8.toNat_inj, Int.natCast_inj])
theorem yl_ne8 {a b : UInt8} (hx : ev L x = some (v8 a)) (hy : ev L y = some (v8 b)) : Yl N P w ⟨dst, .binOp .neq t x y yt, ty, pos, af, gd⟩ L (.bool (!decide (a = b))) := yl_cmp hx hy (by
  simp only [icmp, Option.some.injEq]; rw [Bool.eq_iff_iff]; simp [UInt8.toNat_inj, Int.natCast_inj])
theorem yl_lt8 {a b : UInt8} (hx : ev L x = some (v8 a)) (hy : ev L y = some (v8 b)) : Yl N P w ⟨dst, .binOp .lss t x y yt, ty, pos, af, gd⟩ L (.bool (decide (a < b))) := yl_cmp hx hy (by
  simp only [icmp, Option.some.injEq]; rw [Bool.eq_iff_iff]; simp [UInt8.lt_iff_toNat_lt])
theorem yl_le8 {a b : UInt8} (hx : ev L x = some (v8 a)) (hy : ev L y = some (v8 b)) : Yl N P w ⟨dst, .binOp .leq t x y yt, ty, pos, af, gd⟩ L (.bool (decide (a ≤ b))) := yl_cmp hx hy (by
  simp only [icmp, Option.some.injEq]; rw [Bool.eq_iff_iff]; simp [UInt8.le_iff_toNat_le])
theorem yl_gt8 {a b : UInt8} (hx : ev L x = some (v8 a)) (hy : ev L y = some (v8 b)) : Yl N P w ⟨dst, .binOp .gtr t x y yt, ty, pos, af, gd⟩ L (.bool (decide (b < a))) := yl_cmp hx hy (by
  simp only [icmp, Option.some.injEq]; rw [Bool.eq_iff_iff]; simp [UInt8.lt_iff_toNat_lt])
theorem yl_ge8 {a b : UInt8} (hx : ev L x = some (v8 a)) (hy : ev L y = some (v8 b)) : Yl N P w ⟨dst, .binOp .geq t x y yt, ty, pos, af, gd⟩ L (.bool (decide (b ≤ a))) := yl_cmp hx hy (by
  simp only [icmp, Option.some.injEq]; rw [Bool.eq_iff_iff]; simp [UInt8.le_iff_toNat_le])
theorem yl_add8 {a b : UInt8} (hx : ev L x = some (v8 a)) (hy : ev L y = some (v8 b)) : Yl N P w ⟨dst, .binOp .add t x y yt, ty, pos, af, gd⟩ L (v8 (a + b)) := yl_arith hx hy (by
  simp only [iar, Option.some.injEq, wrap_u8, UInt8.toNat_add]; omega)
theorem yl_sub8 {a b : UInt8} (hx : ev L x = some (v8 a)) (hy : ev L y = some (v8 b)) : Yl N P w ⟨dst, .binOp .sub t x y yt, ty, pos, af, gd⟩ L (v8 (a - b)) := yl_arith hx hy (by
  have := toNat_u8 a; have := toNat_u8 b
  simp only [iar, Option.some.injEq, wrap_u8, UInt8.toNat_sub]; omega)
theorem yl_mul8 {a b : UInt8} (hx : ev L x = some (v8 a)) (hy : ev L y = some (v8 b)) : Yl N P w ⟨dst, .binOp .mul t x y yt, ty, pos, af, gd⟩ L (v8 (a * b)) := yl_arith hx hy (by
  simp only [iar, Option.some.injEq, wrap_u8, UInt8.toNat_mul]; rw [← Int.natCast_mul]; omega)
theorem yl_quo8 {a b : UInt8} (hx : ev L x = some (v8 a)) (hy : ev L y = some (v8 b)) (h : b ≠ 0) : Yl N P w ⟨dst, .binOp .quo t x y yt, ty, pos, af, gd⟩ L (v8 (a / b)) := yl_div hx hy (by
  intro e; exact h (UInt8.toNat_inj.1 (by simpa using e))) (by
  have h1 := toNat_u8 a
  simp only [idiv, Option.some.injEq, wrap_u8, UInt8.toNat_div]
  have e : (a.toNat : Int).tdiv (b.toNat : Int) = ((a.toNat / b.toNat : Nat) : Int) := by rw [Int.tdiv_eq_ediv_of_nonneg (by omega), Int.natCast_ediv]
  rw [e]
  have : a.toNat / b.toNat ≤ a.toNat := Nat.div_le_self _ _
  obtain ⟨q, hq⟩ : ∃ q, q = a.toNat / b.toNat := ⟨_, rfl⟩
  rw [← hq] at this ⊢
  omega)
theorem yl_rem8 {a b : UInt8} (hx : ev L x = some (v8 a)) (hy : ev L y = some (v8 b)) (h : b ≠ 0) : Yl N P w ⟨dst, .binOp .rem t x y yt, ty, pos, af, gd⟩ L (v8 (a % b)) := yl_div hx hy (by
  intro e; exact h (UInt8.toNat_inj.1 (by simpa using e))) (by
  simp only [idiv, Option.some.injEq, UInt8.toNat_mod]
  rw [Int.tmod_eq_emod_of_nonneg (by omega), ← Int.natCast_emod])
theorem bits_u8 (a : UInt8) : BitVec.ofInt IntKind.u8.bits (a.toNat : Int) = a.toBitVec := by
  apply BitVec.eq_of_toNat_eq
  have := toNat_u8 a
  simp only [IntKind.bits, BitVec.toNat_ofInt]
  show _ = a.toNat
  omega
theorem yl_and8 {a b : UInt8} (hx : ev L x = some (v8 a)) (hy : ev L y = some (v8 b)) : Yl N P w ⟨dst, .binOp .and t x y yt, ty, pos, af, gd⟩ L (v8 (a &&& b)) := yl_bits hx hy (by
  have := toNat_u8 (a &&& b)
  simp only [ibits, Option.some.injEq, bits_u8, wrap_u8]
  show ((a &&& b).toNat : Int) % _ = _
  omega)
theorem yl_or8 {a b : UInt8} (hx : ev L x = some (v8 a)) (hy : ev L y = some (v8 b)) : Yl N P w ⟨dst, .binOp .or t x y yt, ty, pos, af, gd⟩ L (v8 (a ||| b)) := yl_bits hx hy (by
  have := toNat_u8 (a ||| b)
  simp only [ibits, Option.some.injEq, bits_u8, wrap_u8]
  show ((a ||| b).toNat : Int) % _ = _
  omega)
theorem yl_xor8 {a b : UInt8} (hx : ev L x = some (v8 a)) (hy : ev L y = some (v8 b)) : Yl N P w ⟨dst, .binOp .xor t x y yt, ty, pos, af, gd⟩ L (v8 (a ^^^ b)) := yl_bits hx hy (by
  have := toNat_u8 (a ^^^ b)
  simp only [ibits, Option.some.injEq, bits_u8, wrap_u8]
  show ((a ^^^ b).toNat : Int) % _ = _
  omega)
theorem yl_andNot8 {a b : UInt8} (hx : ev L x = some (v8 a)) (hy : ev L y = some (v8 b)) : Yl N P w ⟨dst, .binOp .andNot t x y yt, ty, pos, af, gd⟩ L (v8 (a &&& ~~~b)) := yl_bits hx hy (by
  have := toNat_u8 (a &&& ~~~b)
  simp only [ibits, Option.some.injEq, bits_u8, wrap_u8]
  show ((a &&& ~~~b).toNat : Int) % _ = _
  omega)
def shl8 (a : UInt8) (n : Nat) : UInt8 := UInt8.ofNat (a.toNat * 2 ^ n)
def shr8 (a : UInt8) (n : Nat) : UInt8 := UInt8.ofNat (a.toNat / 2 ^ n)
theorem shl8_min (a : UInt8) (n : Nat) : shl8 a (min n 8) = shl8 a n := by
  by_cases h : n ≤ 8
  · rw [Nat.min_eq_left h]
  · rw [Nat.min_eq_right (by omega)]
    apply UInt8.toNat_inj.1
    unfold shl8
    have e1 : 2 ^ n = 2 ^ 8 * 2 ^ (n - 8) := by rw [← Nat.pow_add]; congr 1; omega
    have e2 : (2 : Nat) ^ 8 = 256 := by decide
    rw [UInt8.toNat_ofNat', UInt8.toNat_ofNat', e1, e2, ← Nat.mul_assoc, Nat.mul_right_comm, Nat.mul_mod_left, Nat.mul_mod_left]
theorem shr8_min (a : UInt8) (n : Nat) : shr8 a (min n 8) = shr8 a n := by
  by_cases h : n ≤ 8
  · rw [Nat.min_eq_left h]
  · rw [Nat.min_eq_right (by omega)]
    have h1 := toNat_u8 a
    have e2 : (2 : Nat) ^ 8 = 256 := by decide
    have e3 : 2 ^ 8 ≤ 2 ^ n := Nat.pow_le_pow_right (by decide) (by omega)
    unfold shr8
    rw [Nat.div_eq_of_lt (by omega), Nat.div_eq_of_lt (by omega)]
theorem yl_shl8 {a : UInt8} {k : IntKind} {b : Int} (hx : ev L x = some (v8 a)) (hy : ev L y = some (.int k b)) (h : 0 ≤ b) : Yl N P w ⟨dst, .binOp .shl t x y yt, ty, pos, af, gd⟩ L (v8 (shl8 a b.toNat)) := yl_shift hx hy h (by
  rw [← shl8_min]
  have e : IntKind.u8.bits = 8 := rfl
  simp only [ishift, Option.some.injEq, wrap_u8, e, shl8, UInt8.toNat_ofNat']
  rw [Int.natCast_emod, Int.natCast_mul, Int.natCast_pow]; rfl)
theorem yl_shr8 {a : UInt8} {k : IntKind} {b : Int} (hx : ev L x = some (v8 a)) (hy : ev L y = some (.int k b)) (h : 0 ≤ b) : Yl N P w ⟨dst, .binOp .shr t x y yt, ty, pos, af, gd⟩ L (v8 (shr8 a b.toNat)) := yl_shift hx hy h (by
  rw [← shr8_min]
  have e : IntKind.u8.bits = 8 := rfl
  have h1 := toNat_u8 a
  have h2 : a.toNat / 2 ^ min b.toNat 8 ≤ a.toNat := Nat.div_le_self _ _
  have h3 : a.toNat / 2 ^ min b.toNat 8 % 2 ^ 8 = a.toNat / 2 ^ min b.toNat 8 := Nat.mod_eq_of_lt (by rw [show (2 : Nat) ^ 8 = 256 from by decide]; omega)
  simp only [ishift, Option.some.injEq, e, shr8, UInt8.toNat_ofNat', h3]
  rw [Int.fdiv_eq_ediv_of_nonneg _ (Int.le_of_lt (Int.pow_pos (by decide))), Int.natCast_ediv, Int.natCast_pow]; rfl)
theorem ofInt_u8 (n : Int) : ((UInt8.ofInt n).toNat : Int) = n % 256 := by
  have e : (2 : Int) ^ 8 = 256 := by decide
  show ((UInt8.ofNat (n % 2 ^ _).toNat).toNat : Int) = _
  rw [UInt8.toNat_ofNat', e]
  omega
theorem yl_I8 {s : TypeId} {a : Int} (hs : (P.underlying s).isSome = true) (ht : P.underlying t = some (.int .u8)) (hx : ev L x = some (.int .i64 a)) : Yl N P w ⟨dst, .convert s t x, ty, pos, af, gd⟩ L (v8 (UInt8.ofInt a)) :=
  yl_conv hs ht hx (by rw [wrap_u8, ofInt_u8])
theorem yl_8I {s : TypeId} {a : UInt8} (hs : (P.underlying s).isSome = true) (ht : P.underlying t = some (.int .i64)) (hx : ev L x = some (v8 a))  : Yl N P w ⟨dst, .convert s t x, ty, pos, af, gd⟩ L (.int .i64 (a.toNat : Int)) :=
  yl_conv hs ht hx (IntWalk.i64_in _ (by have := toNat_u8 a; omega))


/-! ### UInt16 -/
@[reducible] def v16 (n : UInt16) : Value := .int .u16 (n.toNat : Int)
theorem wrap_u16 (n : Int) : IntKind.u16.wrap n = n % 65536 := by
  rw [wrap_nat 16 .u16 rfl rfl]; rfl
theorem toNat_u16 (n : UInt16) : n.toNat < 65536 := n.toNat_lt
theorem yl_eq16 {a b : UInt16} (hx : ev L x = some (v16 a)) (hy : ev L y = some (v16 b)) : Yl N P w ⟨dst, .binOp .eql t x y yt, ty, pos, af, gd⟩ L (.bool (decide (a = b))) := yl_cmp hx hy (by
  simp only [icmp, Option.some.injEq]; rw [Bool.eq_iff_iff]; simp [UInt16.toNat_inj, Int.natCast_inj])
theorem yl_ne16 {a b : UInt16} (hx : ev L x = some (v16 a)) (hy : ev L y = some (v16 b)) : Yl N P w ⟨dst, .binOp .neq t x y yt, ty, pos, af, gd⟩ L (.bool (!decide (a = b))) := yl_cmp hx hy (by
  simp only [icmp, Option.some.injEq]; rw [Bool.eq_iff_iff]; simp [UInt16.toNat_inj, Int.natCast_inj])
theorem yl_lt16 {a b : UInt16} (hx : ev L x = some (v16 a)) (hy : ev L y = some (v16 b)) : Yl N P w ⟨dst, .binOp .lss t x y yt, ty, pos, af, gd⟩ L (.bool (decide (a < b))) := yl_cmp hx hy (by
  simp only [icmp, Option.some.injEq]; rw [Bool.eq_iff_iff]; simp [UInt16.lt_iff_toNat_lt])
theorem yl_le16 {a b : UInt16} (hx : ev L x = some (v16 a)) (hy : ev L y = some (v16 b)) : Yl N P w ⟨dst, .binOp .leq t x y yt, ty, pos, af, gd⟩ L (.bool (decide (a ≤ b))) := yl_cmp hx hy (by
  simp only [icmp, Option.some.injEq]; rw [Bool.eq_iff_iff]; simp [UInt16.le_iff_toNat_le])
theorem yl_gt16 {a b : UInt16} (hx : ev L x = some (v16 a)) (hy : ev L y = some (v16 b)) : Yl N P w ⟨dst, .binOp .gtr t x y yt, ty, pos, af, gd⟩ L (.bool (decide (b < a))) := yl_cmp hx hy (by
  simp only [icmp, Option.some.injEq]; rw [Bool.eq_iff_iff]; simp [UInt16.lt_iff_toNat_lt])
theorem yl_ge16 {a b : UInt16} (hx : ev L x = some (v16 a)) (hy : ev L y = some (v16 b)) : Yl N P w ⟨dst, .binOp .geq t x y yt, ty, pos, af, gd⟩ L (.bool (decide (b ≤ a))) := yl_cmp hx hy (by
  simp only [icmp, Option.some.injEq]; rw [Bool.eq_iff_iff]; simp [UInt16.le_iff_toNat_le])
theorem yl_add16 {a b : UInt16} (hx : ev L x = some (v16 a)) (hy : ev L y = some (v16 b)) : Yl N P w ⟨dst, .binOp .add t x y yt, ty, pos, af, gd⟩ L (v16 (a + b)) := yl_arith hx hy (by
  simp only [iar, Option.some.injEq, wrap_u16, UInt16.toNat_add]; omega)
theorem yl_sub16 {a b : UInt16} (hx : ev L x = some (v16 a)) (hy : ev L y = some (v16 b)) : Yl N P w ⟨dst, .binOp .sub t x y yt, ty, pos, af, gd⟩ L (v16 (a - b)) := yl_arith hx hy (by
  have := toNat_u16 a; have := toNat_u16 b
  simp only [iar, Option.some.injEq, wrap_u16, UInt16.toNat_sub]; omega)
theorem yl_mul16 {a b : UInt16} (hx : ev L x = some (v16 a)) (hy : ev L y = some (v16 b)) : Yl N P w ⟨dst, .binOp .mul t x y yt, ty, pos, af, gd⟩ L (v16 (a * b)) := yl_arith hx hy (by
  simp only [iar, Option.some.injEq, wrap_u16, UInt16.toNat_mul]; rw [← Int.natCast_mul]; omega)
theorem yl_quo16 {a b : UInt16} (hx : ev L x = some (v16 a)) (hy : ev L y = some (v16 b)) (h : b ≠ 0) : Yl N P w ⟨dst, .binOp .quo t x y yt, ty, pos, af, gd⟩ L (v16 (a / b)) := yl_div hx hy (by
  intro e; exact h (UInt16.toNat_inj.1 (by simpa using e))) (by
  have h1 := toNat_u16 a
  simp only [idiv, Option.some.injEq, wrap_u16, UInt16.toNat_div]
  have e : (a.toNat : Int).tdiv (b.toNat : Int) = ((a.toNat / b.toNat : Nat) : Int) := by rw [Int.tdiv_eq_ediv_of_nonneg (by omega), Int.natCast_ediv]
  rw [e]
  have : a.toNat / b.toNat ≤ a.toNat := Nat.div_le_self _ _
  obtain ⟨q, hq⟩ : ∃ q, q = a.toNat / b.toNat := ⟨_, rfl⟩
  rw [← hq] at this ⊢
  omega)
theorem yl_rem16 {a b : UInt16} (hx : ev L x = some (v16 a)) (hy : ev L y = some (v16 b)) (h : b ≠ 0) : Yl N P w ⟨dst, .binOp .rem t x y yt, ty, pos, af, gd⟩ L (v16 (a % b)) := yl_div hx hy (by
  intro e; exact h (UInt16.toNat_inj.1 (by simpa using e))) (by
  simp only [idiv, Option.some.injEq, UInt16.toNat_mod]
  rw [Int.tmod_eq_emod_of_nonneg (by omega), ← Int.natCast_emod])
theorem bits_u16 (a : UInt16) : BitVec.ofInt IntKind.u16.bits (a.toNat : Int) = a.toBitVec := by
  apply BitVec.eq_of_toNat_eq
  have := toNat_u16 a
  simp only [IntKind.bits, BitVec.toNat_ofInt]
  show _ = a.toNat
  omega
theorem yl_and16 {a b : UInt16} (hx : ev L x = some (v16 a)) (hy : ev L y = some (v16 b)) : Yl N P w ⟨dst, .binOp .and t x y yt, ty, pos, af, gd⟩ L (v16 (a &&& b)) := yl_bits hx hy (by
  have := toNat_u16 (a &&& b)
  simp only [ibits, Option.some.injEq, bits_u16, wrap_u16]
  show ((a &&& b).toNat : Int) % _ = _
  omega)
theorem yl_or16 {a b : UInt16} (hx : ev L x = some (v16 a)) (hy : ev L y = some (v16 b)) : Yl N P w ⟨dst, .binOp .or t x y yt, ty, pos, af, gd⟩ L (v16 (a ||| b)) := yl_bits hx hy (by
  have := toNat_u16 (a ||| b)
  simp only [ibits, Option.some.injEq, bits_u16, wrap_u16]
  show ((a ||| b).toNat : Int) % _ = _
  omega)
theorem yl_xor16 {a b : UInt16} (hx : ev L x = some (v16 a)) (hy : ev L y = some (v16 b)) : Yl N P w ⟨dst, .binOp .xor t x y yt, ty, pos, af, gd⟩ L (v16 (a ^^^ b)) := yl_bits hx hy (by
  have := toNat_u16 (a ^^^ b)
  simp only [ibits, Option.some.injEq, bits_u16, wrap_u16]
  show ((a ^^^ b).toNat : Int) % _ = _
  omega)
theorem yl_andNot16 {a b : UInt16} (hx : ev L x = some (v16 a)) (hy : ev L y = some (v16 b)) : Yl N P w ⟨dst, .binOp .andNot t x y yt, ty, pos, af, gd⟩ L (v16 (a &&& ~~~b)) := yl_bits hx hy (by
  have := toNat_u16 (a &&& ~~~b)
  simp only [ibits, Option.some.injEq, bits_u16, wrap_u16]
  show ((a &&& ~~~b).toNat : Int) % _ = _
  omega)
def shl16 (a : UInt16) (n : Nat) : UInt16 := UInt16.ofNat (a.toNat * 2 ^ n)
def shr16 (a : UInt16) (n : Nat) : UInt16 := UInt16.ofNat (a.toNat / 2 ^ n)
theorem shl16_min (a : UInt16) (n : Nat) : shl16 a (min n 16) = shl16 a n := by
  by_cases h : n ≤ 16
  · rw [Nat.min_eq_left h]
  · rw [Nat.min_eq_right (by omega)]
    apply UInt16.toNat_inj.1
    unfold shl16
    have e1 : 2 ^ n = 2 ^ 16 * 2 ^ (n - 16) := by rw [← Nat.pow_add]; congr 1; omega
    have e2 : (2 : Nat) ^ 16 = 65536 := by decide
    rw [UInt16.toNat_ofNat', UInt16.toNat_ofNat', e1, e2, ← Nat.mul_assoc, Nat.mul_right_comm, Nat.mul_mod_left, Nat.mul_mod_left]
theorem shr16_min (a : UInt16) (n : Nat) : shr16 a (min n 16) = shr16 a n := by
  by_cases h : n ≤ 16
  · rw [Nat.min_eq_left h]
  · rw [Nat.min_eq_right (by omega)]
    have h1 := toNat_u16 a
    have e2 : (2 : Nat) ^ 16 = 65536 := by decide
    have e3 : 2 ^ 16 ≤ 2 ^ n := Nat.pow_le_pow_right (by decide) (by omega)
    unfold shr16
    rw [Nat.div_eq_of_lt (by omega), Nat.div_eq_of_lt (by omega)]
theorem yl_shl16 {a : UInt16} {k : IntKind} {b : Int} (hx : ev L x = some (v16 a)) (hy : ev L y = some (.int k b)) (h : 0 ≤ b) : Yl N P w ⟨dst, .binOp .shl t x y yt, ty, pos, af, gd⟩ L (v16 (shl16 a b.toNat)) := yl_shift hx hy h (by
  rw [← shl16_min]
  have e : IntKind.u16.bits = 16 := rfl
  simp only [ishift, Option.some.injEq, wrap_u16, e, shl16, UInt16.toNat_ofNat']
  rw [Int.natCast_emod, Int.natCast_mul, Int.natCast_pow]; rfl)
theorem yl_shr16 {a : UInt16} {k : IntKind} {b : Int} (hx : ev L x = some (v16 a)) (hy : ev L y = some (.int k b)) (h : 0 ≤ b) : Yl N P w ⟨dst, .binOp .shr t x y yt, ty, pos, af, gd⟩ L (v16 (shr16 a b.toNat)) := yl_shift hx hy h (by
  rw [← shr16_min]
  have e : IntKind.u16.bits = 16 := rfl
  have h1 := toNat_u16 a
  have h2 : a.toNat / 2 ^ min b.toNat 16 ≤ a.toNat := Nat.div_le_self _ _
  have h3 : a.toNat / 2 ^ min b.toNat 16 % 2 ^ 16 = a.toNat / 2 ^ min b.toNat 16 := Nat.mod_eq_of_lt (by rw [show (2 : Nat) ^ 16 = 65536 from by decide]; omega)
  simp only [ishift, Option.some.injEq, e, shr16, UInt16.toNat_ofNat', h3]
  rw [Int.fdiv_eq_ediv_of_nonneg _ (Int.le_of_lt (Int.pow_pos (by decide))), Int.natCast_ediv, Int.natCast_pow]; rfl)
theorem ofInt_u16 (n : Int) : ((UInt16.ofInt n).toNat : Int) = n % 65536 := by
  have e : (2 : Int) ^ 16 = 65536 := by decide
  show ((UInt16.ofNat (n % 2 ^ _).toNat).toNat : Int) = _
  rw [UInt16.toNat_ofNat', e]
  omega
theorem yl_I16 {s : TypeId} {a : Int} (hs : (P.underlying s).isSome = true) (ht : P.underlying t = some (.int .u16)) (hx : ev L x = some (.int .i64 a)) : Yl N P w ⟨dst, .convert s t x, ty, pos, af, gd⟩ L (v16 (UInt16.ofInt a)) :=
  yl_conv hs ht hx (by rw [wrap_u16, ofInt_u16])
theorem yl_16I {s : TypeId} {a : UInt16} (hs : (P.underlying s).isSome = true) (ht : P.underlying t = some (.int .i64)) (hx : ev L x = some (v16 a))  : Yl N P w ⟨dst, .convert s t x, ty, pos, af, gd⟩ L (.int .i64 (a.toNat : Int)) :=
  yl_conv hs ht hx (IntWalk.i64_in _ (by have := toNat_u16 a; omega))


/-! ### UInt32 -/
@[reducible] def v32 (n : UInt32) : Value := .int .u32 (n.toNat : Int)
theorem wrap_u32 (n : Int) : IntKind.u32.wrap n = n % 4294967296 := by
  rw [wrap_nat 32 .u32 rfl rfl]; rfl
theorem toNat_u32 (n : UInt32) : n.toNat < 4294967296 := n.toNat_lt
theorem yl_eq32 {a b : UInt32} (hx : ev L x = some (v32 a)) (hy : ev L y = some (v32 b)) : Yl N P w ⟨dst, .binOp .eql t x y yt, ty, pos, af, gd⟩ L (.bool (decide (a = b))) := yl_cmp hx hy (by
  simp only [icmp, Option.some.injEq]; rw [Bool.eq_iff_iff]; simp [UInt32.toNat_inj, Int.natCast_inj])
theorem yl_ne32 {a b : UInt32} (hx : ev L x = some (v32 a)) (hy : ev L y = some (v32 b)) : Yl N P w ⟨dst, .binOp .neq t x y yt, ty, pos, af, gd⟩ L (.bool (!decide (a = b))) := yl_cmp hx hy (by
  simp only [icmp, Option.some.injEq]; rw [Bool.eq_iff_iff]; simp [UInt32.toNat_inj, Int.natCast_inj])
theorem yl_lt32 {a b : UInt32} (hx : ev L x = some (v32 a)) (hy : ev L y = some (v32 b)) : Yl N P w ⟨dst, .binOp .lss t x y yt, ty, pos, af, gd⟩ L (.bool (decide (a < b))) := yl_cmp hx hy (by
  simp only [icmp, Option.some.injEq]; rw [Bool.eq_iff_iff]; simp [UInt32.lt_iff_toNat_lt])
theorem yl_le32 {a b : UInt32} (hx : ev L x = some (v32 a)) (hy : ev L y = some (v32 b)) : Yl N P w ⟨dst, .binOp .leq t x y yt, ty, pos, af, gd⟩ L (.bool (decide (a ≤ b))) := yl_cmp hx hy (by
  simp only [icmp, Option.some.injEq]; rw [Bool.eq_iff_iff]; simp [UInt32.le_iff_toNat_le])
theorem yl_gt32 {a b : UInt32} (hx : ev L x = some (v32 a)) (hy : ev L y = some (v32 b)) : Yl N P w ⟨dst, .binOp .gtr t x y yt, ty, pos, af, gd⟩ L (.bool (decide (b < a))) := yl_cmp hx hy (by
  simp only [icmp, Option.some.injEq]; rw [Bool.eq_iff_iff]; simp [UInt32.lt_iff_toNat_lt])
theorem yl_ge32 {a b : UInt32} (hx : ev L x = some (v32 a)) (hy : ev L y = some (v32 b)) : Yl N P w ⟨dst, .binOp .geq t x y yt, ty, pos, af, gd⟩ L (.bool (decide (b ≤ a))) := yl_cmp hx hy (by
  simp only [icmp, Option.some.injEq]; rw [Bool.eq_iff_iff]; simp [UInt32.le_iff_toNat_le])
theorem yl_add32 {a b : UInt32} (hx : ev L x = some (v32 a)) (hy : ev L y = some (v32 b)) : Yl N P w ⟨dst, .binOp .add t x y yt, ty, pos, af, gd⟩ L (v32 (a + b)) := yl_arith hx hy (by
  simp only [iar, Option.some.injEq, wrap_u32, UInt32.toNat_add]; omega)
theorem yl_sub32 {a b : UInt32} (hx : ev L x = some (v32 a)) (hy : ev L y = some (v32 b)) : Yl N P w ⟨dst, .binOp .sub t x y yt, ty, pos, af, gd⟩ L (v32 (a - b)) := yl_arith hx hy (by
  have := toNat_u32 a; have := toNat_u32 b
  simp only [iar, Option.some.injEq, wrap_u32, UInt32.toNat_sub]; omega)
theorem yl_mul32 {a b : UInt32} (hx : ev L x = some (v32 a)) (hy : ev L y = some (v32 b)) : Yl N P w ⟨dst, .binOp .mul t x y yt, ty, pos, af, gd⟩ L (v32 (a * b)) := yl_arith hx hy (by
  simp only [iar, Option.some.injEq, wrap_u32, UInt32.toNat_mul]; rw [← Int.natCast_mul]; omega)
theorem yl_quo32 {a b : UInt32} (hx : ev L x = some (v32 a)) (hy : ev L y = some (v32 b)) (h : b ≠ 0) : Yl N P w ⟨dst, .binOp .quo t x y yt, ty, pos, af, gd⟩ L (v32 (a / b)) := yl_div hx hy (by
  intro e; exact h (UInt32.toNat_inj.1 (by simpa using e))) (by
  have h1 := toNat_u32 a
  simp only [idiv, Option.some.injEq, wrap_u32, UInt32.toNat_div]
  have e : (a.toNat : Int).tdiv (b.toNat : Int) = ((a.toNat / b.toNat : Nat) : Int) := by rw [Int.tdiv_eq_ediv_of_nonneg (by omega), Int.natCast_ediv]
  rw [e]
  have : a.toNat / b.toNat ≤ a.toNat := Nat.div_le_self _ _
  obtain ⟨q, hq⟩ : ∃ q, q = a.toNat / b.toNat := ⟨_, rfl⟩
  rw [← hq] at this ⊢
  omega)
theorem yl_rem32 {a b : UInt32} (hx : ev L x = some (v32 a)) (hy : ev L y = some (v32 b)) (h : b ≠ 0) : Yl N P w ⟨dst, .binOp .rem t x y yt, ty, pos, af, gd⟩ L (v32 (a % b)) := yl_div hx hy (by
  intro e; exact h (UInt32.toNat_inj.1 (by simpa using e))) (by
  simp only [idiv, Option.some.injEq, UInt32.toNat_mod]
  rw [Int.tmod_eq_emod_of_nonneg (by omega), ← Int.natCast_emod])
theorem bits_u32 (a : UInt32) : BitVec.ofInt IntKind.u32.bits (a.toNat : Int) = a.toBitVec := by
  apply BitVec.eq_of_toNat_eq
  have := toNat_u32 a
  simp only [IntKind.bits, BitVec.toNat_ofInt]
  show _ = a.toNat
  omega
theorem yl_and32 {a b : UInt32} (hx : ev L x = some (v32 a)) (hy : ev L y = some (v32 b)) : Yl N P w ⟨dst, .binOp .and t x y yt, ty, pos, af, gd⟩ L (v32 (a &&& b)) := yl_bits hx hy (by
  have := toNat_u32 (a &&& b)
  simp only [ibits, Option.some.injEq, bits_u32, wrap_u32]
  show ((a &&& b).toNat : Int) % _ = _
  omega)
theorem yl_or32 {a b : UInt32} (hx : ev L x = some (v32 a)) (hy : ev L y = some (v32 b)) : Yl N P w ⟨dst, .binOp .or t x y yt, ty, pos, af, gd⟩ L (v32 (a ||| b)) := yl_bits hx hy (by
  have := toNat_u32 (a ||| b)
  simp only [ibits, Option.some.injEq, bits_u32, wrap_u32]
  show ((a ||| b).toNat : Int) % _ = _
  omega)
theorem yl_xor32 {a b : UInt32} (hx : ev L x = some (v32 a)) (hy : ev L y = some (v32 b)) : Yl N P w ⟨dst, .binOp .xor t x y yt, ty, pos, af, gd⟩ L (v32 (a ^^^ b)) := yl_bits hx hy (by
  have := toNat_u32 (a ^^^ b)
  simp only [ibits, Option.some.injEq, bits_u32, wrap_u32]
  show ((a ^^^ b).toNat : Int) % _ = _
  omega)
theorem yl_cpl32 {b : UInt32} (hx : ev L x = some (v32 b)) : Yl N P w ⟨dst, .unOp .xor t x, ty, pos, af, gd⟩ L (v32 (4294967295 ^^^ b)) := yl_cpl rfl hx (by
  have := toNat_u32 (4294967295 ^^^ b)
  rw [show IntKind.max .u32 = ((4294967295 : UInt32).toNat : Int) from rfl]
  simp only [ibits, Option.some.injEq, bits_u32, wrap_u32]
  show ((4294967295 ^^^ b).toNat : Int) % _ = _
  omega)
theorem yl_andNot32 {a b : UInt32} (hx : ev L x = some (v32 a)) (hy : ev L y = some (v32 b)) : Yl N P w ⟨dst, .binOp .andNot t x y yt, ty, pos, af, gd⟩ L (v32 (a &&& ~~~b)) := yl_bits hx hy (by
  have := toNat_u32 (a &&& ~~~b)
  simp only [ibits, Option.some.injEq, bits_u32, wrap_u32]
  show ((a &&& ~~~b).toNat : Int) % _ = _
  omega)
def shl32 (a : UInt32) (n : Nat) : UInt32 := UInt32.ofNat (a.toNat * 2 ^ n)
def shr32 (a : UInt32) (n : Nat) : UInt32 := UInt32.ofNat (a.toNat / 2 ^ n)
theorem shl32_min (a : UInt32) (n : Nat) : shl32 a (min n 32) = shl32 a n := by
  by_cases h : n ≤ 32
  · rw [Nat.min_eq_left h]
  · rw [Nat.min_eq_right (by omega)]
    apply UInt32.toNat_inj.1
    unfold shl32
    have e1 : 2 ^ n = 2 ^ 32 * 2 ^ (n - 32) := by rw [← Nat.pow_add]; congr 1; omega
    have e2 : (2 : Nat) ^ 32 = 4294967296 := by decide
    rw [UInt32.toNat_ofNat', UInt32.toNat_ofNat', e1, e2, ← Nat.mul_assoc, Nat.mul_right_comm, Nat.mul_mod_left, Nat.mul_mod_left]
theorem shr32_min (a : UInt32) (n : Nat) : shr32 a (min n 32) = shr32 a n := by
  by_cases h : n ≤ 32
  · rw [Nat.min_eq_left h]
  · rw [Nat.min_eq_right (by omega)]
    have h1 := toNat_u32 a
    have e2 : (2 : Nat) ^ 32 = 4294967296 := by decide
    have e3 : 2 ^ 32 ≤ 2 ^ n := Nat.pow_le_pow_right (by decide) (by omega)
    unfold shr32
    rw [Nat.div_eq_of_lt (by omega), Nat.div_eq_of_lt (by omega)]
theorem yl_shl32 {a : UInt32} {k : IntKind} {b : Int} (hx : ev L x = some (v32 a)) (hy : ev L y = some (.int k b)) (h : 0 ≤ b) : Yl N P w ⟨dst, .binOp .shl t x y yt, ty, pos, af, gd⟩ L (v32 (shl32 a b.toNat)) := yl_shift hx hy h (by
  rw [← shl32_min]
  have e : IntKind.u32.bits = 32 := rfl
  simp only [ishift, Option.some.injEq, wrap_u32, e, shl32, UInt32.toNat_ofNat']
  rw [Int.natCast_emod, Int.natCast_mul, Int.natCast_pow]; rfl)
theorem yl_shr32 {a : UInt32} {k : IntKind} {b : Int} (hx : ev L x = some (v32 a)) (hy : ev L y = some (.int k b)) (h : 0 ≤ b) : Yl N P w ⟨dst, .binOp .shr t x y yt, ty, pos, af, gd⟩ L (v32 (shr32 a b.toNat)) := yl_shift hx hy h (by
  rw [← shr32_min]
  have e : IntKind.u32.bits = 32 := rfl
  have h1 := toNat_u32 a
  have h2 : a.toNat / 2 ^ min b.toNat 32 ≤ a.toNat := Nat.div_le_self _ _
  have h3 : a.toNat / 2 ^ min b.toNat 32 % 2 ^ 32 = a.toNat / 2 ^ min b.toNat 32 := Nat.mod_eq_of_lt (by rw [show (2 : Nat) ^ 32 = 4294967296 from by decide]; omega)
  simp only [ishift, Option.some.injEq, e, shr32, UInt32.toNat_ofNat', h3]
  rw [Int.fdiv_eq_ediv_of_nonneg _ (Int.le_of_lt (Int.pow_pos (by decide))), Int.natCast_ediv, Int.natCast_pow]; rfl)
theorem ofInt_u32 (n : Int) : ((UInt32.ofInt n).toNat : Int) = n % 4294967296 := by
  have e : (2 : Int) ^ 32 = 4294967296 := by decide
  show ((UInt32.ofNat (n % 2 ^ _).toNat).toNat : Int) = _
  rw [UInt32.toNat_ofNat', e]
  omega
theorem yl_I32 {s : TypeId} {a : Int} (hs : (P.underlying s).isSome = true) (ht : P.underlying t = some (.int .u32)) (hx : ev L x = some (.int .i64 a)) : Yl N P w ⟨dst, .convert s t x, ty, pos, af, gd⟩ L (v32 (UInt32.ofInt a)) :=
  yl_conv hs ht hx (by rw [wrap_u32, ofInt_u32])
theorem yl_32I {s : TypeId} {a : UInt32} (hs : (P.underlying s).isSome = true) (ht : P.underlying t = some (.int .i64)) (hx : ev L x = some (v32 a))  : Yl N P w ⟨dst, .convert s t x, ty, pos, af, gd⟩ L (.int .i64 (a.toNat : Int)) :=
  yl_conv hs ht hx (IntWalk.i64_in _ (by have := toNat_u32 a; omega))


/-! ### UInt64 -/
@[reducible] def v64 (n : UInt64) : Value := .int .u64 (n.toNat : Int)
theorem wrap_u64 (n : Int) : IntKind.u64.wrap n = n % 18446744073709551616 := by
  rw [wrap_nat 64 .u64 rfl rfl]; rfl
theorem toNat_u64 (n : UInt64) : n.toNat < 18446744073709551616 := n.toNat_lt
theorem yl_eq64 {a b : UInt64} (hx : ev L x = some (v64 a)) (hy : ev L y = some (v64 b)) : Yl N P w ⟨dst, .binOp .eql t x y yt, ty, pos, af, gd⟩ L (.bool (decide (a = b))) := yl_cmp hx hy (by
  simp only [icmp, Option.some.injEq]; rw [Bool.eq_iff_iff]; simp [UInt64.toNat_inj, Int.natCast_inj])
theorem yl_ne64 {a b : UInt64} (hx : ev L x = some (v64 a)) (hy : ev L y = some (v64 b)) : Yl N P w ⟨dst, .binOp .neq t x y yt, ty, pos, af, gd⟩ L (.bool (!decide (a = b))) := yl_cmp hx hy (by
  simp only [icmp, Option.some.injEq]; rw [Bool.eq_iff_iff]; simp [UInt64.toNat_inj, Int.natCast_inj])
theorem yl_lt64 {a b : UInt64} (hx : ev L x = some (v64 a)) (hy : ev L y = some (v64 b)) : Yl N P w ⟨dst, .binOp .lss t x y yt, ty, pos, af, gd⟩ L (.bool (decide (a < b))) := yl_cmp hx hy (by
  simp only [icmp, Option.some.injEq]; rw [Bool.eq_iff_iff]; simp [UInt64.lt_iff_toNat_lt])
theorem yl_le64 {a b : UInt64} (hx : ev L x = some (v64 a)) (hy : ev L y = some (v64 b)) : Yl N P w ⟨dst, .binOp .leq t x y yt, ty, pos, af, gd⟩ L (.bool (decide (a ≤ b))) := yl_cmp hx hy (by
  simp only [icmp, Option.some.injEq]; rw [Bool.eq_iff_iff]; simp [UInt64.le_iff_toNat_le])
theorem yl_gt64 {a b : UInt64} (hx : ev L x = some (v64 a)) (hy : ev L y = some (v64 b)) : Yl N P w ⟨dst, .binOp .gtr t x y yt, ty, pos, af, gd⟩ L (.bool (decide (b < a))) := yl_cmp hx hy (by
  simp only [icmp, Option.some.injEq]; rw [Bool.eq_iff_iff]; simp [UInt64.lt_iff_toNat_lt])
theorem yl_ge64 {a b : UInt64} (hx : ev L x = some (v64 a)) (hy : ev L y = some (v64 b)) : Yl N P w ⟨dst, .binOp .geq t x y yt, ty, pos, af, gd⟩ L (.bool (decide (b ≤ a))) := yl_cmp hx hy (by
  simp only [icmp, Option.some.injEq]; rw [Bool.eq_iff_iff]; simp [UInt64.le_iff_toNat_le])
theorem yl_add64 {a b : UInt64} (hx : ev L x = some (v64 a)) (hy : ev L y = some (v64 b)) : Yl N P w ⟨dst, .binOp .add t x y yt, ty, pos, af, gd⟩ L (v64 (a + b)) := yl_arith hx hy (by
  simp only [iar, Option.some.injEq, wrap_u64, UInt64.toNat_add]; omega)
theorem yl_sub64 {a b : UInt64} (hx : ev L x = some (v64 a)) (hy : ev L y = some (v64 b)) : Yl N P w ⟨dst, .binOp .sub t x y yt, ty, pos, af, gd⟩ L (v64 (a - b)) := yl_arith hx hy (by
  have := toNat_u64 a; have := toNat_u64 b
  simp only [iar, Option.some.injEq, wrap_u64, UInt64.toNat_sub]; omega)
theorem yl_mul64 {a b : UInt64} (hx : ev L x = some (v64 a)) (hy : ev L y = some (v64 b)) : Yl N P w ⟨dst, .binOp .mul t x y yt, ty, pos, af, gd⟩ L (v64 (a * b)) := yl_arith hx hy (by
  simp only [iar, Option.some.injEq, wrap_u64, UInt64.toNat_mul]; rw [← Int.natCast_mul]; omega)
theorem yl_quo64 {a b : UInt64} (hx : ev L x = some (v64 a)) (hy : ev L y = some (v64 b)) (h : b ≠ 0) : Yl N P w ⟨dst, .binOp .quo t x y yt, ty, pos, af, gd⟩ L (v64 (a / b)) := yl_div hx hy (by
  intro e; exact h (UInt64.toNat_inj.1 (by simpa using e))) (by
  have h1 := toNat_u64 a
  simp only [idiv, Option.some.injEq, wrap_u64, UInt64.toNat_div]
  have e : (a.toNat : Int).tdiv (b.toNat : Int) = ((a.toNat / b.toNat : Nat) : Int) := by rw [Int.tdiv_eq_ediv_of_nonneg (by omega), Int.natCast_ediv]
  rw [e]
  have : a.toNat / b.toNat ≤ a.toNat := Nat.div_le_self _ _
  obtain ⟨q, hq⟩ : ∃ q, q = a.toNat / b.toNat := ⟨_, rfl⟩
  rw [← hq] at this ⊢
  omega)
theorem yl_rem64 {a b : UInt64} (hx : ev L x = some (v64 a)) (hy : ev L y = some (v64 b)) (h : b ≠ 0) : Yl N P w ⟨dst, .binOp .rem t x y yt, ty, pos, af, gd⟩ L (v64 (a % b)) := yl_div hx hy (by
  intro e; exact h (UInt64.toNat_inj.1 (by simpa using e))) (by
  simp only [idiv, Option.some.injEq, UInt64.toNat_mod]
  rw [Int.tmod_eq_emod_of_nonneg (by omega), ← Int.natCast_emod])
theorem bits_u64 (a : UInt64) : BitVec.ofInt IntKind.u64.bits (a.toNat : Int) = a.toBitVec := by
  apply BitVec.eq_of_toNat_eq
  have := toNat_u64 a
  simp only [IntKind.bits, BitVec.toNat_ofInt]
  show _ = a.toNat
  omega
theorem yl_and64 {a b : UInt64} (hx : ev L x = some (v64 a)) (hy : ev L y = some (v64 b)) : Yl N P w ⟨dst, .binOp .and t x y yt, ty, pos, af, gd⟩ L (v64 (a &&& b)) := yl_bits hx hy (by
  have := toNat_u64 (a &&& b)
  simp only [ibits, Option.some.injEq, bits_u64, wrap_u64]
  show ((a &&& b).toNat : Int) % _ = _
  omega)
theorem yl_or64 {a b : UInt64} (hx : ev L x = some (v64 a)) (hy : ev L y = some (v64 b)) : Yl N P w ⟨dst, .binOp .or t x y yt, ty, pos, af, gd⟩ L (v64 (a ||| b)) := yl_bits hx hy (by
  have := toNat_u64 (a ||| b)
  simp only [ibits, Option.some.injEq, bits_u64, wrap_u64]
  show ((a ||| b).toNat : Int) % _ = _
  omega)
theorem yl_xor64 {a b : UInt64} (hx : ev L x = some (v64 a)) (hy : ev L y = some (v64 b)) : Yl N P w ⟨dst, .binOp .xor t x y yt, ty, pos, af, gd⟩ L (v64 (a ^^^ b)) := yl_bits hx hy (by
  have := toNat_u64 (a ^^^ b)
  simp only [ibits, Option.some.injEq, bits_u64, wrap_u64]
  show ((a ^^^ b).toNat : Int) % _ = _
  omega)
theorem yl_andNot64 {a b : UInt64} (hx : ev L x = some (v64 a)) (hy : ev L y = some (v64 b)) : Yl N P w ⟨dst, .binOp .andNot t x y yt, ty, pos, af, gd⟩ L (v64 (a &&& ~~~b)) := yl_bits hx hy (by
  have := toNat_u64 (a &&& ~~~b)
  simp only [ibits, Option.some.injEq, bits_u64, wrap_u64]
  show ((a &&& ~~~b).toNat : Int) % _ = _
  omega)
def shl64 (a : UInt64) (n : Nat) : UInt64 := UInt64.ofNat (a.toNat * 2 ^ n)
def shr64 (a : UInt64) (n : Nat) : UInt64 := UInt64.ofNat (a.toNat / 2 ^ n)
theorem shl64_min (a : UInt64) (n : Nat) : shl64 a (min n 64) = shl64 a n := by
  by_cases h : n ≤ 64
  · rw [Nat.min_eq_left h]
  · rw [Nat.min_eq_right (by omega)]
    apply UInt64.toNat_inj.1
    unfold shl64
    have e1 : 2 ^ n = 2 ^ 64 * 2 ^ (n - 64) := by rw [← Nat.pow_add]; congr 1; omega
    have e2 : (2 : Nat) ^ 64 = 18446744073709551616 := by decide
    rw [UInt64.toNat_ofNat', UInt64.toNat_ofNat', e1, e2, ← Nat.mul_assoc, Nat.mul_right_comm, Nat.mul_mod_left, Nat.mul_mod_left]
theorem shr64_min (a : UInt64) (n : Nat) : shr64 a (min n 64) = shr64 a n := by
  by_cases h : n ≤ 64
  · rw [Nat.min_eq_left h]
  · rw [Nat.min_eq_right (by omega)]
    have h1 := toNat_u64 a
    have e2 : (2 : Nat) ^ 64 = 18446744073709551616 := by decide
    have e3 : 2 ^ 64 ≤ 2 ^ n := Nat.pow_le_pow_right (by decide) (by omega)
    unfold shr64
    rw [Nat.div_eq_of_lt (by omega), Nat.div_eq_of_lt (by omega)]
theorem yl_shl64 {a : UInt64} {k : IntKind} {b : Int} (hx : ev L x = some (v64 a)) (hy : ev L y = some (.int k b)) (h : 0 ≤ b) : Yl N P w ⟨dst, .binOp .shl t x y yt, ty, pos, af, gd⟩ L (v64 (shl64 a b.toNat)) := yl_shift hx hy h (by
  rw [← shl64_min]
  have e : IntKind.u64.bits = 64 := rfl
  simp only [ishift, Option.some.injEq, wrap_u64, e, shl64, UInt64.toNat_ofNat']
  rw [Int.natCast_emod, Int.natCast_mul, Int.natCast_pow]; rfl)
theorem yl_shr64 {a : UInt64} {k : IntKind} {b : Int} (hx : ev L x = some (v64 a)) (hy : ev L y = some (.int k b)) (h : 0 ≤ b) : Yl N P w ⟨dst, .binOp .shr t x y yt, ty, pos, af, gd⟩ L (v64 (shr64 a b.toNat)) := yl_shift hx hy h (by
  rw [← shr64_min]
  have e : IntKind.u64.bits = 64 := rfl
  have h1 := toNat_u64 a
  have h2 : a.toNat / 2 ^ min b.toNat 64 ≤ a.toNat := Nat.div_le_self _ _
  have h3 : a.toNat / 2 ^ min b.toNat 64 % 2 ^ 64 = a.toNat / 2 ^ min b.toNat 64 := Nat.mod_eq_of_lt (by rw [show (2 : Nat) ^ 64 = 18446744073709551616 from by decide]; omega)
  simp only [ishift, Option.some.injEq, e, shr64, UInt64.toNat_ofNat', h3]
  rw [Int.fdiv_eq_ediv_of_nonneg _ (Int.le_of_lt (Int.pow_pos (by decide))), Int.natCast_ediv, Int.natCast_pow]; rfl)
theorem ofInt_u64 (n : Int) : ((UInt64.ofInt n).toNat : Int) = n % 18446744073709551616 := by
  have e : (2 : Int) ^ 64 = 18446744073709551616 := by decide
  show ((UInt64.ofNat (n % 2 ^ _).toNat).toNat : Int) = _
  rw [UInt64.toNat_ofNat', e]
  omega
theorem yl_I64 {s : TypeId} {a : Int} (hs : (P.underlying s).isSome = true) (ht : P.underlying t = some (.int .u64)) (hx : ev L x = some (.int .i64 a)) : Yl N P w ⟨dst, .convert s t x, ty, pos, af, gd⟩ L (v64 (UInt64.ofInt a)) :=
  yl_conv hs ht hx (by rw [wrap_u64, ofInt_u64])
theorem yl_64I {s : TypeId} {a : UInt64} (hs : (P.underlying s).isSome = true) (ht : P.underlying t = some (.int .i64)) (hx : ev L x = some (v64 a)) (h : a.toNat < 9223372036854775808) : Yl N P w ⟨dst, .convert s t x, ty, pos, af, gd⟩ L (.int .i64 (a.toNat : Int)) :=
  yl_conv hs ht hx (IntWalk.i64_in _ (by have := toNat_u64 a; omega))

theorem yl_8to8 {s : TypeId} {a : UInt8} (hs : (P.underlying s).isSome = true) (ht : P.underlying t = some (.int .u8)) (hx : ev L x = some (v8 a)) : Yl N P w ⟨dst, .convert s t x, ty, pos, af, gd⟩ L (v8 (a)) :=
  yl_conv hs ht hx (by have := toNat_u8 a; rw [wrap_u8]; first | omega | (simp; done) | (simp; omega))
theorem yl_8to16 {s : TypeId} {a : UInt8} (hs : (P.underlying s).isSome = true) (ht : P.underlying t = some (.int .u16)) (hx : ev L x = some (v8 a)) : Yl N P w ⟨dst, .convert s t x, ty, pos, af, gd⟩ L (v16 (a.toUInt16)) :=
  yl_conv hs ht hx (by have := toNat_u8 a; rw [wrap_u16]; first | omega | (simp; done) | (simp; omega))
theorem yl_8to32 {s : TypeId} {a : UInt8} (hs : (P.underlying s).isSome = true) (ht : P.underlying t = some (.int .u32)) (hx : ev L x = some (v8 a)) : Yl N P w ⟨dst, .convert s t x, ty, pos, af, gd⟩ L (v32 (a.toUInt32)) :=
  yl_conv hs ht hx (by have := toNat_u8 a; rw [wrap_u32]; first | omega | (simp; done) | (simp; omega))
theorem yl_8to64 {s : TypeId} {a : UInt8} (hs : (P.underlying s).isSome = true) (ht : P.underlying t = some (.int .u64)) (hx : ev L x = some (v8 a)) : Yl N P w ⟨dst, .convert s t x, ty, pos, af, gd⟩ L (v64 (a.toUInt64)) :=
  yl_conv hs ht hx (by have := toNat_u8 a; rw [wrap_u64]; first | omega | (simp; done) | (simp; omega))
theorem yl_16to8 {s : TypeId} {a : UInt16} (hs : (P.underlying s).isSome = true) (ht : P.underlying t = some (.int .u8)) (hx : ev L x = some (v16 a)) : Yl N P w ⟨dst, .convert s t x, ty, pos, af, gd⟩ L (v8 (a.toUInt8)) :=
  yl_conv hs ht hx (by have := toNat_u16 a; rw [wrap_u8]; first | omega | (simp; done) | (simp; omega))
theorem yl_16to16 {s : TypeId} {a : UInt16} (hs : (P.underlying s).isSome = true) (ht : P.underlying t = some (.int .u16)) (hx : ev L x = some (v16 a)) : Yl N P w ⟨dst, .convert s t x, ty, pos, af, gd⟩ L (v16 (a)) :=
  yl_conv hs ht hx (by have := toNat_u16 a; rw [wrap_u16]; first | omega | (simp; done) | (simp; omega))
theorem yl_16to32 {s : TypeId} {a : UInt16} (hs : (P.underlying s).isSome = true) (ht : P.underlying t = some (.int .u32)) (hx : ev L x = some (v16 a)) : Yl N P w ⟨dst, .convert s t x, ty, pos, af, gd⟩ L (v32 (a.toUInt32)) :=
  yl_conv hs ht hx (by have := toNat_u16 a; rw [wrap_u32]; first | omega | (simp; done) | (simp; omega))
theorem yl_16to64 {s : TypeId} {a : UInt16} (hs : (P.underlying s).isSome = true) (ht : P.underlying t = some (.int .u64)) (hx : ev L x = some (v16 a)) : Yl N P w ⟨dst, .convert s t x, ty, pos, af, gd⟩ L (v64 (a.toUInt64)) :=
  yl_conv hs ht hx (by have := toNat_u16 a; rw [wrap_u64]; first | omega | (simp; done) | (simp; omega))
theorem yl_32to8 {s : TypeId} {a : UInt32} (hs : (P.underlying s).isSome = true) (ht : P.underlying t = some (.int .u8)) (hx : ev L x = some (v32 a)) : Yl N P w ⟨dst, .convert s t x, ty, pos, af, gd⟩ L (v8 (a.toUInt8)) :=
  yl_conv hs ht hx (by have := toNat_u32 a; rw [wrap_u8]; first | omega | (simp; done) | (simp; omega))
theorem yl_32to16 {s : TypeId} {a : UInt32} (hs : (P.underlying s).isSome = true) (ht : P.underlying t = some (.int .u16)) (hx : ev L x = some (v32 a)) : Yl N P w ⟨dst, .convert s t x, ty, pos, af, gd⟩ L (v16 (a.toUInt16)) :=
  yl_conv hs ht hx (by have := toNat_u32 a; rw [wrap_u16]; first | omega | (simp; done) | (simp; omega))
theorem yl_32to32 {s : TypeId} {a : UInt32} (hs : (P.underlying s).isSome = true) (ht : P.underlying t = some (.int .u32)) (hx : ev L x = some (v32 a)) : Yl N P w ⟨dst, .convert s t x, ty, pos, af, gd⟩ L (v32 (a)) :=
  yl_conv hs ht hx (by have := toNat_u32 a; rw [wrap_u32]; first | omega | (simp; done) | (simp; omega))
theorem yl_32to64 {s : TypeId} {a : UInt32} (hs : (P.underlying s).isSome = true) (ht : P.underlying t = some (.int .u64)) (hx : ev L x = some (v32 a)) : Yl N P w ⟨dst, .convert s t x, ty, pos, af, gd⟩ L (v64 (a.toUInt64)) :=
  yl_conv hs ht hx (by have := toNat_u32 a; rw [wrap_u64]; first | omega | (simp; done) | (simp; omega))
theorem yl_64to8 {s : TypeId} {a : UInt64} (hs : (P.underlying s).isSome = true) (ht : P.underlying t = some (.int .u8)) (hx : ev L x = some (v64 a)) : Yl N P w ⟨dst, .convert s t x, ty, pos, af, gd⟩ L (v8 (a.toUInt8)) :=
  yl_conv hs ht hx (by have := toNat_u64 a; rw [wrap_u8]; first | omega | (simp; done) | (simp; omega))
theorem yl_64to16 {s : TypeId} {a : UInt64} (hs : (P.underlying s).isSome = true) (ht : P.underlying t = some (.int .u16)) (hx : ev L x = some (v64 a)) : Yl N P w ⟨dst, .convert s t x, ty, pos, af, gd⟩ L (v16 (a.toUInt16)) :=
  yl_conv hs ht hx (by have := toNat_u64 a; rw [wrap_u16]; first | omega | (simp; done) | (simp; omega))
theorem yl_64to32 {s : TypeId} {a : UInt64} (hs : (P.underlying s).isSome = true) (ht : P.underlying t = some (.int .u32)) (hx : ev L x = some (v64 a)) : Yl N P w ⟨dst, .convert s t x, ty, pos, af, gd⟩ L (v32 (a.toUInt32)) :=
  yl_conv hs ht hx (by have := toNat_u64 a; rw [wrap_u32]; first | omega | (simp; done) | (simp; omega))
theorem yl_64to64 {s : TypeId} {a : UInt64} (hs : (P.underlying s).isSome = true) (ht : P.underlying t = some (.int .u64)) (hx : ev L x = some (v64 a)) : Yl N P w ⟨dst, .convert s t x, ty, pos, af, gd⟩ L (v64 (a)) :=
  yl_conv hs ht hx (by have := toNat_u64 a; rw [wrap_u64]; first | omega | (simp; done) | (simp; omega))
end
end Go.Proofs.YtpheilpcklfknaaDoor
