/-
  Words that the walks lean on: contents of rows by their kind, small equations. No condition.
-/
import Derived.Test.YtaaahjcldomnbaaSlDraw
namespace Go.Proofs.Ytaaahjcldomnbaa
open Go Go.RowKit
set_option linter.unusedVariables false
set_option linter.unusedSimpArgs false
theorem sl_cast {W w : World} {l l' : List Res} (e : l = l') (h : Sat W w l) : Sat W w l' := e ▸ h
theorem SatIn.keepN {w : World} : ∀ (m n : Nat) {l : List Res} {S : Nat → Prop}, SatIn w S l → SatIn w S (l.take m ++ l.drop (m + n))
  | 0, n, l, S, h => by
    simp only [List.take_zero, List.nil_append, Nat.zero_add]
    induction n generalizing l S with
    | zero => exact h
    | succ n ih => cases l with
      | nil => exact h
      | cons a l => exact ih _ _ (SatIn.tail h)
  | m + 1, n, [], S, h => by simpa using h
  | m + 1, n, a :: l, S, ⟨T, hT, ho, hl⟩ => by
    have := SatIn.keepN m n hl
    have e : m + 1 + n = (m + n) + 1 := by omega
    rw [e]
    exact ⟨T, hT, ho, this⟩
theorem Sat.keep {W w : World} {l : List Res} (m n : Nat) (h : Sat W w l) : Sat W w (l.take m ++ l.drop (m + n)) := ⟨h.below, h.own.keepN m n⟩
theorem beq_t {a b : Int} (h : a = b) : (a == b) = true := by simp [h]
theorem beq_f {a b : Int} (h : ¬ a = b) : (a == b) = false := by simp [h]
theorem bne_t {a b : Int} (h : ¬ a = b) : (a != b) = true := by simp [h]
theorem bne_f {a b : Int} (h : a = b) : (a != b) = false := by simp [h]
theorem not_t {b : Bool} (h : b = false) : (!b) = true := by simp [h]
theorem not_f {b : Bool} (h : b = true) : (!b) = false := by simp [h]
def intV (n : Int) : Value := .int .i64 n
def intsV (l : List Int) : List Value := l.map intV
theorem intsV_one (l : List Int) : ∀ u ∈ intsV l, u.oneCell' = true := fun u hu => by
  obtain ⟨b, _, rfl⟩ := List.mem_map.1 hu; rfl
theorem intsV_length (l : List Int) : (intsV l).length = l.length := by simp [intsV]
theorem intsV_get {l : List Int} {j : Nat} {c : Int} (h : l[j]? = some c) : (intsV l)[j]? = some (intV c) := by simp [intsV, h]
def boolsV (l : List Bool) : List Value := l.map Value.bool
theorem boolsV_one (l : List Bool) : ∀ u ∈ boolsV l, u.oneCell' = true := fun u hu => by
  obtain ⟨b, _, rfl⟩ := List.mem_map.1 hu; rfl
theorem boolsV_length (l : List Bool) : (boolsV l).length = l.length := by simp [boolsV]
theorem boolsV_get {l : List Bool} {j : Nat} {c : Bool} (h : l[j]? = some c) : (boolsV l)[j]? = some (Value.bool c) := by simp [boolsV, h]
theorem setN_one (cs : List Value) (i : Nat) (v : Value) : setN cs i [v] = cs.set i v := rfl
theorem intsV_set (l : List Int) (i : Nat) (v : Int) : setN (intsV l) i [.int .i64 v] = intsV (l.set i v) := by simp [setN, intsV, List.map_set, intV]
theorem boolsV_set (l : List Bool) (i : Nat) (v : Bool) : setN (boolsV l) i [.bool v] = boolsV (l.set i v) := by simp [setN, boolsV, List.map_set]
theorem bytesV_set (l : List UInt8) (i : Nat) (v : UInt8) : setN (bytesV l) i [.int .u8 (v.toNat : Int)] = bytesV (l.set i v) := by simp [setN, bytesV, List.map_set, byteV]
theorem cut_bytes {w : World} {p' p : Option Addr} {c l : Nat} {xs : List UInt8} (h : Cut p' p c l 1) (hv : View w p (bytesV xs)) (hl : xs.length ≤ c) : View w p' (bytesV (xs.drop l)) := by
  have := h.view hv (by rw [bytesV_length]; omega)
  rw [Nat.mul_one] at this
  rw [bytesV_drop]; exact this
theorem cut2_bytes {w : World} {p' p : Option Addr} {c l : Nat} {xs : List UInt8} (h : Cut p' p c l 1) (hv : View w p (bytesV xs)) (hl : xs.length ≤ c) (m : Nat) : View w p' (bytesV ((xs.take m).drop l)) := by
  refine cut_bytes h ?_ (by rw [List.length_take]; omega)
  rw [bytesV_take]; exact View.take hv m
theorem take_bytes {w : World} {p : Option Addr} {xs : List UInt8} (hv : View w p (bytesV xs)) (m : Nat) : View w p (bytesV (xs.take m)) := by rw [bytesV_take]; exact View.take hv m
theorem take_ints {w : World} {p : Option Addr} {xs : List Int} (hv : View w p (intsV xs)) (m : Nat) : View w p (intsV (xs.take m)) := by
  have := View.take hv m
  simpa [intsV] using this
theorem cut_ints {w : World} {p' p : Option Addr} {c l : Nat} {xs : List Int} (h : Cut p' p c l 1) (hv : View w p (intsV xs)) (hl : xs.length ≤ c) : View w p' (intsV (xs.drop l)) := by
  have := h.view hv (by rw [intsV_length]; omega)
  rw [Nat.mul_one] at this
  simpa [intsV] using this
theorem cut2_ints {w : World} {p' p : Option Addr} {c l : Nat} {xs : List Int} (h : Cut p' p c l 1) (hv : View w p (intsV xs)) (hl : xs.length ≤ c) (m : Nat) : View w p' (intsV ((xs.take m).drop l)) := by
  refine cut_ints h ?_ (by rw [List.length_take]; omega)
  have := View.take hv m
  simpa [intsV] using this
end Go.Proofs.Ytaaahjcldomnbaa
