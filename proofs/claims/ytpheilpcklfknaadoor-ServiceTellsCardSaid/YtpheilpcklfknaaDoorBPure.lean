/-
  Plain laws that proofs about models lean on: loops over lists, numbers in bytes. No condition.
-/
import Derived.Test.YtpheilpcklfknaaDoorBExt
namespace Go.Proofs.YtpheilpcklfknaaDoor
open Go Go.RowKit
set_option linter.unusedVariables false
set_option linter.unusedSimpArgs false
theorem loopO_none {σ ρ : Type} {body : σ → Option (σ ⊕ ρ)} {s : σ} (h : body s = none) : loopO body s = none := by
  cases hh : loopO body s with
  | none => rfl
  | some r =>
    obtain ⟨k, hk⟩ := loopO_some.1 hh
    cases k with
    | zero => cases hk
    | succ k => unfold iter at hk; rw [h] at hk; cases hk
/-- As Option.bind_some, told to simp by a step of its own: no kernel's run over what stands around it. -/
theorem some_bindP {α β : Type} (a : α) (f : α → Option β) : (some a).bind f = f a := by
  generalize h : f a = y
  rw [Option.bind_some, h]
theorem ok_small {n : Int} (h : -4611686018427387904 ≤ n ∧ n ≤ 4611686018427387904) : ok64 n := ⟨by omega, by omega⟩
theorem at?_in {α : Type} {l : List α} {k : Nat} (h : k < l.length) : at? l (k : Int) = some l[k] := by rw [at?_nat, List.getElem?_eq_getElem h]
/-- A loop that folds a list from a place on. -/
theorem loop_fold {α σ : Type} {body : σ × Int → Option ((σ × Int) ⊕ σ)} (xs : List α) (f : σ → α → σ) (hl : xs.length ≤ 4611686018427387904)
    (hb : ∀ s t, body (s, t) = if t < (xs.length : Int) then (at? xs t).bind fun x => if ok64 (t + 1) then some (.inl (f s x, t + 1)) else none else some (.inr s)) :
    ∀ (d k : Nat) (s : σ), xs.length = k + d → loopO body (s, (k : Int)) = some ((xs.drop k).foldl f s) := by
  intro d
  induction d with
  | zero =>
    intro k s h
    rw [loopO_end (r := s) (by rw [hb, if_neg (by omega)]), List.drop_of_length_le (by omega)]; rfl
  | succ d ih =>
    intro k s h
    have hk : k < xs.length := by omega
    rw [loopO_next (s' := (f s xs[k], ((k + 1 : Nat) : Int))) (by
      rw [hb, if_pos (by omega), at?_in hk, Option.bind_some, if_pos (ok_small (by omega))]; rfl), ih (k + 1) _ (by omega), List.drop_eq_getElem_cons hk]
    rfl
theorem loop_fold0 {α σ : Type} {body : σ × Int → Option ((σ × Int) ⊕ σ)} (xs : List α) (f : σ → α → σ) (hl : xs.length ≤ 4611686018427387904)
    (hb : ∀ s t, body (s, t) = if t < (xs.length : Int) then (at? xs t).bind fun x => if ok64 (t + 1) then some (.inl (f s x, t + 1)) else none else some (.inr s)) (s : σ) :
    loopO body (s, 0) = some (xs.foldl f s) := loop_fold xs f hl hb xs.length 0 s (by omega)
/-- One more byte, put behind a number. -/
theorem shl_or (n : UInt64) (x : UInt8) : shl64 n 8 ||| x.toUInt64 = n * 256 + x.toUInt64 := by
  apply UInt64.toNat_inj.1
  have hx := x.toNat_lt
  have hn := n.toNat_lt
  have e1 : (shl64 n 8).toNat = n.toNat % 72057594037927936 * 256 := by
    show (UInt64.ofNat (n.toNat * 2 ^ 8)).toNat = _
    rw [UInt64.toNat_ofNat']
    omega
  rw [UInt64.toNat_or, UInt64.toNat_add, UInt64.toNat_mul, e1]
  have e2 : x.toUInt64.toNat = x.toNat := by simp
  have e3 : (256 : UInt64).toNat = 256 := rfl
  rw [e2, e3]
  have e4 : n.toNat % 72057594037927936 * 256 ||| x.toNat = n.toNat % 72057594037927936 * 256 + x.toNat := by
    have := Nat.shiftLeft_add_eq_or_of_lt (i := 8) (b := x.toNat) (by omega) (n.toNat % 72057594037927936)
    rw [Nat.shiftLeft_eq] at this
    exact this.symm
  rw [e4]
  omega
/-- The number that bytes tell, the most significant first. -/
def num (l : List UInt8) : UInt64 := l.foldl (fun n x => n * 256 + x.toUInt64) 0
end Go.Proofs.YtpheilpcklfknaaDoor
