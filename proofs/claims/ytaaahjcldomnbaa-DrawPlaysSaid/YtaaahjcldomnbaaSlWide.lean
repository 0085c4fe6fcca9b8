/-
  Rows of structs: their cells, one struct behind the other. No condition.
-/
import Derived.Test.YtaaahjcldomnbaaSlRow
namespace Go.Proofs.Ytaaahjcldomnbaa
open Go Go.RowKit
set_option linter.unusedVariables false
set_option linter.unusedSimpArgs false
section
variable {α : Type} {f : α → List Value} {s : Nat}
theorem flat_length (hs : ∀ x, (f x).length = s) : ∀ l : List α, (l.flatMap f).length = l.length * s
  | [] => by simp
  | x :: l => by rw [List.flatMap_cons, List.length_append, hs, flat_length hs l, List.length_cons, Nat.succ_mul]; omega
theorem flat_get (hs : ∀ x, (f x).length = s) : ∀ {l : List α} {k : Nat} {x : α}, l[k]? = some x → ∀ j v, (f x)[j]? = some v → (l.flatMap f)[k * s + j]? = some v
  | [], k, x, h, j, v, hv => by simp at h
  | y :: l, 0, x, h, j, v, hv => by
    obtain rfl : y = x := by simpa using h
    rw [List.flatMap_cons, Nat.zero_mul, Nat.zero_add, List.getElem?_append_left (List.getElem?_eq_some_iff.1 hv).1]
    exact hv
  | y :: l, k + 1, x, h, j, v, hv => by
    rw [List.flatMap_cons, List.getElem?_append_right (by rw [hs, Nat.succ_mul]; omega), hs]
    rw [show (k + 1) * s + j - s = k * s + j by rw [Nat.succ_mul]; omega]
    exact flat_get hs (by simpa using h) j v hv
theorem View.elem {w : World} {b o : Nat} {l : List α} (hs : ∀ x, (f x).length = s) (hv : View w (some ⟨b, o, none⟩) (l.flatMap f)) {k : Nat} {x : α} (hx : l[k]? = some x) : View w (some ⟨b, o + k * s, none⟩) (f x) := by
  intro j v hj
  have := hv.at_ (flat_get hs hx j v hj)
  exact ⟨b, o + k * s, rfl, by rw [Nat.add_assoc]; exact this⟩
theorem View.elem0 {w : World} {b : Nat} {l : List α} (hs : ∀ x, (f x).length = s) (hv : View w (some ⟨b, 0, none⟩) (l.flatMap f)) {k : Nat} {x : α} (hx : l[k]? = some x) : View w (some ⟨b, k * s, none⟩) (f x) := by
  have := hv.elem hs hx
  rwa [Nat.zero_add] at this
end
theorem Yl.does' {N : Nat} {P : Program} {w : World} {o : Oper} {L : Slots} {v : Value} (h : Yl N P w o L v) : Does N P w o L (fun u w' => u = v ∧ w = w') := fun a ha K Q hK =>
  h.does a ha K Q (fun v' w' e => hK v' w' ⟨e.1, e.2.symm⟩)
end Go.Proofs.Ytaaahjcldomnbaa
