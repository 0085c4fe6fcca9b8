/-
  What a statement is handed, opened: rows of whole numbers and of bytes as views of the world where all began. No condition.
-/
import Derived.Test.YtaaahjcldomnbaaSlRo
import Derived.ProofKit
import Derived.OpenShut
import Derived.ShutString
import Derived.ChangeOld
import Derived.Below
import Derived.SizedLaws
namespace Go.Proofs.Ytaaahjcldomnbaa
open Go Go.RowKit Go.ChangeShapes Go.WideShapes Go.ChangeAt
set_option linter.unusedVariables false
set_option linter.unusedSimpArgs false
theorem View.of_cells {w : World} {a : Addr} {xs : List Value} (h : ∀ i v, xs[i]? = some v → w.cell? (a.add i) = some v) : View w (some a) xs := by
  intro j v hj
  obtain ⟨b, o, s⟩ := a
  have hs : s = none := by
    cases xs with
    | nil => simp at hj
    | cons x xs =>
      have := h 0 x rfl
      cases s with
      | none => rfl
      | some k =>
        simp only [Addr.add, if_pos rfl, World.cell?] at this
        split at this
        · simp at this
        · cases this
  subst hs
  refine ⟨b, o, rfl, ?_⟩
  have := h j v hj
  by_cases e : j = 0
  · subst e; exact this
  · simpa [Addr.add, e] using this
theorem View.of_ints {w : World} {a : Addr} {k : IntKind} {zs : List Int} (h : ∀ i, i < zs.length → w.cell? (a.add i) = some (.int k (zs.getD i 0))) : View w (some a) (zs.map (Value.int k)) :=
  View.of_cells fun i v hv => by
    rw [List.getElem?_map] at hv
    cases hz : zs[i]? with
    | none => rw [hz] at hv; cases hv
    | some z =>
      rw [hz] at hv
      have hl := (List.getElem?_eq_some_iff.1 hz).1
      rw [h i hl, List.getD_eq_getElem?_getD, hz]
      exact hv
theorem ints_bytes {zs : List Int} (h : ∀ n ∈ zs, (Lit.int .u8 n).wf = true) : zs.map (Value.int .u8) = bytesV (zs.map fun z => UInt8.ofNat z.toNat) := by
  unfold bytesV
  rw [List.map_map]
  refine List.map_congr_left fun z hz => ?_
  have hx : 0 ≤ z ∧ z ≤ 255 := by simpa [Lit.wf, IntKind.min, IntKind.max, IntKind.signed, IntKind.bits] using h z hz
  simp only [Function.comp, byteV]
  congr 1
  have : (UInt8.ofNat z.toNat).toNat = z.toNat := by rw [UInt8.toNat_ofNat']; omega
  rw [this]; omega
section
variable {H : Type} {enc : TypeId × Value → H} {P : Program} {W : World}
/-- A row of whole numbers, opened. -/
theorem opened_ints {t e : TypeId} {k : IntKind} {r : Reach} {b0 : Nat} {v : Value} {d : DataW H} {p : List MemPlace} (ht : P.underlying t = some (.slice e)) (he : P.underlying e = some (.int k)) (hc : P.cellsOf e = 1)
    (hval : Value.okWide P W r b0 t v) (h : DataW.Trod enc P W 0 (fun _ => true) true t v d p) :
    ∃ (a : Option Addr) (n c : Nat) (zs : List Int), v = .slice a n c ∧ n = zs.length ∧ n ≤ c ∧ c ≤ maxLen ∧ (a = none → c = 0) ∧ View W a (zs.map (Value.int k)) ∧ ∀ z ∈ zs, (Lit.int k z).wf = true := by
  obtain ⟨a, n, c, rfl⟩ := okWide_slice ht hval
  obtain ⟨fuel, hf⟩ := h
  rcases Go.ChangeShapes.open_ints ht he hc hf with ⟨hcs, _⟩ | ⟨x, l, c', zs, hcs, _, hl, hm, hz, _, hcell, hwz⟩
  · simp [Value.cells] at hcs
    obtain ⟨rfl, rfl, rfl⟩ := hcs
    exact ⟨none, 0, 0, [], rfl, rfl, Nat.le_refl _, Nat.zero_le _, fun _ => rfl, View.nil _ _, fun z hz => by cases hz⟩
  · simp [Value.cells] at hcs
    obtain ⟨rfl, rfl, rfl⟩ := hcs
    have hz' : zs.length = c := by simpa using hz
    refine ⟨some x, n, c, zs.take n, rfl, by rw [List.length_take]; omega, hl, hm, (fun h => by cases h), ?_, fun z hz => hwz z (List.mem_of_mem_take hz)⟩
    rw [List.map_take]
    exact View.take (View.of_ints hcell) n
theorem opened_bytes {t e : TypeId} {r : Reach} {b0 : Nat} {v : Value} {d : DataW H} {p : List MemPlace} (ht : P.underlying t = some (.slice e)) (he : P.underlying e = some (.int .u8)) (hc : P.cellsOf e = 1)
    (hval : Value.okWide P W r b0 t v) (h : DataW.Trod enc P W 0 (fun _ => true) true t v d p) :
    ∃ (a : Option Addr) (n c : Nat) (xs : List UInt8), v = .slice a n c ∧ n = xs.length ∧ n ≤ c ∧ c ≤ maxLen ∧ (a = none → c = 0) ∧ View W a (bytesV xs) := by
  obtain ⟨a, n, c, zs, h1, h2, h3, h4, h5, h6, h7⟩ := opened_ints ht he hc hval h
  exact ⟨a, n, c, zs.map fun z => UInt8.ofNat z.toNat, h1, by rw [List.length_map]; exact h2, h3, h4, h5, by rw [← ints_bytes h7]; exact h6⟩
theorem Ret.open {Φ : Value → World → Prop} {e : Ending} {w : World} (h : Ret Φ e w) : ∃ v, e = .returned v ∧ Φ v w := by
  cases e with
  | returned v => exact ⟨v, rfl, h⟩
  | _ => exact h.elim
theorem int_range {n : Int} (h : (Lit.int .i64 n).wf = true) : -9223372036854775808 ≤ n ∧ n ≤ 9223372036854775807 := by
  simpa [Lit.wf, IntKind.min, IntKind.max, IntKind.signed, IntKind.bits] using h
theorem byte_range {n : Int} (h : (Lit.int .u8 n).wf = true) : 0 ≤ n ∧ n ≤ 255 := by
  simpa [Lit.wf, IntKind.min, IntKind.max, IntKind.signed, IntKind.bits] using h
theorem trod_old {t : TypeId} (hl : laidOutB P = true) (hr : P.readableRec t = true) (hrow : t < P.types.size) {W' : World} {v : Value} {d : DataW H} {p : List MemPlace}
    (h : DataW.Trod enc P W 0 (fun _ => true) true t v d p) (hb : Below W.heap.size W W') : DataW.Trod enc P W' 0 (fun b => decide (b < W.heap.size)) true t v d p :=
  Below.trod hl hr hrow h hb (by obtain ⟨m, hm⟩ := h; exact DataW.trod_lt m _ _ _ hm)
end
end Go.Proofs.Ytaaahjcldomnbaa
