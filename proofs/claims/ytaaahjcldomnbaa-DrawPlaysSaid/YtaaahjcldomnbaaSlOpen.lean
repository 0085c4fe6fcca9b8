/-
  What a statement is handed, opened cell by cell: whole numbers, texts, rows of bytes, structs, arrays, rows of these. No condition.
-/
import Derived.Test.YtaaahjcldomnbaaSlWide
namespace Go.Proofs.Ytaaahjcldomnbaa
open Go Go.RowKit Go.ChangeShapes Go.WideShapes Go.ChangeAt
set_option linter.unusedVariables false
set_option linter.unusedSimpArgs false
section
variable {H : Type} {enc : TypeId × Value → H} {P : Program} {W : World}
/-- Cells that can be read as data. -/
def Rd (enc : TypeId × Value → H) (P : Program) (W : World) (t : TypeId) (cs : List Value) : Prop := ∃ fuel x, DataW.trod enc P W 0 (fun _ => true) true fuel t cs = some x
theorem Rd.of {t : TypeId} {v : Value} {d : DataW H} {p : List MemPlace} (h : DataW.Trod enc P W 0 (fun _ => true) true t v d p) : Rd enc P W t v.cells.toList := by
  obtain ⟨fuel, hf⟩ := h
  exact ⟨fuel, _, hf⟩
theorem Rd.int {t : TypeId} {k : IntKind} {cs : List Value} (h : Rd enc P W t cs) (ht : P.underlying t = some (.int k)) : ∃ n, cs = [.int k n] ∧ (Lit.int k n).wf = true := by
  obtain ⟨fuel, x, hf⟩ := h
  obtain ⟨n, h1, _, h2⟩ := DataW.trod_int ht hf
  exact ⟨n, h1, h2⟩
theorem Rd.bool {t : TypeId} {cs : List Value} (h : Rd enc P W t cs) (ht : P.underlying t = some .bool) : ∃ b, cs = [.bool b] := by
  obtain ⟨fuel, x, hf⟩ := h
  obtain ⟨n, h1, _⟩ := DataW.trod_bool ht hf
  exact ⟨n, h1⟩
theorem Rd.str {t : TypeId} {cs : List Value} (h : Rd enc P W t cs) (ht : P.underlying t = some .string) : ∃ s : List UInt8, cs = [.string (str s)] ∧ s.length ≤ maxLen := by
  obtain ⟨fuel, x, hf⟩ := h
  obtain ⟨s, h1, _, h2⟩ := DataW.trod_string ht hf
  exact ⟨s.data.toList, by rw [h1]; rfl, by rw [Array.length_toList]; exact h2⟩
theorem Rd.ints {t e : TypeId} {k : IntKind} {cs : List Value} (h : Rd enc P W t cs) (ht : P.underlying t = some (.slice e)) (he : P.underlying e = some (.int k)) (hc : P.cellsOf e = 1) :
    ∃ (a : Option Addr) (n c : Nat) (zs : List Int), cs = [.slice a n c] ∧ n = zs.length ∧ n ≤ c ∧ c ≤ maxLen ∧ (a = none → c = 0) ∧ View W a (zs.map (Value.int k)) ∧ ∀ z ∈ zs, (Lit.int k z).wf = true := by
  obtain ⟨fuel, x, hf⟩ := h
  rcases Go.ChangeShapes.open_ints ht he hc hf with ⟨hcs, _⟩ | ⟨x, l, c', zs, hcs, _, hl, hm, hz, _, hcell, hwz⟩
  · exact ⟨none, 0, 0, [], hcs, rfl, Nat.le_refl _, Nat.zero_le _, fun _ => rfl, View.nil _ _, fun z hz => by cases hz⟩
  · have hz' : zs.length = c' := by simpa using hz
    refine ⟨some x, l, c', zs.take l, hcs, by rw [List.length_take]; omega, hl, hm, (fun h => by cases h), ?_, fun z hz => hwz z (List.mem_of_mem_take hz)⟩
    rw [List.map_take]
    exact View.take (View.of_ints hcell) l
theorem Rd.bytes {t e : TypeId} {cs : List Value} (h : Rd enc P W t cs) (ht : P.underlying t = some (.slice e)) (he : P.underlying e = some (.int .u8)) (hc : P.cellsOf e = 1) :
    ∃ (a : Option Addr) (n c : Nat) (xs : List UInt8), cs = [.slice a n c] ∧ n = xs.length ∧ n ≤ c ∧ c ≤ maxLen ∧ (a = none → c = 0) ∧ View W a (bytesV xs) := by
  obtain ⟨a, n, c, zs, h1, h2, h3, h4, h5, h6, h7⟩ := h.ints ht he hc
  exact ⟨a, n, c, zs.map fun z => UInt8.ofNat z.toNat, h1, by rw [List.length_map]; exact h2, h3, h4, h5, by rw [← ints_bytes h7]; exact h6⟩
theorem Rd.struct {t : TypeId} {fs : Array Field} {cs : List Value} (h : Rd enc P W t cs) (ht : P.underlying t = some (.struct fs)) {n : Nat} (hn : P.cellsOf t = n) : cs.length = n := by
  obtain ⟨fuel, x, hf⟩ := h
  obtain ⟨_, _, _, _, hl, _⟩ := DataW.trod_struct ht hf
  exact hl.trans hn
theorem Rd.field {t t' : TypeId} {fs : Array Field} {cs : List Value} {i o m : Nat} (h : Rd enc P W t cs) (ht : P.underlying t = some (.struct fs)) (hi : fs[i]?.map (fun f => (f.type, f.offset)) = some (t', o)) (hm : P.cellsOf t' = m) :
    Rd enc P W t' ((cs.drop o).take m) := by
  obtain ⟨fuel, x, hf⟩ := h
  obtain ⟨xs, n, _, _, _, hl, hx⟩ := DataW.trod_struct ht hf
  obtain ⟨f, hf1, hf2⟩ := Option.map_eq_some_iff.1 hi
  have h1 := hx i f hf1
  have hlt : i < xs.length := by rw [hl]; exact (Array.getElem?_eq_some_iff.1 hf1).1
  rw [List.getElem?_eq_getElem hlt] at h1
  simp only [Prod.mk.injEq] at hf2
  obtain ⟨rfl, rfl⟩ := hf2
  subst hm
  exact ⟨_, _, h1⟩
theorem Rd.array {t e : TypeId} {n : Nat} {cs : List Value} (h : Rd enc P W t cs) (ht : P.underlying t = some (.array n e)) {m : Nat} (hm : P.cellsOf t = m) : cs.length = m := by
  obtain ⟨fuel, x, hf⟩ := h
  obtain ⟨_, _, _, _, hl, _⟩ := DataW.trod_array ht hf
  exact hl.trans hm
theorem Rd.item {t e : TypeId} {n m i : Nat} {cs : List Value} (h : Rd enc P W t cs) (ht : P.underlying t = some (.array n e)) (hm : P.cellsOf e = m) (hi : i < n) : Rd enc P W e ((cs.drop (i * m)).take m) := by
  obtain ⟨fuel, x, hf⟩ := h
  obtain ⟨xs, k, _, _, _, hl, hx⟩ := DataW.trod_array ht hf
  have h1 := hx i hi
  rw [List.getElem?_eq_getElem (by omega)] at h1
  subst hm
  exact ⟨_, _, h1⟩
theorem choose_list {α β : Type} {Q : Nat → α → Prop} {n : Nat} (h : ∀ i, i < n → ∃ x, Q i x) : ∃ l : List α, l.length = n ∧ ∀ i x, l[i]? = some x → Q i x := by
  induction n with
  | zero => exact ⟨[], rfl, fun i x h => by simp at h⟩
  | succ n ih =>
    obtain ⟨l, hl, hq⟩ := ih fun i hi => h i (by omega)
    obtain ⟨x, hx⟩ := h n (by omega)
    refine ⟨l ++ [x], by simp [hl], fun i y hy => ?_⟩
    by_cases hi : i < l.length
    · rw [List.getElem?_append_left hi] at hy; exact hq i y hy
    · rw [List.getElem?_append_right (by omega)] at hy
      have : i - l.length = 0 := by
        have := (List.getElem?_eq_some_iff.1 hy).1
        simp at this; omega
      rw [this] at hy
      obtain rfl : x = y := by simpa using hy
      have : i = n := by omega
      rw [this]; exact hx
theorem Rd.rows {α : Type} {f : α → List Value} {Q : α → Prop} {t e : TypeId} {s : Nat} {cs : List Value} (h : Rd enc P W t cs) (ht : P.underlying t = some (.slice e)) (hs : ∀ x, (f x).length = s) (hc : P.cellsOf e = s) (hp : 0 < s)
    (each : ∀ cs, Rd enc P W e cs → ∃ x, cs = f x ∧ Q x) :
    ∃ (a : Option Addr) (n c : Nat) (l : List α), cs = [.slice a n c] ∧ n = l.length ∧ n ≤ c ∧ c ≤ maxLen ∧ (a = none → c = 0) ∧ View W a (l.flatMap f) ∧ ∀ x ∈ l, Q x := by
  obtain ⟨fuel, x, hf⟩ := h
  rcases DataW.trod_slice ht hf with ⟨h0, _⟩ | ⟨a, len, cap, elems, rest, n, _, h1, _, hb, hl, hm, hlen, hel, _, _⟩
  · exact ⟨none, 0, 0, [], h0, rfl, Nat.le_refl _, Nat.zero_le _, fun _ => rfl, View.nil _ _, fun z hz => by cases hz⟩
  · subst hc
    obtain ⟨l, hll, hlq⟩ := choose_list (α := α) (β := Unit) (Q := fun i x => Q x ∧ ∀ j v, (f x)[j]? = some v → W.cell? ((a.add (i * P.cellsOf e)).add j) = some v) (n := len) fun i hi => by
      have h2 := hel i hi
      rw [List.getElem?_eq_getElem (by omega), Option.bind_eq_some_iff] at h2
      obtain ⟨cs', h3, h4⟩ := h2
      obtain ⟨x, hx, hq⟩ := each cs' ⟨_, _, h4⟩
      obtain ⟨_, h5, h6⟩ := World.cells?_some h3
      refine ⟨x, hq, fun j v hj => ?_⟩
      rw [hx] at h5 h6
      have := (List.getElem?_eq_some_iff.1 hj).1
      rw [h6 j (by omega)]; exact hj
    refine ⟨some a, len, cap, l, h1, hll.symm, hl, hm, (fun h => by cases h), ?_, fun x hx => ?_⟩
    · refine View.of_cells fun i v hv => ?_
      have hlen2 := flat_length hs l
      have hi := (List.getElem?_eq_some_iff.1 hv).1
      have hk : i / P.cellsOf e < l.length := by rw [Nat.div_lt_iff_lt_mul hp]; omega
      have hx := List.getElem?_eq_getElem hk
      have hmod := Nat.mod_lt i hp
      have hdm := Nat.div_add_mod i (P.cellsOf e)
      have hmul : P.cellsOf e * (i / P.cellsOf e) = i / P.cellsOf e * P.cellsOf e := Nat.mul_comm _ _
      have hg : (f l[i / P.cellsOf e])[i % P.cellsOf e]? = some v := by
        have hlt : i % P.cellsOf e < (f l[i / P.cellsOf e]).length := by rw [hs]; exact hmod
        have h7 := flat_get hs hx _ _ (List.getElem?_eq_getElem hlt)
        rw [show i / P.cellsOf e * P.cellsOf e + i % P.cellsOf e = i from by omega, hv] at h7
        rw [List.getElem?_eq_getElem hlt, h7]
      have h8 := (hlq _ _ hx).2 _ _ hg
      have h9 : (a.add (i / P.cellsOf e * P.cellsOf e)).add (i % P.cellsOf e) = a.add i := by
        unfold Addr.add
        by_cases e1 : i / P.cellsOf e * P.cellsOf e = 0
        · rw [if_pos e1]
          rw [show i % P.cellsOf e = i from by omega]
        · rw [if_neg e1]
          by_cases e2 : i % P.cellsOf e = 0
          · rw [if_pos e2, if_neg (by omega)]
            rw [show i / P.cellsOf e * P.cellsOf e = i from by omega]
          · rw [if_neg e2, if_neg (by omega)]
            simp only [Nat.add_assoc]
            rw [show i / P.cellsOf e * P.cellsOf e + i % P.cellsOf e = i from by omega]
      rw [h9] at h8
      exact h8
    · obtain ⟨i, hi⟩ := List.getElem?_of_mem hx
      exact (hlq i x hi).1
end
end Go.Proofs.Ytaaahjcldomnbaa
