/-
  What a statement is handed, opened: rows of whole numbers and of bytes as views of the world where all began. No condition.
-/
import Derived.Test.YtpheilpcklfknaaDoorBExt
import Derived.ProofKit
import Derived.OpenShut
import Derived.ShutString
import Derived.ChangeOld
import Derived.Below
import Derived.SizedLaws
namespace Go.Proofs.YtpheilpcklfknaaDoor
open Go Go.RowKit Go.ChangeShapes Go.WideShapes Go.ChangeAt
set_option linter.unusedVariables false
set_option linter.unusedSimpArgs false
theorem View.of_cells {w : World} {a : Addr} {xs : List Value} (h : ∀ i v, xs[i]? = some v → w.cell? (a.add i) = some v) : View w (some a) xs := by
  intro j v hj
  obtain ⟨b, o, s⟩ := a
  have hs : s = none := by
    cases xs with
    | nil => simp at hj
    | cons x xs =>
      have := h 0 x rfl
      cases s with
      | none => rfl
      | some k =>
        simp only [Addr.add, if_pos rfl, World.cell?] at this
        split at this
        · simp at this
        · cases this
  subst hs
  refine ⟨b, o, rfl, ?_⟩
  have := h j v hj
  by_cases e : j = 0
  · subst e; exact this
  · simpa [Addr.add, e] using this
theorem View.of_ints {w : World} {a : Addr} {k : IntKind} {zs : List Int} (h : ∀ i, i < zs.length → w.cell? (a.add i) = some (.int k (zs.getD i 0))) : View w (some a) (zs.map (Value.int k)) :=
  View.of_cells fun i v hv => by
    rw [List.getElem?_map] at hv
    cases hz : zs[i]? with
    | none => rw [hz] at hv; cases hv
    | some z =>
      rw [hz] at hv
      have hl := (List.getElem?_eq_some_iff.1 hz).1
      rw [h i hl, List.getD_eq_getElem?_getD, hz]
      exact hv
theorem ints_bytes {zs : List Int} (h : ∀ n ∈ zs, (Lit.int .u8 n).wf = true) : zs.map (Value.int .u8) = bytesV (zs.map fun z => UInt8.ofNat z.toNat) := by
  unfold bytesV
  rw [List.map_map]
  refine List.map_congr_left fun z hz => ?_
  have hx : 0 ≤ z ∧ z ≤ 255 := by simpa [Lit.wf, IntKind.min, IntKind.max, IntKind.signed, IntKind.bits] using h z hz
  simp only [Function.comp, byteV]
  congr 1
  have : (UInt8.ofNat z.toNat).toNat = z.toNat := by rw [UInt8.toNat_ofNat']; omega
  rw [this]; omega
section
variable {H : Type} {enc : TypeId × Value → H} {P : Program} {W : World}
/-- A row of whole numbers, opened. -/
theorem opened_ints {t e : TypeId} {k : IntKind} {r : Reach} {b0 : Nat} {v : Value} {d : DataW H} {p : List MemPlace} (ht : P.underlying t = some (.slice e)) (he : P.underlying e = some (.int k)) (hc : P.cellsOf e = 1)
    (hval : Value.okWide P W r b0 t v) (h : DataW.Trod enc P W 0 (fun _ => true) true t v d p) :
    ∃ (a : Option Addr) (n c : Nat) (zs : List Int), v = .slice a n c ∧ n = zs.length ∧ n ≤ c ∧ c ≤ maxLen ∧ (a = none → c = 0) ∧ View W a (zs.map (Value.int k)) ∧ ∀ z ∈ zs, (Lit.int k z).wf = true := by
  obtain ⟨a, n, c, rfl⟩ := okWide_slice ht hval
  obtain ⟨fuel, hf⟩ := h
  rcases Go.ChangeShapes.open_ints ht he hc hf with ⟨hcs, _⟩ | ⟨x, l, c', zs, hcs, _, hl, hm, hz, _, hcell, hwz⟩
  · simp [Value.cells] at hcs
    obtain ⟨rfl, rfl, rfl⟩ := hcs
    exact ⟨none, 0, 0, [], rfl, rfl, Nat.le_refl _, Nat.zero_le _, fun _ => rfl, View.nil _ _, fun z hz => by cases hz⟩
  · simp [Value.cells] at hcs
    obtain ⟨rfl, rfl, rfl⟩ := hcs
    have hz' : zs.length = c := by simpa using hz
    refine ⟨some x, n, c, zs.take n, rfl, by rw [List.length_take]; omega, hl, hm, (fun h => by cases h), ?_, fun z hz => hwz z (List.mem_of_mem_take hz)⟩
    rw [List.map_take]
    exact View.take (View.of_ints hcell) n
theorem opened_bytes {t e : TypeId} {r : Reach} {b0 : Nat} {v : Value} {d : DataW H} {p : List MemPlace} (ht : P.underlying t = some (.slice e)) (he : P.underlying e = some (.int .u8)) (hc : P.cellsOf e = 1)
    (hval : Value.okWide P W r b0 t v) (h : DataW.Trod enc P W 0 (fun _ => true) true t v d p) :
    ∃ (a : Option Addr) (n c : Nat) (xs : List UInt8), v = .slice a n c ∧ n = xs.length ∧ n ≤ c ∧ c ≤ maxLen ∧ (a = none → c = 0) ∧ View W a (bytesV xs) := by
  obtain ⟨a, n, c, zs, h1, h2, h3, h4, h5, h6, h7⟩ := opened_ints ht he hc hval h
  exact ⟨a, n, c, zs.map fun z => UInt8.ofNat z.toNat, h1, by rw [List.length_map]; exact h2, h3, h4, h5, by rw [← ints_bytes h7]; exact h6⟩
theorem Ret.open {Φ : Value → World → Prop} {e : Ending} {w : World} (h : Ret Φ e w) : ∃ v, e = .returned v ∧ Φ v w := by
  cases e with
  | returned v => exact ⟨v, rfl, h⟩
  | _ => exact h.elim
theorem int_range {n : Int} (h : (Lit.int .i64 n).wf = true) : -9223372036854775808 ≤ n ∧ n ≤ 9223372036854775807 := by
  simpa [Lit.wf, IntKind.min, IntKind.max, IntKind.signed, IntKind.bits] using h
theorem byte_range {n : Int} (h : (Lit.int .u8 n).wf = true) : 0 ≤ n ∧ n ≤ 255 := by
  simpa [Lit.wf, IntKind.min, IntKind.max, IntKind.signed, IntKind.bits] using h
theorem trod_old {t : TypeId} (hl : laidOutB P = true) (hr : P.readableRec t = true) (hrow : t < P.types.size) {W' : World} {v : Value} {d : DataW H} {p : List MemPlace}
    (h : DataW.Trod enc P W 0 (fun _ => true) true t v d p) (hb : Below W.heap.size W W') : DataW.Trod enc P W' 0 (fun b => decide (b < W.heap.size)) true t v d p :=
  Below.trod hl hr hrow h hb (by obtain ⟨m, hm⟩ := h; exact DataW.trod_lt m _ _ _ hm)
end
section
variable {H : Type} {enc : TypeId × Value → H} {P : Program} {W : World}
/-- Cells that can be read as data. -/
def Rd (enc : TypeId × Value → H) (P : Program) (W : World) (t : TypeId) (cs : List Value) : Prop := ∃ fuel x, DataW.trod enc P W 0 (fun _ => true) true fuel t cs = some x ∧ ∀ n ∈ x.1.weights P t, n ≤ 140737488351232
theorem Rd.of {t : TypeId} {v : Value} {d : DataW H} {p : List MemPlace} {ts : List TypeId} {ds : List (DataW H)} {j : Nat} (hz : (DataW.weightsEach P ts ds).all (· ≤ reachBytes) = true)
    (h : DataW.Trod enc P W 0 (fun _ => true) true t v d p) (h1 : ts[j]? = some t) (h2 : ds[j]? = some d) : Rd enc P W t v.cells.toList := by
  obtain ⟨fuel, hf⟩ := h
  refine ⟨fuel, _, hf, fun n hn => ?_⟩
  have h3 := List.all_eq_true.1 hz _ (DataW.weights_mem_each h1 h2 n hn)
  have : reachBytes = 140737488351232 := rfl
  have h4 : n ≤ reachBytes := by simpa using h3
  omega
theorem weights_mem_all {e : TypeId} : ∀ {ds : List (DataW H)} {d : DataW H}, d ∈ ds → ∀ n ∈ d.weights P e, n ∈ DataW.weightsAll P e ds
  | d0 :: ds, d, hd, n, hn => by
    simp only [DataW.weightsAll, List.mem_append]
    rcases List.mem_cons.1 hd with rfl | hd
    · exact Or.inl hn
    · exact Or.inr (weights_mem_all hd n hn)
theorem Rd.int {t : TypeId} {k : IntKind} {cs : List Value} (h : Rd enc P W t cs) (ht : P.underlying t = some (.int k)) : ∃ n, cs = [.int k n] ∧ (Lit.int k n).wf = true := by
  obtain ⟨fuel, x, hf, hw⟩ := h
  obtain ⟨n, h1, _, h2⟩ := DataW.trod_int ht hf
  exact ⟨n, h1, h2⟩
theorem Rd.bool {t : TypeId} {cs : List Value} (h : Rd enc P W t cs) (ht : P.underlying t = some .bool) : ∃ b, cs = [.bool b] := by
  obtain ⟨fuel, x, hf, hw⟩ := h
  obtain ⟨n, h1, _⟩ := DataW.trod_bool ht hf
  exact ⟨n, h1⟩
theorem Rd.str {t : TypeId} {cs : List Value} (h : Rd enc P W t cs) (ht : P.underlying t = some .string) : ∃ s : List UInt8, cs = [.string (str s)] ∧ s.length ≤ 140737488351232 := by
  obtain ⟨fuel, x, hf, hw⟩ := h
  obtain ⟨s, h1, h3, h2⟩ := DataW.trod_string ht hf
  exact ⟨s.data.toList, by rw [h1]; rfl, hw _ (by rw [h3]; simp [DataW.weights])⟩
theorem Rd.ints {t e : TypeId} {k : IntKind} {cs : List Value} (h : Rd enc P W t cs) (ht : P.underlying t = some (.slice e)) (he : P.underlying e = some (.int k)) (hc : P.cellsOf e = 1) :
    ∃ (a : Option Addr) (n c : Nat) (zs : List Int), cs = [.slice a n c] ∧ n = zs.length ∧ n ≤ c ∧ c ≤ maxLen ∧ (a = none → c = 0) ∧ View W a (zs.map (Value.int k)) ∧ ∀ z ∈ zs, (Lit.int k z).wf = true := by
  obtain ⟨fuel, x, hf, hw⟩ := h
  rcases Go.ChangeShapes.open_ints ht he hc hf with ⟨hcs, _⟩ | ⟨x, l, c', zs, hcs, _, hl, hm, hz, _, hcell, hwz⟩
  · exact ⟨none, 0, 0, [], hcs, rfl, Nat.le_refl _, Nat.zero_le _, fun _ => rfl, View.nil _ _, fun z hz => by cases hz⟩
  · have hz' : zs.length = c' := by simpa using hz
    refine ⟨some x, l, c', zs.take l, hcs, by rw [List.length_take]; omega, hl, hm, (fun h => by cases h), ?_, fun z hz => hwz z (List.mem_of_mem_take hz)⟩
    rw [List.map_take]
    exact View.take (View.of_ints hcell) l
theorem Rd.bytes {t e : TypeId} {cs : List Value} (h : Rd enc P W t cs) (ht : P.underlying t = some (.slice e)) (he : P.underlying e = some (.int .u8)) (hc : P.cellsOf e = 1) :
    ∃ (a : Option Addr) (n c : Nat) (xs : List UInt8), cs = [.slice a n c] ∧ n = xs.length ∧ n ≤ c ∧ c ≤ maxLen ∧ (a = none → c = 0) ∧ View W a (bytesV xs) := by
  obtain ⟨a, n, c, zs, h1, h2, h3, h4, h5, h6, h7⟩ := h.ints ht he hc
  exact ⟨a, n, c, zs.map fun z => UInt8.ofNat z.toNat, h1, by rw [List.length_map]; exact h2, h3, h4, h5, by rw [← ints_bytes h7]; exact h6⟩
theorem Rd.struct {t : TypeId} {fs : Array Field} {cs : List Value} (h : Rd enc P W t cs) (ht : P.underlying t = some (.struct fs)) {n : Nat} (hn : P.cellsOf t = n) : cs.length = n := by
  obtain ⟨fuel, x, hf, hw⟩ := h
  obtain ⟨_, _, _, _, hl, _⟩ := DataW.trod_struct ht hf
  exact hl.trans hn
theorem Rd.field {t t' : TypeId} {fs : Array Field} {cs : List Value} {i o m : Nat} (h : Rd enc P W t cs) (ht : P.underlying t = some (.struct fs)) (hi : fs[i]?.map (fun f => (f.type, f.offset)) = some (t', o)) (hm : P.cellsOf t' = m) :
    Rd enc P W t' ((cs.drop o).take m) := by
  obtain ⟨fuel, x, hf, hw⟩ := h
  obtain ⟨xs, n, _, hxs, _, hl, hx⟩ := DataW.trod_struct ht hf
  obtain ⟨f, hf1, hf2⟩ := Option.map_eq_some_iff.1 hi
  have h1 := hx i f hf1
  have hlt : i < xs.length := by rw [hl]; exact (Array.getElem?_eq_some_iff.1 hf1).1
  rw [List.getElem?_eq_getElem hlt] at h1
  simp only [Prod.mk.injEq] at hf2
  obtain ⟨rfl, rfl⟩ := hf2
  subst hm
  refine ⟨_, _, h1, fun k hk => hw k ?_⟩
  rw [hxs]
  simp only [DataW.weights, ht]
  exact DataW.weights_mem_each (j := i) (t := f.type) (d := (xs[i]'hlt).1) (by rw [List.getElem?_map, Array.getElem?_toList, hf1]; rfl) (by rw [List.getElem?_map, List.getElem?_eq_getElem hlt]; rfl) k hk
theorem Rd.array {t e : TypeId} {n : Nat} {cs : List Value} (h : Rd enc P W t cs) (ht : P.underlying t = some (.array n e)) {m : Nat} (hm : P.cellsOf t = m) : cs.length = m := by
  obtain ⟨fuel, x, hf, hw⟩ := h
  obtain ⟨_, _, _, _, hl, _⟩ := DataW.trod_array ht hf
  exact hl.trans hm
theorem Rd.item {t e : TypeId} {n m i : Nat} {cs : List Value} (h : Rd enc P W t cs) (ht : P.underlying t = some (.array n e)) (hm : P.cellsOf e = m) (hi : i < n) : Rd enc P W e ((cs.drop (i * m)).take m) := by
  obtain ⟨fuel, x, hf, hw⟩ := h
  obtain ⟨xs, k, _, hxs, _, hl, hx⟩ := DataW.trod_array ht hf
  have h1 := hx i hi
  have hlt : i < xs.length := by omega
  rw [List.getElem?_eq_getElem hlt] at h1
  subst hm
  refine ⟨_, _, h1, fun q hq => hw q ?_⟩
  rw [hxs]
  simp only [DataW.weights, ht]
  exact weights_mem_all (List.mem_map.2 ⟨_, List.getElem_mem hlt, rfl⟩) q hq
theorem choose_list {α β : Type} {Q : Nat → α → Prop} {n : Nat} (h : ∀ i, i < n → ∃ x, Q i x) : ∃ l : List α, l.length = n ∧ ∀ i x, l[i]? = some x → Q i x := by
  induction n with
  | zero => exact ⟨[], rfl, fun i x h => by simp at h⟩
  | succ n ih =>
    obtain ⟨l, hl, hq⟩ := ih fun i hi => h i (by omega)
    obtain ⟨x, hx⟩ := h n (by omega)
    refine ⟨l ++ [x], by simp [hl], fun i y hy => ?_⟩
    by_cases hi : i < l.length
    · rw [List.getElem?_append_left hi] at hy; exact hq i y hy
    · rw [List.getElem?_append_right (by omega)] at hy
      have : i - l.length = 0 := by
        have := (List.getElem?_eq_some_iff.1 hy).1
        simp at this; omega
      rw [this] at hy
      obtain rfl : x = y := by simpa using hy
      have : i = n := by omega
      rw [this]; exact hx
theorem Rd.rows {α : Type} {f : α → List Value} {Q : α → Prop} {t e : TypeId} {s : Nat} {cs : List Value} (h : Rd enc P W t cs) (ht : P.underlying t = some (.slice e)) (hs : ∀ x, (f x).length = s) (hc : P.cellsOf e = s) (hp : 0 < s)
    (each : ∀ cs, Rd enc P W e cs → ∃ x, cs = f x ∧ Q x) :
    ∃ (a : Option Addr) (n c : Nat) (l : List α), cs = [.slice a n c] ∧ n = l.length ∧ n ≤ c ∧ c ≤ maxLen ∧ (a = none → c = 0) ∧ View W a (l.flatMap f) ∧ ∀ x ∈ l, Q x := by
  obtain ⟨fuel, x, hf, hw⟩ := h
  rcases DataW.trod_slice ht hf with ⟨h0, _⟩ | ⟨a, len, cap, elems, rest, n, _, h1, hxs, hb, hl, hm, hlen, hel, _, _⟩
  · exact ⟨none, 0, 0, [], h0, rfl, Nat.le_refl _, Nat.zero_le _, fun _ => rfl, View.nil _ _, fun z hz => by cases hz⟩
  · subst hc
    obtain ⟨l, hll, hlq⟩ := choose_list (α := α) (β := Unit) (Q := fun i x => Q x ∧ ∀ j v, (f x)[j]? = some v → W.cell? ((a.add (i * P.cellsOf e)).add j) = some v) (n := len) fun i hi => by
      have h2 := hel i hi
      have hlt : i < elems.length := by omega
      rw [List.getElem?_eq_getElem hlt, Option.bind_eq_some_iff] at h2
      obtain ⟨cs', h3, h4⟩ := h2
      obtain ⟨x, hx, hq⟩ := each cs' ⟨_, _, h4, fun q hq => hw q (by
        rw [hxs]
        simp only [DataW.weights, ht, List.mem_cons, List.mem_append]
        exact .inr (.inl (weights_mem_all (List.mem_map.2 ⟨_, List.getElem_mem hlt, rfl⟩) q hq)))⟩
      obtain ⟨_, h5, h6⟩ := World.cells?_some h3
      refine ⟨x, hq, fun j v hj => ?_⟩
      rw [hx] at h5 h6
      have := (List.getElem?_eq_some_iff.1 hj).1
      rw [h6 j (by omega)]; exact hj
    refine ⟨some a, len, cap, l, h1, hll.symm, hl, hm, (fun h => by cases h), ?_, fun x hx => ?_⟩
    · refine View.of_cells fun i v hv => ?_
      have hlen2 := flat_length hs l
      have hi := (List.getElem?_eq_some_iff.1 hv).1
      have hk : i / P.cellsOf e < l.length := by rw [Nat.div_lt_iff_lt_mul hp]; omega
      have hx := List.getElem?_eq_getElem hk
      have hmod := Nat.mod_lt i hp
      have hdm := Nat.div_add_mod i (P.cellsOf e)
      have hmul : P.cellsOf e * (i / P.cellsOf e) = i / P.cellsOf e * P.cellsOf e := Nat.mul_comm _ _
      have hg : (f l[i / P.cellsOf e])[i % P.cellsOf e]? = some v := by
        have hlt : i % P.cellsOf e < (f l[i / P.cellsOf e]).length := by rw [hs]; exact hmod
        have h7 := flat_get hs hx _ _ (List.getElem?_eq_getElem hlt)
        rw [show i / P.cellsOf e * P.cellsOf e + i % P.cellsOf e = i from by omega, hv] at h7
        rw [List.getElem?_eq_getElem hlt, h7]
      have h8 := (hlq _ _ hx).2 _ _ hg
      have h9 : (a.add (i / P.cellsOf e * P.cellsOf e)).add (i % P.cellsOf e) = a.add i := by
        unfold Addr.add
        by_cases e1 : i / P.cellsOf e * P.cellsOf e = 0
        · rw [if_pos e1]
          rw [show i % P.cellsOf e = i from by omega]
        · rw [if_neg e1]
          by_cases e2 : i % P.cellsOf e = 0
          · rw [if_pos e2, if_neg (by omega)]
            rw [show i / P.cellsOf e * P.cellsOf e = i from by omega]
          · rw [if_neg e2, if_neg (by omega)]
            simp only [Nat.add_assoc]
            rw [show i / P.cellsOf e * P.cellsOf e + i % P.cellsOf e = i from by omega]
      rw [h9] at h8
      exact h8
    · obtain ⟨i, hi⟩ := List.getElem?_of_mem hx
      exact (hlq i x hi).1
end
section
variable {H : Type} {enc : TypeId × Value → H} {P : Program} {W : World}
theorem Rd.i64 {t : TypeId} {cs : List Value} (h : Rd enc P W t cs) (ht : P.underlying t = some (.int .i64)) : ∃ n : Int, cs = [vI n] ∧ ok64 n := by
  obtain ⟨n, rfl, hw⟩ := h.int ht
  exact ⟨n, rfl, int_range hw⟩
theorem Rd.u8 {t : TypeId} {cs : List Value} (h : Rd enc P W t cs) (ht : P.underlying t = some (.int .u8)) : ∃ n : UInt8, cs = [v8 n] := by
  obtain ⟨n, rfl, hw⟩ := h.int ht
  have hx : 0 ≤ n ∧ n ≤ 255 := by simpa [Lit.wf, IntKind.min, IntKind.max, IntKind.signed, IntKind.bits] using hw
  exact ⟨UInt8.ofNat n.toNat, by rw [List.cons.injEq]; refine ⟨?_, rfl⟩; unfold v8; congr 1; rw [UInt8.toNat_ofNat']; omega⟩
theorem Rd.u16 {t : TypeId} {cs : List Value} (h : Rd enc P W t cs) (ht : P.underlying t = some (.int .u16)) : ∃ n : UInt16, cs = [v16 n] := by
  obtain ⟨n, rfl, hw⟩ := h.int ht
  have hx : 0 ≤ n ∧ n ≤ 65535 := by simpa [Lit.wf, IntKind.min, IntKind.max, IntKind.signed, IntKind.bits] using hw
  exact ⟨UInt16.ofNat n.toNat, by rw [List.cons.injEq]; refine ⟨?_, rfl⟩; unfold v16; congr 1; rw [UInt16.toNat_ofNat']; omega⟩
theorem Rd.u32 {t : TypeId} {cs : List Value} (h : Rd enc P W t cs) (ht : P.underlying t = some (.int .u32)) : ∃ n : UInt32, cs = [v32 n] := by
  obtain ⟨n, rfl, hw⟩ := h.int ht
  have hx : 0 ≤ n ∧ n ≤ 4294967295 := by simpa [Lit.wf, IntKind.min, IntKind.max, IntKind.signed, IntKind.bits] using hw
  exact ⟨UInt32.ofNat n.toNat, by rw [List.cons.injEq]; refine ⟨?_, rfl⟩; unfold v32; congr 1; rw [UInt32.toNat_ofNat']; omega⟩
theorem Rd.u64 {t : TypeId} {cs : List Value} (h : Rd enc P W t cs) (ht : P.underlying t = some (.int .u64)) : ∃ n : UInt64, cs = [v64 n] := by
  obtain ⟨n, rfl, hw⟩ := h.int ht
  have hx : 0 ≤ n ∧ n ≤ 18446744073709551615 := by simpa [Lit.wf, IntKind.min, IntKind.max, IntKind.signed, IntKind.bits] using hw
  exact ⟨UInt64.ofNat n.toNat, by rw [List.cons.injEq]; refine ⟨?_, rfl⟩; unfold v64; congr 1; rw [UInt64.toNat_ofNat']; omega⟩
theorem Rd.arr {t e : TypeId} {n : Nat} {cs : List Value} (h : Rd enc P W t cs) (ht : P.underlying t = some (.array n e)) (he : P.underlying e = some (.int .u8)) (hm : P.cellsOf t = n) (hc : P.cellsOf e = 1) : ∃ f : Fin n → UInt8, cs = bytesV (List.ofFn f) := by
  have hl := h.array ht hm
  have hi : ∀ i : Fin n, ∃ x : UInt8, cs[i.val]? = some (v8 x) := fun i => by
    obtain ⟨x, hx⟩ := (h.item ht hc i.isLt).u8 he
    refine ⟨x, ?_⟩
    have h1 : ((cs.drop (i.val * 1)).take 1)[0]? = some (v8 x) := by rw [hx]; rfl
    rw [List.getElem?_take, if_pos (by omega), List.getElem?_drop] at h1
    rw [show i.val = i.val * 1 + 0 by omega]; exact h1
  refine ⟨fun i => (hi i).choose, ?_⟩
  apply List.ext_getElem?
  intro j
  by_cases hj : j < n
  · have := (hi ⟨j, hj⟩).choose_spec
    rw [this, bytesV_get (c := (hi ⟨j, hj⟩).choose)]
    · rfl
    · rw [List.getElem?_ofFn, dif_pos hj]
  · rw [List.getElem?_eq_none (by omega), List.getElem?_eq_none (by rw [bytesV_length, List.length_ofFn]; omega)]
/-- What the opening of a row of things of one kind gives. -/
theorem Rd.rowsE {α : Type} {E : El α} {Q : α → Prop} {t e : TypeId} {cs : List Value} (h : Rd enc P W t cs) (ht : P.underlying t = some (.slice e)) (hc : P.cellsOf e = E.s) (hp : 0 < E.s)
    (each : ∀ cs, Rd enc P W e cs → ∃ x, cs = E.f x ∧ Q x) :
    ∃ (a : Option Addr) (c : Nat) (l : List α), cs = [.slice a l.length c] ∧ l.length ≤ c ∧ c ≤ maxLen ∧ V (Base.old W) a (E.row l) ∧ ∀ x ∈ l, Q x := by
  obtain ⟨a, n, c, l, h1, rfl, h3, h4, h5, h6, h7⟩ := h.rows ht E.len hc hp each
  exact ⟨a, c, l, h1, h3, h4, V.old h6, h7⟩
theorem Rd.bytesE {t e : TypeId} {cs : List Value} (h : Rd enc P W t cs) (ht : P.underlying t = some (.slice e)) (he : P.underlying e = some (.int .u8)) (hc : P.cellsOf e = 1) :
    ∃ (a : Option Addr) (c : Nat) (l : List UInt8), cs = [.slice a l.length c] ∧ l.length ≤ c ∧ c ≤ maxLen ∧ V (Base.old W) a (elU8.row l) := by
  obtain ⟨a, n, c, l, h1, rfl, h3, h4, h5, h6⟩ := h.bytes ht he hc
  exact ⟨a, c, l, h1, h3, h4, V.of_bytes (V.old h6)⟩

theorem drop_part (cs : List Value) (o m : Nat) {p : List Value} (h : (cs.drop o).take m = p) : cs.drop o = p ++ cs.drop (o + m) := by
  rw [← h, ← List.drop_drop]; exact (List.take_append_drop m _).symm
theorem okWide_agg {r : Reach} {b0 : Nat} {t : TypeId} {v : Value} (ht : aggB P t = some true) (h : Value.okWide P W r b0 t v) : ∃ cs : List Value, v = .agg cs.toArray := by
  unfold aggB at ht
  unfold Value.okWide at h
  cases hu : P.underlying t with
  | none => rw [hu] at ht; cases ht
  | some d =>
    rw [hu] at ht h
    cases d with
    | struct fs => obtain ⟨cs, rfl, _⟩ := h; exact ⟨cs.toList, by simp⟩
    | array n e => obtain ⟨cs, rfl, _⟩ := h; exact ⟨cs.toList, by simp⟩
    | _ => simp at ht
/-- A slice that is handed in takes no more than the reach. -/
theorem slice_reach {t e : TypeId} {a : Option Addr} {n c : Nat} {d : DataW H} {p : List MemPlace} {ts : List TypeId} {ds : List (DataW H)} {j k s : Nat}
    (hz : (DataW.weightsEach P ts ds).all (· ≤ reachBytes) = true) (h : DataW.Trod enc P W 0 (fun _ => true) true t (.slice a n c) d p)
    (ht : P.underlying t = some (.slice e)) (hb : P.bytesOf e = s) (h1 : ts[j]? = some t) (h2 : ds[j]? = some d) (hn : k ≤ c) : k * s ≤ 140737488351232 := by
  obtain ⟨fuel, hf⟩ := h
  subst hb
  rcases DataW.trod_slice ht hf with ⟨h0, _⟩ | ⟨a', len, cap, elems, rest, m, _, h3, h4, _, hl, _, hlen, _, hr, _⟩
  · obtain ⟨_, _, hc⟩ : a = none ∧ n = 0 ∧ c = 0 := by simpa [Value.cells] using h0
    obtain rfl : k = 0 := by omega
    omega
  · have h5 : d = .slice (elems.map (·.1)) (rest.map (·.1)) := congrArg Prod.fst h4
    have hc : c = cap ∧ n = len := by
      simp only [Value.cells, List.cons.injEq, and_true, Value.slice.injEq] at h3
      exact ⟨h3.2.2, h3.2.1⟩
    have h6 := sized_slice hz h1 (h5 ▸ h2) ht
    rw [List.length_map, List.length_map, hlen, (hr rfl).1] at h6
    have h7 : k * P.bytesOf e ≤ (len + (cap - len)) * P.bytesOf e := Nat.mul_le_mul_right _ (by omega)
    have : reachBytes = 140737488351232 := rfl
    omega
/-- As slice_reach, of a slice that stands in a struct. -/
theorem Rd.reach {t e : TypeId} {a : Option Addr} {n c k s : Nat} (h : Rd enc P W t [.slice a n c]) (ht : P.underlying t = some (.slice e)) (hb : P.bytesOf e = s) (hn : k ≤ c) : k * s ≤ 140737488351232 := by
  obtain ⟨fuel, x, hf, hw⟩ := h
  subst hb
  rcases DataW.trod_slice ht hf with ⟨h0, _⟩ | ⟨a', len, cap, elems, rest, m, _, h3, h4, _, hl, _, hlen, _, hr, _⟩
  · obtain ⟨_, _, hc⟩ : a = none ∧ n = 0 ∧ c = 0 := by simpa using h0
    obtain rfl : k = 0 := by omega
    omega
  · have h5 : x.1 = .slice (elems.map (·.1)) (rest.map (·.1)) := congrArg Prod.fst h4
    have hc : c = cap ∧ n = len := by
      simp only [List.cons.injEq, and_true, Value.slice.injEq] at h3
      exact ⟨h3.2.2, h3.2.1⟩
    have h6 := hw ((elems.length + rest.length) * P.bytesOf e) (by rw [h5]; simp [DataW.weights, ht])
    rw [hlen, (hr rfl).1] at h6
    have h7 : k * P.bytesOf e ≤ (len + (cap - len)) * P.bytesOf e := Nat.mul_le_mul_right _ (by omega)
    omega
theorem string_reach {t : TypeId} {x : ByteArray} {d : DataW H} {p : List MemPlace} {ts : List TypeId} {ds : List (DataW H)} {j : Nat}
    (hz : (DataW.weightsEach P ts ds).all (· ≤ reachBytes) = true) (h : DataW.Trod enc P W 0 (fun _ => true) true t (.string x) d p)
    (ht : P.underlying t = some .string) (h1 : ts[j]? = some t) (h2 : ds[j]? = some d) : x.size ≤ 140737488351232 := by
  obtain ⟨fuel, hf⟩ := h
  obtain ⟨y, h3, h4, _⟩ := DataW.trod_string ht hf
  have h5 : d = .lit (.string y.data.toList) := congrArg Prod.fst h4
  have h6 := sized_string hz h1 (h5 ▸ h2)
  have h7 : x = y := by simpa [Value.cells] using h3
  subst h7
  have : reachBytes = 140737488351232 := rfl
  have h8 : x.data.toList.length = x.size := by rw [Array.length_toList]; rfl
  omega
end
end Go.Proofs.YtpheilpcklfknaaDoor
