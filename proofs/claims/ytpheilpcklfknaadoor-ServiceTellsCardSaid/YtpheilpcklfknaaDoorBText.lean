/-
  append of a text to a row of bytes; a text's bytes as a row; parts of texts; copies within rows. No condition.
-/
import Derived.Test.YtpheilpcklfknaaDoorBMisc
import Derived.Laws.IdiomStrings
namespace Go.Proofs.YtpheilpcklfknaaDoor
open Go Go.RowKit
set_option linter.unusedVariables false
set_option linter.unusedSimpArgs false
section
variable {N : Nat} {P : Program} {L : Slots} {Q : Post} {W : Base} {w : World} {ops : Array Oper} {rest : List Oper} {o : Oper} {d : Nat} {R : List Res}
variable {x y z : Operand} {v u : Value} {dst : Option Tmp} {ty : TypeId} {pos : String} {af : Array Edge} {gd : Option (Nat × Bool)} {t t2 : TypeId}
variable {α : Type} {E : El α} {l l2 : List α} {a a2 : Option Addr} {n c c2 m : Nat}
theorem run_appendS {t2 : TypeId} {e : TypeId} {s bytes : Nat} (ht : P.underlying t = some (.slice e)) (hi : elI P e = some (s, bytes, s))
    {a : Option Addr} {n c : Nat} {xs : List Value} (h : Sat W w (arr a n c s e xs :: R)) {m : Nat} {bs : List UInt8} (hm0 : m = bs.length) (ht2 : P.underlying t2 = some .string) (hs1 : s = 1)
    (hm : n + m ≤ maxLen) (hb : (n + m) * bytes ≤ 140737488355328) (ty : TypeId) :
    ∃ a' c' w', (Builtin.append_ #[t, t2] ty #[.slice a n c, .string (str bs)]).run P w = .ok (.slice a' (n + m) c') w' ∧ (n + m ≤ c → a = a' ∧ c = c') ∧ Sat W w' (arr a' (n + m) c' s e (xs ++ bytesV bs) :: R) := by
  obtain ⟨ys, hys⟩ : ∃ ys, ys = bytesV bs := ⟨_, rfl⟩
  have hl : ys.length = m * s := by rw [hys, bytesV_length, hm0, hs1, Nat.mul_one]
  have h1 : ∀ u ∈ ys, u.oneCell' = true := by rw [hys]; exact bytesV_one _
  rw [← hys]
  unfold elI at hi
  cases hinfo : P.info? e with
  | none => simp [hinfo] at hi
  | some i =>
  cases hz : i.zero with
  | none => simp [hinfo, hz] at hi
  | some zz =>
  simp only [hinfo, hz, Option.bind_some, Option.map_some, Option.some.injEq, Prod.mk.injEq] at hi
  obtain ⟨hs, hby, hzs⟩ := hi
  subst hs hby
  have hxv := h.arr_view
  obtain ⟨hxl, hnc, hcm⟩ := h.arr_len
  have hone := h.arr_one
  have hsum : (xs ++ ys).length = (n + m) * i.size := by rw [List.length_append, hxl, hl, Nat.add_mul]
  have hones : ∀ u ∈ xs ++ ys, u.oneCell' = true := fun u hu => (List.mem_append.1 hu).elim (hone u) (h1 u)
  have hfirst : ∀ w' : World, (Builtin.firstCells i.size m (.string (str bs))).run P w' = .ok ys.toArray w' := by
    intro w'
    have : (str bs).extract 0 m = str bs := by
      rw [hm0]
      apply ByteArray.ext
      simp [str]
    simp only [Builtin.firstCells, this, Sem.run_pure]
    congr 1
    apply Array.ext'
    simp [str, hys, bytesV, byteV]
  have hsz : (str bs).size = m := by rw [str_size, hm0]
  by_cases hroom : n + m ≤ c
  · -- there is room
    obtain ⟨hbel, T, hT, ⟨e1, e2, e3, e4, e5⟩, hrest⟩ := h
    rcases e5 with rfl | ⟨b, o, cs, rfl, hTb, hB, hcap, htake⟩
    · have hn0 : n = 0 := by omega
      have hm0 : m = 0 := by omega
      subst hn0 hm0
      have hx0 : xs = [] := List.eq_nil_of_length_eq_zero (by simpa using hxl)
      have hy0 : ys = [] := List.eq_nil_of_length_eq_zero (by simpa using hl)
      subst hx0
      rw [hy0] at hl h1 hfirst hsum hones ⊢
      refine ⟨a, 0, w, ?_, fun _ => ⟨rfl, rfl⟩, ⟨hbel, T, hT, ⟨by simp, Nat.le_refl _, e3, fun _ h => (by cases h), .inl rfl⟩, hrest⟩⟩
      have := hfirst w
      cases a <;> simp [Builtin.append_, run_underlying ht, run_underlying ht2, hsz, sizeOf, typeInfo, hinfo, Builtin.lenOf, this, storeCells]
    · have hfit : o + n * i.size + ys.length ≤ cs.length := by
        have : (n + m) * i.size ≤ c * i.size := Nat.mul_le_mul_right _ hroom
        rw [Nat.add_mul] at this; omega
      obtain ⟨w', hr, hB', hch⟩ := run_storeCells_blk (P := P) ys 0 w cs (o := o + n * i.size) hB (by omega) h1
      refine ⟨some ⟨b, o, none⟩, c, w', ?_, fun _ => ⟨rfl, rfl⟩, ?_⟩
      · have := hfirst w
        simp [Builtin.append_, run_underlying ht, run_underlying ht2, hsz, sizeOf, typeInfo, hinfo, Builtin.lenOf, hroom, this, add_lit, hr]
      · refine Sat.turnT (T := T) (rs := [arr (some ⟨b, o, none⟩) (n + m) c i.size e (xs ++ ys)]) hbel hT hrest (hch.mono (fun k hk => by subst hk; exact hTb)) ?_
        refine ⟨T, fun k hk => ⟨.inl hk, Nat.lt_of_lt_of_le (hT k hk).2 hch.size⟩, ⟨hsum, hroom, hcm, hones, .inr ⟨b, o, _, rfl, hTb, hB', by rw [setN_length]; exact hcap, ?_⟩⟩, trivial⟩
        simp only [Nat.add_zero]
        apply List.ext_getElem?
        intro j
        rw [List.getElem?_take]
        by_cases hj : j < (xs ++ ys).length
        · rw [if_pos hj, List.getElem?_drop, setN_get]
          rw [List.length_append, hxl] at hj
          by_cases hj2 : j < n * i.size
          · rw [if_neg (by omega), List.getElem?_append_left (by omega)]
            have hjx : xs[j]? = some xs[j] := List.getElem?_eq_getElem (by omega)
            rw [hjx]
            exact take_drop_get htake hjx
          · rw [if_pos (by omega), List.getElem?_append_right (by omega), hxl]
            congr 1; omega
        · rw [if_neg hj, List.getElem?_eq_none (by omega)]
  · -- it grows
    have hgrow : c < n + m := by omega
    have hsmall : ((n + m : Nat) : Int) ≤ 9223372036854775807 := by simp only [maxLen] at hm; omega
    have hfits := growslice_fits (bytes := i.bytes) hgrow hb
    have hge := grownCap_ge w (n + m) c e
    have hgm := grownCap_le_maxLen w (n + m) c e hm
    have hnew : Sat W (w.drew.alloc (.cells (xs.toArray ++ ys.toArray ++ Builtin.zeroCells zz.cells (grownCap w (n + m) c e - (n + m))) e)) (arr (some ⟨w.heap.size, 0, none⟩) (n + m) (grownCap w (n + m) c e) i.size e (xs ++ ys) :: R) := by
      have h2 := (h.tail.drew).blk_new (xs ++ ys ++ (Builtin.zeroCells zz.cells (grownCap w (n + m) c e - (n + m))).toList) e
      have e1 : (xs.toArray ++ ys.toArray ++ Builtin.zeroCells zz.cells (grownCap w (n + m) c e - (n + m))) = (xs ++ ys ++ (Builtin.zeroCells zz.cells (grownCap w (n + m) c e - (n + m))).toList).toArray := by
        apply Array.ext'; simp
      rw [e1]
      have hcap : grownCap w (n + m) c e * i.size ≤ (xs ++ ys ++ (Builtin.zeroCells zz.cells (grownCap w (n + m) c e - (n + m))).toList).length := by
        rw [List.length_append, hsum, Array.length_toList, zeroCells_size, hzs, ← Nat.add_mul]
        exact Nat.le_of_eq (by congr 1; omega)
      exact Sat.arr_of_blk h2 hsum hge hgm hones hcap List.take_left
    have hn : ¬ (n + m ≤ c) := by omega
    have h63' : ¬ (9223372036854775807 < ((n : Int) + (m : Int))) := by omega
    have h48' : ¬ (281474976710656 < Builtin.nextslicecap (n + m) c * i.bytes) := by omega
    refine ⟨_, _, _, ?_, fun hh => absurd hh hn, hnew⟩
    have hf := hfirst w.drew
    have hfo : (Builtin.firstCells i.size n (.slice a n c)).run P w.drew = .ok xs.toArray w.drew := by
      cases a with
      | none =>
        have hn0 : n = 0 := by
          obtain ⟨_, T, _, ⟨_, _, _, _, h5⟩, _⟩ := h
          rcases h5 with hc0 | ⟨b, o, cs, h, _⟩
          · omega
          · cases h
        subst hn0
        have hx0 : xs = [] := List.eq_nil_of_length_eq_zero (by simpa using hxl)
        subst hx0; simp [Builtin.firstCells]
      | some ad => exact run_firstCells_some (P := P) w.drew i.size n ad n c xs hxl (View.add hxv)
    simp [Builtin.append_, run_underlying ht, run_underlying ht2, hsz, sizeOf, typeInfo, zeroValue, hinfo, hz, Builtin.lenOf, hn, h63', h48', Question.forced, hf, hfo, newRow, grownCap]
    congr 2
    apply Array.ext'
    simp [List.append_assoc]

theorem does_appS {e : TypeId} {bytes : Nat} {l s : List UInt8} (ht : P.underlying t = some (.slice e)) (hi : elI P e = some (1, bytes, 1)) (h : Sat W w (ow elU8 a c e l :: R)) (hx : ev L x = some (.slice a n c)) (hy : ev L y = some (.string (str s)))
    (hn : n = l.length) (hb : (l.length + s.length) * bytes ≤ 140737488355328) (ht2 : P.underlying t2 = some .string) (hb0 : 0 < bytes) :
    Does N P w ⟨dst, .call { callee := .builtin .append, args := #[x, y], argTypes := #[t, t2] }, ty, pos, af, gd⟩ L
      (fun v w' => ∃ a' c', v = .slice a' (l ++ s).length c' ∧ Sat W w' (ow elU8 a' c' e (l ++ s) :: R)) := fun A hA K Q hK => by
  subst hn
  have hle : l.length + s.length ≤ maxLen := by
    have : (l.length + s.length) * 1 ≤ (l.length + s.length) * bytes := Nat.mul_le_mul_left _ hb0
    simp only [maxLen]; omega
  obtain ⟨a', c', w', hr, _, hs⟩ := run_appendS (t2 := t2) ht hi h (m := s.length) (bs := s) rfl ht2 rfl hle hb ty
  have hrun : (execOp A.eval ⟨dst, .call { callee := .builtin .append, args := #[x, y], argTypes := #[t, t2] }, ty, pos, af, gd⟩).run P w = .ok (.value (.slice a' (l.length + s.length) c')) w' := by
    simp [execOp, resolve, invoke, builtin, hA.eval hx, hA.eval hy, hr]
  unfold Oper.wp
  rw [hrun]
  refine hK _ _ ⟨a', c', by rw [List.length_append], ?_⟩
  unfold ow
  rw [elU8.row_append, elU8_row s, List.length_append]
  exact hs

/-! #### a text's bytes -/
theorem does_bytes {e t' : TypeId} {bytes : Nat} {s : List UInt8} (h : Sat W w R) (hs : P.underlying t' = some .string) (hd : P.underlying t = some (.slice e)) (he : P.underlying e = some (.int .u8)) (hi : elI P e = some (1, bytes, 1)) (hx : ev L x = some (.string (str s))) (hb : s.length ≤ 140737488355328) :
    Does N P w ⟨dst, .convert t' t x, ty, pos, af, gd⟩ L (fun v w' => ∃ a c, v = .slice a s.length c ∧ Sat W w' (ow elU8 a c e s :: R)) := fun A hA K Q hK => by
  have hr := run_bytes_of_string (P := P) w t' t e (str s) hs hd he
  have hrun : (execOp A.eval ⟨dst, .convert t' t x, ty, pos, af, gd⟩).run P w = .ok (.value (.slice (some ⟨w.heap.size, 0, none⟩) s.length (grownCap w s.length 0 e)))
      (w.drew.alloc (.cells (bytesRow (str s) (grownCap w s.length 0 e)) e ((bytesRow (str s) (grownCap w s.length 0 e)).size, (bytesRow (str s) (grownCap w s.length 0 e)).size + 1))) := by
    have e1 : (str s).size = s.length := str_size s
    rw [e1] at hr
    simp [execOp, hA.eval hx, hr]
  unfold Oper.wp
  rw [hrun]
  have hm : s.length ≤ maxLen := by simp only [maxLen]; omega
  have hge := grownCap_ge w s.length 0 e
  have hgm := grownCap_le_maxLen w s.length 0 e hm
  obtain ⟨g, hg⟩ : ∃ g, g = grownCap w s.length 0 e := ⟨_, rfl⟩
  rw [← hg] at hge hgm ⊢
  have hcells : (bytesRow (str s) g).toList = bytesV s ++ List.replicate (g - s.length) (.int .u8 0) := by
    unfold bytesRow
    rw [Array.toList_append, Array.toList_map, Array.toList_replicate, str_size]
    rfl
  have hlen : (bytesRow (str s) g).toList.length = g := by
    rw [hcells, List.length_append, bytesV_length, List.length_replicate]; omega
  refine hK _ _ ⟨_, _, rfl, ?_⟩
  refine Sat.more (w := w) (rs := [ow elU8 (some ⟨w.heap.size, 0, none⟩) g e s]) h ((Ch.drew w _).trans (Ch.alloc _ _ _)) ⟨fun k => k = w.heap.size, fun k hk => by subst hk; simp, ?_, trivial⟩
  have hB : Blk (w.drew.alloc (.cells (bytesRow (str s) g) e ((bytesRow (str s) g).size, (bytesRow (str s) g).size + 1))) w.heap.size (bytesRow (str s) g).toList e :=
    ⟨((bytesRow (str s) g).size, (bytesRow (str s) g).size + 1), by
      have : (w.drew.alloc (.cells (bytesRow (str s) g) e ((bytesRow (str s) g).size, (bytesRow (str s) g).size + 1))).heap[w.heap.size]? = some (.cells (bytesRow (str s) g) e ((bytesRow (str s) g).size, (bytesRow (str s) g).size + 1)) := heap_alloc_new w.drew _
      rw [this], fun _ => by simp⟩
  refine ⟨by rw [El.row_length], hge, hgm, elU8.row_one _, .inr ⟨w.heap.size, 0, (bytesRow (str s) g).toList, rfl, rfl, hB, ?_, ?_⟩⟩
  · show 0 + g * 1 ≤ _
    rw [hlen]; omega
  · rw [List.drop_zero, hcells, elU8_row, bytesV_length]
    exact List.take_left' (bytesV_length s)
/-! #### parts of texts -/
theorem str_extract (s : List UInt8) (i j : Nat) : (str s).extract i j = str ((s.take j).drop i) := by
  apply ByteArray.ext
  simp only [str, ByteArray.data_extract]
  apply Array.ext'
  simp [List.extract_eq_take_drop, List.drop_take]
theorem yl_slLHS {k k' : IntKind} {i j : Int} {s : List UInt8} (ht : P.underlying t = some .string) (hx : ev L x = some (.string (str s))) (hy : ev L y = some (.int k i)) (hz : ev L z = some (.int k' j)) (h : (0 ≤ i ∧ i ≤ j) ∧ j ≤ s.length) :
    Yl N P w ⟨dst, .slice t x (some y) (some z) none, ty, pos, af, gd⟩ L (.string (str ((s.take j.toNat).drop i.toNat))) := fun A hA => by
  have := run_slice_string (P := P) w t (str s) k k' i j ht h.1.1 h.1.2 (by rw [str_size]; exact h.2)
  rw [str_extract] at this
  simp [execOp, hA.eval hx, hA.eval hy, hA.eval hz, run_sliceAt_string w _ _ _ _ _ ht, this]
theorem yl_slHS {k' : IntKind} {j : Int} {s : List UInt8} (ht : P.underlying t = some .string) (hx : ev L x = some (.string (str s))) (hz : ev L z = some (.int k' j)) (h : ((0 : Int) ≤ 0 ∧ 0 ≤ j) ∧ j ≤ s.length) :
    Yl N P w ⟨dst, .slice t x none (some z) none, ty, pos, af, gd⟩ L (.string (str (s.take j.toNat))) := fun A hA => by
  have := run_slice_string_h (P := P) w t (str s) ht k' j h.1.2 (by rw [str_size]; exact h.2)
  rw [str_extract, List.drop_zero] at this
  simp [execOp, hA.eval hx, hA.eval hz, run_sliceAt_string w _ _ _ _ _ ht, this]
theorem yl_slLS {k : IntKind} {i : Int} {s : List UInt8} (ht : P.underlying t = some .string) (hx : ev L x = some (.string (str s))) (hy : ev L y = some (.int k i)) (h : (0 ≤ i ∧ i ≤ (s.length : Int)) ∧ (s.length : Int) ≤ s.length) :
    Yl N P w ⟨dst, .slice t x (some y) none none, ty, pos, af, gd⟩ L (.string (str (s.drop i.toNat))) := fun A hA => by
  have := run_slice_string_l (P := P) w t (str s) ht k i h.1.1 (by rw [str_size]; exact h.1.2)
  rw [str_extract, str_size, List.take_length] at this
  simp [execOp, hA.eval hx, hA.eval hy, run_sliceAt_string w _ _ _ _ _ ht, this]
/-! #### copies -/
/-- The list, from a place on these in the stead of what stood there. -/
def copyL {α : Type} (l : List α) (m : Nat) (xs : List α) : List α := l.mapIdx fun i x => (if m ≤ i then xs[i - m]? else none).getD x
theorem copyL_length {α : Type} (l : List α) (m : Nat) (xs : List α) : (copyL l m xs).length = l.length := by simp [copyL]
theorem copyL_eq {α : Type} {l : List α} {m : Nat} {xs : List α} (h : m + xs.length ≤ l.length) : copyL l m xs = l.take m ++ xs ++ l.drop (m + xs.length) := by
  apply List.ext_getElem?
  intro j
  unfold copyL
  rw [List.getElem?_mapIdx]
  by_cases h1 : j < l.length
  · rw [List.getElem?_eq_getElem h1, Option.map_some]
    by_cases h2 : m ≤ j
    · rw [if_pos h2]
      by_cases h3 : j - m < xs.length
      · rw [List.getElem?_append_left (by simp; omega), List.getElem?_append_right (by simp; omega), List.length_take, Nat.min_eq_left (by omega), List.getElem?_eq_getElem h3]; rfl
      · rw [List.getElem?_append_right (by simp; omega), List.getElem?_drop, List.getElem?_eq_none (by omega)]
        simp only [Option.getD_none, List.length_append, List.length_take]
        rw [← List.getElem?_eq_getElem h1]; congr 1; omega
    · rw [if_neg h2, List.append_assoc, List.getElem?_append_left (by simp; omega), List.getElem?_take, if_pos (by omega), List.getElem?_eq_getElem h1]; rfl
  · rw [List.getElem?_eq_none (l := l) (by omega), List.getElem?_eq_none (l := l.take m ++ xs ++ l.drop (m + xs.length)) (by simp; omega)]; rfl
theorem row_copyL {m : Nat} {xs : List α} (h : m + xs.length ≤ l.length) : setN (E.row l) (m * E.s) (E.row xs) = E.row (copyL l m xs) := by
  have h1 : (m + xs.length) * E.s ≤ l.length * E.s := Nat.mul_le_mul_right _ h
  rw [setN_eq _ _ _ (by rw [E.row_length, E.row_length, ← Nat.add_mul]; exact h1)]
  rw [copyL_eq h, E.row_append, E.row_append, E.row_take, E.row_drop, E.row_length, Nat.add_mul]
/-- The destination is the row itself, or its part from a place on. -/
theorem does_cpE {e : TypeId} {X : List α} {a' : Option Addr} {m c' n' : Nat} (h : Sat W w (ow E a c e l :: R)) (ht : P.underlying t = some (.slice e)) (hs : szOf P e = some E.s) (hx : ev L x = some (.slice a' n' c')) (hy : ev L y = some (.slice a2 n c2))
    (hn' : n' = X.length) (hn : n = l2.length) (hp : 0 < E.s) (hv : View w a2 (E.row l2)) (hd : (a' = a ∧ m = 0) ∨ Cut a' a c m E.s) (hl : m + X.length ≤ l.length) :
    Does N P w ⟨dst, .call { callee := .builtin .copy, args := #[x, y], argTypes := #[t, t2] }, ty, pos, af, gd⟩ L (fun v w' => v = .int .i64 ((min l2.length X.length : Nat) : Int) ∧ Sat W w' (ow E a c e (copyL l m (l2.take (min l2.length X.length))) :: R)) := fun A hA K Q hK => by
  subst hn hn'
  obtain ⟨r, hr⟩ : ∃ r, r = min l2.length X.length := ⟨_, rfl⟩
  rw [← hr] at hK
  have hrl : (l2.take r).length = r := by rw [List.length_take]; omega
  have hf := run_first (P := P) (s := E.s) (r := r) (m := l2.length) (c2 := c2) hv (by rw [E.row_length]; exact Nat.mul_le_mul_right _ (by omega)) (fun e => by subst e; rw [hv.row_nil hp] at hr; simp at hr; omega)
  rw [← E.row_take] at hf
  have hcap := Sat.own_cap h
  obtain ⟨hbel, T, hT, ⟨e1, e2, e3, e4, e5⟩, hrest⟩ := h
  by_cases hr0 : r = 0
  · -- nothing is copied
    have hz : copyL l m (l2.take r) = l := by rw [copyL_eq (by rw [hrl]; omega), hr0]; simp
    have hrun : (execOp A.eval ⟨dst, .call { callee := .builtin .copy, args := #[x, y], argTypes := #[t, t2] }, ty, pos, af, gd⟩).run P w = .ok (.value (.int .i64 (r : Int))) w := by
      have hr' : Nat.min l2.length X.length = r := hr.symm
      have hf' : (Builtin.firstCells E.s r (.slice a2 l2.length c2)).run P w = .ok #[] w := by rw [hf, hr0]; simp [El.row]
      cases a' <;> simp [execOp, resolve, invoke, builtin, Builtin.copy_, hA.eval hx, hA.eval hy, run_underlying ht, run_sizeOf' hs, Builtin.lenOf, hr', hf', goInt, storeCells]
    unfold Oper.wp
    rw [hrun]
    refine hK _ _ ⟨rfl, ?_⟩
    rw [hz]
    exact ⟨hbel, T, hT, ⟨e1, e2, e3, e4, e5⟩, hrest⟩
  · rcases e5 with rfl | ⟨b, o, cs, rfl, hTb, hB, hcs, htake⟩
    · omega
    · have ha' : a' = some ⟨b, o + m * E.s, none⟩ := by
        rcases hd with ⟨rfl, rfl⟩ | hd
        · simp
        · unfold Cut at hd
          rw [if_neg (by omega)] at hd
          rw [hd]; simp [add_lit]
      subst ha'
      have hmul : (m + r) * E.s ≤ l.length * E.s := Nat.mul_le_mul_right _ (by omega)
      have hmulc : l.length * E.s ≤ c * E.s := Nat.mul_le_mul_right _ (by omega)
      rw [Nat.add_mul] at hmul
      have hyl : (E.row (l2.take r)).length = r * E.s := by rw [E.row_length, hrl]
      obtain ⟨w', hst, hB', hch⟩ := run_storeCells_blk (P := P) (E.row (l2.take r)) 0 w cs (o := o + m * E.s) hB (by rw [hyl]; omega) (E.row_one _)
      have hrun : (execOp A.eval ⟨dst, .call { callee := .builtin .copy, args := #[x, y], argTypes := #[t, t2] }, ty, pos, af, gd⟩).run P w = .ok (.value (.int .i64 (r : Int))) w' := by
        have hr' : Nat.min l2.length X.length = r := hr.symm
        simp [execOp, resolve, invoke, builtin, Builtin.copy_, hA.eval hx, hA.eval hy, run_underlying ht, run_sizeOf' hs, Builtin.lenOf, hr', hf, goInt, hst]
      unfold Oper.wp
      rw [hrun]
      refine hK _ _ ⟨rfl, Sat.turnT (T := T) (rs := [ow E (some ⟨b, o, none⟩) c e (copyL l m (l2.take r))]) hbel hT hrest (hch.mono (fun k hk => by subst hk; exact hTb)) ?_⟩
      have hlen : (copyL l m (l2.take r)).length = l.length := copyL_length _ _ _
      refine ⟨T, fun k hk => ⟨.inl hk, Nat.lt_of_lt_of_le (hT k hk).2 hch.size⟩, ⟨by rw [E.row_length], by rw [hlen]; exact e2, e3, E.row_one _, .inr ⟨b, o, _, rfl, hTb, hB', by rw [setN_length]; exact hcs, ?_⟩⟩, trivial⟩
      rw [← row_copyL (by rw [hrl]; omega), setN_length, Nat.add_zero]
      exact setN_take_drop htake (by rw [hyl, E.row_length]; omega)
/-- An array, from its head on these in the stead of what stood there. -/
def copyA {n : Nat} (f : Fin n → UInt8) (l : List UInt8) : Fin n → UInt8 := fun i => (l[i.val]?).getD (f i)
theorem copyA_list {n : Nat} (f : Fin n → UInt8) (l : List UInt8) : List.ofFn (copyA f l) = l.take n ++ (List.ofFn f).drop (l.take n).length := by
  apply List.ext_getElem?
  intro j
  by_cases hj : j < n
  · rw [List.getElem?_ofFn, dif_pos hj]
    show some ((l[j]?).getD (f ⟨j, hj⟩)) = _
    by_cases h : j < l.length
    · rw [List.getElem?_append_left (by rw [List.length_take]; omega), List.getElem?_take, if_pos hj, List.getElem?_eq_getElem h]; rfl
    · rw [List.getElem?_append_right (by rw [List.length_take]; omega), List.getElem?_drop, List.getElem?_ofFn, List.length_take, dif_pos (by omega), List.getElem?_eq_none (by omega)]
      simp only [Option.getD_none, Option.some.injEq]
      congr 1
      apply Fin.ext
      simp only; omega
  · rw [List.getElem?_ofFn, dif_neg hj, List.getElem?_eq_none (by simp; omega)]
theorem copyA_set {n : Nat} (f : Fin n → UInt8) (l : List UInt8) (r : Nat) (hr : r = min l.length n) : setN (bytesV (List.ofFn f)) 0 ((elU8.row l).take (r * 1)) = bytesV (List.ofFn (copyA f l)) := by
  have e : r * 1 = r := Nat.mul_one r
  have h1 : (elU8.row l).take r = bytesV (l.take r) := by rw [elU8_row, bytesV_take]
  rw [e, h1, setN_eq _ _ _ (by simp [bytesV_length]; omega), copyA_list, List.take_zero, List.nil_append, bytesV_append, bytesV_drop, bytesV_length, Nat.zero_add]
  have h2 : l.take r = l.take n := by
    rcases Nat.le_total l.length n with h | h
    · rw [List.take_of_length_le (by omega), List.take_of_length_le h]
    · rw [hr, Nat.min_eq_right h]
  rw [h2]
theorem copyA_cellsW {n : Nat} (f : Fin n → UInt8) (l : List UInt8) (r : Nat) (hr : r = min l.length n) : setN (bytesV (List.ofFn f)) 0 ((elU8.row l).take (r * 1)) = bytesV (List.ofFn (copyA f l)) := copyA_set f l r hr
theorem copyA_cellsH {n : Nat} (f : Fin n → UInt8) (l : List UInt8) (r : Nat) (hr : r = min l.length n) (q : List Value) : setN (bytesV (List.ofFn f) ++ q) 0 ((elU8.row l).take (r * 1)) = bytesV (List.ofFn (copyA f l)) ++ q := by
  rw [← copyA_set f l r hr]
  have hle : ((elU8.row l).take (r * 1)).length ≤ n := by rw [List.length_take, El.row_length]; simp [elU8]; omega
  rw [setN_eq _ _ _ (by simp [bytesV_length]; omega), setN_eq _ _ _ (by simp [bytesV_length]; omega)]
  simp only [List.take_zero, List.nil_append, Nat.zero_add, List.append_assoc]
  rw [List.drop_append_of_le_length (by simp [bytesV_length]; omega)]

theorem row_cell (b : List UInt8) : (elU8.row b).length = b.length := by rw [El.row_length]; show b.length * 1 = b.length; omega
/-- copy into an array that is a block's head. -/
theorem does_cpAH {e e' : TypeId} {b k : Nat} {f : Fin k → UInt8} {q : List Value} {l : List UInt8} {m c0 n0 : Nat} (h : Sat W w (blk b (bytesV (List.ofFn f) ++ q) e' :: R)) (ht : P.underlying t = some (.slice e)) (hs : szOf P e = some 1)
    (hx : ev L x = some (.slice (some ⟨b, 0, none⟩) n0 c0)) (hn0 : n0 = k) (hy : ev L y = some (.slice a2 m c2)) (hv : View w a2 (elU8.row l)) (hm : m = l.length) :
    Does N P w ⟨dst, .call { callee := .builtin .copy, args := #[x, y], argTypes := #[t, t2] }, ty, pos, af, gd⟩ L (fun v w' => v = .int .i64 ((min l.length k : Nat) : Int) ∧ Sat W w' (blk b (bytesV (List.ofFn (copyA f l)) ++ q) e' :: R)) := by
  subst hm hn0
  refine (does_copyBlk (r := min l.length n0) (ys := elU8.row l) h ht hs hx hy hv (by rw [row_cell]; omega) (elU8.row_one _) (fun e => by subst e; rw [hv.row_nil (by decide)]; rfl) rfl (by simp [bytesV_length]; omega)).mono ?_
  rintro v w' ⟨rfl, hs⟩
  exact ⟨rfl, sl_blk (copyA_cellsH f l _ rfl q) hs⟩
theorem does_cpAW {e e' : TypeId} {b k : Nat} {f : Fin k → UInt8} {l : List UInt8} {m c0 n0 : Nat} (h : Sat W w (blk b (bytesV (List.ofFn f)) e' :: R)) (ht : P.underlying t = some (.slice e)) (hs : szOf P e = some 1)
    (hx : ev L x = some (.slice (some ⟨b, 0, none⟩) n0 c0)) (hn0 : n0 = k) (hy : ev L y = some (.slice a2 m c2)) (hv : View w a2 (elU8.row l)) (hm : m = l.length) :
    Does N P w ⟨dst, .call { callee := .builtin .copy, args := #[x, y], argTypes := #[t, t2] }, ty, pos, af, gd⟩ L (fun v w' => v = .int .i64 ((min l.length k : Nat) : Int) ∧ Sat W w' (blk b (bytesV (List.ofFn (copyA f l))) e' :: R)) := by
  have h2 : Sat W w (blk b (bytesV (List.ofFn f) ++ []) e' :: R) := by rw [List.append_nil]; exact h
  refine (does_cpAH h2 ht hs hx hn0 hy hv hm).mono ?_
  rintro v w' ⟨rfl, hs⟩
  rw [List.append_nil] at hs
  exact ⟨rfl, hs⟩

theorem setN_front (p X vs : List Value) (h : vs.length ≤ X.length) : setN (p ++ X) p.length vs = p ++ setN X 0 vs := by
  rw [setN_eq _ _ _ (by rw [List.length_append]; omega), setN_eq _ _ _ (by omega), List.take_left, List.take_zero, List.nil_append, List.drop_append, List.drop_of_length_le (by omega), List.nil_append, List.append_assoc]
  rw [show p.length + vs.length - p.length = 0 + vs.length by omega]
/-- copy into an array that stands in the midst of a block. -/
theorem does_cpAM {e e' : TypeId} {b k o : Nat} {f : Fin k → UInt8} {cs cs' p q : List Value} {l : List UInt8} {m c0 n0 : Nat} (hcs : cs = p ++ (bytesV (List.ofFn f) ++ q)) (hcs' : cs' = p ++ (bytesV (List.ofFn (copyA f l)) ++ q)) (hp : p.length = o)
    (h : Sat W w (blk b cs e' :: R)) (ht : P.underlying t = some (.slice e)) (hs : szOf P e = some 1)
    (hx : ev L x = some (.slice (some ⟨b, o, none⟩) n0 c0)) (hn0 : n0 = k) (hy : ev L y = some (.slice a2 m c2)) (hv : View w a2 (elU8.row l)) (hm : m = l.length) :
    Does N P w ⟨dst, .call { callee := .builtin .copy, args := #[x, y], argTypes := #[t, t2] }, ty, pos, af, gd⟩ L (fun v w' => v = .int .i64 ((min l.length k : Nat) : Int) ∧ Sat W w' (blk b cs' e' :: R)) := by
  subst hm hn0 hcs hcs' hp
  refine (does_copyBlk (r := min l.length n0) (ys := elU8.row l) h ht hs hx hy hv (by rw [row_cell]; omega) (elU8.row_one _) (fun e => by subst e; rw [hv.row_nil (by decide)]; rfl) rfl (by simp [bytesV_length]; omega)).mono ?_
  rintro v w' ⟨rfl, hs⟩
  have hle : ((elU8.row l).take (min l.length n0 * 1)).length ≤ n0 := by rw [List.length_take, El.row_length]; simp [elU8]; omega
  rw [setN_front _ _ _ (by simp [bytesV_length]; omega)] at hs
  exact ⟨rfl, sl_blk (congrArg (p ++ ·) (copyA_cellsH f l _ rfl q)) hs⟩
/-! #### elements of arrays -/
def setA {n : Nat} (f : Fin n → UInt8) (j : Int) (x : UInt8) : Fin n → UInt8 := fun i => if i.val = j.toNat then x else f i
theorem setA_list {n : Nat} (f : Fin n → UInt8) (j : Int) (x : UInt8) : List.ofFn (setA f j x) = (List.ofFn f).set j.toNat x := by
  apply List.ext_getElem?
  intro i
  rw [List.getElem?_set, List.getElem?_ofFn]
  by_cases hi : i < n
  · rw [dif_pos hi]
    unfold setA
    by_cases e : j.toNat = i
    · subst e; simp [hi]
    · rw [if_neg e, if_neg (by simp only; omega), List.getElem?_ofFn, dif_pos hi]
  · rw [dif_neg hi]
    by_cases e : j.toNat = i
    · subst e; simp [hi]
    · rw [if_neg e, List.getElem?_ofFn, dif_neg hi]
theorem ofFn_len {n : Nat} (f : Fin n → UInt8) : (List.ofFn f).length = n := List.length_ofFn
theorem yl_ixArr {b o k : Nat} {q : IntKind} {j : Int} {f : Fin k → UInt8} {u : UInt8} (ht : P.underlying t = some (.array k (P.elem t)) ∧ szOf P (P.elem t) = some 1) (hx : ev L x = some (.pointer (some ⟨b, o, none⟩))) (hy : ev L y = some (.int q j)) (h : at? (List.ofFn f) j = some u) :
    Yl N P w ⟨dst, .indexAddr t x y, ty, pos, af, gd⟩ L (.pointer (some ⟨b, o + j.toNat, none⟩)) := by
  have h2 := at?_lt h
  rw [ofFn_len] at h2
  exact yl_indexArr ht.1 ht.2 hx hy h2 (by omega)
theorem yl_ldA {b o k : Nat} {j : Int} {f : Fin k → UInt8} {u : UInt8} (ht : aggB P t = some false) (hx : ev L x = some (.pointer (some ⟨b, o + j.toNat, none⟩))) (hv : View w (some ⟨b, o, none⟩) (bytesV (List.ofFn f))) (h : (List.ofFn f)[j.toNat]? = some u) :
    Yl N P w ⟨dst, .load t x, ty, pos, af, gd⟩ L (v8 u) := yl_load ht hx (hv.at_ (bytesV_get h))
theorem setN_one (cs : List Value) (i : Nat) (v : Value) : setN cs i [v] = cs.set i v := rfl
theorem setA_cellsW {k : Nat} (f : Fin k → UInt8) (j : Int) (u : UInt8) : setN (bytesV (List.ofFn f)) j.toNat [v8 u] = bytesV (List.ofFn (setA f j u)) := by
  rw [setA_list, setN_one]; simp [bytesV, List.map_set, byteV]
theorem setA_cellsH {k : Nat} (f : Fin k → UInt8) (j : Int) (u : UInt8) (q : List Value) (hj : j.toNat < k) : setN (bytesV (List.ofFn f) ++ q) j.toNat [v8 u] = bytesV (List.ofFn (setA f j u)) ++ q := by
  rw [setN_one, List.set_append_left _ _ (by simp [bytesV_length]; exact hj), ← setA_cellsW, setN_one]
theorem does_stAW {e' : TypeId} {b k : Nat} {f : Fin k → UInt8} {j : Int} {u u' : UInt8} (h : Sat W w (blk b (bytesV (List.ofFn f)) e' :: R)) (hs : szOf P t = some 1) (hx : ev L x = some (.pointer (some ⟨b, 0 + j.toNat, none⟩))) (hy : ev L y = some (v8 u)) (hj : at? (List.ofFn f) j = some u') :
    Does N P w ⟨dst, .store t x y, ty, pos, af, gd⟩ L (fun _ w' => Sat W w' (blk b (bytesV (List.ofFn (setA f j u))) e' :: R)) := by
  have h2 := at?_lt hj
  rw [ofFn_len] at h2
  refine (does_store (vs := [v8 u]) h hs hx hy rfl rfl (List.forall_mem_cons.2 ⟨rfl, fun _ hh => by cases hh⟩) (by simp [bytesV_length]; omega)).mono ?_
  intro _ w' hs
  rw [Nat.zero_add, setA_cellsW] at hs
  exact hs
theorem does_stAH {e' : TypeId} {b k : Nat} {f : Fin k → UInt8} {j : Int} {u u' : UInt8} {q : List Value} (h : Sat W w (blk b (bytesV (List.ofFn f) ++ q) e' :: R)) (hs : szOf P t = some 1) (hx : ev L x = some (.pointer (some ⟨b, 0 + j.toNat, none⟩))) (hy : ev L y = some (v8 u)) (hj : at? (List.ofFn f) j = some u') :
    Does N P w ⟨dst, .store t x y, ty, pos, af, gd⟩ L (fun _ w' => Sat W w' (blk b (bytesV (List.ofFn (setA f j u)) ++ q) e' :: R)) := by
  have h2 := at?_lt hj
  rw [ofFn_len] at h2
  refine (does_store (vs := [v8 u]) h hs hx hy rfl rfl (List.forall_mem_cons.2 ⟨rfl, fun _ hh => by cases hh⟩) (by simp [bytesV_length]; omega)).mono ?_
  intro _ w' hs
  rw [Nat.zero_add, setA_cellsH _ _ _ _ (by omega)] at hs
  exact hs
/-! #### elements of arrays of words: a cell each -/
def selW {α : Type} (j : Int) (k : Nat) (x t : α) : α := if j.toNat = k then x else t
def selL {α : Type} (j : Int) (x : α) : Nat → List α → List α
  | _, [] => []
  | k, t :: l => selW j k x t :: selL j x (k + 1) l
theorem selL_set {α : Type} (j : Int) (x : α) : ∀ (xs : List α) (k : Nat), selL j x k xs = if k ≤ j.toNat then xs.set (j.toNat - k) x else xs
  | [], k => by simp [selL]
  | t :: l, k => by
    rw [selL, selL_set j x l (k + 1)]
    unfold selW
    by_cases h : j.toNat = k
    · rw [if_pos h, if_neg (by omega), if_pos (by omega), show j.toNat - k = 0 by omega]; rfl
    · rw [if_neg h]
      by_cases h2 : k ≤ j.toNat
      · rw [if_pos (by omega), if_pos h2, show j.toNat - k = (j.toNat - (k + 1)) + 1 by omega]; rfl
      · rw [if_neg (by omega), if_neg h2]
theorem yl_ixW {α : Type} {b o k : Nat} {q : IntKind} {j : Int} {xs : List α} {u : α} (ht : P.underlying t = some (.array k (P.elem t)) ∧ szOf P (P.elem t) = some 1) (hx : ev L x = some (.pointer (some ⟨b, o, none⟩))) (hy : ev L y = some (.int q j)) (h : at? xs j = some u) (hl : xs.length = k) :
    Yl N P w ⟨dst, .indexAddr t x y, ty, pos, af, gd⟩ L (.pointer (some ⟨b, o + j.toNat, none⟩)) := by
  have h2 := at?_lt h
  exact yl_indexArr ht.1 ht.2 hx hy ⟨h2.1, by omega⟩ (by omega)
theorem yl_ldW {α : Type} {g : α → Value} {b o : Nat} {j : Int} {xs : List α} {u : α} (ht : aggB P t = some false) (hx : ev L x = some (.pointer (some ⟨b, o + j.toNat, none⟩))) (hv : View w (some ⟨b, o, none⟩) (xs.map g)) (h : xs[j.toNat]? = some u) :
    Yl N P w ⟨dst, .load t x, ty, pos, af, gd⟩ L (g u) := yl_load ht hx (hv.at_ (by rw [List.getElem?_map, h]; rfl))
theorem yl_ixV {α : Type} {g : α → Value} {k : Nat} {q : IntKind} {j : Int} {xs : List α} {u : α} (ht : P.underlying t = some (.array k (P.elem t)) ∧ szOf P (P.elem t) = some 1) (ha : aggB P (P.elem t) = some false) (hx : ev L x = some (.agg (xs.map g).toArray)) (hy : ev L y = some (.int q j))
    (h : at? xs j = some u) (hl : xs.length = k) : Yl N P w ⟨dst, .index t x y, ty, pos, af, gd⟩ L (g u) := fun A hA => by
  have h2 := at?_lt h
  have h3 := (at?_some h).2
  have h4 : (xs.map g)[j.toNat]? = some (g u) := by rw [List.getElem?_map, h3]; rfl
  have h0 : 0 ≤ j ∧ j < (k : Int) := ⟨h2.1, by omega⟩
  simp [execOp, hA.eval hx, hA.eval hy, Instr.index, run_underlying ht.1, asIntOf, h0, run_sizeOf' ht.2, part, run_isAgg ha, h3]
theorem does_stW {α : Type} {g : α → Value} {e' : TypeId} {b : Nat} {xs : List α} {cs' : List Value} {j : Int} {u u' : α} (h1c : ∀ a, (g a).oneCell' = true) (hgc : ∀ a, (g a).cells.toList = [g a]) (hcs : cs' = (selL j u 0 xs).map g) (h : Sat W w (blk b (xs.map g) e' :: R)) (hs : szOf P t = some 1)
    (hx : ev L x = some (.pointer (some ⟨b, 0 + j.toNat, none⟩))) (hy : ev L y = some (g u)) (hj : at? xs j = some u') :
    Does N P w ⟨dst, .store t x y, ty, pos, af, gd⟩ L (fun _ w' => Sat W w' (blk b cs' e' :: R)) := by
  have h2 := at?_lt hj
  refine (does_store (vs := [g u]) h hs hx hy (hgc u) rfl (List.forall_mem_cons.2 ⟨h1c u, fun _ hh => by cases hh⟩) (by rw [List.length_map]; omega)).mono ?_
  intro _ w' hs
  rw [Nat.zero_add, setN_one, ← List.map_set] at hs
  rw [hcs, selL_set, if_pos (Nat.zero_le _), Nat.sub_zero]
  exact hs
/-! #### slices against nil -/
theorem isnil_view (hp : 0 < E.s) (h : a.isNone = true) (hv : View w a (E.row l)) : l = [] := by
  cases a with
  | none => exact hv.row_nil hp
  | some x => cases h
/-! #### zeros put behind a row -/
theorem does_app0 {e t2 : TypeId} {bytes : Nat} {k : IntKind} {zz : Value} {r : α} (ht : P.underlying t = some (.slice e)) (ht2 : P.underlying t2 = some (.int k)) (hi : elI P e = some (1, bytes, 1)) (hE : E.s = 1) (hz : zeroOf P e = some zz) (hz1 : zz.cells = #[zz]) (hzr : E.f r = [zz]) (h : Sat W w (ow E a c e l :: R)) {j : Int}
    (hx : ev L x = some (.slice a n c)) (hy : ev L y = some (.int k j)) (hn : n = l.length) (hb : 0 ≤ j ∧ ((l.length : Int) + j) * bytes ≤ 140737488355328) (hb0 : 0 < bytes) :
    Does N P w ⟨dst, .call { callee := .builtin .append, args := #[x, y], argTypes := #[t, t2] }, ty, pos, af, gd⟩ L
      (fun v w' => ∃ a' c', v = .slice a' (l ++ List.replicate j.toNat r).length c' ∧ Sat W w' (ow E a' c' e (l ++ List.replicate j.toNat r) :: R)) := by
  subst hn
  obtain ⟨m, rfl⟩ : ∃ m : Nat, j = m := ⟨j.toNat, by omega⟩
  have hbN : (l.length + m) * bytes ≤ 140737488355328 := by
    have h1 := hb.2
    have : (((l.length + m) * bytes : Nat) : Int) = ((l.length : Int) + (m : Int)) * (bytes : Int) := by rw [Int.natCast_mul, Int.natCast_add]
    omega
  have hle : l.length + m ≤ maxLen := by
    have : (l.length + m) * 1 ≤ (l.length + m) * bytes := Nat.mul_le_mul_left _ hb0
    simp only [maxLen]; omega
  have h1 : zz.oneCell' = true := E.one r zz (by rw [hzr]; simp)
  have h' : Sat W w (arr a l.length c 1 e (E.row l) :: R) := by
    have h2 : Sat W w (arr a l.length c E.s e (E.row l) :: R) := h
    rwa [hE] at h2
  refine (does_appendZeros ht ht2 hi hz hz1 h1 h' hx hy rfl hle hbN rfl).mono ?_
  rintro v w' ⟨a', c', rfl, hs⟩
  have e1 : (m : Int).toNat = m := by omega
  refine ⟨a', c', by rw [e1, List.length_append, List.length_replicate], ?_⟩
  unfold ow
  rw [e1, E.row_append, E.row_rep m r zz hzr, List.length_append, List.length_replicate, hE]
  exact hs

theorem zeroCells_row {z : Value} {r : α} (hz : z.cells.toList = E.f r) (m : Nat) : Builtin.zeroCells z.cells m = (E.row (List.replicate m r)).toArray := by
  have hs : z.cells.size = E.s := by rw [← E.len r, ← hz]; simp
  have := E_rep_cells hz m
  unfold Builtin.zeroCells
  rw [hs] at this ⊢
  exact this
/-- clear of a row, or of its part from a place on. -/
theorem does_clrE {e : TypeId} {X : List α} {a' : Option Addr} {m c' n' : Nat} {zz : Value} {r : α} (h : Sat W w (ow E a c e l :: R)) (ht : P.underlying t = some (.slice e)) (hz : zeroOf P e = some zz) (hzr : zz.cells.toList = E.f r) (hx : ev L x = some (.slice a' n' c'))
    (hn' : n' = X.length) (hp : 0 < E.s) (hd : (a' = a ∧ m = 0) ∨ Cut a' a c m E.s) (hl : m + X.length ≤ l.length) :
    Does N P w ⟨dst, .call { callee := .builtin .clear, args := #[x], argTypes := #[t] }, ty, pos, af, gd⟩ L (fun v w' => Sat W w' (ow E a c e (copyL l m (List.replicate X.length r)) :: R)) := fun A hA K Q hK => by
  subst hn'
  obtain ⟨k, hk⟩ : ∃ k, k = X.length := ⟨_, rfl⟩
  rw [← hk] at hK hl hx
  have hrl : (List.replicate k r).length = k := List.length_replicate
  have hcap := Sat.own_cap h
  obtain ⟨hbel, T, hT, ⟨e1, e2, e3, e4, e5⟩, hrest⟩ := h
  by_cases hr0 : k = 0
  · have hzz : copyL l m (List.replicate k r) = l := by rw [copyL_eq (by rw [hrl]; omega), hr0]; simp
    have hrun : (execOp A.eval ⟨dst, .call { callee := .builtin .clear, args := #[x], argTypes := #[t] }, ty, pos, af, gd⟩).run P w = .ok (.value (.tuple #[])) w := by
      subst hr0
      cases a' <;> simp [execOp, resolve, invoke, builtin, Builtin.clear_, hA.eval hx, run_underlying ht]
    unfold Oper.wp
    rw [hrun]
    refine hK _ _ ?_
    rw [hzz]
    exact ⟨hbel, T, hT, ⟨e1, e2, e3, e4, e5⟩, hrest⟩
  · rcases e5 with rfl | ⟨b, o, cs, rfl, hTb, hB, hcs, htake⟩
    · omega
    · have ha' : a' = some ⟨b, o + m * E.s, none⟩ := by
        rcases hd with ⟨rfl, rfl⟩ | hd
        · simp
        · unfold Cut at hd
          rw [if_neg (by omega)] at hd
          rw [hd]; simp [add_lit]
      subst ha'
      have hmul : (m + k) * E.s ≤ l.length * E.s := Nat.mul_le_mul_right _ (by omega)
      have hmulc : l.length * E.s ≤ c * E.s := Nat.mul_le_mul_right _ (by omega)
      rw [Nat.add_mul] at hmul
      have hyl : (E.row (List.replicate k r)).length = k * E.s := by rw [E.row_length, hrl]
      obtain ⟨w', hst, hB', hch⟩ := run_storeCells_blk (P := P) (E.row (List.replicate k r)) 0 w cs (o := o + m * E.s) hB (by rw [hyl]; omega) (E.row_one _)
      have hrun : (execOp A.eval ⟨dst, .call { callee := .builtin .clear, args := #[x], argTypes := #[t] }, ty, pos, af, gd⟩).run P w = .ok (.value (.tuple #[])) w' := by
        have hzc := zeroCells_row hzr k
        obtain ⟨k', rfl⟩ : ∃ k', k = k' + 1 := ⟨k - 1, by omega⟩
        simp [execOp, resolve, invoke, builtin, Builtin.clear_, hA.eval hx, run_underlying ht, run_zero hz, hzc, hst]
      unfold Oper.wp
      rw [hrun]
      refine hK _ _ (Sat.turnT (T := T) (rs := [ow E (some ⟨b, o, none⟩) c e (copyL l m (List.replicate k r))]) hbel hT hrest (hch.mono (fun k hk => by subst hk; exact hTb)) ?_)
      have hlen : (copyL l m (List.replicate k r)).length = l.length := copyL_length _ _ _
      refine ⟨T, fun k hk => ⟨.inl hk, Nat.lt_of_lt_of_le (hT k hk).2 hch.size⟩, ⟨by rw [E.row_length], by rw [hlen]; exact e2, e3, E.row_one _, .inr ⟨b, o, _, rfl, hTb, hB', by rw [setN_length]; exact hcs, ?_⟩⟩, trivial⟩
      rw [← row_copyL (by rw [hrl]; omega), setN_length, Nat.add_zero]
      exact setN_take_drop htake (by rw [hyl, E.row_length]; omega)
end
end Go.Proofs.YtpheilpcklfknaaDoor
