/-
  append of a text to a row of bytes; a text's bytes as a row; parts of texts; copies within rows. No condition.
-/
import Derived.Test.YtleemokneeoikaaBMisc
import Derived.Laws.IdiomStrings
namespace Go.Proofs.Ytleemokneeoikaa
open Go Go.RowKit
set_option linter.unusedVariables false
set_option linter.unusedSimpArgs false
section
variable {N : Nat} {P : Program} {L : Slots} {Q : Post} {W : Base} {w : World} {ops : Array Oper} {rest : List Oper} {o : Oper} {d : Nat} {R : List Res}
variable {x y z : Operand} {v u : Value} {dst : Option Tmp} {ty : TypeId} {pos : String} {af : Array Edge} {gd : Option (Nat × Bool)} {t t2 : TypeId}
variable {α : Type} {E : El α} {l l2 : List α} {a a2 : Option Addr} {n c c2 m : Nat}
theorem run_appendS {t2 : TypeId} {e : TypeId} {s bytes : Nat} (ht : P.underlying t = some (.slice e)) (hi : elI P e = some (s, bytes, s))
    {a : Option Addr} {n c : Nat} {xs : List Value} (h : Sat W w (arr a n c s e xs :: R)) {m : Nat} {bs : List UInt8} (hm0 : m = bs.length) (ht2 : P.underlying t2 = some .string) (hs1 : s = 1)
    (hm : n + m ≤ maxLen) (hb : (n + m) * bytes ≤ 140737488355328) (ty : TypeId) :
    ∃ a' c' w', (Builtin.append_ #[t, t2] ty #[.slice a n c, .string (str bs)]).run P w = .ok (.slice a' (n + m) c') w' ∧ (n + m ≤ c → a = a' ∧ c = c') ∧ Sat W w' (arr a' (n + m) c' s e (xs ++ bytesV bs) :: R) := by
  obtain ⟨ys, hys⟩ : ∃ ys, ys = bytesV bs := ⟨_, rfl⟩
  have hl : ys.length = m * s := by rw [hys, bytesV_length, hm0, hs1, Nat.mul_one]
  have h1 : ∀ u ∈ ys, u.oneCell' = true := by rw [hys]; exact bytesV_one _
  rw [← hys]
  unfold elI at hi
  cases hinfo : P.info? e with
  | none => simp [hinfo] at hi
  | some i =>
  cases hz : i.zero with
  | none => simp [hinfo, hz] at hi
  | some zz =>
  simp only [hinfo, hz, Option.bind_some, Option.map_some, Option.some.injEq, Prod.mk.injEq] at hi
  obtain ⟨hs, hby, hzs⟩ := hi
  subst hs hby
  have hxv := h.arr_view
  obtain ⟨hxl, hnc, hcm⟩ := h.arr_len
  have hone := h.arr_one
  have hsum : (xs ++ ys).length = (n + m) * i.size := by rw [List.length_append, hxl, hl, Nat.add_mul]
  have hones : ∀ u ∈ xs ++ ys, u.oneCell' = true := fun u hu => (List.mem_append.1 hu).elim (hone u) (h1 u)
  have hfirst : ∀ w' : World, (Builtin.firstCells i.size m (.string (str bs))).run P w' = .ok ys.toArray w' := by
    intro w'
    have : (str bs).extract 0 m = str bs := by
      rw [hm0]
      apply ByteArray.ext
      simp [str]
    simp only [Builtin.firstCells, this, Sem.run_pure]
    congr 1
    apply Array.ext'
    simp [str, hys, bytesV, byteV]
  have hsz : (str bs).size = m := by rw [str_size, hm0]
  by_cases hroom : n + m ≤ c
  · -- there is room
    obtain ⟨hbel, T, hT, ⟨e1, e2, e3, e4, e5⟩, hrest⟩ := h
    rcases e5 with rfl | ⟨b, o, cs, rfl, hTb, hB, hcap, htake⟩
    · have hn0 : n = 0 := by omega
      have hm0 : m = 0 := by omega
      subst hn0 hm0
      have hx0 : xs = [] := List.eq_nil_of_length_eq_zero (by simpa using hxl)
      have hy0 : ys = [] := List.eq_nil_of_length_eq_zero (by simpa using hl)
      subst hx0
      rw [hy0] at hl h1 hfirst hsum hones ⊢
      refine ⟨a, 0, w, ?_, fun _ => ⟨rfl, rfl⟩, ⟨hbel, T, hT, ⟨by simp, Nat.le_refl _, e3, fun _ h => (by cases h), .inl rfl⟩, hrest⟩⟩
      have := hfirst w
      cases a <;> simp [Builtin.append_, run_underlying ht, run_underlying ht2, hsz, sizeOf, typeInfo, hinfo, Builtin.lenOf, this, storeCells]
    · have hfit : o + n * i.size + ys.length ≤ cs.length := by
        have : (n + m) * i.size ≤ c * i.size := Nat.mul_le_mul_right _ hroom
        rw [Nat.add_mul] at this; omega
      obtain ⟨w', hr, hB', hch⟩ := run_storeCells_blk (P := P) ys 0 w cs (o := o + n * i.size) hB (by omega) h1
      refine ⟨some ⟨b, o, none⟩, c, w', ?_, fun _ => ⟨rfl, rfl⟩, ?_⟩
      · have := hfirst w
        simp [Builtin.append_, run_underlying ht, run_underlying ht2, hsz, sizeOf, typeInfo, hinfo, Builtin.lenOf, hroom, this, add_lit, hr]
      · refine Sat.turnT (T := T) (rs := [arr (some ⟨b, o, none⟩) (n + m) c i.size e (xs ++ ys)]) hbel hT hrest (hch.mono (fun k hk => by subst hk; exact hTb)) ?_
        refine ⟨T, fun k hk => ⟨.inl hk, Nat.lt_of_lt_of_le (hT k hk).2 hch.size⟩, ⟨hsum, hroom, hcm, hones, .inr ⟨b, o, _, rfl, hTb, hB', by rw [setN_length]; exact hcap, ?_⟩⟩, trivial⟩
        simp only [Nat.add_zero]
        apply List.ext_getElem?
        intro j
        rw [List.getElem?_take]
        by_cases hj : j < (xs ++ ys).length
        · rw [if_pos hj, List.getElem?_drop, setN_get]
          rw [List.length_append, hxl] at hj
          by_cases hj2 : j < n * i.size
          · rw [if_neg (by omega), List.getElem?_append_left (by omega)]
            have hjx : xs[j]? = some xs[j] := List.getElem?_eq_getElem (by omega)
            rw [hjx]
            exact take_drop_get htake hjx
          · rw [if_pos (by omega), List.getElem?_append_right (by omega), hxl]
            congr 1; omega
        · rw [if_neg hj, List.getElem?_eq_none (by omega)]
  · -- it grows
    have hgrow : c < n + m := by omega
    have hsmall : ((n + m : Nat) : Int) ≤ 9223372036854775807 := by simp only [maxLen] at hm; omega
    have hfits := growslice_fits (bytes := i.bytes) hgrow hb
    have hge := grownCap_ge w (n + m) c e
    have hgm := grownCap_le_maxLen w (n + m) c e hm
    have hnew : Sat W (w.drew.alloc (.cells (xs.toArray ++ ys.toArray ++ Builtin.zeroCells zz.cells (grownCap w (n + m) c e - (n + m))) e)) (arr (some ⟨w.heap.size, 0, none⟩) (n + m) (grownCap w (n + m) c e) i.size e (xs ++ ys) :: R) := by
      have h2 := (h.tail.drew).blk_new (xs ++ ys ++ (Builtin.zeroCells zz.cells (grownCap w (n + m) c e - (n + m))).toList) e
      have e1 : (xs.toArray ++ ys.toArray ++ Builtin.zeroCells zz.cells (grownCap w (n + m) c e - (n + m))) = (xs ++ ys ++ (Builtin.zeroCells zz.cells (grownCap w (n + m) c e - (n + m))).toList).toArray := by
        apply Array.ext'; simp
      rw [e1]
      have hcap : grownCap w (n + m) c e * i.size ≤ (xs ++ ys ++ (Builtin.zeroCells zz.cells (grownCap w (n + m) c e - (n + m))).toList).length := by
        rw [List.length_append, hsum, Array.length_toList, zeroCells_size, hzs, ← Nat.add_mul]
        exact Nat.le_of_eq (by congr 1; omega)
      exact Sat.arr_of_blk h2 hsum hge hgm hones hcap List.take_left
    have hn : ¬ (n + m ≤ c) := by omega
    have h63' : ¬ (9223372036854775807 < ((n : Int) + (m : Int))) := by omega
    have h48' : ¬ (281474976710656 < Builtin.nextslicecap (n + m) c * i.bytes) := by omega
    refine ⟨_, _, _, ?_, fun hh => absurd hh hn, hnew⟩
    have hf := hfirst w.drew
    have hfo : (Builtin.firstCells i.size n (.slice a n c)).run P w.drew = .ok xs.toArray w.drew := by
      cases a with
      | none =>
        have hn0 : n = 0 := by
          obtain ⟨_, T, _, ⟨_, _, _, _, h5⟩, _⟩ := h
          rcases h5 with hc0 | ⟨b, o, cs, h, _⟩
          · omega
          · cases h
        subst hn0
        have hx0 : xs = [] := List.eq_nil_of_length_eq_zero (by simpa using hxl)
        subst hx0; simp [Builtin.firstCells]
      | some ad => exact run_firstCells_some (P := P) w.drew i.size n ad n c xs hxl (View.add hxv)
    simp [Builtin.append_, run_underlying ht, run_underlying ht2, hsz, sizeOf, typeInfo, zeroValue, hinfo, hz, Builtin.lenOf, hn, h63', h48', Question.forced, hf, hfo, newRow, grownCap]
    congr 2
    apply Array.ext'
    simp [List.append_assoc]

theorem does_appS {e : TypeId} {bytes : Nat} {l s : List UInt8} (ht : P.underlying t = some (.slice e)) (hi : elI P e = some (1, bytes, 1)) (h : Sat W w (ow elU8 a c e l :: R)) (hx : ev L x = some (.slice a n c)) (hy : ev L y = some (.string (str s)))
    (hn : n = l.length) (hb : (l.length + s.length) * bytes ≤ 140737488355328) (ht2 : P.underlying t2 = some .string) (hb0 : 0 < bytes) :
    Does N P w ⟨dst, .call { callee := .builtin .append, args := #[x, y], argTypes := #[t, t2] }, ty, pos, af, gd⟩ L
      (fun v w' => ∃ a' c', v = .slice a' (l ++ s).length c' ∧ Sat W w' (ow elU8 a' c' e (l ++ s) :: R)) := fun A hA K Q hK => by
  subst hn
  have hle : l.length + s.length ≤ maxLen := by
    have : (l.length + s.length) * 1 ≤ (l.length + s.length) * bytes := Nat.mul_le_mul_left _ hb0
    simp only [maxLen]; omega
  obtain ⟨a', c', w', hr, _, hs⟩ := run_appendS (t2 := t2) ht hi h (m := s.length) (bs := s) rfl ht2 rfl hle hb ty
  have hrun : (execOp A.eval ⟨dst, .call { callee := .builtin .append, args := #[x, y], argTypes := #[t, t2] }, ty, pos, af, gd⟩).run P w = .ok (.value (.slice a' (l.length + s.length) c')) w' := by
    simp [execOp, resolve, invoke, builtin, hA.eval hx, hA.eval hy, hr]
  unfold Oper.wp
  rw [hrun]
  refine hK _ _ ⟨a', c', by rw [List.length_append], ?_⟩
  unfold ow
  rw [elU8.row_append, elU8_row s, List.length_append]
  exact hs

/-! #### a text's bytes -/
theorem does_bytes {e t' : TypeId} {bytes : Nat} {s : List UInt8} (h : Sat W w R) (hs : P.underlying t' = some .string) (hd : P.underlying t = some (.slice e)) (he : P.underlying e = some (.int .u8)) (hi : elI P e = some (1, bytes, 1)) (hx : ev L x = some (.string (str s))) (hb : s.length ≤ 140737488355328) :
    Does N P w ⟨dst, .convert t' t x, ty, pos, af, gd⟩ L (fun v w' => ∃ a c, v = .slice a s.length c ∧ Sat W w' (ow elU8 a c e s :: R)) := fun A hA K Q hK => by
  have hr := run_bytes_of_string (P := P) w t' t e (str s) hs hd he
  have hrun : (execOp A.eval ⟨dst, .convert t' t x, ty, pos, af, gd⟩).run P w = .ok (.value (.slice (some ⟨w.heap.size, 0, none⟩) s.length (grownCap w s.length 0 e)))
      (w.drew.alloc (.cells (bytesRow (str s) (grownCap w s.length 0 e)) e ((bytesRow (str s) (grownCap w s.length 0 e)).size, (bytesRow (str s) (grownCap w s.length 0 e)).size + 1))) := by
    have e1 : (str s).size = s.length := str_size s
    rw [e1] at hr
    simp [execOp, hA.eval hx, hr]
  unfold Oper.wp
  rw [hrun]
  have hm : s.length ≤ maxLen := by simp only [maxLen]; omega
  have hge := grownCap_ge w s.length 0 e
  have hgm := grownCap_le_maxLen w s.length 0 e hm
  obtain ⟨g, hg⟩ : ∃ g, g = grownCap w s.length 0 e := ⟨_, rfl⟩
  rw [← hg] at hge hgm ⊢
  have hcells : (bytesRow (str s) g).toList = bytesV s ++ List.replicate (g - s.length) (.int .u8 0) := by
    unfold bytesRow
    rw [Array.toList_append, Array.toList_map, Array.toList_replicate, str_size]
    rfl
  have hlen : (bytesRow (str s) g).toList.length = g := by
    rw [hcells, List.length_append, bytesV_length, List.length_replicate]; omega
  refine hK _ _ ⟨_, _, rfl, ?_⟩
  refine Sat.more (w := w) (rs := [ow elU8 (some ⟨w.heap.size, 0, none⟩) g e s]) h ((Ch.drew w _).trans (Ch.alloc _ _ _)) ⟨fun k => k = w.heap.size, fun k hk => by subst hk; simp, ?_, trivial⟩
  have hB : Blk (w.drew.alloc (.cells (bytesRow (str s) g) e ((bytesRow (str s) g).size, (bytesRow (str s) g).size + 1))) w.heap.size (bytesRow (str s) g).toList e :=
    ⟨((bytesRow (str s) g).size, (bytesRow (str s) g).size + 1), by
      have : (w.drew.alloc (.cells (bytesRow (str s) g) e ((bytesRow (str s) g).size, (bytesRow (str s) g).size + 1))).heap[w.heap.size]? = some (.cells (bytesRow (str s) g) e ((bytesRow (str s) g).size, (bytesRow (str s) g).size + 1)) := heap_alloc_new w.drew _
      rw [this], fun _ => by simp⟩
  refine ⟨by rw [El.row_length], hge, hgm, elU8.row_one _, .inr ⟨w.heap.size, 0, (bytesRow (str s) g).toList, rfl, rfl, hB, ?_, ?_⟩⟩
  · show 0 + g * 1 ≤ _
    rw [hlen]; omega
  · rw [List.drop_zero, hcells, elU8_row, bytesV_length]
    exact List.take_left' (bytesV_length s)
/-! #### parts of texts -/
theorem str_extract (s : List UInt8) (i j : Nat) : (str s).extract i j = str ((s.take j).drop i) := by
  apply ByteArray.ext
  simp only [str, ByteArray.data_extract]
  apply Array.ext'
  simp [List.extract_eq_take_drop, List.drop_take]
theorem yl_slLHS {k k' : IntKind} {i j : Int} {s : List UInt8} (ht : P.underlying t = some .string) (hx : ev L x = some (.string (str s))) (hy : ev L y = some (.int k i)) (hz : ev L z = some (.int k' j)) (h : (0 ≤ i ∧ i ≤ j) ∧ j ≤ s.length) :
    Yl N P w ⟨dst, .slice t x (some y) (some z) none, ty, pos, af, gd⟩ L (.string (str ((s.take j.toNat).drop i.toNat))) := fun A hA => by
  have := run_slice_string (P := P) w t (str s) k k' i j ht h.1.1 h.1.2 (by rw [str_size]; exact h.2)
  rw [str_extract] at this
  simp [execOp, hA.eval hx, hA.eval hy, hA.eval hz, run_sliceAt_string w _ _ _ _ _ ht, this]
theorem yl_slHS {k' : IntKind} {j : Int} {s : List UInt8} (ht : P.underlying t = some .string) (hx : ev L x = some (.string (str s))) (hz : ev L z = some (.int k' j)) (h : ((0 : Int) ≤ 0 ∧ 0 ≤ j) ∧ j ≤ s.length) :
    Yl N P w ⟨dst, .slice t x none (some z) none, ty, pos, af, gd⟩ L (.string (str (s.take j.toNat))) := fun A hA => by
  have := run_slice_string_h (P := P) w t (str s) ht k' j h.1.2 (by rw [str_size]; exact h.2)
  rw [str_extract, List.drop_zero] at this
  simp [execOp, hA.eval hx, hA.eval hz, run_sliceAt_string w _ _ _ _ _ ht, this]
theorem yl_slLS {k : IntKind} {i : Int} {s : List UInt8} (ht : P.underlying t = some .string) (hx : ev L x = some (.string (str s))) (hy : ev L y = some (.int k i)) (h : (0 ≤ i ∧ i ≤ (s.length : Int)) ∧ (s.length : Int) ≤ s.length) :
    Yl N P w ⟨dst, .slice t x (some y) none none, ty, pos, af, gd⟩ L (.string (str (s.drop i.toNat))) := fun A hA => by
  have := run_slice_string_l (P := P) w t (str s) ht k i h.1.1 (by rw [str_size]; exact h.1.2)
  rw [str_extract, str_size, List.take_length] at this
  simp [execOp, hA.eval hx, hA.eval hy, run_sliceAt_string w _ _ _ _ _ ht, this]
/-! #### copies -/
/-- The list, from a place on these in the stead of what stood there. -/
def copyL {α : Type} (l : List α) (m : Nat) (xs : List α) : List α := l.mapIdx fun i x => (if m ≤ i then xs[i - m]? else none).getD x
theorem copyL_length {α : Type} (l : List α) (m : Nat) (xs : List α) : (copyL l m xs).length = l.length := by simp [copyL]
/-- An array, from its head on these in the stead of what stood there. -/
def copyA {n : Nat} (f : Fin n → UInt8) (l : List UInt8) : Fin n → UInt8 := fun i => (l[i.val]?).getD (f i)
theorem copyA_list {n : Nat} (f : Fin n → UInt8) (l : List UInt8) : List.ofFn (copyA f l) = l.take n ++ (List.ofFn f).drop (l.take n).length := by
  apply List.ext_getElem?
  intro j
  by_cases hj : j < n
  · rw [List.getElem?_ofFn, dif_pos hj]
    show some ((l[j]?).getD (f ⟨j, hj⟩)) = _
    by_cases h : j < l.length
    · rw [List.getElem?_append_left (by rw [List.length_take]; omega), List.getElem?_take, if_pos hj, List.getElem?_eq_getElem h]; rfl
    · rw [List.getElem?_append_right (by rw [List.length_take]; omega), List.getElem?_drop, List.getElem?_ofFn, List.length_take, dif_pos (by omega), List.getElem?_eq_none (by omega)]
      simp only [Option.getD_none, Option.some.injEq]
      congr 1
      apply Fin.ext
      simp only; omega
  · rw [List.getElem?_ofFn, dif_neg hj, List.getElem?_eq_none (by simp; omega)]
theorem copyA_set {n : Nat} (f : Fin n → UInt8) (l : List UInt8) (r : Nat) (hr : r = min l.length n) : setN (bytesV (List.ofFn f)) 0 ((elU8.row l).take (r * 1)) = bytesV (List.ofFn (copyA f l)) := by
  have e : r * 1 = r := Nat.mul_one r
  have h1 : (elU8.row l).take r = bytesV (l.take r) := by rw [elU8_row, bytesV_take]
  rw [e, h1, setN_eq _ _ _ (by simp [bytesV_length]; omega), copyA_list, List.take_zero, List.nil_append, bytesV_append, bytesV_drop, bytesV_length, Nat.zero_add]
  have h2 : l.take r = l.take n := by
    rcases Nat.le_total l.length n with h | h
    · rw [List.take_of_length_le (by omega), List.take_of_length_le h]
    · rw [hr, Nat.min_eq_right h]
  rw [h2]
theorem copyA_cellsH {n : Nat} (f : Fin n → UInt8) (l : List UInt8) (r : Nat) (hr : r = min l.length n) (q : List Value) : setN (bytesV (List.ofFn f) ++ q) 0 ((elU8.row l).take (r * 1)) = bytesV (List.ofFn (copyA f l)) ++ q := by
  rw [← copyA_set f l r hr]
  have hle : ((elU8.row l).take (r * 1)).length ≤ n := by rw [List.length_take, El.row_length]; simp [elU8]; omega
  rw [setN_eq _ _ _ (by simp [bytesV_length]; omega), setN_eq _ _ _ (by simp [bytesV_length]; omega)]
  simp only [List.take_zero, List.nil_append, Nat.zero_add, List.append_assoc]
  rw [List.drop_append_of_le_length (by simp [bytesV_length]; omega)]

theorem row_cell (b : List UInt8) : (elU8.row b).length = b.length := by rw [El.row_length]; show b.length * 1 = b.length; omega
/-- copy into an array that is a block's head. -/
theorem does_cpAH {e e' : TypeId} {b k : Nat} {f : Fin k → UInt8} {q : List Value} {l : List UInt8} {m c0 n0 : Nat} (h : Sat W w (blk b (bytesV (List.ofFn f) ++ q) e' :: R)) (ht : P.underlying t = some (.slice e)) (hs : szOf P e = some 1)
    (hx : ev L x = some (.slice (some ⟨b, 0, none⟩) n0 c0)) (hn0 : n0 = k) (hy : ev L y = some (.slice a2 m c2)) (hv : View w a2 (elU8.row l)) (hm : m = l.length) :
    Does N P w ⟨dst, .call { callee := .builtin .copy, args := #[x, y], argTypes := #[t, t2] }, ty, pos, af, gd⟩ L (fun v w' => v = .int .i64 ((min l.length k : Nat) : Int) ∧ Sat W w' (blk b (bytesV (List.ofFn (copyA f l)) ++ q) e' :: R)) := by
  subst hm hn0
  refine (does_copyBlk (r := min l.length n0) (ys := elU8.row l) h ht hs hx hy hv (by rw [row_cell]; omega) (elU8.row_one _) (fun e => by subst e; rw [hv.row_nil (by decide)]; rfl) rfl (by simp [bytesV_length]; omega)).mono ?_
  rintro v w' ⟨rfl, hs⟩
  exact ⟨rfl, sl_blk (copyA_cellsH f l _ rfl q) hs⟩
theorem setN_front (p X vs : List Value) (h : vs.length ≤ X.length) : setN (p ++ X) p.length vs = p ++ setN X 0 vs := by
  rw [setN_eq _ _ _ (by rw [List.length_append]; omega), setN_eq _ _ _ (by omega), List.take_left, List.take_zero, List.nil_append, List.drop_append, List.drop_of_length_le (by omega), List.nil_append, List.append_assoc]
  rw [show p.length + vs.length - p.length = 0 + vs.length by omega]
/-- copy into an array that stands in the midst of a block. -/
theorem does_cpAM {e e' : TypeId} {b k o : Nat} {f : Fin k → UInt8} {cs cs' p q : List Value} {l : List UInt8} {m c0 n0 : Nat} (hcs : cs = p ++ (bytesV (List.ofFn f) ++ q)) (hcs' : cs' = p ++ (bytesV (List.ofFn (copyA f l)) ++ q)) (hp : p.length = o)
    (h : Sat W w (blk b cs e' :: R)) (ht : P.underlying t = some (.slice e)) (hs : szOf P e = some 1)
    (hx : ev L x = some (.slice (some ⟨b, o, none⟩) n0 c0)) (hn0 : n0 = k) (hy : ev L y = some (.slice a2 m c2)) (hv : View w a2 (elU8.row l)) (hm : m = l.length) :
    Does N P w ⟨dst, .call { callee := .builtin .copy, args := #[x, y], argTypes := #[t, t2] }, ty, pos, af, gd⟩ L (fun v w' => v = .int .i64 ((min l.length k : Nat) : Int) ∧ Sat W w' (blk b cs' e' :: R)) := by
  subst hm hn0 hcs hcs' hp
  refine (does_copyBlk (r := min l.length n0) (ys := elU8.row l) h ht hs hx hy hv (by rw [row_cell]; omega) (elU8.row_one _) (fun e => by subst e; rw [hv.row_nil (by decide)]; rfl) rfl (by simp [bytesV_length]; omega)).mono ?_
  rintro v w' ⟨rfl, hs⟩
  have hle : ((elU8.row l).take (min l.length n0 * 1)).length ≤ n0 := by rw [List.length_take, El.row_length]; simp [elU8]; omega
  rw [setN_front _ _ _ (by simp [bytesV_length]; omega)] at hs
  exact ⟨rfl, sl_blk (congrArg (p ++ ·) (copyA_cellsH f l _ rfl q)) hs⟩
/-! #### elements of arrays -/
def setA {n : Nat} (f : Fin n → UInt8) (j : Int) (x : UInt8) : Fin n → UInt8 := fun i => if i.val = j.toNat then x else f i
/-! #### slices against nil -/
theorem isnil_view (hp : 0 < E.s) (h : a.isNone = true) (hv : View w a (E.row l)) : l = [] := by
  cases a with
  | none => exact hv.row_nil hp
  | some x => cases h
/-! #### zeros put behind a row -/
theorem does_app0 {e t2 : TypeId} {bytes : Nat} {k : IntKind} {zz : Value} {r : α} (ht : P.underlying t = some (.slice e)) (ht2 : P.underlying t2 = some (.int k)) (hi : elI P e = some (1, bytes, 1)) (hE : E.s = 1) (hz : zeroOf P e = some zz) (hz1 : zz.cells = #[zz]) (hzr : E.f r = [zz]) (h : Sat W w (ow E a c e l :: R)) {j : Int}
    (hx : ev L x = some (.slice a n c)) (hy : ev L y = some (.int k j)) (hn : n = l.length) (hb : 0 ≤ j ∧ ((l.length : Int) + j) * bytes ≤ 140737488355328) (hb0 : 0 < bytes) :
    Does N P w ⟨dst, .call { callee := .builtin .append, args := #[x, y], argTypes := #[t, t2] }, ty, pos, af, gd⟩ L
      (fun v w' => ∃ a' c', v = .slice a' (l ++ List.replicate j.toNat r).length c' ∧ Sat W w' (ow E a' c' e (l ++ List.replicate j.toNat r) :: R)) := by
  subst hn
  obtain ⟨m, rfl⟩ : ∃ m : Nat, j = m := ⟨j.toNat, by omega⟩
  have hbN : (l.length + m) * bytes ≤ 140737488355328 := by
    have h1 := hb.2
    have : (((l.length + m) * bytes : Nat) : Int) = ((l.length : Int) + (m : Int)) * (bytes : Int) := by rw [Int.natCast_mul, Int.natCast_add]
    omega
  have hle : l.length + m ≤ maxLen := by
    have : (l.length + m) * 1 ≤ (l.length + m) * bytes := Nat.mul_le_mul_left _ hb0
    simp only [maxLen]; omega
  have h1 : zz.oneCell' = true := E.one r zz (by rw [hzr]; simp)
  have h' : Sat W w (arr a l.length c 1 e (E.row l) :: R) := by
    have h2 : Sat W w (arr a l.length c E.s e (E.row l) :: R) := h
    rwa [hE] at h2
  refine (does_appendZeros ht ht2 hi hz hz1 h1 h' hx hy rfl hle hbN rfl).mono ?_
  rintro v w' ⟨a', c', rfl, hs⟩
  have e1 : (m : Int).toNat = m := by omega
  refine ⟨a', c', by rw [e1, List.length_append, List.length_replicate], ?_⟩
  unfold ow
  rw [e1, E.row_append, E.row_rep m r zz hzr, List.length_append, List.length_replicate, hE]
  exact hs

end
end Go.Proofs.Ytleemokneeoikaa
