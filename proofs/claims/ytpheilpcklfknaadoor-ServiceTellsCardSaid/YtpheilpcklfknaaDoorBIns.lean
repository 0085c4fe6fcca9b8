/-
  Rows that are shortened in place: an append within the room, what lies behind the end. No condition.
-/
import Derived.Test.YtpheilpcklfknaaDoorBExt
namespace Go.Proofs.YtpheilpcklfknaaDoor
open Go Go.RowKit
set_option linter.unusedVariables false
set_option linter.unusedSimpArgs false
section
variable {α : Type} {E : El α} {P : Program} {N : Nat} {L : Slots} {W : Base} {w : World} {a a2 : Option Addr} {c c2 m n : Nat} {l l2 : List α} {R : List Res} {dst : Option Tmp} {t ty : TypeId} {pos : String} {af : Array Edge} {gd : Option (Nat × Bool)} {x y z : Operand}
/-- An append that the room bears: the row stays where it is. -/
theorem does_appIn {e : TypeId} {bytes : Nat} (ht : P.underlying t = some (.slice e)) (hi : elI P e = some (E.s, bytes, E.s)) (h : Sat W w (ow E a c e l :: R)) (hx : ev L x = some (.slice a n c)) (hy : ev L y = some (.slice a2 m c2))
    (hn : n = l.length) (hm : m = l2.length) (hp : 0 < E.s) (hv : View w a2 (E.row l2)) (hb : (l.length + l2.length) * bytes ≤ 140737488355328) (hb0 : 0 < bytes) (hroom : l.length + l2.length ≤ c) :
    Does N P w ⟨dst, .call { callee := .builtin .append, args := #[x, y], argTypes := #[t, t] }, ty, pos, af, gd⟩ L
      (fun v w' => v = .slice a (l ++ l2).length c ∧ Sat W w' (ow E a c e (l ++ l2) :: R)) := by
  subst hn hm
  have hle : l.length + l2.length ≤ maxLen := by
    have : (l.length + l2.length) * 1 ≤ (l.length + l2.length) * bytes := Nat.mul_le_mul_left _ hb0
    simp only [maxLen]; omega
  refine (does_append ht hi (n := l.length) h hx hy hv (E.row_length l2) (E.row_one l2) hle hb (fun e => by subst e; rw [hv.row_nil hp]; rfl) List.length_append.symm).mono ?_
  rintro v w' ⟨a', c', rfl, hin, hs⟩
  obtain ⟨rfl, rfl⟩ := hin (by first | exact hroom | (rw [List.length_append]; exact hroom))
  refine ⟨rfl, ?_⟩
  unfold ow
  rw [E.row_append]; exact hs
/-- What lies behind a row's end, within its room, as a slice. -/
theorem yl_slTail {k k' : IntKind} {j i : Int} {a' : Option Addr} {r : α} {q : Nat} (ht : SlT P t E.s) (hx : ev L x = some (.slice a n c)) (hz : ev L z = some (.int k j)) (hy : ev L y = some (.int k' i)) (hn : n = l.length) (hj : j = (l.length : Int)) (hi : i = ((l.length + q : Nat) : Int)) (hc : l.length + q ≤ c) (hp : Cut a' a c l.length E.s) :
    Yl N P w ⟨dst, .slice t x (some z) (some y) none, ty, pos, af, gd⟩ L (.slice a' (List.replicate q r).length (c - l.length)) := by
  subst hn hj hi
  have := yl_slice_lh (N := N) (w := w) (dst := dst) (ty := ty) (pos := pos) (af := af) (gd := gd) (l := l.length) (h := l.length + q) ht.1 ht.2 hx hz hy rfl rfl (by omega) hc hp
  rw [List.length_replicate]
  rw [show l.length + q - l.length = q by omega] at this
  exact this
/-- It is cleared: the row stays. -/
theorem does_clrTail {e : TypeId} {bytes q c' : Nat} {zz : Value} {r : α} {p : Option Addr} (h : Sat W w (ow E a c e l :: R)) (ht : P.underlying t = some (.slice e)) (hi : elI P e = some (E.s, bytes, E.s)) (hz : zeroOf P e = some zz) (hzr : zz.cells.toList = E.f r) (hp0 : 0 < E.s)
    (hx : ev L x = some (.slice p (List.replicate q r).length c')) (hp : Cut p a c l.length E.s) (hm : l.length + q ≤ c) :
    Does N P w ⟨dst, .call { callee := .builtin .clear, args := #[x], argTypes := #[t] }, ty, pos, af, gd⟩ L (fun _ w' => Sat W w' (ow E a c e l :: R)) := by
  rw [List.length_replicate] at hx
  have h0 := h
  obtain ⟨hbel, T, hT, ⟨e1, e2, e3, e4, e5⟩, hrest⟩ := h0
  rcases e5 with hc | ⟨b, o, cs, rfl, hTb, hB, hcs, htake⟩
  · have hq : q = 0 := by omega
    subst hq
    intro A hA K Q hK
    have hrun : (execOp A.eval ⟨dst, .call { callee := .builtin .clear, args := #[x], argTypes := #[t] }, ty, pos, af, gd⟩).run P w = .ok (.value (.tuple #[])) w := by
      cases p <;> simp [execOp, resolve, invoke, builtin, Builtin.clear_, hA.eval hx, run_underlying ht]
    unfold Oper.wp
    rw [hrun]
    exact hK _ _ h
  · exact does_clear_tail ht hi hz (by rw [hzr]; exact E.one r) hp0 h hx hp hm
/-- xs = append(xs, make([]T, m)..), whatever the elements. -/
theorem run_appendZerosE {e t2 : TypeId} {s bytes : Nat} {k : IntKind} {zz : Value} (ht : P.underlying t = some (.slice e)) (ht2 : P.underlying t2 = some (.int k)) (hi : elI P e = some (s, bytes, s)) (hz : zeroOf P e = some zz)
    {xs zs : List Value} {m n c : Nat} (hzc : Builtin.zeroCells zz.cells m = zs.toArray) (hzl : zs.length = m * s) (ho1 : ∀ u ∈ zs, u.oneCell' = true) (hs0 : 0 < s)
    {a : Option Addr} (h : Sat W w (arr a n c s e xs :: R))
    (hm : n + m ≤ maxLen) (hb : (n + m) * bytes ≤ 140737488355328) (ty : TypeId) :
    ∃ a' c' w', (Builtin.append_ #[t, t2] ty #[.slice a n c, .int k m]).run P w = .ok (.slice a' (n + m) c') w' ∧ Sat W w' (arr a' (n + m) c' s e (xs ++ zs) :: R) := by
  unfold elI at hi
  cases hinfo : P.info? e with
  | none => simp [hinfo] at hi
  | some i =>
  have hzi : i.zero = some zz := by simpa [zeroOf, hinfo] using hz
  simp only [hinfo, hzi, Option.bind_some, Option.map_some, Option.some.injEq, Prod.mk.injEq] at hi
  obtain ⟨hs, hby, hzs⟩ := hi
  subst hs hby
  have hxv := h.arr_view
  obtain ⟨hxl, hnc, hcm⟩ := h.arr_len
  have hone := h.arr_one
  have hsum : (xs ++ zs).length = (n + m) * i.size := by rw [List.length_append, hxl, hzl, Nat.add_mul]
  have hones : ∀ u ∈ xs ++ zs, u.oneCell' = true := fun u hu => (List.mem_append.1 hu).elim (hone u) (ho1 u)
  have hwrap : IntKind.i64.wrap (m : Int) = m := IntWalk.i64_in _ (by simp only [maxLen] at hm; omega)
  have hneg : ¬ ((m : Int) < 0) := by omega
  have hbig : ¬ ((2 : Int) ^ 48 < (m : Int) * (i.bytes : Int)) := by
    have h1 : m * i.bytes ≤ (n + m) * i.bytes := Nat.mul_le_mul_right _ (by omega)
    have h2 : ((m * i.bytes : Nat) : Int) ≤ 140737488355328 := by omega
    have h3 : ((m * i.bytes : Nat) : Int) = (m : Int) * (i.bytes : Int) := Int.natCast_mul m i.bytes
    intro hh
    have h4 : (281474976710656 : Int) < (m : Int) * (i.bytes : Int) := hh
    omega
  have hm1 : m * i.size = 0 → m = 0 := fun hh => by
    rcases Nat.mul_eq_zero.1 hh with hh | hh
    · exact hh
    · omega
  have hz0 : m = 0 → zs = [] := fun hh => List.eq_nil_of_length_eq_zero (by rw [hzl, hh, Nat.zero_mul])
  have happ : ∀ w' : World, (if m * i.size = 0 then (pure #[] : Sem (Array Value)) else do pure (Builtin.zeroCells (← zeroValue e).cells m)).run P w' = .ok zs.toArray w' := by
    intro w'
    by_cases hm0 : m * i.size = 0
    · rw [if_pos hm0, hz0 (hm1 hm0)]; simp
    · rw [if_neg hm0]; simp [run_zero hz, hzc]
  by_cases hroom : n + m ≤ c
  · obtain ⟨hbel, T, hT, ⟨e1, e2, e3, e4, e5⟩, hrest⟩ := h
    rcases e5 with rfl | ⟨b, o, cs, rfl, hTb, hB, hcap, htake⟩
    · have hn0 : n = 0 := by omega
      have hm0 : m = 0 := by omega
      subst hn0 hm0
      have hx0 : xs = [] := List.eq_nil_of_length_eq_zero (by simpa using hxl)
      have hy0 := hz0 rfl
      subst hx0 hy0
      refine ⟨a, 0, w, ?_, ⟨hbel, T, hT, ⟨by simp, Nat.le_refl _, e3, fun _ h => (by cases h), .inl rfl⟩, hrest⟩⟩
      cases a <;> simp [storeCells, Builtin.append_, run_underlying ht, run_underlying ht2, sizeOf, typeInfo, hinfo, asInt, asIntOf, IntKind.wrap, IntKind.bits, IntKind.signed]
    · have hfit : o + n * i.size + zs.length ≤ cs.length := by
        have : (n + m) * i.size ≤ c * i.size := Nat.mul_le_mul_right _ hroom
        rw [Nat.add_mul] at this; omega
      obtain ⟨w', hr, hB', hch⟩ := run_storeCells_blk (P := P) zs 0 w cs (o := o + n * i.size) hB (by omega) ho1
      refine ⟨some ⟨b, o, none⟩, c, w', ?_, ?_⟩
      · have := happ w
        simp only [Builtin.append_, Sem.run_bind, run_underlying ht, run_underlying ht2, Result.andThen_ok, sizeOf, typeInfo, run_program, hinfo, Sem.run_pure, asInt, asIntOf, hwrap, hneg, ↓reduceIte, Sem.run_ite, gt_iff_lt, hbig, Int.toNat_natCast, List.getElem?_toArray, List.getElem?_cons_zero, List.getElem?_cons_succ, hroom, add_lit, decide_true, Bool.not_true, Bool.false_eq_true]
        simp only [Sem.run_ite] at this
        simp only [run_zero hz, Result.andThen_ok, hzc, Sem.run_pure, Sem.run_bind]
        by_cases hm0 : m * i.size = 0
        · rw [hz0 (hm1 hm0)] at hr
          simp [hm0, hr]
        · simp [hm0, hr]
      · refine Sat.turnT (T := T) (rs := [arr (some ⟨b, o, none⟩) (n + m) c i.size e (xs ++ zs)]) hbel hT hrest (hch.mono (fun k hk => by subst hk; exact hTb)) ?_
        refine ⟨T, fun k hk => ⟨.inl hk, Nat.lt_of_lt_of_le (hT k hk).2 hch.size⟩, ⟨hsum, hroom, hcm, hones, .inr ⟨b, o, _, rfl, hTb, hB', by rw [setN_length]; exact hcap, ?_⟩⟩, trivial⟩
        simp only [Nat.add_zero]
        apply List.ext_getElem?
        intro j
        rw [List.getElem?_take]
        by_cases hj : j < (xs ++ zs).length
        · rw [if_pos hj, List.getElem?_drop, setN_get]
          rw [List.length_append, hxl] at hj
          by_cases hj2 : j < n * i.size
          · rw [if_neg (by omega), List.getElem?_append_left (by omega)]
            have hjx : xs[j]? = some xs[j] := List.getElem?_eq_getElem (by omega)
            rw [hjx]
            exact take_drop_get htake hjx
          · rw [if_pos (by omega), List.getElem?_append_right (by omega), hxl]
            congr 1; omega
        · rw [if_neg hj, List.getElem?_eq_none (by omega)]
  · have hgrow : c < n + m := by omega
    have hsmall : ((n + m : Nat) : Int) ≤ 9223372036854775807 := by simp only [maxLen] at hm; omega
    have hfits := growslice_fits (bytes := i.bytes) hgrow hb
    have hge := grownCap_ge w (n + m) c e
    have hgm := grownCap_le_maxLen w (n + m) c e hm
    have hnew : Sat W (w.drew.alloc (.cells (xs.toArray ++ zs.toArray ++ Builtin.zeroCells zz.cells (grownCap w (n + m) c e - (n + m))) e)) (arr (some ⟨w.heap.size, 0, none⟩) (n + m) (grownCap w (n + m) c e) i.size e (xs ++ zs) :: R) := by
      have h2 := (h.tail.drew).blk_new (xs ++ zs ++ (Builtin.zeroCells zz.cells (grownCap w (n + m) c e - (n + m))).toList) e
      have e1 : (xs.toArray ++ zs.toArray ++ Builtin.zeroCells zz.cells (grownCap w (n + m) c e - (n + m))) = (xs ++ zs ++ (Builtin.zeroCells zz.cells (grownCap w (n + m) c e - (n + m))).toList).toArray := by
        apply Array.ext'; simp
      rw [e1]
      have hcap : grownCap w (n + m) c e * i.size ≤ (xs ++ zs ++ (Builtin.zeroCells zz.cells (grownCap w (n + m) c e - (n + m))).toList).length := by
        rw [List.length_append, hsum, Array.length_toList, zeroCells_size, hzs, ← Nat.add_mul]
        exact Nat.le_of_eq (by congr 1; omega)
      exact Sat.arr_of_blk h2 hsum hge hgm hones hcap List.take_left
    have hn : ¬ (n + m ≤ c) := by omega
    have h63' : ¬ ((9223372036854775807 : Int) < ((n + m : Nat) : Int)) := by omega
    have h48' : ¬ (2 ^ 48 < Builtin.nextslicecap (n + m) c * i.bytes) := by
      intro hh
      have h4 : (281474976710656 : Nat) < Builtin.nextslicecap (n + m) c * i.bytes := hh
      omega
    refine ⟨_, _, _, ?_, hnew⟩
    have hfo : (Builtin.firstCells i.size n (.slice a n c)).run P w.drew = .ok xs.toArray w.drew := by
      cases a with
      | none =>
        have hn0 : n = 0 := by
          obtain ⟨_, T, _, ⟨_, _, _, _, h5⟩, _⟩ := h
          rcases h5 with hc0 | ⟨b, o, cs, h, _⟩
          · omega
          · cases h
        subst hn0
        have hx0 : xs = [] := List.eq_nil_of_length_eq_zero (by simpa using hxl)
        subst hx0; simp [Builtin.firstCells]
      | some ad => exact run_firstCells_some (P := P) w.drew i.size n ad n c xs hxl (View.add hxv)
    have hap := happ w.drew
    have hmx : ¬ (((n + m : Nat) : Int) > IntKind.i64.max) := by
      have : IntKind.i64.max = 9223372036854775807 := by decide
      rw [this]; exact h63'
    simp only [Builtin.append_, Sem.run_bind, run_underlying ht, run_underlying ht2, Result.andThen_ok, sizeOf, typeInfo, run_program, hinfo, Sem.run_pure, asInt, asIntOf, hwrap, hneg, ↓reduceIte, Sem.run_ite, gt_iff_lt, hbig, Int.toNat_natCast, List.getElem?_toArray, List.getElem?_cons_zero, List.getElem?_cons_succ, hn, hmx, h48', false_and, run_choose, Question.forced, Bool.false_eq_true, run_askRoom, World.drew_eq, hfo, decide_true, Bool.not_true]
    simp only [Sem.run_ite] at hap
    by_cases hm0 : m * i.size = 0
    · rw [hz0 (hm1 hm0)]
      simp [hm0, run_zero hz, newRow, grownCap]
    · simp [hm0, run_zero hz, newRow, grownCap, hzc]
      congr 2
      apply Array.ext'
      simp [List.append_assoc]
/-- The same, over rows. -/
theorem does_app0E {e t2 : TypeId} {bytes : Nat} {k : IntKind} {zz : Value} {r : α} (ht : P.underlying t = some (.slice e)) (ht2 : P.underlying t2 = some (.int k)) (hi : elI P e = some (E.s, bytes, E.s)) (hz : zeroOf P e = some zz) (hzr : zz.cells.toList = E.f r) (hp : 0 < E.s) (h : Sat W w (ow E a c e l :: R)) {j : Int}
    (hx : ev L x = some (.slice a n c)) (hy : ev L y = some (.int k j)) (hn : n = l.length) (hb : 0 ≤ j ∧ ((l.length : Int) + j) * bytes ≤ 140737488355328) (hb0 : 0 < bytes) :
    Does N P w ⟨dst, .call { callee := .builtin .append, args := #[x, y], argTypes := #[t, t2] }, ty, pos, af, gd⟩ L
      (fun v w' => ∃ a' c', v = .slice a' (l ++ List.replicate j.toNat r).length c' ∧ Sat W w' (ow E a' c' e (l ++ List.replicate j.toNat r) :: R)) := fun A hA K Q hK => by
  subst hn
  obtain ⟨m, rfl⟩ : ∃ m : Nat, j = m := ⟨j.toNat, by omega⟩
  have hbN : (l.length + m) * bytes ≤ 140737488355328 := by
    have h1 := hb.2
    have : (((l.length + m) * bytes : Nat) : Int) = ((l.length : Int) + (m : Int)) * (bytes : Int) := by rw [Int.natCast_mul, Int.natCast_add]
    omega
  have hle : l.length + m ≤ maxLen := by
    have : (l.length + m) * 1 ≤ (l.length + m) * bytes := Nat.mul_le_mul_left _ hb0
    simp only [maxLen]; omega
  obtain ⟨a', c', w', hr, hs⟩ := run_appendZerosE (P := P) (k := k) ht ht2 hi hz (zeroCells_row hzr m) (by rw [E.row_length, List.length_replicate]) (E.row_one _) hp h hle hbN ty
  have e1 : (m : Int).toNat = m := by omega
  have hrun : (execOp A.eval ⟨dst, .call { callee := .builtin .append, args := #[x, y], argTypes := #[t, t2] }, ty, pos, af, gd⟩).run P w = .ok (.value (.slice a' (l.length + m) c')) w' := by
    simp [execOp, resolve, invoke, builtin, hA.eval hx, hA.eval hy, hr]
  unfold Oper.wp
  rw [hrun]
  refine hK _ _ ⟨a', c', by rw [e1, List.length_append, List.length_replicate], ?_⟩
  unfold ow
  rw [e1, E.row_append, List.length_append, List.length_replicate]
  exact hs
/-- An append of noughts that the room does not bear: a new array; what was there stays. -/
theorem does_app0G {e t2 : TypeId} {bytes : Nat} {k : IntKind} {zz : Value} {r : α} (ht : P.underlying t = some (.slice e)) (ht2 : P.underlying t2 = some (.int k)) (hi : elI P e = some (E.s, bytes, E.s)) (hz : zeroOf P e = some zz) (hzr : zz.cells.toList = E.f r) (hp : 0 < E.s) (h : Sat W w R) (hv : View w a (E.row l)) {j : Int}
    (hx : ev L x = some (.slice a n c)) (hy : ev L y = some (.int k j)) (hn : n = l.length) (hb : 0 ≤ j ∧ ((l.length : Int) + j) * bytes ≤ 140737488355328) (hb0 : 0 < bytes) (hgrow : (c : Int) < (l.length : Int) + j) :
    Does N P w ⟨dst, .call { callee := .builtin .append, args := #[x, y], argTypes := #[t, t2] }, ty, pos, af, gd⟩ L
      (fun v w' => ∃ a' c', v = .slice a' (l ++ List.replicate j.toNat r).length c' ∧ Sat W w' (ow E a' c' e (l ++ List.replicate j.toNat r) :: R)) := fun A hA K Q hK => by
  subst hn
  obtain ⟨m, rfl⟩ : ∃ m : Nat, j = m := ⟨j.toNat, by omega⟩
  have hb' : (l.length + m) * bytes ≤ 140737488355328 := by
    have h1 := hb.2
    have : (((l.length + m) * bytes : Nat) : Int) = ((l.length : Int) + (m : Int)) * (bytes : Int) := by rw [Int.natCast_mul, Int.natCast_add]
    omega
  have hm : l.length + m ≤ maxLen := by
    have : (l.length + m) * 1 ≤ (l.length + m) * bytes := Nat.mul_le_mul_left _ hb0
    simp only [maxLen]; omega
  have hzc := zeroCells_row hzr m
  have hzl : (E.row (List.replicate m r)).length = m * E.s := by rw [E.row_length, List.length_replicate]
  have e1 : (m : Int).toNat = m := by omega
  have key : ∃ w', (Builtin.append_ #[t, t2] ty #[.slice a l.length c, .int k m]).run P w = .ok (.slice (some ⟨w.heap.size, 0, none⟩) (l.length + m) (grownCap w (l.length + m) c e)) w' ∧ Sat W w' (arr (some ⟨w.heap.size, 0, none⟩) (l.length + m) (grownCap w (l.length + m) c e) E.s e (E.row l ++ E.row (List.replicate m r)) :: R) := by
    generalize hzs' : E.row (List.replicate m r) = zs at hzc hzl
    have ho1 : ∀ u ∈ zs, u.oneCell' = true := by rw [← hzs']; exact E.row_one _
    generalize hss : E.s = s at *
    unfold elI at hi
    cases hinfo : P.info? e with
    | none => simp [hinfo] at hi
    | some i =>
    have hzi : i.zero = some zz := by simpa [zeroOf, hinfo] using hz
    simp only [hinfo, hzi, Option.bind_some, Option.map_some, Option.some.injEq, Prod.mk.injEq] at hi
    obtain ⟨hs, hby, hzs⟩ := hi
    subst hs hby
    have hxl : (E.row l).length = l.length * i.size := by rw [E.row_length, hss]
    have hsum : (E.row l ++ zs).length = (l.length + m) * i.size := by rw [List.length_append, hxl, hzl, Nat.add_mul]
    have hones : ∀ u ∈ E.row l ++ zs, u.oneCell' = true := fun u hu => (List.mem_append.1 hu).elim (E.row_one l u) (ho1 u)
    have hwrap : IntKind.i64.wrap (m : Int) = m := IntWalk.i64_in _ (by simp only [maxLen] at hm; omega)
    have hneg : ¬ ((m : Int) < 0) := by omega
    have hbig : ¬ ((2 : Int) ^ 48 < (m : Int) * (i.bytes : Int)) := by
      have h1 : m * i.bytes ≤ (l.length + m) * i.bytes := Nat.mul_le_mul_right _ (by omega)
      have h2 : ((m * i.bytes : Nat) : Int) ≤ 140737488355328 := by omega
      have h3 : ((m * i.bytes : Nat) : Int) = (m : Int) * (i.bytes : Int) := Int.natCast_mul m i.bytes
      intro hh
      have h4 : (281474976710656 : Int) < (m : Int) * (i.bytes : Int) := hh
      omega
    have hm1 : m * i.size = 0 → m = 0 := fun hh => by
      rcases Nat.mul_eq_zero.1 hh with hh | hh
      · exact hh
      · omega
    have hz0 : m = 0 → zs = [] := fun hh => List.eq_nil_of_length_eq_zero (by rw [hzl, hh, Nat.zero_mul])
    have happ : ∀ w' : World, (if m * i.size = 0 then (pure #[] : Sem (Array Value)) else do pure (Builtin.zeroCells (← zeroValue e).cells m)).run P w' = .ok zs.toArray w' := by
      intro w'
      by_cases hm0 : m * i.size = 0
      · rw [if_pos hm0, hz0 (hm1 hm0)]; simp
      · rw [if_neg hm0]; simp [run_zero hz, hzc]
    have hgrow' : c < l.length + m := by omega
    have hfits := growslice_fits (bytes := i.bytes) hgrow' hb'
    have hge := grownCap_ge w (l.length + m) c e
    have hgm := grownCap_le_maxLen w (l.length + m) c e hm
    have hnew : Sat W (w.drew.alloc (.cells ((E.row l).toArray ++ zs.toArray ++ Builtin.zeroCells zz.cells (grownCap w (l.length + m) c e - (l.length + m))) e)) (arr (some ⟨w.heap.size, 0, none⟩) (l.length + m) (grownCap w (l.length + m) c e) i.size e (E.row l ++ zs) :: R) := by
      have h2 := (h.drew).blk_new (E.row l ++ zs ++ (Builtin.zeroCells zz.cells (grownCap w (l.length + m) c e - (l.length + m))).toList) e
      have e1 : ((E.row l).toArray ++ zs.toArray ++ Builtin.zeroCells zz.cells (grownCap w (l.length + m) c e - (l.length + m))) = (E.row l ++ zs ++ (Builtin.zeroCells zz.cells (grownCap w (l.length + m) c e - (l.length + m))).toList).toArray := by
        apply Array.ext'; simp
      rw [e1]
      have hcap : grownCap w (l.length + m) c e * i.size ≤ (E.row l ++ zs ++ (Builtin.zeroCells zz.cells (grownCap w (l.length + m) c e - (l.length + m))).toList).length := by
        have hz9 : ∀ q, (Builtin.zeroCells zz.cells q).toList.length = q * i.size := fun q => by rw [Array.length_toList, zeroCells_size, hzs]
        rw [List.length_append, hsum, hz9, ← Nat.add_mul]
        exact Nat.le_of_eq (by congr 1; omega)
      exact Sat.arr_of_blk h2 hsum hge hgm hones hcap List.take_left
    have hn : ¬ (l.length + m ≤ c) := by omega
    have h63' : ¬ ((9223372036854775807 : Int) < ((l.length + m : Nat) : Int)) := by simp only [maxLen] at hm; omega
    have h48' : ¬ (2 ^ 48 < Builtin.nextslicecap (l.length + m) c * i.bytes) := by
      intro hh
      have h4 : (281474976710656 : Nat) < Builtin.nextslicecap (l.length + m) c * i.bytes := hh
      omega
    refine ⟨_, ?_, hnew⟩
    have hfo : (Builtin.firstCells i.size l.length (.slice a l.length c)).run P w.drew = .ok (E.row l).toArray w.drew := by
      cases a with
      | none =>
        have hx0 : E.row l = [] := View.none_nil hv
        have hn0 : l.length = 0 := by
          rw [hx0] at hxl
          rcases Nat.mul_eq_zero.1 hxl.symm with hh | hh
          · exact hh
          · omega
        rw [hx0, hn0]; simp [Builtin.firstCells]
      | some ad => exact run_firstCells_some (P := P) w.drew i.size l.length ad l.length c (E.row l) hxl (View.add hv)
    have hap := happ w.drew
    have hmx : ¬ (((l.length + m : Nat) : Int) > IntKind.i64.max) := by
      have : IntKind.i64.max = 9223372036854775807 := by decide
      rw [this]; exact h63'
    simp only [Builtin.append_, Sem.run_bind, run_underlying ht, run_underlying ht2, Result.andThen_ok, sizeOf, typeInfo, run_program, hinfo, Sem.run_pure, asInt, asIntOf, hwrap, hneg, ↓reduceIte, Sem.run_ite, gt_iff_lt, hbig, Int.toNat_natCast, List.getElem?_toArray, List.getElem?_cons_zero, List.getElem?_cons_succ, hn, hmx, h48', false_and, run_choose, Question.forced, Bool.false_eq_true, run_askRoom, World.drew_eq, hfo, decide_true, Bool.not_true]
    simp only [Sem.run_ite] at hap
    by_cases hm0 : m * i.size = 0
    · rw [hz0 (hm1 hm0)]
      simp [hm0, run_zero hz, newRow, grownCap]
    · simp [hm0, run_zero hz, newRow, grownCap, hzc]
      congr 2
      apply Array.ext'
      simp [List.append_assoc]
  obtain ⟨w', hr, hs⟩ := key
  have hrun : (execOp A.eval ⟨dst, .call { callee := .builtin .append, args := #[x, y], argTypes := #[t, t2] }, ty, pos, af, gd⟩).run P w = .ok (.value (.slice (some ⟨w.heap.size, 0, none⟩) (l.length + m) (grownCap w (l.length + m) c e))) w' := by
    simp [execOp, resolve, invoke, builtin, hA.eval hx, hA.eval hy, hr]
  unfold Oper.wp
  rw [hrun]
  refine hK _ _ ⟨_, _, by rw [e1, List.length_append, List.length_replicate], ?_⟩
  unfold ow
  rw [e1, E.row_append, List.length_append, List.length_replicate]
  exact hs
end
end Go.Proofs.YtpheilpcklfknaaDoor
