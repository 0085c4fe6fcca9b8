/-
  Rows that are only read: a resource of its own, owned or old; and some operations more. No condition.
-/
import Derived.Test.YtaaahjcldomnbaaSlKit
namespace Go.Proofs.Ytaaahjcldomnbaa
open Go Go.RowKit
set_option linter.unusedVariables false
set_option linter.unusedSimpArgs false
/-- A row that can be read: it lay there when all began, or it is owned. -/
def rd (W : World) (a : Option Addr) (xs : List Value) : Res := ⟨fun w T => View W a xs ∨ ((xs = [] ∨ ∃ b o, a = some ⟨b, o, none⟩ ∧ T b) ∧ View w a xs), fun h _ hk => by
  rcases h with h | ⟨h1, h2⟩
  · exact .inl h
  · refine .inr ⟨h1, fun j v hj => ?_⟩
    rcases h1 with rfl | ⟨b, o, rfl, hb⟩
    · cases hj
    · exact ⟨b, o, rfl, by rw [World.cell?_of_block (hk b hb)]; exact View.at_ h2 hj⟩⟩
section
variable {N : Nat} {P : Program} {L : Slots} {W w : World} {R : List Res}
theorem Sat.rd_view {a : Option Addr} {xs : List Value} (h : Sat W w (rd W a xs :: R)) : View w a xs := by
  have hb := h
  obtain ⟨_, T, _, h2, _⟩ := h
  rcases h2 with h2 | ⟨_, h2⟩
  · exact h2.old hb
  · exact h2
theorem Sat.rd_old {a : Option Addr} {xs : List Value} (hv : View W a xs) (h : Sat W w R) : Sat W w (rd W a xs :: R) :=
  Sat.more (rs := [rd W a xs]) h (Ch.refl _ _) ⟨fun _ => False, fun _ h => h.elim, .inl hv, trivial⟩
theorem Sat.rd_of_arr {a : Option Addr} {n c s : Nat} {e : TypeId} {xs : List Value} (h : Sat W w (arr a n c s e xs :: R)) : Sat W w (rd W a xs :: R) := by
  have hv := h.arr_view
  obtain ⟨hb, T, hT, ⟨h1, h2, h3, h4, h5⟩, hl⟩ := h
  refine ⟨hb, T, hT, .inr ⟨?_, hv⟩, hl⟩
  rcases h5 with ⟨rfl, rfl⟩ | ⟨b, o, cs, rfl, hb, _⟩
  · have : n = 0 := by omega
    subst this
    exact .inl (List.eq_nil_of_length_eq_zero (by simpa using h1))
  · exact .inr ⟨b, o, rfl, hb⟩
theorem Sat.rd_of_blk {b : Nat} {e : TypeId} {cs : List Value} (h : Sat W w (blk b cs e :: R)) : Sat W w (rd W (some ⟨b, 0, none⟩) cs :: R) := by
  have hv : View w (some ⟨b, 0, none⟩) cs := by have := h.isBlk.view 0; rwa [List.drop_zero] at this
  obtain ⟨hb, T, hT, ⟨h1, _⟩, hl⟩ := h
  exact ⟨hb, T, hT, .inr ⟨.inr ⟨b, 0, rfl, h1⟩, hv⟩, hl⟩
theorem Sat.rd_cut {a a' : Option Addr} {c l s : Nat} {xs : List Value} (h : Sat W w (rd W a xs :: R)) (hc : Cut a' a c l s) (hl : xs.length ≤ c * s) : Sat W w (rd W a' (xs.drop (l * s)) :: R) := by
  obtain ⟨hb, T, hT, h2, hrest⟩ := h
  refine ⟨hb, T, hT, ?_, hrest⟩
  rcases h2 with h2 | ⟨h1, h2⟩
  · exact .inl (hc.view h2 hl)
  · refine .inr ⟨?_, hc.view h2 hl⟩
    unfold Cut at hc
    by_cases e : c = l
    · subst e; exact .inl (List.drop_of_length_le hl)
    · rw [if_neg e] at hc
      rcases h1 with rfl | ⟨b, o, rfl, hb⟩
      · exact .inl (by simp)
      · exact .inr ⟨b, o + l * s, by rw [hc]; simp [add_lit], hb⟩
theorem Sat.rd_nil (h : Sat W w R) (a : Option Addr) : Sat W w (rd W a [] :: R) := Sat.rd_old (View.nil W a) h
theorem Sat.rd_cut_bytes {a a' : Option Addr} {c l : Nat} {xs : List UInt8} (h : Sat W w (rd W a (bytesV xs) :: R)) (hc : Cut a' a c l 1) (hl : xs.length ≤ c) : Sat W w (rd W a' (bytesV (xs.drop l)) :: R) := by
  have := h.rd_cut hc (by rw [bytesV_length]; omega)
  rw [Nat.mul_one, ← bytesV_drop] at this; exact this
theorem View.none_nil {xs : List Value} (h : View w none xs) : xs = [] := by
  cases xs with
  | nil => rfl
  | cons x l => obtain ⟨_, _, e, _⟩ := h 0 x rfl; cases e
theorem View.open {xs : List Value} {a : Option Addr} (h : View w a xs) (hp : 0 < xs.length) : ∃ b o, a = some ⟨b, o, none⟩ := by
  obtain ⟨b, o, e, _⟩ := h 0 _ (List.getElem?_eq_getElem hp); exact ⟨b, o, e⟩
theorem open_bytes {xs : List UInt8} {a : Option Addr} (h : View w a (bytesV xs)) (hp : 0 < xs.length) : ∃ b o, a = some ⟨b, o, none⟩ := h.open (by rw [bytesV_length]; exact hp)
theorem open_ints {xs : List Int} {a : Option Addr} (h : View w a (intsV xs)) (hp : 0 < xs.length) : ∃ b o, a = some ⟨b, o, none⟩ := h.open (by rw [intsV_length]; exact hp)
theorem open_bools {xs : List Bool} {a : Option Addr} (h : View w a (boolsV xs)) (hp : 0 < xs.length) : ∃ b o, a = some ⟨b, o, none⟩ := h.open (by rw [boolsV_length]; exact hp)
theorem bytesV_nil {l : List UInt8} (h : bytesV l = []) : l = [] := by cases l with
  | nil => rfl
  | cons a l => cases h
theorem intsV_nil {l : List Int} (h : intsV l = []) : l = [] := by cases l with
  | nil => rfl
  | cons a l => cases h
theorem boolsV_nil {l : List Bool} (h : boolsV l = []) : l = [] := by cases l with
  | nil => rfl
  | cons a l => cases h
/-! ### operations more -/
variable {x y z : Operand} {v u : Value} {dst : Option Tmp} {ty : TypeId} {pos : String} {af : Array Edge} {gd : Option (Nat × Bool)} {t : TypeId}
theorem run_eqIn_slnil (w : World) (d : Nat) (t e : TypeId) (a : Option Addr) (n c : Nat) (h : P.underlying t = some (.slice e)) : (Op.equalIn (d + 1) t (.slice a n c) (.slice none 0 0)).run P w = .ok a.isNone w := by
  cases a <;> simp [Op.equalIn, run_underlying h]
theorem run_eq_slnil (w : World) (t e : TypeId) (a : Option Addr) (n c : Nat) (h : P.underlying t = some (.slice e)) : (Op.equal t (.slice a n c) (.slice none 0 0)).run P w = .ok a.isNone w := run_eqIn_slnil w 9999 t e a n c h
theorem yl_eq_slnil {a : Option Addr} {n c : Nat} {e : TypeId} {yt : TypeId} (ht : P.underlying t = some (.slice e)) (hx : ev L x = some (.slice a n c)) (hy : ev L y = some (.slice none 0 0)) :
    Yl N P w ⟨dst, .binOp .eql t x y yt, ty, pos, af, gd⟩ L (.bool a.isNone) := fun A hA => by
  simp [execOp, hA.eval hx, hA.eval hy, eqGuard, binOp, run_eq_slnil w t e a n c ht]
theorem yl_ne_slnil {a : Option Addr} {n c : Nat} {e : TypeId} {yt : TypeId} (ht : P.underlying t = some (.slice e)) (hx : ev L x = some (.slice a n c)) (hy : ev L y = some (.slice none 0 0)) :
    Yl N P w ⟨dst, .binOp .neq t x y yt, ty, pos, af, gd⟩ L (.bool (!a.isNone)) := fun A hA => by
  simp [execOp, hA.eval hx, hA.eval hy, eqGuard, binOp, run_eq_slnil w t e a n c ht]
theorem yl_min {k : IntKind} {a b r : Int} {ats : Array TypeId} (hx : ev L x = some (.int k a)) (hy : ev L y = some (.int k b)) (hr : min a b = r) :
    Yl N P w ⟨dst, .call { callee := .builtin .min, args := #[x, y], argTypes := ats }, ty, pos, af, gd⟩ L (.int k r) := fun A hA => by
  have : (if b < a then b else a) = r := by rw [← hr]; omega
  simp [execOp, resolve, invoke, builtin, Builtin.min_, Builtin.min2, hA.eval hx, hA.eval hy, this]
theorem quo_u64 {a b r : Int} (h : 0 ≤ a ∧ a ≤ 18446744073709551615 ∧ 1 ≤ b) (hr : a / b = r) : idiv .quo .u64 a b = some r := by
  simp only [idiv, Option.some.injEq]; rw [IntWalk.u64_quo a b h]; exact hr
theorem quo_i64 {a b r : Int} (h : 0 ≤ a ∧ a ≤ 9223372036854775807 ∧ 1 ≤ b) (hr : a / b = r) : idiv .quo .i64 a b = some r := by
  simp only [idiv, Option.some.injEq]; rw [IntWalk.i64_quo a b h]; exact hr
theorem yl_slice_lhm {p : Option Addr} {n c l h m s : Nat} {k k' k'' : IntKind} {i j q : Int} {u' : Operand} (ht : P.underlying t = some (.slice (P.elem t))) (hs : szOf P (P.elem t) = some s)
    (hx : ev L x = some (.slice p n c)) (hy : ev L y = some (.int k i)) (hz : ev L z = some (.int k' j)) (hu : ev L u' = some (.int k'' q)) (hi : i = l) (hj : j = h) (hq : q = m) (h1 : l ≤ h) (h2 : h ≤ m) (h3 : m ≤ c) {p' : Option Addr} (hp : Cut p' p m l s) :
    Yl N P w ⟨dst, .slice t x (some y) (some z) (some u'), ty, pos, af, gd⟩ L (.slice p' (h - l) (m - l)) := fun a ha => by
  subst hi hj hq hp
  have := run_slice_lhm (P := P) w t p n c ht k k' k'' l h m (by omega) (by omega) (by omega) (by omega)
  simp [execOp, ha.eval hx, ha.eval hy, ha.eval hz, ha.eval hu, run_sliceAt_slice w _ _ _ _ _ ht, this, run_sizeOf' hs, sliced]
theorem yl_max {k : IntKind} {a b r : Int} {ats : Array TypeId} (hx : ev L x = some (.int k a)) (hy : ev L y = some (.int k b)) (hr : max a b = r) :
    Yl N P w ⟨dst, .call { callee := .builtin .max, args := #[x, y], argTypes := ats }, ty, pos, af, gd⟩ L (.int k r) := fun A hA => by
  have h1 : (if a < b then b else a) = r := by rw [← hr]; omega
  have h2 : (if b < a then a else b) = r := by rw [← hr]; omega
  have h3 : (if a > b then a else b) = r := by rw [← hr]; omega
  simp [execOp, resolve, invoke, builtin, Builtin.max_, Builtin.max2, hA.eval hx, hA.eval hy, h1, h2, h3]
/-- xs = append(xs, make([]byte, m)..) -/
theorem run_appendZeros {e t2 : TypeId} {bytes : Nat} {k : IntKind} {zz : Value} (ht : P.underlying t = some (.slice e)) (ht2 : P.underlying t2 = some (.int k)) (hi : elI P e = some (1, bytes, 1)) (hz : zeroOf P e = some zz) (hz1 : zz.cells = #[zz]) (ho1 : zz.oneCell' = true)
    {a : Option Addr} {n c : Nat} {xs : List Value} (h : Sat W w (arr a n c 1 e xs :: R)) {m : Nat}
    (hm : n + m ≤ maxLen) (hb : (n + m) * bytes ≤ 140737488355328) (ty : TypeId) :
    ∃ a' c' w', (Builtin.append_ #[t, t2] ty #[.slice a n c, .int k m]).run P w = .ok (.slice a' (n + m) c') w' ∧ Sat W w' (arr a' (n + m) c' 1 e (xs ++ List.replicate m zz) :: R) := by
  have hi0 := hi
  unfold elI at hi
  cases hinfo : P.info? e with
  | none => simp [hinfo] at hi
  | some i =>
  have hzi : i.zero = some zz := by simpa [zeroOf, hinfo] using hz
  simp only [hinfo, hzi, Option.bind_some, Option.map_some, Option.some.injEq, Prod.mk.injEq] at hi
  obtain ⟨hs, hby, hzs⟩ := hi
  subst hby
  have hxv := h.arr_view
  obtain ⟨hxl, hnc, hcm⟩ := h.arr_len
  rw [Nat.mul_one] at hxl
  have hone := h.arr_one
  have hsum : (xs ++ List.replicate m zz).length = (n + m) * 1 := by rw [List.length_append, hxl, List.length_replicate, Nat.mul_one]
  have hones : ∀ u ∈ xs ++ List.replicate m zz, u.oneCell' = true := fun u hu => (List.mem_append.1 hu).elim (hone u) (fun hu => by rw [List.eq_of_mem_replicate hu]; exact ho1)
  have hwrap : IntKind.i64.wrap (m : Int) = m := IntWalk.i64_in _ (by simp only [maxLen] at hm; omega)
  have hneg : ¬ ((m : Int) < 0) := by omega
  have hbig : ¬ ((2 : Int) ^ 48 < (m : Int) * (i.bytes : Int)) := by
    have h1 : m * i.bytes ≤ (n + m) * i.bytes := Nat.mul_le_mul_right _ (by omega)
    have h2 : ((m * i.bytes : Nat) : Int) ≤ 140737488355328 := by omega
    have h3 : ((m * i.bytes : Nat) : Int) = (m : Int) * (i.bytes : Int) := Int.natCast_mul m i.bytes
    intro hh
    have h4 : (281474976710656 : Int) < (m : Int) * (i.bytes : Int) := hh
    omega
  have hzc : Builtin.zeroCells zz.cells m = (List.replicate m zz).toArray := by
    apply Array.ext'
    unfold Builtin.zeroCells
    rw [hz1]
    simp only [List.size_toArray, List.length_cons, List.length_nil, Nat.zero_add, Nat.mul_one]
    rw [range_const m _ zz]
    intro j hj
    simp [Nat.mod_one]
  have happ : ∀ w' : World, (if m * 1 = 0 then (pure #[] : Sem (Array Value)) else do pure (Builtin.zeroCells (← zeroValue e).cells m)).run P w' = .ok (List.replicate m zz).toArray w' := by
    intro w'
    by_cases hm0 : m = 0
    · subst hm0; simp
    · rw [if_neg (by omega)]; simp [run_zero hz, hzc]
  by_cases hroom : n + m ≤ c
  · obtain ⟨hbel, T, hT, ⟨e1, e2, e3, e4, e5⟩, hrest⟩ := h
    rcases e5 with ⟨rfl, rfl⟩ | ⟨b, o, cs, rfl, hTb, hB, hcap, htake⟩
    · have hn0 : n = 0 := by omega
      have hm0 : m = 0 := by omega
      subst hn0 hm0
      have hx0 : xs = [] := List.eq_nil_of_length_eq_zero (by simpa using hxl)
      subst hx0
      refine ⟨none, 0, w, ?_, ⟨hbel, T, hT, ⟨by simp, Nat.le_refl _, e3, fun _ h => (by cases h), .inl ⟨rfl, rfl⟩⟩, hrest⟩⟩
      have := happ w
      simp [Builtin.append_, run_underlying ht, run_underlying ht2, sizeOf, typeInfo, hinfo, asInt, asIntOf, IntKind.wrap, IntKind.bits, IntKind.signed]
    · have hfit : o + n * 1 + (List.replicate m zz).length ≤ cs.length := by
        rw [List.length_replicate]; omega
      obtain ⟨w', hr, hB', hch⟩ := run_storeCells_blk (P := P) (List.replicate m zz) 0 w cs (o := o + n) hB (by simpa using hfit) (fun u hu => by rw [List.eq_of_mem_replicate hu]; exact ho1)
      refine ⟨some ⟨b, o, none⟩, c, w', ?_, ?_⟩
      · have := happ w
        simp only [Nat.mul_one] at this
        simp only [Builtin.append_, Sem.run_bind, run_underlying ht, run_underlying ht2, Result.andThen_ok, sizeOf, typeInfo, run_program, hinfo, Sem.run_pure, asInt, asIntOf, hwrap, hneg, ↓reduceIte, Sem.run_ite, gt_iff_lt, hbig, Int.toNat_natCast, hs, Nat.mul_one, List.getElem?_toArray, List.getElem?_cons_zero, List.getElem?_cons_succ, hroom, add_lit, decide_true, Bool.not_true, Bool.false_eq_true]
        simp only [Sem.run_ite] at this
        simp only [run_zero hz, Result.andThen_ok, hzc, Sem.run_pure, Sem.run_bind]
        by_cases hm0 : m = 0
        · subst hm0
          simp only [List.replicate_zero] at hr
          simp [hr]
        · simp [hm0, hr]
      · refine Sat.turn (r := arr (some ⟨b, o, none⟩) n c 1 e xs) (rs := [arr (some ⟨b, o, none⟩) (n + m) c 1 e (xs ++ List.replicate m zz)]) ⟨hbel, T, hT, ⟨e1, e2, e3, e4, .inr ⟨b, o, cs, rfl, hTb, hB, hcap, htake⟩⟩, hrest⟩ ?_
        clear hT hTb hrest T
        intro T ho hT
        obtain ⟨_, _, _, _, h5⟩ := ho
        have hTb : T b := by
          rcases h5 with ⟨h, _⟩ | ⟨b', o', cs', h, h', _⟩
          · cases h
          · cases h; exact h'
        refine ⟨hch.mono (fun k hk => by subst hk; exact hTb), T, fun k hk => ⟨.inl hk, Nat.lt_of_lt_of_le (hT k hk).2 hch.size⟩, ⟨hsum, hroom, hcm, hones, .inr ⟨b, o, _, rfl, hTb, hB', by rw [setN_length]; exact hcap, ?_⟩⟩, trivial⟩
        simp only [Nat.add_zero]
        apply List.ext_getElem?
        intro j
        rw [List.getElem?_take]
        by_cases hj : j < (xs ++ List.replicate m zz).length
        · rw [if_pos hj, List.getElem?_drop, setN_get]
          rw [List.length_append, hxl] at hj
          by_cases hj2 : j < n
          · rw [if_neg (by omega), List.getElem?_append_left (by omega)]
            have hjx : xs[j]? = some xs[j] := List.getElem?_eq_getElem (by omega)
            rw [hjx]
            exact take_drop_get htake hjx
          · rw [if_pos (by omega), List.getElem?_append_right (by omega), hxl]
            congr 1; omega
        · rw [if_neg hj, List.getElem?_eq_none (by omega)]
  · have hgrow : c < n + m := by omega
    have hsmall : ((n + m : Nat) : Int) ≤ 9223372036854775807 := by simp only [maxLen] at hm; omega
    have hfits := growslice_fits (bytes := i.bytes) hgrow hb
    have hge := grownCap_ge w (n + m) c e
    have hgm := grownCap_le_maxLen w (n + m) c e hm
    have hnew : Sat W (w.drew.alloc (.cells (xs.toArray ++ (List.replicate m zz).toArray ++ Builtin.zeroCells zz.cells (grownCap w (n + m) c e - (n + m))) e)) (arr (some ⟨w.heap.size, 0, none⟩) (n + m) (grownCap w (n + m) c e) 1 e (xs ++ List.replicate m zz) :: R) := by
      have h2 := (h.tail.drew).blk_new (xs ++ List.replicate m zz ++ (Builtin.zeroCells zz.cells (grownCap w (n + m) c e - (n + m))).toList) e
      have e1 : (xs.toArray ++ (List.replicate m zz).toArray ++ Builtin.zeroCells zz.cells (grownCap w (n + m) c e - (n + m))) = (xs ++ List.replicate m zz ++ (Builtin.zeroCells zz.cells (grownCap w (n + m) c e - (n + m))).toList).toArray := by
        apply Array.ext'; simp
      rw [e1]
      have hcap : grownCap w (n + m) c e * 1 ≤ (xs ++ List.replicate m zz ++ (Builtin.zeroCells zz.cells (grownCap w (n + m) c e - (n + m))).toList).length := by
        rw [List.length_append, hsum, Array.length_toList, zeroCells_size, hzs, ← Nat.add_mul]
        exact Nat.le_of_eq (by congr 1; omega)
      exact Sat.arr_of_blk h2 hsum hge hgm hones hcap List.take_left
    have hn : ¬ (n + m ≤ c) := by omega
    have h63' : ¬ ((9223372036854775807 : Int) < ((n + m : Nat) : Int)) := by omega
    have h48' : ¬ (2 ^ 48 < Builtin.nextslicecap (n + m) c * i.bytes) := by
      intro hh
      have h4 : (281474976710656 : Nat) < Builtin.nextslicecap (n + m) c * i.bytes := hh
      omega
    refine ⟨_, _, _, ?_, hnew⟩
    have hfo : (Builtin.firstCells 1 n (.slice a n c)).run P w.drew = .ok xs.toArray w.drew := by
      cases a with
      | none =>
        have hn0 : n = 0 := by
          obtain ⟨_, T, _, ⟨_, _, _, _, h5⟩, _⟩ := h
          rcases h5 with ⟨_, hc0⟩ | ⟨b, o, cs, h, _⟩
          · omega
          · cases h
        subst hn0
        have hx0 : xs = [] := List.eq_nil_of_length_eq_zero (by simpa using hxl)
        subst hx0; simp [Builtin.firstCells]
      | some ad => exact run_firstCells_some (P := P) w.drew 1 n ad n c xs (by rw [hxl, Nat.mul_one]) (View.add hxv)
    have hap := happ w.drew
    simp only [Nat.mul_one] at hap
    have hmx : ¬ (((n + m : Nat) : Int) > IntKind.i64.max) := by
      have : IntKind.i64.max = 9223372036854775807 := by decide
      rw [this]; exact h63'
    simp only [Builtin.append_, Sem.run_bind, run_underlying ht, run_underlying ht2, Result.andThen_ok, sizeOf, typeInfo, run_program, hinfo, Sem.run_pure, asInt, asIntOf, hwrap, hneg, ↓reduceIte, Sem.run_ite, gt_iff_lt, hbig, Int.toNat_natCast, hs, Nat.mul_one, List.getElem?_toArray, List.getElem?_cons_zero, List.getElem?_cons_succ, hn, hmx, h48', false_and, run_choose, Question.forced, Bool.false_eq_true, run_askRoom, World.drew_eq, hfo, decide_true, Bool.not_true]
    simp only [Sem.run_ite] at hap
    by_cases hm0 : m = 0
    · subst hm0
      simp [run_zero hz, newRow, grownCap]
    · simp [hm0, run_zero hz, newRow, grownCap, hzc]
theorem does_appendZeros {e t2 : TypeId} {bytes : Nat} {k : IntKind} {zz : Value} (ht : P.underlying t = some (.slice e)) (ht2 : P.underlying t2 = some (.int k)) (hi : elI P e = some (1, bytes, 1)) (hz : zeroOf P e = some zz) (hz1 : zz.cells = #[zz]) (ho1 : zz.oneCell' = true)
    {a : Option Addr} {n c : Nat} {xs : List Value} (h : Sat W w (arr a n c 1 e xs :: R)) {m : Nat} {j : Int} (hx : ev L x = some (.slice a n c)) (hy : ev L y = some (.int k j)) (hj : j = m)
    (hm : n + m ≤ maxLen) (hb : (n + m) * bytes ≤ 140737488355328) {r : Nat} (hr0 : n + m = r) :
    Does N P w ⟨dst, .call { callee := .builtin .append, args := #[x, y], argTypes := #[t, t2] }, ty, pos, af, gd⟩ L
      (fun v w' => ∃ a' c', v = .slice a' r c' ∧ Sat W w' (arr a' r c' 1 e (xs ++ List.replicate m zz) :: R)) := fun A hA K Q hK => by
  subst hj hr0
  obtain ⟨a', c', w', hr, hs⟩ := run_appendZeros ht ht2 hi hz hz1 ho1 h hm hb ty
  have hrun : (execOp A.eval ⟨dst, .call { callee := .builtin .append, args := #[x, y], argTypes := #[t, t2] }, ty, pos, af, gd⟩).run P w = .ok (.value (.slice a' (n + m) c')) w' := by
    simp [execOp, resolve, invoke, builtin, hA.eval hx, hA.eval hy, hr]
  unfold Oper.wp
  rw [hrun]
  exact hK _ _ ⟨a', c', rfl, hs⟩
/-- clear(xs[len(xs):m]): what lies behind a row's end, within its room. -/
theorem does_clear_tail {e : TypeId} {s bytes : Nat} {b o n c c' m : Nat} {zz : Value} {xs : List Value} {p : Option Addr} (ht : P.underlying t = some (.slice e)) (hi : elI P e = some (s, bytes, s)) (hz : zeroOf P e = some zz) (ho1 : ∀ u ∈ zz.cells.toList, u.oneCell' = true) (hs0 : 0 < s)
    (h : Sat W w (arr (some ⟨b, o, none⟩) n c s e xs :: R)) (hx : ev L x = some (.slice p m c')) (hp : Cut p (some ⟨b, o, none⟩) c n s) (hm : n + m ≤ c) :
    Does N P w ⟨dst, .call { callee := .builtin .clear, args := #[x], argTypes := #[t] }, ty, pos, af, gd⟩ L (fun _ w' => Sat W w' (arr (some ⟨b, o, none⟩) n c s e xs :: R)) := fun A hA K Q hK => by
  have hzs : zz.cells.size = s := by
    unfold elI at hi
    cases hinfo : P.info? e with
    | none => simp [hinfo] at hi
    | some i =>
      have hzi : i.zero = some zz := by simpa [zeroOf, hinfo] using hz
      simp only [hinfo, hzi, Option.bind_some, Option.map_some, Option.some.injEq, Prod.mk.injEq] at hi
      exact hi.2.2
  by_cases hm0 : m = 0
  · subst hm0
    have hrun : (execOp A.eval ⟨dst, .call { callee := .builtin .clear, args := #[x], argTypes := #[t] }, ty, pos, af, gd⟩).run P w = .ok (.value (.tuple #[])) w := by
      cases p <;> simp [execOp, resolve, invoke, builtin, Builtin.clear_, hA.eval hx, run_underlying ht]
    unfold Oper.wp
    rw [hrun]
    exact hK _ _ h
  · have hpe : p = some ⟨b, o + n * s, none⟩ := by
      unfold Cut at hp
      rw [if_neg (by omega)] at hp
      rw [hp]; simp [add_lit]
    subst hpe
    obtain ⟨hbel, T, hT, ⟨e1, e2, e3, e4, e5⟩, hrest⟩ := h
    rcases e5 with ⟨h, _⟩ | ⟨b', o', cs, h, hTb, hB, hcap, htake⟩
    · cases h
    · cases h
      have hones : ∀ u ∈ (Builtin.zeroCells zz.cells m).toList, u.oneCell' = true := by
        intro u hu
        unfold Builtin.zeroCells at hu
        rw [Array.toList_map] at hu
        obtain ⟨i, hi1, hi2⟩ := List.mem_map.1 hu
        have hlt : i % zz.cells.size < zz.cells.size := Nat.mod_lt _ (by omega)
        rw [getElem!_pos zz.cells _ hlt] at hi2
        subst hi2
        exact ho1 _ (Array.getElem_mem_toList hlt)
      have hlen : (Builtin.zeroCells zz.cells m).toList.length = m * s := by rw [Array.length_toList, zeroCells_size, hzs]
      have hfit : o + n * s + 0 + (Builtin.zeroCells zz.cells m).toList.length ≤ cs.length := by
        have : (n + m) * s ≤ c * s := Nat.mul_le_mul_right _ hm
        rw [Nat.add_mul] at this
        rw [hlen]; omega
      obtain ⟨w', hr, hB', hch⟩ := run_storeCells_blk (P := P) (Builtin.zeroCells zz.cells m).toList 0 w cs (o := o + n * s) hB hfit hones
      have hrun : (execOp A.eval ⟨dst, .call { callee := .builtin .clear, args := #[x], argTypes := #[t] }, ty, pos, af, gd⟩).run P w = .ok (.value (.tuple #[])) w' := by
        obtain ⟨m', rfl⟩ : ∃ m', m = m' + 1 := ⟨m - 1, by omega⟩
        simp [execOp, resolve, invoke, builtin, Builtin.clear_, hA.eval hx, run_underlying ht, run_zero hz, hr]
      unfold Oper.wp
      rw [hrun]
      refine hK _ _ (Sat.turn (r := arr (some ⟨b, o, none⟩) n c s e xs) (rs := [arr (some ⟨b, o, none⟩) n c s e xs]) ⟨hbel, T, hT, ⟨e1, e2, e3, e4, .inr ⟨b, o, cs, rfl, hTb, hB, hcap, htake⟩⟩, hrest⟩ ?_)
      clear hT hTb hrest T
      intro T hown hT
      obtain ⟨_, _, _, _, h5⟩ := hown
      have hTb : T b := by
        rcases h5 with ⟨h, _⟩ | ⟨b', o', cs', h, h', _⟩
        · cases h
        · cases h; exact h'
      refine ⟨hch.mono (fun k hk => by subst hk; exact hTb), T, fun k hk => ⟨.inl hk, Nat.lt_of_lt_of_le (hT k hk).2 hch.size⟩,
        ⟨e1, e2, e3, e4, .inr ⟨b, o, _, rfl, hTb, hB', by rw [setN_length]; exact hcap, ?_⟩⟩, trivial⟩
      apply List.ext_getElem?
      intro j
      rw [List.getElem?_take]
      by_cases hj : j < xs.length
      · rw [if_pos hj, List.getElem?_drop, setN_get, if_neg (by omega)]
        have hjx : xs[j]? = some xs[j] := List.getElem?_eq_getElem hj
        rw [hjx]
        exact take_drop_get htake hjx
      · rw [if_neg hj, List.getElem?_eq_none (by omega)]
end
end Go.Proofs.Ytaaahjcldomnbaa
