/-
  The operations that do something: calls, stores, new blocks, appends; and regions that draw their order. No condition.
-/
import Derived.Test.YtpheilpcklfknaaDoorBOps
namespace Go.Proofs.YtpheilpcklfknaaDoor
open Go Go.RowKit
set_option linter.unusedVariables false
set_option linter.unusedSimpArgs false
section
variable {N : Nat} {P : Program} {L : Slots} {Q : Post} {W : Base} {w : World} {ops : Array Oper} {rest : List Oper} {o : Oper} {d : Nat} {R : List Res}
variable {x y z : Operand} {v u : Value} {dst : Option Tmp} {ty : TypeId} {pos : String} {af : Array Edge} {gd : Option (Nat × Bool)} {t : TypeId}
theorem Does.mono {Φ Ψ : Value → World → Prop} (h : Does N P w o L Φ) (hm : ∀ v w', Φ v w' → Ψ v w') : Does N P w o L Ψ := fun a ha K Q hK => h a ha K Q (fun v w' e => hK v w' (hm v w' e))
/-- A call of this function enters it. -/
def Enters (P : Program) (F : FuncId) : Prop := ∀ as w, (callFunc F as).run P w = .ok (.enter F as) w
theorem does_call {F : FuncId} {fs cs : Array Value} {vs args : List Value} {fo : Operand} {as : Array Operand} {ats : Array TypeId} {Φ : Value → World → Prop}
    (hf : ev L fo = some (.func (.func F) fs cs)) (ha : evs L as.toList = some vs) (hargs : fs.toList ++ vs ++ cs.toList = args)
    (hc : Enters P F) (hs : Calls P F args.toArray w (Ret Φ)) :
    Does N P w ⟨dst, .call { callee := .value fo, args := as, argTypes := ats }, ty, pos, af, gd⟩ L Φ := fun a ha' K Q hK => by
  have h1 : as.map a.eval = vs.toArray := by apply Array.ext'; rw [Array.toList_map, ha'.evals ha]
  have h2 : fs ++ vs.toArray ++ cs = args.toArray := by apply Array.ext'; simp [← hargs]
  unfold Oper.wp
  simp only [execOp, resolve, h1, ha'.eval hf, Deferred.ofValue, Sem.run_bind, Sem.run_pure, Result.andThen_ok, invoke, h2, hc args.toArray w, Oper.upon]
  refine hs.mono ?_
  intro e w' he
  cases e with
  | returned v => exact hK v w' he
  | panicked c => exact he.elim
  | outgrown => exact he.elim

/-! ### stores -/
def setN : List Value → Nat → List Value → List Value
  | cs, _, [] => cs
  | cs, o, v :: vs => setN (cs.set o v) (o + 1) vs
theorem setN_length : ∀ (vs cs : List Value) (o : Nat), (setN cs o vs).length = cs.length
  | [], _, _ => rfl
  | v :: vs, cs, o => by simp [setN, setN_length vs]
theorem setN_get : ∀ (vs cs : List Value) (o j : Nat), (setN cs o vs)[j]? = if o ≤ j ∧ j < o + vs.length ∧ j < cs.length then vs[j - o]? else cs[j]?
  | [], cs, o, j => by simp only [setN, List.length_nil]; rw [if_neg (by omega)]
  | v :: vs, cs, o, j => by
    simp only [setN, List.length_cons]
    rw [setN_get vs (cs.set o v) (o + 1) j]
    simp only [List.length_set]
    by_cases h1 : o + 1 ≤ j ∧ j < o + 1 + vs.length ∧ j < cs.length
    · rw [if_pos h1, if_pos (by omega)]
      have : j - o = (j - (o + 1)) + 1 := by omega
      rw [this, List.getElem?_cons_succ]
    · rw [if_neg h1, List.getElem?_set]
      by_cases h2 : o = j
      · subst h2
        by_cases h3 : o < cs.length
        · simp [h3]
        · simp [h3]
      · rw [if_neg h2, if_neg (by omega)]
theorem setN_eq (vs cs : List Value) (o : Nat) (h : o + vs.length ≤ cs.length) : setN cs o vs = cs.take o ++ vs ++ cs.drop (o + vs.length) := by
  apply List.ext_getElem?
  intro j
  rw [setN_get]
  by_cases h1 : o ≤ j ∧ j < o + vs.length ∧ j < cs.length
  · rw [if_pos h1, List.getElem?_append_left (by simp; omega), List.getElem?_append_right (by simp; omega)]
    simp only [List.length_take]; congr 1; omega
  · rw [if_neg h1]
    by_cases h2 : j < o
    · rw [List.getElem?_append_left (by simp; omega), List.getElem?_append_left (by simp; omega), List.getElem?_take, if_pos h2]
    · by_cases h3 : j < cs.length
      · rw [List.getElem?_append_right (by simp; omega), List.getElem?_drop]
        simp only [List.length_append, List.length_take]; congr 1; omega
      · rw [List.getElem?_eq_none (by omega), List.getElem?_eq_none (by simp; omega)]
theorem run_storeCells_blk : ∀ (vs : List Value) (i : Nat) (w : World) (cs : List Value) {b o : Nat} {e : TypeId}, Blk w b cs e → o + i + vs.length ≤ cs.length → (∀ v ∈ vs, v.oneCell' = true) →
    ∃ w', (storeCells ⟨b, o, none⟩ vs i).run P w = .ok () w' ∧ Blk w' b (setN cs (o + i) vs) e ∧ Ch w w' (fun k => k = b)
  | [], i, w, cs, b, o, e, h, _, _ => ⟨w, rfl, h, Ch.refl _ _⟩
  | v :: vs, i, w, cs, b, o, e, h, hl, h1 => by
    simp only [List.length_cons] at hl
    have hj : o + i < cs.length := by omega
    obtain ⟨u, hu⟩ : ∃ u, cs[o + i]? = some u := ⟨cs[o + i], List.getElem?_eq_getElem hj⟩
    have hst : (store ((⟨b, o, none⟩ : Addr).add i) v).run P w = .ok () (w.setCell ⟨b, o + i, none⟩ v) := by
      rw [add_lit, run_store P w _ v _ (h1 v (by simp)), h.cell hu, h.frozen hj]
      rfl
    obtain ⟨w', hr, hb, hc⟩ := run_storeCells_blk vs (i + 1) (w.setCell ⟨b, o + i, none⟩ v) (cs.set (o + i) v) (b := b) (o := o) (e := e) (h.set _ _) (by simp; omega) (fun v hv => h1 v (by simp [hv]))
    refine ⟨w', ?_, hb, (ch_setCell w ⟨b, o + i, none⟩ v).trans hc⟩
    simp only [storeCells, Sem.run_bind, hst, Result.andThen_ok, hr]
theorem does_store {b o n : Nat} {cs vs : List Value} {e : TypeId} (h : Sat W w (blk b cs e :: R)) (hs : szOf P t = some n) (hx : ev L x = some (.pointer (some ⟨b, o, none⟩))) (hy : ev L y = some v)
    (hc : v.cells.toList = vs) (hn : vs.length = n) (h1 : ∀ v ∈ vs, v.oneCell' = true) (ho : o + n ≤ cs.length) :
    Does N P w ⟨dst, .store t x y, ty, pos, af, gd⟩ L (fun _ w' => Sat W w' (blk b (setN cs o vs) e :: R)) := fun a ha K Q hK => by
  subst hn
  obtain ⟨w', hr, hb, hch⟩ := run_storeCells_blk (P := P) vs 0 w cs (o := o) h.isBlk (by omega) h1
  have hsz : v.cells.size = vs.length := by rw [← hc]; simp
  have hrun : (execOp a.eval ⟨dst, .store t x y, ty, pos, af, gd⟩).run P w = .ok .skip w' := by
    have hr' : (storeCells ⟨b, o, none⟩ v.cells.toList).run P w = .ok () w' := by rw [hc]; exact hr
    simp [execOp, ha.eval hx, ha.eval hy, Instr.storeAt, Instr.sureAddr, storeVar, run_sizeOf' hs, hsz, hr']
  unfold Oper.wp
  rw [hrun]
  exact hK undef w' (h.blk_set hch (by simpa using hb))

/-! ### new blocks -/
theorem does_box {cs : List Value} {e : TypeId} (h : Sat W w R) (hx : ev L x = some v) (hc : v.cells.toList = cs) :
    Does N P w ⟨dst, .box e x, ty, pos, af, gd⟩ L (fun v w' => ∃ b, v = .pointer (some ⟨b, 0, none⟩) ∧ Sat W w' (blk b cs e :: R)) := fun a ha K Q hK => by
  have hrun : (execOp a.eval ⟨dst, .box e x, ty, pos, af, gd⟩).run P w = .ok (.value (.pointer (some ⟨w.heap.size, 0, none⟩))) (w.alloc (.cells v.cells e)) := by
    simp [execOp, ha.eval hx, Instr.box, newVar, newRow]
  unfold Oper.wp
  rw [hrun]
  have : v.cells = cs.toArray := by rw [← hc]
  rw [this]
  exact hK _ _ ⟨_, rfl, h.blk_new cs e⟩
def zeroOf (P : Program) (t : TypeId) : Option Value := (P.info? t).bind (·.zero)
theorem run_zero {z : Value} (h : zeroOf P t = some z) (w : World) : (zeroValue t).run P w = .ok z w := by
  unfold zeroOf at h
  cases hi : P.info? t with
  | none => simp [hi] at h
  | some i => simp [hi] at h; simp [zeroValue, typeInfo, hi, h]
theorem does_alloc {cs : List Value} {e : TypeId} {z : Value} (h : Sat W w R) (hz : zeroOf P e = some z) (hc : z.cells.toList = cs) :
    Does N P w ⟨dst, .alloc e, ty, pos, af, gd⟩ L (fun v w' => ∃ b, v = .pointer (some ⟨b, 0, none⟩) ∧ Sat W w' (blk b cs e :: R)) := fun a ha K Q hK => by
  have hrun : (execOp a.eval ⟨dst, .alloc e, ty, pos, af, gd⟩).run P w = .ok (.value (.pointer (some ⟨w.heap.size, 0, none⟩))) (w.alloc (.cells z.cells e)) := by
    simp [execOp, Instr.alloc, newVar, newRow, run_zero hz]
  unfold Oper.wp
  rw [hrun]
  have : z.cells = cs.toArray := by rw [← hc]
  rw [this]
  exact hK _ _ ⟨_, rfl, h.blk_new cs e⟩

/-! ### rows that a slice owns -/
def ArrOwn (a : Option Addr) (n c s : Nat) (e : TypeId) (xs : List Value) (w : World) (T : Nat → Prop) : Prop :=
  xs.length = n * s ∧ n ≤ c ∧ c ≤ maxLen ∧ (∀ u ∈ xs, u.oneCell' = true) ∧
  (c = 0 ∨ ∃ b o cs, a = some ⟨b, o, none⟩ ∧ T b ∧ Blk w b cs e ∧ o + c * s ≤ cs.length ∧ (cs.drop o).take xs.length = xs)
def arr (a : Option Addr) (n c s : Nat) (e : TypeId) (xs : List Value) : Res := ⟨ArrOwn a n c s e xs, fun ⟨h1, h2, h3, h4, h5⟩ _ hk =>
  ⟨h1, h2, h3, h4, h5.imp id (fun ⟨b, o, cs, ha, hb, hB, r⟩ => ⟨b, o, cs, ha, hb, hB.keep (hk b hb), r⟩)⟩⟩
theorem Sat.arr_zero (h : Sat W w R) (a : Option Addr) (s : Nat) (e : TypeId) : Sat W w (arr a 0 0 s e [] :: R) :=
  Sat.more (rs := [arr a 0 0 s e []]) h (Ch.refl _ _) ⟨fun _ => False, fun _ h => h.elim, ⟨by simp, Nat.le_refl _, Nat.zero_le _, fun _ h => (by cases h), .inl rfl⟩, trivial⟩
theorem take_drop_get {cs xs : List Value} {o j : Nat} {v : Value} (h : (cs.drop o).take xs.length = xs) (hj : xs[j]? = some v) : cs[o + j]? = some v := by
  rw [← h, List.getElem?_take] at hj
  split at hj
  · rwa [List.getElem?_drop] at hj
  · cases hj
theorem Sat.arr_view {a : Option Addr} {n c s : Nat} {e : TypeId} {xs : List Value} (h : Sat W w (arr a n c s e xs :: R)) : View w a xs := by
  obtain ⟨_, T, _, ⟨h1, h2, h3, h4, h5⟩, _⟩ := h
  intro j v hj
  rcases h5 with rfl | ⟨b, o, cs, rfl, hb, hB, hl, ht⟩
  · have : n = 0 := by omega
    subst this
    have : xs = [] := List.eq_nil_of_length_eq_zero (by simpa using h1)
    subst this; cases hj
  · exact ⟨b, o, rfl, hB.cell (take_drop_get ht hj)⟩
theorem Sat.arr_len {a : Option Addr} {n c s : Nat} {e : TypeId} {xs : List Value} (h : Sat W w (arr a n c s e xs :: R)) : xs.length = n * s ∧ n ≤ c ∧ c ≤ maxLen := by
  obtain ⟨_, T, _, ⟨h1, h2, h3, h4, h5⟩, _⟩ := h; exact ⟨h1, h2, h3⟩
theorem Sat.arr_one {a : Option Addr} {n c s : Nat} {e : TypeId} {xs : List Value} (h : Sat W w (arr a n c s e xs :: R)) : ∀ u ∈ xs, u.oneCell' = true := by
  obtain ⟨_, T, _, ⟨h1, h2, h3, h4, h5⟩, _⟩ := h; exact h4
/-- A row, shorter. -/
theorem Sat.arr_take {a : Option Addr} {n c s : Nat} {e : TypeId} {xs : List Value} (h : Sat W w (arr a n c s e xs :: R)) (m : Nat) (hm : m ≤ n) : Sat W w (arr a m c s e (xs.take (m * s)) :: R) := by
  obtain ⟨hb, T, hT, ⟨h1, h2, h3, h4, h5⟩, hl⟩ := h
  have hle : m * s ≤ xs.length := by rw [h1]; exact Nat.mul_le_mul_right _ hm
  refine ⟨hb, T, hT, ⟨by rw [List.length_take]; omega, by omega, h3, fun u hu => h4 u (List.mem_of_mem_take hu), ?_⟩, hl⟩
  rcases h5 with h5 | ⟨b, o, cs, ha, hb, hB, hcap, htake⟩
  · exact .inl h5
  · refine .inr ⟨b, o, cs, ha, hb, hB, hcap, ?_⟩
    rw [List.length_take, Nat.min_eq_left hle]
    have := congrArg (List.take (m * s)) htake
    rw [List.take_take, Nat.min_eq_left hle] at this
    exact this
/-- A block of its own is a row. -/
theorem Sat.arr_of_blk {b n c s : Nat} {e : TypeId} {cs xs : List Value} (h : Sat W w (blk b cs e :: R)) (hl : xs.length = n * s) (hn : n ≤ c) (hc : c ≤ maxLen) (h1 : ∀ u ∈ xs, u.oneCell' = true)
    (hcs : c * s ≤ cs.length) (hx : cs.take xs.length = xs) : Sat W w (arr (some ⟨b, 0, none⟩) n c s e xs :: R) := by
  obtain ⟨hb, T, hT, ho, hl'⟩ := h
  exact ⟨hb, T, hT, ⟨hl, hn, hc, h1, .inr ⟨b, 0, cs, rfl, ho.1, ho.2, by simpa using hcs, by simpa using hx⟩⟩, hl'⟩

def elI (P : Program) (e : TypeId) : Option (Nat × Nat × Nat) := (P.info? e).bind fun i => i.zero.map fun z => (i.size, i.bytes, z.cells.size)
theorem zeroCells_size (z : Array Value) (n : Nat) : (Builtin.zeroCells z n).size = n * z.size := by simp [Builtin.zeroCells]
theorem run_append {e : TypeId} {s bytes : Nat} (ht : P.underlying t = some (.slice e)) (hi : elI P e = some (s, bytes, s))
    {a : Option Addr} {n c : Nat} {xs : List Value} (h : Sat W w (arr a n c s e xs :: R)) {a2 : Option Addr} {m c2 : Nat} {ys : List Value} (hv : View w a2 ys) (hl : ys.length = m * s) (h1 : ∀ u ∈ ys, u.oneCell' = true)
    (hm : n + m ≤ maxLen) (hb : (n + m) * bytes ≤ 140737488355328) (ha2 : a2 = none → m = 0) (ty : TypeId) :
    ∃ a' c' w', (Builtin.append_ #[t, t] ty #[.slice a n c, .slice a2 m c2]).run P w = .ok (.slice a' (n + m) c') w' ∧ (n + m ≤ c → a = a' ∧ c = c') ∧ Sat W w' (arr a' (n + m) c' s e (xs ++ ys) :: R) := by
  unfold elI at hi
  cases hinfo : P.info? e with
  | none => simp [hinfo] at hi
  | some i =>
  cases hz : i.zero with
  | none => simp [hinfo, hz] at hi
  | some zz =>
  simp only [hinfo, hz, Option.bind_some, Option.map_some, Option.some.injEq, Prod.mk.injEq] at hi
  obtain ⟨hs, hby, hzs⟩ := hi
  subst hs hby
  have hxv := h.arr_view
  obtain ⟨hxl, hnc, hcm⟩ := h.arr_len
  have hone := h.arr_one
  have hsum : (xs ++ ys).length = (n + m) * i.size := by rw [List.length_append, hxl, hl, Nat.add_mul]
  have hones : ∀ u ∈ xs ++ ys, u.oneCell' = true := fun u hu => (List.mem_append.1 hu).elim (hone u) (h1 u)
  have hfirst : ∀ w' : World, (∀ j v, ys[j]? = some v → ∃ b o, a2 = some ⟨b, o, none⟩ ∧ w'.cell? ⟨b, o + j, none⟩ = some v) → (Builtin.firstCells i.size m (.slice a2 m c2)).run P w' = .ok ys.toArray w' := by
    intro w' hv'
    cases a2 with
    | none =>
      have : m = 0 := ha2 rfl
      subst this
      have : ys = [] := List.eq_nil_of_length_eq_zero (by simpa using hl)
      subst this; simp [Builtin.firstCells]
    | some ad => exact run_firstCells_some (P := P) w' i.size m ad m c2 ys hl (View.add hv')
  by_cases hroom : n + m ≤ c
  · -- there is room
    obtain ⟨hbel, T, hT, ⟨e1, e2, e3, e4, e5⟩, hrest⟩ := h
    rcases e5 with rfl | ⟨b, o, cs, rfl, hTb, hB, hcap, htake⟩
    · have hn0 : n = 0 := by omega
      have hm0 : m = 0 := by omega
      subst hn0 hm0
      have hx0 : xs = [] := List.eq_nil_of_length_eq_zero (by simpa using hxl)
      have hy0 : ys = [] := List.eq_nil_of_length_eq_zero (by simpa using hl)
      subst hx0 hy0
      refine ⟨a, 0, w, ?_, fun _ => ⟨rfl, rfl⟩, ⟨hbel, T, hT, ⟨by simp, Nat.le_refl _, e3, fun _ h => (by cases h), .inl rfl⟩, hrest⟩⟩
      have := hfirst w hv
      cases a <;> simp [Builtin.append_, run_underlying ht, sizeOf, typeInfo, hinfo, Builtin.lenOf, this, storeCells]
    · have hfit : o + n * i.size + ys.length ≤ cs.length := by
        have : (n + m) * i.size ≤ c * i.size := Nat.mul_le_mul_right _ hroom
        rw [Nat.add_mul] at this; omega
      obtain ⟨w', hr, hB', hch⟩ := run_storeCells_blk (P := P) ys 0 w cs (o := o + n * i.size) hB (by omega) h1
      refine ⟨some ⟨b, o, none⟩, c, w', ?_, fun _ => ⟨rfl, rfl⟩, ?_⟩
      · have := hfirst w hv
        simp [Builtin.append_, run_underlying ht, sizeOf, typeInfo, hinfo, Builtin.lenOf, hroom, this, add_lit, hr]
      · refine Sat.turnT (T := T) (rs := [arr (some ⟨b, o, none⟩) (n + m) c i.size e (xs ++ ys)]) hbel hT hrest (hch.mono (fun k hk => by subst hk; exact hTb)) ?_
        refine ⟨T, fun k hk => ⟨.inl hk, Nat.lt_of_lt_of_le (hT k hk).2 hch.size⟩, ⟨hsum, hroom, hcm, hones, .inr ⟨b, o, _, rfl, hTb, hB', by rw [setN_length]; exact hcap, ?_⟩⟩, trivial⟩
        simp only [Nat.add_zero]
        apply List.ext_getElem?
        intro j
        rw [List.getElem?_take]
        by_cases hj : j < (xs ++ ys).length
        · rw [if_pos hj, List.getElem?_drop, setN_get]
          rw [List.length_append, hxl] at hj
          by_cases hj2 : j < n * i.size
          · rw [if_neg (by omega), List.getElem?_append_left (by omega)]
            have hjx : xs[j]? = some xs[j] := List.getElem?_eq_getElem (by omega)
            rw [hjx]
            exact take_drop_get htake hjx
          · rw [if_pos (by omega), List.getElem?_append_right (by omega), hxl]
            congr 1; omega
        · rw [if_neg hj, List.getElem?_eq_none (by omega)]
  · -- it grows
    have hgrow : c < n + m := by omega
    have hsmall : ((n + m : Nat) : Int) ≤ 9223372036854775807 := by simp only [maxLen] at hm; omega
    have hfits := growslice_fits (bytes := i.bytes) hgrow hb
    have hge := grownCap_ge w (n + m) c e
    have hgm := grownCap_le_maxLen w (n + m) c e hm
    have hnew : Sat W (w.drew.alloc (.cells (xs.toArray ++ ys.toArray ++ Builtin.zeroCells zz.cells (grownCap w (n + m) c e - (n + m))) e)) (arr (some ⟨w.heap.size, 0, none⟩) (n + m) (grownCap w (n + m) c e) i.size e (xs ++ ys) :: R) := by
      have h2 := (h.tail.drew).blk_new (xs ++ ys ++ (Builtin.zeroCells zz.cells (grownCap w (n + m) c e - (n + m))).toList) e
      have e1 : (xs.toArray ++ ys.toArray ++ Builtin.zeroCells zz.cells (grownCap w (n + m) c e - (n + m))) = (xs ++ ys ++ (Builtin.zeroCells zz.cells (grownCap w (n + m) c e - (n + m))).toList).toArray := by
        apply Array.ext'; simp
      rw [e1]
      have hcap : grownCap w (n + m) c e * i.size ≤ (xs ++ ys ++ (Builtin.zeroCells zz.cells (grownCap w (n + m) c e - (n + m))).toList).length := by
        rw [List.length_append, hsum, Array.length_toList, zeroCells_size, hzs, ← Nat.add_mul]
        exact Nat.le_of_eq (by congr 1; omega)
      exact Sat.arr_of_blk h2 hsum hge hgm hones hcap List.take_left
    have hn : ¬ (n + m ≤ c) := by omega
    have h63' : ¬ (9223372036854775807 < ((n : Int) + (m : Int))) := by omega
    have h48' : ¬ (281474976710656 < Builtin.nextslicecap (n + m) c * i.bytes) := by omega
    refine ⟨_, _, _, ?_, fun hh => absurd hh hn, hnew⟩
    have hf := hfirst w.drew hv
    have hfo : (Builtin.firstCells i.size n (.slice a n c)).run P w.drew = .ok xs.toArray w.drew := by
      cases a with
      | none =>
        have hn0 : n = 0 := by
          obtain ⟨_, T, _, ⟨_, _, _, _, h5⟩, _⟩ := h
          rcases h5 with hc0 | ⟨b, o, cs, h, _⟩
          · omega
          · cases h
        subst hn0
        have hx0 : xs = [] := List.eq_nil_of_length_eq_zero (by simpa using hxl)
        subst hx0; simp [Builtin.firstCells]
      | some ad => exact run_firstCells_some (P := P) w.drew i.size n ad n c xs hxl (View.add hxv)
    simp [Builtin.append_, run_underlying ht, sizeOf, typeInfo, zeroValue, hinfo, hz, Builtin.lenOf, hn, h63', h48', Question.forced, hf, hfo, newRow, grownCap]
    congr 2
    apply Array.ext'
    simp [List.append_assoc]
theorem does_append {e : TypeId} {s bytes : Nat} (ht : P.underlying t = some (.slice e)) (hi : elI P e = some (s, bytes, s))
    {a : Option Addr} {n c : Nat} {xs : List Value} (h : Sat W w (arr a n c s e xs :: R)) {a2 : Option Addr} {m c2 : Nat} {ys : List Value} (hx : ev L x = some (.slice a n c)) (hy : ev L y = some (.slice a2 m c2))
    (hv : View w a2 ys) (hl : ys.length = m * s) (h1 : ∀ u ∈ ys, u.oneCell' = true) (hm : n + m ≤ maxLen) (hb : (n + m) * bytes ≤ 140737488355328) (ha2 : a2 = none → m = 0) {r : Nat} (hr0 : n + m = r) :
    Does N P w ⟨dst, .call { callee := .builtin .append, args := #[x, y], argTypes := #[t, t] }, ty, pos, af, gd⟩ L
      (fun v w' => ∃ a' c', v = .slice a' r c' ∧ (r ≤ c → a = a' ∧ c = c') ∧ Sat W w' (arr a' r c' s e (xs ++ ys) :: R)) := fun A hA K Q hK => by
  subst hr0
  obtain ⟨a', c', w', hr, hro, hs⟩ := run_append ht hi h (c2 := c2) hv hl h1 hm hb ha2 ty
  have hrun : (execOp A.eval ⟨dst, .call { callee := .builtin .append, args := #[x, y], argTypes := #[t, t] }, ty, pos, af, gd⟩).run P w = .ok (.value (.slice a' (n + m) c')) w' := by
    simp [execOp, resolve, invoke, builtin, hA.eval hx, hA.eval hy, hr]
  unfold Oper.wp
  rw [hrun]
  exact hK _ _ ⟨a', c', rfl, hro, hs⟩
end
end Go.Proofs.YtpheilpcklfknaaDoor
