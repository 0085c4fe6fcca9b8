/-
  More operations: literals of slices, make, copy, stores into rows, texts and bytes; regions that draw their order. No condition.
-/
import Derived.Test.YtpheilpcklfknaaDoorBDo
namespace Go.Proofs.YtpheilpcklfknaaDoor
open Go Go.RowKit
set_option linter.unusedVariables false
set_option linter.unusedSimpArgs false
section
variable {N : Nat} {P : Program} {L : Slots} {Q : Post} {W : Base} {w : World} {ops : Array Oper} {rest : List Oper} {o : Oper} {d : Nat} {R : List Res}
variable {x y z : Operand} {v u : Value} {dst : Option Tmp} {ty : TypeId} {pos : String} {af : Array Edge} {gd : Option (Nat × Bool)} {t : TypeId}
/-! ### a literal of a slice -/
def rowOf (P : Program) (t : TypeId) (len : Nat) (parts : List (Nat × Value)) : Option (TypeId × Array Value) :=
  match P.underlying t with
  | some (.slice e) => match P.info? e with
    | some i => match i.zero with
      | some z => if len * i.size > 2 ^ 24 then none else
        (Instr.fill (fun k => some (k * i.size, i.size)) ((Array.range (len * i.size)).map (z.cells[· % z.cells.size]!)) parts).map fun cs => (e, cs)
      | none => none
    | none => none
  | _ => none
theorem does_buildSlice {parts : Array (Nat × Operand)} {len : Nat} {vs cs : List Value} {e : TypeId} (h : Sat W w R) (hp : evs L (parts.toList.map (·.2)) = some vs)
    (hb : rowOf P t len ((parts.toList.map (·.1)).zip vs) = some (e, cs.toArray)) :
    Does N P w ⟨dst, .buildSlice t len parts, ty, pos, af, gd⟩ L (fun v w' => ∃ b, v = .slice (some ⟨b, 0, none⟩) len len ∧ Sat W w' (blk b cs e :: R)) := fun a ha K Q hK => by
  have h1 : (parts.map fun (i, x) => (i, a.eval x)).toList = (parts.toList.map (·.1)).zip vs := by
    rw [← ha.evals hp, Array.toList_map, List.map_map, List.zip_map']
    rfl
  have hrun : (execOp a.eval ⟨dst, .buildSlice t len parts, ty, pos, af, gd⟩).run P w = .ok (.value (.slice (some ⟨w.heap.size, 0, none⟩) len len)) (w.alloc (.cells cs.toArray e)) := by
    unfold rowOf at hb
    split at hb
    · rename_i e' hu
      split at hb
      · rename_i i hi
        split at hb
        · rename_i z hz
          split at hb
          · cases hb
          · rename_i hlt
            cases hf : Instr.fill (fun k => some (k * i.size, i.size)) ((Array.range (len * i.size)).map (z.cells[· % z.cells.size]!)) ((parts.toList.map (·.1)).zip vs) with
            | none => rw [hf] at hb; cases hb
            | some cc =>
              rw [hf] at hb
              simp only [Option.map_some, Option.some.injEq, Prod.mk.injEq] at hb
              obtain ⟨rfl, rfl⟩ := hb
              simp only [execOp, Instr.buildSlice, Sem.run_bind, run_underlying hu, Result.andThen_ok, sizeOf, typeInfo, run_program, hi, Sem.run_pure, hlt, ↓reduceIte, Sem.run_ite, h1]
              have hr : ∀ zz : Array Value, (len * i.size = 0 ∨ zz = z.cells) → (Array.range (len * i.size)).map (fun k => zz[k % zz.size]!) = (Array.range (len * i.size)).map (z.cells[· % z.cells.size]!) := by
                intro zz hz'
                rcases hz' with h0 | rfl
                · rw [h0]; simp
                · rfl
              by_cases h0 : len * i.size = 0
              · rw [if_pos h0]
                simp only [Sem.run_bind, Sem.run_pure, Sem.run_pure', Result.andThen_ok, hr #[] (.inl h0), hf]
                simp [newRow]
              · rw [if_neg h0]
                simp only [zeroValue, typeInfo, Sem.run_bind, run_program, Result.andThen_ok, hi, hz, Sem.run_pure, Sem.run_pure', hf, newRow, run_newObj, World.alloc_eq]
        · cases hb
      · cases hb
    · cases hb
  unfold Oper.wp
  rw [hrun]
  exact hK _ _ ⟨_, rfl, h.blk_new cs e⟩
/-! ### make -/
theorem range_const {α : Type} (n : Nat) (f : Nat → α) (z : α) (h : ∀ i, i < n → f i = z) : ((Array.range n).map f).toList = List.replicate n z := by
  apply List.ext_getElem
  · simp
  · intro i h1 h2
    simp at h1
    simp [h i h1]
theorem does_make {e : TypeId} {bytes : Nat} {z : Value} {k k' : IntKind} {l c : Int} {n m : Nat} (h : Sat W w R) (ht : P.underlying t = some (.slice e)) (hi : elI P e = some (1, bytes, 1)) (hz : zeroOf P e = some z) (hz1 : z.cells = #[z])
    (hx : ev L x = some (.int k l)) (hy : ev L y = some (.int k' c)) (hl : l = n) (hc : c = m) (hnm : n ≤ m) (hm : m ≤ maxLen) (hb : m * bytes ≤ 281474976710656) (h1 : z.oneCell' = true) :
    Does N P w ⟨dst, .makeSlice t x y, ty, pos, af, gd⟩ L (fun v w' => ∃ b, v = .slice (some ⟨b, 0, none⟩) n m ∧ Sat W w' (arr (some ⟨b, 0, none⟩) n m 1 e (List.replicate n z) :: R)) := fun a ha K Q hK => by
  subst hl hc
  unfold elI at hi
  cases hinfo : P.info? e with
  | none => simp [hinfo] at hi
  | some i =>
  have hzi : i.zero = some z := by simpa [zeroOf, hinfo] using hz
  simp only [hinfo, hzi, Option.bind_some, Option.map_some, Option.some.injEq, Prod.mk.injEq] at hi
  obtain ⟨hs, hby, hzs⟩ := hi
  subst hby
  have hm' : ((m : Nat) : Int) ≤ 9223372036854775807 := by simp only [maxLen] at hm; omega
  have hlt : ¬ ((281474976710656 : Int) < (i.bytes : Int) * (m : Int)) := by
    have : ((m * i.bytes : Nat) : Int) ≤ 281474976710656 := by omega
    rw [Int.natCast_mul, Int.mul_comm] at this; omega
  have hw1 : IntKind.i64.wrap (n : Int) = n := IntWalk.i64_in _ (by omega)
  have hw2 : IntKind.i64.wrap (m : Int) = m := IntWalk.i64_in _ (by omega)
  have h0 : ¬ ((m : Int) < 0) := by omega
  have h0' : ¬ ((n : Int) < 0) := by omega
  have hnm' : ¬ ((m : Int) < (n : Int)) := by omega
  have hcells : ((Array.range m).map fun j => (if m = 0 then (#[] : Array Value) else z.cells)[j % (if m = 0 then (#[] : Array Value) else z.cells).size]!) = (List.replicate m z).toArray := by
    apply Array.ext'
    rw [range_const m _ z]
    intro j hj
    rw [if_neg (by omega), hz1]
    simp [Nat.mod_one]
  have hrun : (execOp a.eval ⟨dst, .makeSlice t x y, ty, pos, af, gd⟩).run P w = .ok (.value (.slice (some ⟨w.heap.size, 0, none⟩) n m)) (w.alloc (.cells (List.replicate m z).toArray e)) := by
    have hlt48 : ¬ ((2 : Int) ^ 48 < (i.bytes : Int) * (m : Int)) := hlt
    have hf : (decide ((m : Int) < 0) || decide ((i.bytes : Int) * (m : Int) > 2 ^ 48) || decide ((n : Int) < 0) || decide ((n : Int) > (m : Int))) = false := by
      rw [decide_eq_false h0, decide_eq_false h0', decide_eq_false hlt48, decide_eq_false hnm']
      rfl
    simp only [execOp, ha.eval hx, ha.eval hy, Instr.makeSlice, Sem.run_bind, run_underlying ht, Result.andThen_ok, asInt, asIntOf, Sem.run_pure, typeInfo, run_program, hinfo, hw1, hw2, hf, Bool.false_eq_true, ↓reduceIte, run_askRoom, sizeOf, hs, Int.toNat_natCast, Nat.mul_one]
    by_cases hm0 : m = 0
    · simp only [if_pos hm0] at hcells
      rw [if_pos hm0]
      simp only [Sem.run_bind, Sem.run_pure, Sem.run_pure', Result.andThen_ok, newRow, run_newObj, World.alloc_eq, hcells]
    · simp only [if_neg hm0] at hcells
      rw [if_neg hm0]
      simp only [Sem.run_bind, run_zero hz, Sem.run_pure, Sem.run_pure', Result.andThen_ok, newRow, run_newObj, World.alloc_eq, hcells]
  unfold Oper.wp
  rw [hrun]
  refine hK _ _ ⟨_, rfl, Sat.arr_of_blk (h.blk_new (List.replicate m z) e) (by simp) hnm hm (fun u hu => by rw [List.eq_of_mem_replicate hu]; exact h1) (by simp) ?_⟩
  simp [List.take_replicate, Nat.min_eq_left hnm]
/-! ### a store into a row -/
theorem setN_take_drop {cs xs : List Value} {o i : Nat} {vs : List Value} (h : (cs.drop o).take xs.length = xs) (hl : i + vs.length ≤ xs.length) : ((setN cs (o + i) vs).drop o).take xs.length = setN xs i vs := by
  apply List.ext_getElem?
  intro j
  rw [List.getElem?_take, setN_get]
  by_cases hj : j < xs.length
  · rw [if_pos hj, List.getElem?_drop, setN_get]
    have hjx : xs[j]? = some xs[j] := List.getElem?_eq_getElem hj
    have hjc : cs[o + j]? = some xs[j] := take_drop_get h hjx
    have hlt : o + j < cs.length := (List.getElem?_eq_some_iff.1 hjc).1
    by_cases h1 : i ≤ j ∧ j < i + vs.length
    · rw [if_pos (by omega), if_pos (by omega)]; congr 1; omega
    · rw [if_neg (by omega), if_neg (by omega), hjc, hjx]
  · rw [if_neg hj, if_neg (by omega), List.getElem?_eq_none (by omega)]
/-- A place of a row. -/
def blkOf (a : Option Addr) : Nat := match a with | some x => x.block | none => 0
def offOf (a : Option Addr) : Nat := match a with | some x => x.off | none => 0
def elA (a : Option Addr) (k : Nat) : Addr := ⟨blkOf a, offOf a + k, none⟩
theorem View.el {w : World} {a : Option Addr} {xs : List Value} (h : View w a xs) {k : Nat} {v : Value} (hk : xs[k]? = some v) : w.cell? (elA a k) = some v := by
  obtain ⟨b, o, rfl, h1⟩ := h k v hk; exact h1
theorem View.els {w : World} {a : Option Addr} {xs : List Value} (h : View w a xs) {k : Nat} {vs : List Value} (hk : ∀ j v, vs[j]? = some v → xs[k + j]? = some v) : View w (some (elA a k)) vs := by
  intro j v hj
  obtain ⟨b, o, rfl, h1⟩ := h _ v (hk j v hj)
  exact ⟨b, o + k, rfl, by rw [Nat.add_assoc]; exact h1⟩
theorem elA_add (a : Option Addr) (k m : Nat) : (⟨(elA a k).block, (elA a k).off + m, none⟩ : Addr) = elA a (k + m) := by simp [elA, Nat.add_assoc]
theorem View.elm {w : World} {a : Option Addr} {k : Nat} {vs : List Value} (h : View w (some (elA a k)) vs) {m : Nat} {us : List Value} (hk : ∀ j v, us[j]? = some v → vs[m + j]? = some v) : View w (some (elA a (k + m))) us := by
  rw [← elA_add]
  exact View.els (a := some (elA a k)) h hk
theorem does_storeArr {a : Option Addr} {n c s k i : Nat} {xs vs : List Value} {e : TypeId} (h : Sat W w (arr a n c s e xs :: R)) (hs : szOf P t = some k) (hx : ev L x = some (.pointer (some (elA a i)))) (hy : ev L y = some v)
    (hc : v.cells.toList = vs) (hn : vs.length = k) (hp : 0 < k) (h1 : ∀ v ∈ vs, v.oneCell' = true) (ho : i + k ≤ xs.length) :
    Does N P w ⟨dst, .store t x y, ty, pos, af, gd⟩ L (fun _ w' => Sat W w' (arr a n c s e (setN xs i vs) :: R)) := fun A hA K Q hK => by
  subst hn
  obtain ⟨hbel, T, hT, ⟨e1, e2, e3, e4, e5⟩, hrest⟩ := h
  rcases e5 with rfl | ⟨b, o, cs, rfl, hTb, hB, hcap, htake⟩
  · obtain rfl : n = 0 := by omega
    rw [Nat.zero_mul] at e1; omega
  · have hxl : o + xs.length ≤ cs.length := by
      have : xs.length ≤ c * s := by rw [e1]; exact Nat.mul_le_mul_right _ e2
      omega
    obtain ⟨w', hr, hB', hch⟩ := run_storeCells_blk (P := P) vs 0 w cs (o := o + i) hB (by omega) h1
    have hsz : v.cells.size = vs.length := by rw [← hc]; simp
    have hrun : (execOp A.eval ⟨dst, .store t x y, ty, pos, af, gd⟩).run P w = .ok .skip w' := by
      have hr' : (storeCells ⟨b, o + i, none⟩ v.cells.toList).run P w = .ok () w' := by rw [hc]; exact hr
      have hx' : A.eval x = .pointer (some ⟨b, o + i, none⟩) := hA.eval hx
      simp [execOp, hx', hA.eval hy, Instr.storeAt, Instr.sureAddr, storeVar, run_sizeOf' hs, hsz, hr']
    unfold Oper.wp
    rw [hrun]
    refine hK undef w' (Sat.turnT (T := T) (rs := [arr (some ⟨b, o, none⟩) n c s e (setN xs i vs)]) hbel hT hrest (hch.mono (fun k hk => by subst hk; exact hTb)) ?_)
    refine ⟨T, fun k hk => ⟨.inl hk, Nat.lt_of_lt_of_le (hT k hk).2 hch.size⟩,
      ⟨by rw [setN_length]; exact e1, e2, e3, ?_, .inr ⟨b, o, _, rfl, hTb, hB', by rw [setN_length]; exact hcap, by rw [setN_length, Nat.add_zero]; exact setN_take_drop htake ho⟩⟩, trivial⟩
    intro u hu
    obtain ⟨j, hj⟩ := List.getElem?_of_mem hu
    rw [setN_get] at hj
    split at hj
    · exact h1 u (List.mem_of_getElem? hj)
    · exact e4 u (List.mem_of_getElem? hj)
/-! ### bytes and texts -/
def byteV (b : UInt8) : Value := .int .u8 b.toNat
def bytesV (l : List UInt8) : List Value := l.map byteV
def str (l : List UInt8) : ByteArray := ⟨l.toArray⟩
theorem str_data (s : ByteArray) : str s.data.toList = s := by cases s; simp [str]
theorem str_size (l : List UInt8) : (str l).size = l.length := by simp [str, ByteArray.size]
theorem bytesV_one (l : List UInt8) : ∀ u ∈ bytesV l, u.oneCell' = true := fun u hu => by
  obtain ⟨b, _, rfl⟩ := List.mem_map.1 hu; rfl
theorem bytesV_length (l : List UInt8) : (bytesV l).length = l.length := by simp [bytesV]
theorem bytesV_append (a b : List UInt8) : bytesV (a ++ b) = bytesV a ++ bytesV b := by simp [bytesV]
theorem bytesV_get {l : List UInt8} {j : Nat} {c : UInt8} (h : l[j]? = some c) : (bytesV l)[j]? = some (byteV c) := by simp [bytesV, h]
theorem bytesV_drop (l : List UInt8) (n : Nat) : bytesV (l.drop n) = (bytesV l).drop n := by simp [bytesV]
theorem bytesV_take (l : List UInt8) (n : Nat) : bytesV (l.take n) = (bytesV l).take n := by simp [bytesV]
theorem run_loadCells_bytes {w : World} {a : Option Addr} {l : List UInt8} (h : View w a (bytesV l)) {ad : Addr} (ha : a = some ad) : (loadCells ad l.length).run P w = .ok (bytesV l).toArray w := by
  subst ha
  have := run_loadCells_list (P := P) w ad (bytesV l) (View.add h)
  rwa [bytesV_length] at this
theorem run_pushes (P : Program) (w : World) (A : ByteArray → List Value → Sem ByteArray)
    (hnil : ∀ s, A s [] = pure s) (hcons : ∀ (s : ByteArray) (b : UInt8) (l : List Value), A s (byteV b :: l) = A (s.push b) l) (l : List UInt8) :
    ∀ s : ByteArray, (A s (bytesV l)).run P w = .ok (str (s.data.toList ++ l)) w := by
  induction l with
  | nil => intro s; simp [bytesV, hnil, str_data]
  | cons b l ih =>
    intro s
    have := ih (s.push b)
    simp only [bytesV, List.map_cons, hcons] at this ⊢
    rw [this]; simp [ByteArray.push]
theorem run_bytesToString {w : World} {a : Option Addr} {l : List UInt8} {c : Nat} (h : View w a (bytesV l)) (ha : a = none → l = []) :
    (Conv.bytesToString (.slice a l.length c)).run P w = .ok (.string (str l)) w := by
  cases a with
  | none => have : l = [] := ha rfl; subst this; rfl
  | some ad =>
    have h1 := run_loadCells_bytes (P := P) h rfl
    unfold Conv.bytesToString
    simp only [Sem.run_bind, h1, Result.andThen_ok]
    have : ∀ (l : List UInt8) (s : ByteArray), (forIn (bytesV l).toArray s (fun c r => (do
        match c with
        | .int .u8 n => pure (ForInStep.yield (r.push (UInt8.ofNat n.toNat)))
        | _ => stuck "bytesToString: byte expected" : Sem (ForInStep ByteArray)))).run P w = .ok (str (s.data.toList ++ l)) w := by
      intro l
      induction l with
      | nil => intro s; simp [bytesV, str_data]
      | cons b l ih =>
        intro s
        have := ih (s.push b)
        simp only [bytesV, List.map_cons, List.forIn_toArray, List.forIn_cons, Sem.run_bind] at this ⊢
        simp only [byteV, Sem.run_pure, Result.andThen_ok, Int.toNat_natCast, UInt8.ofNat_toNat]
        rw [this]; simp [ByteArray.push]
    have h2 := this l .empty
    simp only [ByteArray.empty, ByteArray.emptyWithCapacity, List.nil_append] at h2
    simp only [Sem.run_pure, Result.andThen_ok] at h2 ⊢
    erw [h2]
    simp [str]
    rfl
theorem yl_string {a : Option Addr} {l : List UInt8} {c n : Nat} {e dt : TypeId} (ht : P.underlying t = some (.slice e)) (he : P.underlying e = some (.int .u8)) (hd : P.underlying dt = some .string)
    (hx : ev L x = some (.slice a n c)) (hn : n = l.length) (hv : View w a (bytesV l)) (ha : a = none → l = []) :
    Yl N P w ⟨dst, .convert t dt x, ty, pos, af, gd⟩ L (.string (str l)) := fun A hA => by
  subst hn
  have := run_bytesToString (P := P) (c := c) hv ha
  simp [execOp, hA.eval hx, convert, run_underlying ht, run_underlying he, run_underlying hd, this]
end
end Go.Proofs.YtpheilpcklfknaaDoor
