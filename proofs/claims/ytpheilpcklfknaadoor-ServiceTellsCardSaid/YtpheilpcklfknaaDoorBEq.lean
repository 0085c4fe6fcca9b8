/-
  '==' of structs and arrays whose parts are whole numbers, bools and texts: whether their cells are the same. No condition.
-/
import Derived.Test.YtpheilpcklfknaaDoorBKit
import Derived.DeepKeys
import Derived.Laws.StructEq
namespace Go.Proofs.YtpheilpcklfknaaDoor
open Go Go.RowKit
set_option linter.unusedVariables false
set_option linter.unusedSimpArgs false
/-- The kind of a cell. -/
inductive Leaf where
  | int (k : IntKind)
  | bool
  | str
  deriving DecidableEq
def litOf : Value → Lit
  | .int k n => .int k n
  | .bool b => .bool b
  | .string s => .string s.data.toList
  | _ => .bool false
def Leaf.ok : Leaf → Value → Prop
  | .int k, v => ∃ n, v = .int k n ∧ (Lit.int k n).wf = true
  | .bool, v => ∃ b, v = .bool b
  | .str, v => ∃ s : ByteArray, v = .string s ∧ s.size ≤ maxLen
def Fits : List Leaf → List Value → Prop
  | [], [] => True
  | k :: ks, v :: vs => k.ok v ∧ Fits ks vs
  | _, _ => False
theorem Fits.length : ∀ {ks : List Leaf} {vs : List Value}, Fits ks vs → vs.length = ks.length
  | [], [], _ => rfl
  | _ :: _, _ :: _, h => by simp only [List.length_cons, h.2.length]
  | [], _ :: _, h => h.elim
  | _ :: _, [], h => h.elim
theorem Fits.split : ∀ {ks ls : List Leaf} {vs : List Value}, Fits (ks ++ ls) vs → Fits ks (vs.take ks.length) ∧ Fits ls (vs.drop ks.length)
  | [], ls, vs, h => ⟨by simp [Fits], by simpa using h⟩
  | k :: ks, ls, v :: vs, h => ⟨⟨h.1, h.2.split.1⟩, h.2.split.2⟩
  | k :: ks, ls, [], h => h.elim
theorem Fits.append : ∀ {ks ls : List Leaf} {vs us : List Value}, Fits ks vs → Fits ls us → Fits (ks ++ ls) (vs ++ us)
  | [], ls, [], us, _, h => h
  | k :: ks, ls, v :: vs, us, h, h' => ⟨h.1, h.2.append h'⟩
  | [], _, _ :: _, _, h, _ => h.elim
  | _ :: _, _, [], _, h, _ => h.elim
theorem Fits.inj : ∀ {ks : List Leaf} {vs us : List Value}, Fits ks vs → Fits ks us → vs.map litOf = us.map litOf → vs = us
  | [], [], [], _, _, _ => rfl
  | k :: ks, v :: vs, u :: us, h, h', e => by
    simp only [List.map_cons, List.cons.injEq] at e
    have e2 := h.2.inj h'.2 e.2
    rw [e2]; congr 1
    have e1 := e.1
    have ha := h.1
    have hb := h'.1
    cases k with
    | int k => obtain ⟨n, rfl, _⟩ := ha; obtain ⟨m, rfl, _⟩ := hb; simpa [litOf] using e1
    | bool => obtain ⟨n, rfl⟩ := ha; obtain ⟨m, rfl⟩ := hb; simpa [litOf] using e1
    | str =>
      obtain ⟨n, rfl, _⟩ := ha; obtain ⟨m, rfl, _⟩ := hb
      simp only [litOf, Lit.string.injEq] at e1
      obtain ⟨⟨n⟩⟩ := n; obtain ⟨⟨m⟩⟩ := m
      simp at e1; rw [e1]
  | [], _ :: _, _, h, _, _ => h.elim
  | [], [], _ :: _, _, h, _ => h.elim
  | _ :: _, [], _, h, _, _ => h.elim
  | _ :: _, _ :: _, [], _, h, _ => h.elim
theorem fits_bytes : ∀ (l : List UInt8), Fits (List.replicate l.length (.int .u8)) (bytesV l)
  | [] => trivial
  | b :: l => ⟨⟨(b.toNat : Int), rfl, by
      have := b.toNat_lt
      simp [Lit.wf, IntKind.min, IntKind.max, IntKind.signed, IntKind.bits]; omega⟩, fits_bytes l⟩
theorem fits_span {n : Nat} (f : Fin n → UInt8) : Fits (List.replicate n (.int .u8)) (bytesV (List.ofFn f)) := by
  have := fits_bytes (List.ofFn f)
  rwa [List.length_ofFn] at this
theorem bytesV_inj {a b : List UInt8} (h : bytesV a = bytesV b) : a = b := by
  unfold bytesV at h
  have hinj : Function.Injective byteV := fun x y hxy => by
    simp only [byteV, Value.int.injEq, true_and] at hxy
    exact UInt8.toNat_inj.1 (by omega)
  exact (List.map_inj_right (fun x y hxy => hinj hxy)).1 h
theorem ofFn_inj' {n : Nat} {f g : Fin n → UInt8} : List.ofFn f = List.ofFn g ↔ f = g := ⟨fun h => funext fun i => by
  have h1 : (List.ofFn f)[i.val]? = (List.ofFn g)[i.val]? := by rw [h]
  simpa using h1, fun h => by rw [h]⟩
theorem span_append {n : Nat} {f g : Fin n → UInt8} {a b : List Value} : bytesV (List.ofFn f) ++ a = bytesV (List.ofFn g) ++ b ↔ List.ofFn f = List.ofFn g ∧ a = b := by
  constructor
  · intro h
    have := List.append_inj h (by simp [bytesV_length])
    exact ⟨bytesV_inj this.1, this.2⟩
  · rintro ⟨h, rfl⟩; rw [h]
theorem span_only {n : Nat} {f g : Fin n → UInt8} : bytesV (List.ofFn f) = bytesV (List.ofFn g) ↔ List.ofFn f = List.ofFn g := ⟨bytesV_inj, fun h => by rw [h]⟩
/-- The kinds of a type's cells, in order, where all is laid out as it should be. -/
def laidFields (f : TypeId → Option (List Leaf)) (cells : TypeId → Nat) : Nat → List Field → Option (List Leaf)
  | _, [] => some []
  | o, fd :: fds => if fd.offset = o ∧ (fd.name != "_") = true then match f fd.type with
    | some l => if l.length = cells fd.type then (laidFields f cells (o + l.length) fds).map (l ++ ·) else none
    | none => none
    else none
def leaves (P : Program) : Nat → TypeId → Option (List Leaf)
  | 0, _ => none
  | d + 1, t => match P.underlying t with
    | some (.int q) => some [.int q]
    | some .bool => some [.bool]
    | some .string => some [.str]
    | some (.array n e) => match leaves P d e with
      | some l => if l.length = P.cellsOf e ∧ n * l.length = P.cellsOf t then some (List.replicate n l).flatten else none
      | none => none
    | some (.struct fs) => match laidFields (leaves P d) P.cellsOf 0 fs.toList with
      | some l => if l.length = P.cellsOf t then some l else none
      | none => none
    | _ => none
theorem mapM_lits {α : Type} {g : α → Option (List Lit)} : ∀ {l : List α} {ys : List (List Lit)}, (l.length = ys.length) → (∀ (i : Nat) (x : α) (y : List Lit), l[i]? = some x → ys[i]? = some y → g x = some y) → l.mapM g = some ys
  | [], [], _, _ => rfl
  | x :: l, y :: ys, h, hh => by
    rw [List.mapM_cons, hh 0 x y rfl rfl, mapM_lits (by simpa using h) fun i a b ha hb => hh (i + 1) a b (by simpa using ha) (by simpa using hb)]
    rfl
  | [], _ :: _, h, _ => by simp at h
  | _ :: _, [], h, _ => by simp at h
theorem lits_fields {P : Program} {d : Nat} (ih : ∀ t ks cs, leaves P d t = some ks → Fits ks cs → P.keyLits d t cs = some (cs.map litOf)) (cs : List Value) : ∀ (fs : List Field) (o : Nat) (ks : List Leaf), laidFields (leaves P d) P.cellsOf o fs = some ks →
    Fits ks (cs.drop o) → ∃ xs, fs.mapM (fun f => P.keyLits d f.type ((cs.drop f.offset).take (P.cellsOf f.type))) = some xs ∧ xs.flatten = (cs.drop o).map litOf
  | [], o, ks, h, hf => by
    simp only [laidFields, Option.some.injEq] at h
    subst h
    refine ⟨[], rfl, ?_⟩
    have := hf.length
    rw [List.eq_nil_of_length_eq_zero this]; rfl
  | f :: fs, o, ks, h, hf => by
    unfold laidFields at h
    split at h
    · rename_i hc
      split at h
      · rename_i l hl
        split at h
        · rename_i hlen
          obtain ⟨ks', h', rfl⟩ := Option.map_eq_some_iff.1 h
          obtain ⟨h1, h2⟩ := hf.split
          rw [List.drop_drop] at h2
          obtain ⟨xs, hx, hx2⟩ := lits_fields ih cs fs (o + l.length) ks' h' h2
          have e := ih _ _ _ hl h1
          refine ⟨((cs.drop o).take l.length).map litOf :: xs, ?_, ?_⟩
          · rw [List.mapM_cons, hx, hc.1, ← hlen, e]; rfl
          · rw [List.flatten_cons, hx2, ← List.map_append]
            congr 1
            rw [← List.drop_drop]
            exact List.take_append_drop _ _
        · cases h
      · cases h
    · cases h
theorem laid_names {P : Program} {d : Nat} : ∀ (fs : List Field) (o : Nat) (ks : List Leaf), laidFields (leaves P d) P.cellsOf o fs = some ks → fs.all (·.name != "_") = true
  | [], _, _, _ => rfl
  | f :: fs, o, ks, h => by
    unfold laidFields at h
    split at h
    · rename_i hc
      split at h
      · split at h
        · obtain ⟨ks', h', rfl⟩ := Option.map_eq_some_iff.1 h
          simp only [List.all_cons, Bool.and_eq_true]
          exact ⟨hc.2, laid_names fs _ ks' h'⟩
        · cases h
      · cases h
    · cases h
theorem Fits.item {l : List Leaf} : ∀ {n i : Nat} {cs : List Value}, Fits (List.replicate n l).flatten cs → i < n → Fits l ((cs.drop (i * l.length)).take l.length)
  | 0, i, cs, _, h => by omega
  | n + 1, 0, cs, hf, _ => by
    rw [List.replicate_succ, List.flatten_cons] at hf
    simpa using hf.split.1
  | n + 1, i + 1, cs, hf, h => by
    rw [List.replicate_succ, List.flatten_cons] at hf
    have := Fits.item (i := i) hf.split.2 (by omega)
    rw [List.drop_drop] at this
    rw [show (i + 1) * l.length = l.length + i * l.length by rw [Nat.succ_mul]; omega]
    exact this
theorem parts_flatten {α β : Type} (g : α → β) : ∀ (n m : Nat) (cs : List α), cs.length = n * m → (((List.range n).map fun i => ((cs.drop (i * m)).take m).map g)).flatten = cs.map g
  | 0, m, cs, h => by
    have : cs = [] := List.eq_nil_of_length_eq_zero (by simpa using h)
    subst this; rfl
  | n + 1, m, cs, h => by
    rw [List.range_succ_eq_map, List.map_cons, List.flatten_cons, List.map_map]
    have := parts_flatten g n m (cs.drop m) (by rw [List.length_drop, h, Nat.succ_mul]; omega)
    have e : ((List.range n).map ((fun i => ((cs.drop (i * m)).take m).map g) ∘ Nat.succ)) = (List.range n).map fun i => (((cs.drop m).drop (i * m)).take m).map g := by
      refine List.map_congr_left fun i _ => ?_
      simp only [Function.comp, List.drop_drop]
      rw [show i.succ * m = m + i * m by rw [Nat.succ_mul]; omega]
    rw [e, this, Nat.zero_mul, List.drop_zero, ← List.map_append, List.take_append_drop]
theorem lits_fit {P : Program} : ∀ (d : Nat) (t : TypeId) (ks : List Leaf) (cs : List Value), leaves P d t = some ks → Fits ks cs → P.keyLits d t cs = some (cs.map litOf)
  | 0, t, ks, cs, h, _ => by cases h
  | d + 1, t, ks, cs, h, hf => by
    have ih := lits_fit (P := P) d
    unfold leaves at h
    unfold Program.keyLits
    cases hu : P.underlying t with
    | none => rw [hu] at h; cases h
    | some u =>
      rw [hu] at h
      cases u with
      | int q =>
        simp only [Option.some.injEq] at h; subst h
        match cs, hf with
        | [v], hf =>
          obtain ⟨n, rfl, hw⟩ := hf.1
          simp [hw, litOf]
      | bool =>
        simp only [Option.some.injEq] at h; subst h
        match cs, hf with
        | [v], hf => obtain ⟨n, rfl⟩ := hf.1; simp [litOf]
      | string =>
        simp only [Option.some.injEq] at h; subst h
        match cs, hf with
        | [v], hf => obtain ⟨n, rfl, hw⟩ := hf.1; simp [hw, litOf]
      | array n e =>
        simp only at h
        cases hl : leaves P d e with
        | none => rw [hl] at h; cases h
        | some l =>
          rw [hl] at h
          simp only at h
          split at h
          · rename_i hc
            simp only [Option.some.injEq] at h
            subst h
            have hlen : cs.length = P.cellsOf t := by rw [hf.length, ← hc.2]; simp
            simp only [hlen, if_true]
            rw [mapM_lits (ys := (List.range n).map fun i => ((cs.drop (i * P.cellsOf e)).take (P.cellsOf e)).map litOf) (by simp) ?_]
            · simp only [Option.map_some, Option.some.injEq]
              exact parts_flatten litOf n _ cs (by rw [hlen, ← hc.2, ← hc.1])
            · intro i x y hx hy
              have hi : i < n := by have := (List.getElem?_eq_some_iff.1 hx).1; simpa using this
              rw [List.getElem?_range hi] at hx
              simp only [Option.some.injEq] at hx
              subst hx
              rw [List.getElem?_map, List.getElem?_range hi] at hy
              simp only [Option.map_some, Option.some.injEq] at hy
              subst hy
              have := hf.item hi
              rw [hc.1] at this
              exact ih _ _ _ hl this
          · cases h
      | struct fs =>
        simp only at h
        cases hl : laidFields (leaves P d) P.cellsOf 0 fs.toList with
        | none => rw [hl] at h; cases h
        | some l =>
          rw [hl] at h
          simp only at h
          split at h
          · rename_i hc
            simp only [Option.some.injEq] at h
            subst h
            obtain ⟨xs, hx, hx2⟩ := lits_fields ih cs fs.toList 0 l hl (by simpa using hf)
            have hn := laid_names fs.toList 0 l hl
            simp only [hf.length.trans hc, true_and]
            rw [if_pos (by rw [← Array.all_toList]; exact hn), hx]
            simpa using hx2
          · cases h
      | _ => cases h
section
variable {N : Nat} {P : Program} {L : Slots} {w : World} {dst : Option Tmp} {t : TypeId} {x y : Operand} {ty : TypeId} {pos : String} {gd : Option (Nat × Bool)}
theorem run_equal_agg {t : TypeId} {ks : List Leaf} {vs us : List Value} {r : Bool} (hr : r = true ↔ vs = us) (hk : P.keyTypeAt 8 t = true) (hl : leaves P 9 t = some ks) (hn : P.cellsOf t = ks.length) (hg : (match P.underlying t with | some (.struct _) | some (.array _ _) => true | _ => false) = true) (hv : Fits ks vs) (hu : Fits ks us) :
    (Op.equalIn 10000 t (.agg vs.toArray) (.agg us.toArray)).run P w = .ok r w := by
  have formed : ∀ zs, Fits ks zs → (Value.agg zs.toArray).formed P t = true := fun zs hz => by
    unfold Value.formed
    have hz' : zs.toArray.size = P.cellsOf t := by rw [hn]; simpa using hz.length
    cases hu : P.underlying t with
    | none => rw [hu] at hg; cases hg
    | some u => rw [hu] at hg; cases u <;> simp_all
  obtain ⟨q, hq, hiff⟩ := run_equalIn_deep (P := P) 9992 8 t hk w 9 9 _ _ _ _ (formed vs hv) (formed us hu) (by simpa [Value.cells] using lits_fit 9 t ks vs hl hv) (by simpa [Value.cells] using lits_fit 9 t ks us hl hu)
  rw [hq]
  congr 1
  have : (q = true) ↔ (r = true) := (hiff.trans ⟨hv.inj hu, fun e => by rw [e]⟩).trans hr.symm
  cases q <;> cases r <;> simp_all
theorem yl_eq_agg {ks : List Leaf} {vs us : List Value} {r : Bool} {yt : TypeId} {af : Array Edge} (hx : ev L x = some (.agg vs.toArray)) (hy : ev L y = some (.agg us.toArray)) (hr : r = true ↔ vs = us) (hgt : P.eqGuardType P.depth t = false) (hk : P.keyTypeAt 8 t = true) (hl : leaves P 9 t = some ks) (hn : P.cellsOf t = ks.length)
    (hg : (match P.underlying t with | some (.struct _) | some (.array _ _) => true | _ => false) = true) (hv : Fits ks vs) (hu : Fits ks us) :
    Yl N P w ⟨dst, .binOp .eql t x y yt, ty, pos, af, gd⟩ L (.bool r) := fun c hc => by
  simp [execOp, hc.eval hx, hc.eval hy, run_eqGuard_agg w .eql t x y _ _ hgt, run_eql_struct, run_equal_agg (w := w) hr hk hl hn hg hv hu]
theorem yl_ne_agg {ks : List Leaf} {vs us : List Value} {r : Bool} {yt : TypeId} {af : Array Edge} (hx : ev L x = some (.agg vs.toArray)) (hy : ev L y = some (.agg us.toArray)) (hr : r = true ↔ vs = us) (hgt : P.eqGuardType P.depth t = false) (hk : P.keyTypeAt 8 t = true) (hl : leaves P 9 t = some ks) (hn : P.cellsOf t = ks.length)
    (hg : (match P.underlying t with | some (.struct _) | some (.array _ _) => true | _ => false) = true) (hv : Fits ks vs) (hu : Fits ks us) :
    Yl N P w ⟨dst, .binOp .neq t x y yt, ty, pos, af, gd⟩ L (.bool (!r)) := fun c hc => by
  simp [execOp, hc.eval hx, hc.eval hy, run_eqGuard_agg w .neq t x y _ _ hgt, run_neq_struct, run_equal_agg (w := w) hr hk hl hn hg hv hu]
end
end Go.Proofs.YtpheilpcklfknaaDoor
