/-
  'copy' into a block that is owned; a slice of an array. No condition.
-/
import Derived.Test.YtpheilpcklfknaaDoorBEq
import Derived.Test.YtpheilpcklfknaaDoorBRet
import Derived.Laws.Append
namespace Go.Proofs.YtpheilpcklfknaaDoor
open Go Go.RowKit
set_option linter.unusedVariables false
set_option linter.unusedSimpArgs false
section
variable {N : Nat} {P : Program} {L : Slots} {W : Base} {w : World} {R : List Res} {x y z : Operand} {dst : Option Tmp} {ty : TypeId} {pos : String} {af : Array Edge} {gd : Option (Nat × Bool)} {t t2 : TypeId}
theorem run_first {s r m c2 : Nat} {a2 : Option Addr} {ys : List Value} (hv : View w a2 ys) (hl : r * s ≤ ys.length) (ha2 : a2 = none → r = 0) :
    (Builtin.firstCells s r (.slice a2 m c2)).run P w = .ok (ys.take (r * s)).toArray w := by
  cases a2 with
  | none =>
    have : r = 0 := ha2 rfl
    subst this
    simp [Builtin.firstCells]
  | some ad =>
    exact run_firstCells_some (P := P) w s r ad m c2 (ys.take (r * s)) (by rw [List.length_take]; omega) (View.add (View.take hv _))
theorem does_copyBlk {e e' : TypeId} {s b o n c r : Nat} {cs ys : List Value} {a2 : Option Addr} {m c2 : Nat} (h : Sat W w (blk b cs e' :: R)) (ht : P.underlying t = some (.slice e)) (hs : szOf P e = some s)
    (hx : ev L x = some (.slice (some ⟨b, o, none⟩) n c)) (hy : ev L y = some (.slice a2 m c2)) (hv : View w a2 ys) (hl : ys.length = m * s) (h1 : ∀ u ∈ ys, u.oneCell' = true) (ha2 : a2 = none → m = 0) (hr : min m n = r) (ho : o + r * s ≤ cs.length) :
    Does N P w ⟨dst, .call { callee := .builtin .copy, args := #[x, y], argTypes := #[t, t2] }, ty, pos, af, gd⟩ L (fun v w' => v = .int .i64 (r : Int) ∧ Sat W w' (blk b (setN cs o (ys.take (r * s))) e' :: R)) := fun A hA K Q hK => by
  have hle : r * s ≤ ys.length := by rw [hl]; exact Nat.mul_le_mul_right _ (by omega)
  have hf := run_first (P := P) (s := s) (r := r) (m := m) (c2 := c2) hv hle (fun e => by have := ha2 e; omega)
  obtain ⟨w', hst, hb, hch⟩ := run_storeCells_blk (P := P) (ys.take (r * s)) 0 w cs (o := o) h.isBlk (by rw [List.length_take]; omega) (fun u hu => h1 u (List.mem_of_mem_take hu))
  have hrun : (Builtin.copy_ #[t, t2] ty #[.slice (some ⟨b, o, none⟩) n c, .slice a2 m c2]).run P w = .ok (.int .i64 (r : Int)) w' := by
    have hr' : Nat.min m n = r := hr
    simp only [Builtin.copy_, Sem.run_bind, run_underlying ht, run_sizeOf' hs, Builtin.lenOf, Sem.run_pure, Result.andThen_ok, hr', hf]
    simp [hst, hr', goInt, hf, run_underlying ht, run_sizeOf' hs, Builtin.lenOf]
  have hrun2 : (execOp A.eval ⟨dst, .call { callee := .builtin .copy, args := #[x, y], argTypes := #[t, t2] }, ty, pos, af, gd⟩).run P w = .ok (.value (.int .i64 (r : Int))) w' := by
    simp [execOp, resolve, invoke, builtin, hA.eval hx, hA.eval hy, hrun]
  unfold Oper.wp
  rw [hrun2]
  exact hK _ _ ⟨rfl, h.blk_set hch (by simpa using hb)⟩
theorem setN_mid : ∀ (vs old p r : List Value), old.length = vs.length → setN (p ++ (old ++ r)) p.length vs = p ++ (vs ++ r)
  | [], old, p, r, h => by rw [List.eq_nil_of_length_eq_zero h]; rfl
  | v :: vs, [], p, r, h => by cases h
  | v :: vs, u :: old, p, r, h => by
    have := setN_mid vs old (p ++ [v]) r (by simpa using h)
    simp only [List.append_assoc, List.length_append, List.length_singleton, List.singleton_append] at this
    simp only [setN, List.cons_append]
    rw [List.set_append_right _ _ (Nat.le_refl _), Nat.sub_self, List.set_cons_zero]
    exact this
theorem setN_head (vs old r : List Value) (h : old.length = vs.length) : setN (old ++ r) 0 vs = vs ++ r := setN_mid vs old [] r h
theorem setN_all (cs vs : List Value) (h : cs.length = vs.length) : setN cs 0 vs = vs := by
  have := setN_head vs cs [] h
  simpa using this
theorem Blk.view0 {b : Nat} {cs : List Value} {e : TypeId} (h : Blk w b cs e) : View w (some ⟨b, 0, none⟩) cs := h.view 0
theorem View.span_head {a : Option Addr} {k : Nat} {f : Fin k → UInt8} {r : List Value} (h : View w a (bytesV (List.ofFn f) ++ r)) : View w a (bytesV (List.ofFn f)) := by
  have := h.take k
  rwa [List.take_append_of_le_length (by simp [bytesV_length]), List.take_of_length_le (by simp [bytesV_length])] at this
theorem View.span_tail {b o k : Nat} {f : Fin k → UInt8} {r : List Value} (h : View w (some ⟨b, o, none⟩) (bytesV (List.ofFn f) ++ r)) : View w (some ⟨b, o + k, none⟩) r := by
  have := h.drop k
  rwa [List.drop_append_of_le_length (by simp [bytesV_length]), List.drop_of_length_le (by simp [bytesV_length]), List.nil_append] at this
theorem View.ones_head {a : Option Addr} {l r : List Value} (h : View w a (l ++ r)) : View w a l := by
  have := h.take l.length
  rwa [List.take_left] at this
theorem View.ones_tail {b o : Nat} {l r : List Value} (h : View w (some ⟨b, o, none⟩) (l ++ r)) : View w (some ⟨b, o + l.length, none⟩) r := by
  have := h.drop l.length
  rwa [List.drop_left] at this
/-- A slice of an array, whole, from its head, or from a place on. -/
theorem yl_slice_arr {ad : Addr} {n : Nat} {v : Value} {lo hi : Option Operand} {l h s : Nat} (ht : P.underlying t = some (.array n (P.elem t))) (hn : P.arrayLen t = n) (hs : szOf P (P.elem t) = some s) (hx : ev L x = some (.pointer (some ad)))
    (hlo : match lo with | none => l = 0 | some y => ev L y = some (.int .i64 (l : Int))) (hhi : match hi with | none => h = n | some y => ev L y = some (.int .i64 (h : Int))) (h1 : l ≤ h) (h2 : h ≤ n) (hv : .slice (some (if n = l then ad else ad.add (l * s))) (h - l) (n - l) = v) :
    Yl N P w ⟨dst, .slice t x lo hi none, ty, pos, af, gd⟩ L v := fun a ha => by
  subst hv
  have ht' : P.underlying t = some (.array (P.arrayLen t) (P.elem t)) := by rw [hn]; exact ht
  cases lo with
  | none =>
    have hl0 : l = 0 := hlo
    subst hl0
    cases hi with
    | none =>
      have hh : h = n := hhi
      subst hh
      simp [execOp, ha.eval hx, run_sliceAt_array_all w t ad ht', run_sizeOf' hs, slicedAt, hn]
    | some y =>
      have := run_sliceAt_array_h w t ad ht' .i64 (h : Int) (by omega) (by omega)
      simp [execOp, ha.eval hx, ha.eval hhi, this, run_sizeOf' hs, slicedAt, hn]
  | some y =>
    cases hi with
    | none =>
      have hh : h = n := hhi
      subst hh
      have := run_sliceAt_array_l w t ad ht' .i64 (l : Int) (by omega) (by omega)
      simp [execOp, ha.eval hx, ha.eval hlo, this, run_sizeOf' hs, slicedAt, hn]
    | some z =>
      have := run_sliceAt_array_lh w t ad ht' .i64 .i64 (l : Int) (h : Int) (by omega) (by omega) (by omega)
      simp [execOp, ha.eval hx, ha.eval hlo, ha.eval hhi, this, run_sizeOf' hs, slicedAt, hn]
end
end Go.Proofs.YtpheilpcklfknaaDoor
