/-
  What Go's library has without a body, by the model's own entry. No condition.
-/
import Derived.Test.YtpheilpcklfknaaDoorBText
import Derived.Lib.Bytealg
import Derived.Laws.Externs
namespace Go.Proofs.YtpheilpcklfknaaDoor
open Go Go.RowKit
set_option linter.unusedVariables false
set_option linter.unusedSimpArgs false
section
variable {N : Nat} {P : Program} {L : Slots} {w : World}
variable {x y z : Operand} {v u : Value} {dst : Option Tmp} {ty : TypeId} {pos : String} {af : Array Edge} {gd : Option (Nat × Bool)} {t : TypeId}
theorem yl_ext {F : FuncId} {vs : List Value} {fo : Operand} {as : Array Operand} {ats : Array TypeId} {fn : Func} {e : Array Value → Sem Value} (hf : ev L fo = some (.func (.func F) #[] #[])) (ha : evs L as.toList = some vs)
    (hfn : P.funcs[F]? = some fn) (hx : (fn.name == "runtime.NumGoroutine") = false ∧ fn.body.isNone = true ∧ Extern.findNext fn = none ∧ Extern.find fn = some e) (hc : (e vs.toArray).run P w = .ok v w) :
    Yl N P w ⟨dst, .call { callee := .value fo, args := as, argTypes := ats }, ty, pos, af, gd⟩ L v := fun a ha' => by
  have h1 : as.map a.eval = vs.toArray := by apply Array.ext'; rw [Array.toList_map, ha'.evals ha]
  have h2 := run_callFunc_extern hfn hx.1 hx.2.1 hx.2.2.1 hx.2.2.2 vs.toArray w
  rw [hc] at h2
  simp only [execOp, resolve, h1, ha'.eval hf, Deferred.ofValue, Sem.run_bind, Sem.run_pure, Result.andThen_ok, invoke]
  simpa using h2
theorem run_load_at {w : World} {a : Addr} {v : Value} (h : w.cell? a = some v) : (load a).run P w = .ok v w := by
  simp [h]
theorem run_loadBytes {w : World} {b : Nat} : ∀ (l : List UInt8) (o : Nat) (acc : ByteArray), (∀ j x, l[j]? = some x → w.cell? ⟨b, o + j, none⟩ = some (v8 x)) →
    (Extern.Bytes.loadBytes ⟨b, o, none⟩ l.length acc).run P w = .ok (str (acc.data.toList ++ l)) w
  | [], o, acc, _ => by simp [Extern.Bytes.loadBytes, str_data]
  | x :: l, o, acc, h => by
    have h0 : w.cell? ⟨b, o, none⟩ = some (v8 x) := h 0 x rfl
    have ih := run_loadBytes (w := w) (b := b) l (o + 1) (acc.push x) (fun j y hj => by
      have := h (j + 1) y (by simpa using hj)
      rw [show o + 1 + j = o + (j + 1) by omega]; exact this)
    have hb : (Int.toNat ((x.toNat : Nat) : Int)).toUInt8 = x := by simp
    simp only [List.length_cons, Extern.Bytes.loadBytes, Sem.run_bind, run_load_at h0, Result.andThen_ok, hb, add_lit]
    rw [ih]
    simp [ByteArray.push]
theorem run_bytesOf {a : Option Addr} {l : List UInt8} {n c : Nat} (hn : n = l.length) (hv : View w a (elU8.row l)) : (Extern.Bytes.bytesOf (.slice a n c)).run P w = .ok (str l) w := by
  subst hn
  cases a with
  | none => rw [hv.row_nil (by decide)]; rfl
  | some ad =>
    cases l with
    | nil => simp [Extern.Bytes.bytesOf, Extern.Bytes.loadBytes]; rfl
    | cons x l =>
      obtain ⟨b, o, e⟩ := hv.open (by rw [row_cell]; simp)
      obtain rfl : ad = ⟨b, o, none⟩ := Option.some.inj e
      have := run_loadBytes (P := P) (w := w) (b := b) (x :: l) o .empty (fun j y hj => hv.to_bytes.at_ (bytesV_get hj))
      simpa [Extern.Bytes.bytesOf] using this
theorem yl_cmpB {F : FuncId} {fo s1 s2 : Operand} {ats : Array TypeId} {fn : Func} {a b : Option Addr} {l m : List UInt8} {n1 n2 c1 c2 : Nat} (hf : ev L fo = some (.func (.func F) #[] #[])) (h1 : ev L s1 = some (.slice a n1 c1)) (h2 : ev L s2 = some (.slice b n2 c2))
    (hfn : P.funcs[F]? = some fn) (hx : (fn.name == "runtime.NumGoroutine") = false ∧ fn.body.isNone = true ∧ Extern.findNext fn = none ∧ Extern.find fn = some Extern.BytealgCompare.compare)
    (e1 : n1 = l.length) (e2 : n2 = m.length) (hv1 : View w a (elU8.row l)) (hv2 : View w b (elU8.row m)) :
    Yl N P w ⟨dst, .call { callee := .value fo, args := #[s1, s2], argTypes := ats }, ty, pos, af, gd⟩ L (vI (Lib.compareBytes l m)) :=
  yl_ext (vs := [.slice a n1 c1, .slice b n2 c2]) hf (by simp [evs, h1, h2]) hfn hx (by
    have := Lib.run_compareString (P := P) (str l) (str m) w
    change Sem.run P (do pure (goInt (Extern.BytealgCompare.cmp (← Extern.Bytes.bytesOf (.string (str l))) (← Extern.Bytes.bytesOf (.string (str m)))))) w = _ at this
    simp only [Extern.Bytes.bytesOf, Sem.run_bind, Sem.run_pure, Result.andThen] at this
    change Sem.run P (do pure (goInt (Extern.BytealgCompare.cmp (← Extern.Bytes.bytesOf (.slice a n1 c1)) (← Extern.Bytes.bytesOf (.slice b n2 c2))))) w = _
    simp only [Sem.run_bind, run_bytesOf e1 hv1, run_bytesOf e2 hv2, Sem.run_pure, Result.andThen]
    exact this)
theorem yl_cmpS {F : FuncId} {fo s1 s2 : Operand} {ats : Array TypeId} {fn : Func} {l m : List UInt8} (hf : ev L fo = some (.func (.func F) #[] #[])) (h1 : ev L s1 = some (.string (str l))) (h2 : ev L s2 = some (.string (str m)))
    (hfn : P.funcs[F]? = some fn) (hx : (fn.name == "runtime.NumGoroutine") = false ∧ fn.body.isNone = true ∧ Extern.findNext fn = none ∧ Extern.find fn = some Extern.BytealgCompare.compare) :
    Yl N P w ⟨dst, .call { callee := .value fo, args := #[s1, s2], argTypes := ats }, ty, pos, af, gd⟩ L (vI (Lib.compareBytes l m)) :=
  yl_ext (vs := [.string (str l), .string (str m)]) hf (by simp [evs, h1, h2]) hfn hx (Lib.run_compareString (P := P) (str l) (str m) w)
theorem yl_ixbS {F : FuncId} {fo s1 s2 : Operand} {ats : Array TypeId} {fn : Func} {l : List UInt8} {b : UInt8} (hf : ev L fo = some (.func (.func F) #[] #[])) (h1 : ev L s1 = some (.string (str l))) (h2 : ev L s2 = some (v8 b))
    (hfn : P.funcs[F]? = some fn) (hx : (fn.name == "runtime.NumGoroutine") = false ∧ fn.body.isNone = true ∧ Extern.findNext fn = none ∧ Extern.find fn = some Extern.BytealgIndexByte.indexByte) :
    Yl N P w ⟨dst, .call { callee := .value fo, args := #[s1, s2], argTypes := ats }, ty, pos, af, gd⟩ L (vI (Lib.indexByte l b)) :=
  yl_ext (vs := [.string (str l), v8 b]) hf (by simp [evs, h1, h2]) hfn hx (by
    have := Lib.run_indexByteString (P := P) (str l) (b.toNat : Int) w
    have hb : (Int.toNat ((b.toNat : Nat) : Int)).toUInt8 = b := by simp
    rw [hb] at this
    exact this)
end
end Go.Proofs.YtpheilpcklfknaaDoor
