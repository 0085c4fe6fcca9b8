/-
  The library's contracts that the program's functions lean on, laid at the program. No condition.
-/
import Derived.Shelf.Strings.OnBuilder
import Derived.Test.YtlkilokdbkjbmaaDoorProg
import Derived.Test.YtlkilokdbkjbmaaDoorBExt
namespace Go.Proofs
open Go.Shelf
def Tryd.lays156_ren : Go.Shelf.Ren := ⟨fun | 156 => 16 | 165 => 22 | 166 => 23 | 169 => 24 | 240 => 33 | 241 => 34 | 276 => 41 | 277 => 42 | n => n, fun | 31 => 35 | 9 => 9 | 3 => 3 | 4 => 4 | 0 => 0 | 20 => 20 | 72 => 47 | 76 => 51 | 70 => 45 | 37 => 44 | 75 => 50 | 127 => 59 | 164 => 64 | 5 => 5 | 80 => 53 | n => n, fun | n => n⟩
theorem Tryd.lays156 : Go.Proofs.Lays.n156 Tryd.prog Tryd.lays156_ren := {
  mixed := by kernel_rfl
  f156 := Tryd.func16.trans (congrArg some (by kernel_rfl))
  f165 := Tryd.func22.trans (congrArg some (by kernel_rfl))
  f166 := Tryd.func23.trans (congrArg some (by kernel_rfl))
  f169 := Tryd.func24.trans (congrArg some (by kernel_rfl))
  f240 := Tryd.func33.trans (congrArg some (by kernel_rfl))
  f241 := Tryd.func34.trans (congrArg some (by kernel_rfl))
  f276 := Tryd.func41.trans (congrArg some (by kernel_rfl))
  f277 := Tryd.func42.trans (congrArg some (by kernel_rfl))
  t0 := Tryd.underlying0
  a0 := Tryd.isAgg0
  z0 := Tryd.sizeOf0
  v0 := Tryd.zeroValue0
  t3 := Tryd.underlying3
  a3 := Tryd.isAgg3
  z3 := Tryd.sizeOf3
  v3 := Tryd.zeroValue3
  t4 := Tryd.underlying4
  a4 := Tryd.isAgg4
  z4 := Tryd.sizeOf4
  v4 := Tryd.zeroValue4
  t9 := Tryd.underlying9
  a9 := Tryd.isAgg9
  z9 := Tryd.sizeOf9
  v9 := Tryd.zeroValue9
  t20 := Tryd.underlying20
  a20 := Tryd.isAgg20
  z20 := Tryd.sizeOf20
  v20 := Tryd.zeroValue20
  t31 := Tryd.underlying35
  a31 := Tryd.isAgg35
  z31 := Tryd.sizeOf35
  v31 := Tryd.zeroValue35
  t37 := Tryd.underlying44
  a37 := Tryd.isAgg44
  z37 := Tryd.sizeOf44
  v37 := Tryd.zeroValue44
  t70 := Tryd.underlying45
  a70 := Tryd.isAgg45
  z70 := Tryd.sizeOf45
  v70 := Tryd.zeroValue45
  t72 := Tryd.underlying47
  a72 := Tryd.isAgg47
  z72 := Tryd.sizeOf47
  v72 := Tryd.zeroValue47
  t75 := Tryd.underlying50
  a75 := Tryd.isAgg50
  z75 := Tryd.sizeOf50
  v75 := Tryd.zeroValue50
  t76 := Tryd.underlying51
  a76 := Tryd.isAgg51
  z76 := Tryd.sizeOf51
  v76 := Tryd.zeroValue51
  t127 := Tryd.underlying59
  a127 := Tryd.isAgg59
  z127 := Tryd.sizeOf59
  v127 := Tryd.zeroValue59
  t164 := Tryd.underlying64
  a164 := Tryd.isAgg64
  z164 := Tryd.sizeOf64
  v164 := Tryd.zeroValue64 }
theorem Tryd.Builder_Extra_156 : Builder.Extra Tryd.prog Tryd.lays156_ren := {
  sizeBuilder := by kernel_rfl
  liesBuilder := by kernel_rfl
  t5 := Tryd.underlying5
  a5 := Tryd.isAgg5
  z5 := Tryd.sizeOf5
  v5 := Tryd.zeroValue5
  infoByte := by kernel_rfl
  cellsByte := by kernel_rfl
  sizeByte := by kernel_rfl
  neB5 := by decide }
theorem Tryd.join (bk o c : Nat) (xs : List ByteArray) (sep : ByteArray) (w : World) (hcells : ∀ (j : Nat) x, xs[j]? = some x → w.cell? ⟨bk, o + j, none⟩ = some (.string x)) (hbk : bk < w.heap.size) (hN : xs.length ≤ 140737488355328) (hcap : xs.length ≤ c)
    (hlen : (Lib.join (xs.map (·.data.toList)) sep.data.toList).length ≤ 140737488355328) :
    Calls Tryd.prog (Tryd.lays156_ren.f 156) #[.slice (some ⟨bk, o, none⟩) xs.length c, .string sep] w fun e w' => e = .returned (.string ⟨(Lib.join (xs.map (·.data.toList)) sep.data.toList).toArray⟩) ∧ Go.RowKit.Below w.heap.size w w' :=
  Any.strings_Join Tryd.lays156 Tryd.Builder_Extra_156 bk o c xs sep w hcells hbk hN hcap hlen
theorem Tryd.join_none (a : Option Addr) (c : Nat) (sep : ByteArray) (w : World) : Calls Tryd.prog (Tryd.lays156_ren.f 156) #[.slice a 0 c, .string sep] w fun e w' => e = .returned (.string ⟨#[]⟩) ∧ w' = w :=
  Any.strings_Join_none Tryd.lays156 Tryd.Builder_Extra_156 a c sep w
end Go.Proofs
namespace Go.Proofs.YtlkilokdbkjbmaaDoor
open Go Go.RowKit
theorem ch_of_below {w w' : World} (h : Below w.heap.size w w') : Ch w w' (fun _ => False) := ⟨h.os, h.tape, h.output, h.size, fun b hb _ => h.block b hb⟩
/-- strings.Join of a row of texts. -/
theorem join_w {W : Base} {w : World} {R : List Res} {a : Option Addr} {c : Nat} {l : List (List UInt8)} {sep : List UInt8} (h : Sat W w R) (hv : View w a (elStr.row l)) (hq : l.length ≤ c) (hN : l.length ≤ 140737488355328)
    (hlen : (Lib.join l sep).length ≤ 140737488355328) :
    Calls Tryd.prog (Tryd.lays156_ren.f 156) #[.slice a l.length c, .string (str sep)] w (Ret fun v w' => v = .string (str (Lib.join l sep)) ∧ Sat W w' R) := by
  cases hl : l with
  | nil =>
    refine (Tryd.join_none a c (str sep) w).mono ?_
    rintro e w' ⟨rfl, rfl⟩
    exact ⟨rfl, h⟩
  | cons x l' =>
    rw [← hl]
    have hrow : elStr.row l = (l.map fun s => Value.string (str s)) := by
      clear hv hq hN hlen hl
      induction l with
      | nil => rfl
      | cons s l ih => simp only [El.row, List.flatMap_cons, List.map_cons] at ih ⊢; rw [ih]; rfl
    obtain ⟨b, o, rfl⟩ := hv.open (by rw [hrow, List.length_map, hl]; simp)
    have hm : (l.map str).map (fun x => x.data.toList) = l := by rw [List.map_map]; exact List.map_id'' (fun s => by simp [str]) l
    have hb : b < w.heap.size := by
      have h0 : (elStr.row l)[0]? = some (.string (str x)) := by rw [hrow, hl]; rfl
      exact (cells_of_cell (hv.at_ h0)).elim fun ob h1 => (Array.getElem?_eq_some_iff.1 h1.1).1
    have hs : (str sep).data.toList = sep := by simp [str]
    have h1 := Tryd.join b o c (l.map str) (str sep) w (fun j y hj => by
      rw [List.getElem?_map] at hj
      obtain ⟨z, hz, rfl⟩ := Option.map_eq_some_iff.1 hj
      exact hv.at_ (by rw [hrow, List.getElem?_map, hz]; rfl)) hb (by rw [List.length_map]; exact hN) (by rw [List.length_map]; exact hq) (by rw [hm, hs]; exact hlen)
    rw [List.length_map] at h1
    refine h1.mono ?_
    rintro e w' ⟨rfl, hw⟩
    refine ⟨?_, h.same (ch_of_below hw)⟩
    rw [hm, hs]; rfl
end Go.Proofs.YtlkilokdbkjbmaaDoor
