/-
  The library's contracts that the program's functions lean on, laid at the program. No condition.
-/
import Derived.Shelf.Lay
import Derived.Shelf.LaySoft
import Derived.Shelf.Strings.OnBuilder
import Derived.Test.YtaaahjcldomnbaaProg
import Derived.Test.YtaaahjcldomnbaaBExt
namespace Go.Proofs
open Go.Shelf
shelf_lay Lays.n156 Nm 156 at Try as Try.lays156
theorem Try.Builder_Extra_156 : Builder.Extra Try.prog Try.lays156_ren where
  sizeBuilder := by kernel_rfl
  liesBuilder := by kernel_rfl
  t5 := Try.underlying5
  a5 := Try.isAgg5
  z5 := Try.sizeOf5
  v5 := Try.zeroValue5
  infoByte := by kernel_rfl
  cellsByte := by kernel_rfl
  sizeByte := by kernel_rfl
  neB5 := by decide
theorem Try.join (bk o c : Nat) (xs : List ByteArray) (sep : ByteArray) (w : World) (hcells : ∀ (j : Nat) x, xs[j]? = some x → w.cell? ⟨bk, o + j, none⟩ = some (.string x)) (hbk : bk < w.heap.size) (hN : xs.length ≤ 140737488355328) (hcap : xs.length ≤ c)
    (hlen : (Lib.join (xs.map (·.data.toList)) sep.data.toList).length ≤ 140737488355328) :
    Calls Try.prog (Try.lays156_ren.f 156) #[.slice (some ⟨bk, o, none⟩) xs.length c, .string sep] w fun e w' => e = .returned (.string ⟨(Lib.join (xs.map (·.data.toList)) sep.data.toList).toArray⟩) ∧ Go.RowKit.Below w.heap.size w w' :=
  Any.strings_Join Try.lays156 Try.Builder_Extra_156 bk o c xs sep w hcells hbk hN hcap hlen
theorem Try.join_none (a : Option Addr) (c : Nat) (sep : ByteArray) (w : World) : Calls Try.prog (Try.lays156_ren.f 156) #[.slice a 0 c, .string sep] w fun e w' => e = .returned (.string ⟨#[]⟩) ∧ w' = w :=
  Any.strings_Join_none Try.lays156 Try.Builder_Extra_156 a c sep w
end Go.Proofs
namespace Go.Proofs.Ytaaahjcldomnbaa
open Go Go.RowKit
theorem ch_of_below {w w' : World} (h : Below w.heap.size w w') : Ch w w' (fun _ => False) := ⟨h.os, h.tape, h.output, h.size, fun b hb _ => h.block b hb⟩
/-- strings.Join of a row of texts. -/
theorem join_w {W : Base} {w : World} {R : List Res} {a : Option Addr} {c : Nat} {l : List (List UInt8)} {sep : List UInt8} (h : Sat W w R) (hv : View w a (elStr.row l)) (hq : l.length ≤ c) (hN : l.length ≤ 140737488355328)
    (hlen : (Lib.join l sep).length ≤ 140737488355328) :
    Calls Try.prog (Try.lays156_ren.f 156) #[.slice a l.length c, .string (str sep)] w (Ret fun v w' => v = .string (str (Lib.join l sep)) ∧ Sat W w' R) := by
  cases hl : l with
  | nil =>
    refine (Try.join_none a c (str sep) w).mono ?_
    rintro e w' ⟨rfl, rfl⟩
    exact ⟨rfl, h⟩
  | cons x l' =>
    rw [← hl]
    have hrow : elStr.row l = (l.map fun s => Value.string (str s)) := by
      clear hv hq hN hlen hl
      induction l with
      | nil => rfl
      | cons s l ih => simp only [El.row, List.flatMap_cons, List.map_cons] at ih ⊢; rw [ih]; rfl
    obtain ⟨b, o, rfl⟩ := hv.open (by rw [hrow, List.length_map, hl]; simp)
    have hm : (l.map str).map (fun x => x.data.toList) = l := by rw [List.map_map]; exact List.map_id'' (fun s => by simp [str]) l
    have hb : b < w.heap.size := by
      have h0 : (elStr.row l)[0]? = some (.string (str x)) := by rw [hrow, hl]; rfl
      exact (cells_of_cell (hv.at_ h0)).elim fun ob h1 => (Array.getElem?_eq_some_iff.1 h1.1).1
    have hs : (str sep).data.toList = sep := by simp [str]
    have h1 := Try.join b o c (l.map str) (str sep) w (fun j y hj => by
      rw [List.getElem?_map] at hj
      obtain ⟨z, hz, rfl⟩ := Option.map_eq_some_iff.1 hj
      exact hv.at_ (by rw [hrow, List.getElem?_map, hz]; rfl)) hb (by rw [List.length_map]; exact hN) (by rw [List.length_map]; exact hq) (by rw [hm, hs]; exact hlen)
    rw [List.length_map] at h1
    refine h1.mono ?_
    rintro e w' ⟨rfl, hw⟩
    refine ⟨?_, h.same (ch_of_below hw)⟩
    rw [hm, hs]; rfl
end Go.Proofs.Ytaaahjcldomnbaa
