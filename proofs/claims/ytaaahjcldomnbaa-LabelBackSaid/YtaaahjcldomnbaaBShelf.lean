/-
  The library's contracts that the program's functions lean on, laid at the program. No condition.
-/
import Derived.Shelf.Strings.OnBuilder
import Derived.Test.YtaaahjcldomnbaaProg
import Derived.Test.YtaaahjcldomnbaaBExt
namespace Go.Proofs
open Go.Shelf
def Try.lays156_ren : Go.Shelf.Ren := ⟨fun | 156 => 89 | 165 => 115 | 166 => 116 | 169 => 117 | 240 => 126 | 241 => 127 | 276 => 135 | 277 => 136 | n => n, fun | 31 => 133 | 9 => 9 | 3 => 3 | 4 => 4 | 0 => 0 | 20 => 20 | 72 => 161 | 76 => 165 | 70 => 159 | 37 => 22 | 75 => 164 | 127 => 173 | 164 => 180 | 5 => 5 | 80 => 167 | n => n, fun | n => n⟩
theorem Try.lays156 : Go.Proofs.Lays.n156 Try.prog Try.lays156_ren := {
  mixed := by kernel_rfl
  f156 := Try.func89.trans (congrArg some (by kernel_rfl))
  f165 := Try.func115.trans (congrArg some (by kernel_rfl))
  f166 := Try.func116.trans (congrArg some (by kernel_rfl))
  f169 := Try.func117.trans (congrArg some (by kernel_rfl))
  f240 := Try.func126.trans (congrArg some (by kernel_rfl))
  f241 := Try.func127.trans (congrArg some (by kernel_rfl))
  f276 := Try.func135.trans (congrArg some (by kernel_rfl))
  f277 := Try.func136.trans (congrArg some (by kernel_rfl))
  t0 := Try.underlying0
  a0 := Try.isAgg0
  z0 := Try.sizeOf0
  v0 := Try.zeroValue0
  t3 := Try.underlying3
  a3 := Try.isAgg3
  z3 := Try.sizeOf3
  v3 := Try.zeroValue3
  t4 := Try.underlying4
  a4 := Try.isAgg4
  z4 := Try.sizeOf4
  v4 := Try.zeroValue4
  t9 := Try.underlying9
  a9 := Try.isAgg9
  z9 := Try.sizeOf9
  v9 := Try.zeroValue9
  t20 := Try.underlying20
  a20 := Try.isAgg20
  z20 := Try.sizeOf20
  v20 := Try.zeroValue20
  t31 := Try.underlying133
  a31 := Try.isAgg133
  z31 := Try.sizeOf133
  v31 := Try.zeroValue133
  t37 := Try.underlying22
  a37 := Try.isAgg22
  z37 := Try.sizeOf22
  v37 := Try.zeroValue22
  t70 := Try.underlying159
  a70 := Try.isAgg159
  z70 := Try.sizeOf159
  v70 := Try.zeroValue159
  t72 := Try.underlying161
  a72 := Try.isAgg161
  z72 := Try.sizeOf161
  v72 := Try.zeroValue161
  t75 := Try.underlying164
  a75 := Try.isAgg164
  z75 := Try.sizeOf164
  v75 := Try.zeroValue164
  t76 := Try.underlying165
  a76 := Try.isAgg165
  z76 := Try.sizeOf165
  v76 := Try.zeroValue165
  t127 := Try.underlying173
  a127 := Try.isAgg173
  z127 := Try.sizeOf173
  v127 := Try.zeroValue173
  t164 := Try.underlying180
  a164 := Try.isAgg180
  z164 := Try.sizeOf180
  v164 := Try.zeroValue180 }
theorem Try.Builder_Extra_156 : Builder.Extra Try.prog Try.lays156_ren := {
  sizeBuilder := by kernel_rfl
  liesBuilder := by kernel_rfl
  t5 := Try.underlying5
  a5 := Try.isAgg5
  z5 := Try.sizeOf5
  v5 := Try.zeroValue5
  infoByte := by kernel_rfl
  cellsByte := by kernel_rfl
  sizeByte := by kernel_rfl
  neB5 := by decide }
theorem Try.join (bk o c : Nat) (xs : List ByteArray) (sep : ByteArray) (w : World) (hcells : ∀ (j : Nat) x, xs[j]? = some x → w.cell? ⟨bk, o + j, none⟩ = some (.string x)) (hbk : bk < w.heap.size) (hN : xs.length ≤ 140737488355328) (hcap : xs.length ≤ c)
    (hlen : (Lib.join (xs.map (·.data.toList)) sep.data.toList).length ≤ 140737488355328) :
    Calls Try.prog (Try.lays156_ren.f 156) #[.slice (some ⟨bk, o, none⟩) xs.length c, .string sep] w fun e w' => e = .returned (.string ⟨(Lib.join (xs.map (·.data.toList)) sep.data.toList).toArray⟩) ∧ Go.RowKit.Below w.heap.size w w' :=
  Any.strings_Join Try.lays156 Try.Builder_Extra_156 bk o c xs sep w hcells hbk hN hcap hlen
theorem Try.join_none (a : Option Addr) (c : Nat) (sep : ByteArray) (w : World) : Calls Try.prog (Try.lays156_ren.f 156) #[.slice a 0 c, .string sep] w fun e w' => e = .returned (.string ⟨#[]⟩) ∧ w' = w :=
  Any.strings_Join_none Try.lays156 Try.Builder_Extra_156 a c sep w
end Go.Proofs
namespace Go.Proofs.Ytaaahjcldomnbaa
open Go Go.RowKit
theorem ch_of_below {w w' : World} (h : Below w.heap.size w w') : Ch w w' (fun _ => False) := ⟨h.os, h.tape, h.output, h.size, fun b hb _ => h.block b hb⟩
/-- strings.Join of a row of texts. -/
theorem join_w {W : Base} {w : World} {R : List Res} {a : Option Addr} {c : Nat} {l : List (List UInt8)} {sep : List UInt8} (h : Sat W w R) (hv : View w a (elStr.row l)) (hq : l.length ≤ c) (hN : l.length ≤ 140737488355328)
    (hlen : (Lib.join l sep).length ≤ 140737488355328) :
    Calls Try.prog (Try.lays156_ren.f 156) #[.slice a l.length c, .string (str sep)] w (Ret fun v w' => v = .string (str (Lib.join l sep)) ∧ Sat W w' R) := by
  cases hl : l with
  | nil =>
    refine (Try.join_none a c (str sep) w).mono ?_
    rintro e w' ⟨rfl, rfl⟩
    exact ⟨rfl, h⟩
  | cons x l' =>
    rw [← hl]
    have hrow : elStr.row l = (l.map fun s => Value.string (str s)) := by
      clear hv hq hN hlen hl
      induction l with
      | nil => rfl
      | cons s l ih => simp only [El.row, List.flatMap_cons, List.map_cons] at ih ⊢; rw [ih]; rfl
    obtain ⟨b, o, rfl⟩ := hv.open (by rw [hrow, List.length_map, hl]; simp)
    have hm : (l.map str).map (fun x => x.data.toList) = l := by rw [List.map_map]; exact List.map_id'' (fun s => by simp [str]) l
    have hb : b < w.heap.size := by
      have h0 : (elStr.row l)[0]? = some (.string (str x)) := by rw [hrow, hl]; rfl
      exact (cells_of_cell (hv.at_ h0)).elim fun ob h1 => (Array.getElem?_eq_some_iff.1 h1.1).1
    have hs : (str sep).data.toList = sep := by simp [str]
    have h1 := Try.join b o c (l.map str) (str sep) w (fun j y hj => by
      rw [List.getElem?_map] at hj
      obtain ⟨z, hz, rfl⟩ := Option.map_eq_some_iff.1 hj
      exact hv.at_ (by rw [hrow, List.getElem?_map, hz]; rfl)) hb (by rw [List.length_map]; exact hN) (by rw [List.length_map]; exact hq) (by rw [hm, hs]; exact hlen)
    rw [List.length_map] at h1
    refine h1.mono ?_
    rintro e w' ⟨rfl, hw⟩
    refine ⟨?_, h.same (ch_of_below hw)⟩
    rw [hm, hs]; rfl
end Go.Proofs.Ytaaahjcldomnbaa
