/-
  Facts of the program, a row each. No condition.
-/
import Derived.Test.YtmjcemhojhbijaaRosterMergesMod
import Derived.Test.YtmjcemhojhbijaaProg
namespace Go.Proofs.Ytmjcemhojhbijaa
open Go Go.RowKit
set_option linter.unusedVariables false
set_option linter.unusedSimpArgs false
set_option linter.unnecessarySimpa false
theorem en6 : Enters Try.prog 6 := fun l w => Try.call6 l w
theorem en7 : Enters Try.prog 7 := fun l w => Try.call7 l w
theorem en8 : Enters Try.prog 8 := fun l w => Try.call8 l w
theorem en9 : Enters Try.prog 9 := fun l w => Try.call9 l w
theorem en10 : Enters Try.prog 10 := fun l w => Try.call10 l w
theorem en11 : Enters Try.prog 11 := fun l w => Try.call11 l w
theorem en12 : Enters Try.prog 12 := fun l w => Try.call12 l w
theorem en20 : Enters Try.prog 20 := fun l w => Try.call20 l w
theorem en21 : Enters Try.prog 21 := fun l w => Try.call21 l w
theorem en22 : Enters Try.prog 22 := fun l w => Try.call22 l w
theorem en23 : Enters Try.prog 23 := fun l w => Try.call23 l w
theorem en24 : Enters Try.prog 24 := fun l w => Try.call24 l w
theorem en25 : Enters Try.prog 25 := fun l w => Try.call25 l w
theorem en26 : Enters Try.prog 26 := fun l w => Try.call26 l w
theorem en27 : Enters Try.prog 27 := fun l w => Try.call27 l w
theorem en28 : Enters Try.prog 28 := fun l w => Try.call28 l w
theorem en29 : Enters Try.prog 29 := fun l w => Try.call29 l w
theorem en30 : Enters Try.prog 30 := fun l w => Try.call30 l w
theorem en31 : Enters Try.prog 31 := fun l w => Try.call31 l w
theorem en32 : Enters Try.prog 32 := fun l w => Try.call32 l w
theorem en33 : Enters Try.prog 33 := fun l w => Try.call33 l w
theorem en34 : Enters Try.prog 34 := fun l w => Try.call34 l w
theorem en35 : Enters Try.prog 35 := fun l w => Try.call35 l w
theorem en36 : Enters Try.prog 36 := fun l w => Try.call36 l w
theorem en46 : Enters Try.prog 46 := fun l w => Try.call46 l w
theorem en47 : Enters Try.prog 47 := fun l w => Try.call47 l w
theorem en48 : Enters Try.prog 48 := fun l w => Try.call48 l w
theorem en51 : Enters Try.prog 51 := fun l w => Try.call51 l w
theorem en52 : Enters Try.prog 52 := fun l w => Try.call52 l w
theorem en53 : Enters Try.prog 53 := fun l w => Try.call53 l w
theorem en54 : Enters Try.prog 54 := fun l w => Try.call54 l w
theorem en56 : Enters Try.prog 56 := fun l w => Try.call56 l w
theorem en57 : Enters Try.prog 57 := fun l w => Try.call57 l w
theorem en66 : Enters Try.prog 66 := fun l w => Try.call66 l w
theorem en67 : Enters Try.prog 67 := fun l w => Try.call67 l w
theorem en68 : Enters Try.prog 68 := fun l w => Try.call68 l w
theorem en70 : Enters Try.prog 70 := fun l w => Try.call70 l w
theorem en72 : Enters Try.prog 72 := fun l w => Try.call72 l w
theorem en73 : Enters Try.prog 73 := fun l w => Try.call73 l w
theorem sl22 : SlT Try.prog 22 28 := ⟨by kernel_rfl, by kernel_rfl⟩
theorem ag31 : aggB Try.prog 31 = some true := by kernel_rfl
theorem sz31 : szOf Try.prog 31 = some 28 := by kernel_rfl
theorem z31 : zeroOf Try.prog 31 = some (.agg #[.int .u8 0, .int .u8 0, .int .u8 0, .int .u8 0, .int .u8 0, .int .u8 0, .int .u8 0, .int .u8 0, .int .u8 0, .int .u8 0, .int .u8 0, .int .u8 0, .int .u8 0, .int .u8 0, .int .u8 0, .int .u8 0, .int .u8 0, .int .u8 0, .int .u8 0, .int .u8 0, .int .u64 0, .int .u64 0, .int .u32 0, .bool false, .int .u16 0, .int .u16 0, .int .u16 0, .string ByteArray.empty]) := by kernel_rfl
theorem fo31_8 : fieldOff Try.prog 31 8 = some 27 := by kernel_rfl
theorem ag9 : aggB Try.prog 9 = some false := by kernel_rfl
theorem fo31_3 : fieldOff Try.prog 31 3 = some 22 := by kernel_rfl
theorem ag28 : aggB Try.prog 28 = some false := by kernel_rfl
theorem fo31_4 : fieldOff Try.prog 31 4 = some 23 := by kernel_rfl
theorem ag4 : aggB Try.prog 4 = some false := by kernel_rfl
theorem fo31_5 : fieldOff Try.prog 31 5 = some 24 := by kernel_rfl
theorem sz29 : szOf Try.prog 29 = some 1 := by kernel_rfl
theorem fo31_6 : fieldOff Try.prog 31 6 = some 25 := by kernel_rfl
theorem fo31_7 : fieldOff Try.prog 31 7 = some 26 := by kernel_rfl
theorem sz9 : szOf Try.prog 9 = some 1 := by kernel_rfl
theorem eqT31 : EqT Try.prog 31 (List.replicate 20 (Leaf.int .u8) ++ [Leaf.int .u64, Leaf.int .u64, Leaf.int .u32, Leaf.bool, Leaf.int .u16, Leaf.int .u16, Leaf.int .u16, Leaf.str]) := ⟨by kernel_rfl, by kernel_rfl, by kernel_rfl, by kernel_rfl, by kernel_rfl⟩
theorem ag29 : aggB Try.prog 29 = some false := by kernel_rfl
theorem z4 : zeroOf Try.prog 4 = some (.bool false) := by kernel_rfl
theorem sz4 : szOf Try.prog 4 = some 1 := by kernel_rfl
theorem ex77 : (Try.f77.name == "runtime.NumGoroutine") = false ∧ Try.f77.body.isNone = true ∧ Extern.findNext Try.f77 = none ∧ Extern.find Try.f77 = some Extern.BytealgIndexByte.indexByte := ⟨by kernel_rfl, by kernel_rfl, by kernel_rfl, by kernel_rfl⟩
theorem el5 : elI Try.prog 5 = some (1, 1, 1) := by kernel_rfl
theorem sl39 : SlT Try.prog 39 1 := ⟨by kernel_rfl, by kernel_rfl⟩
theorem ag5 : aggB Try.prog 5 = some false := by kernel_rfl
theorem sz5 : szOf Try.prog 5 = some 1 := by kernel_rfl
theorem fo31_0 : fieldOff Try.prog 31 0 = some 0 := by kernel_rfl
theorem ag26 : aggB Try.prog 26 = some true := by kernel_rfl
theorem sz26 : szOf Try.prog 26 = some 20 := by kernel_rfl
theorem ex55 : (Try.f55.name == "runtime.NumGoroutine") = false ∧ Try.f55.body.isNone = true ∧ Extern.findNext Try.f55 = none ∧ Extern.find Try.f55 = some Extern.BytealgCompare.compare := ⟨by kernel_rfl, by kernel_rfl, by kernel_rfl, by kernel_rfl⟩
theorem fo31_1 : fieldOff Try.prog 31 1 = some 20 := by kernel_rfl
theorem sz27 : szOf Try.prog 27 = some 1 := by kernel_rfl
theorem us3 : (Try.prog.underlying 3).isSome = true := by kernel_rfl
theorem us79 : (Try.prog.underlying 79).isSome = true := by kernel_rfl
theorem ag27 : aggB Try.prog 27 = some false := by kernel_rfl
theorem fo31_2 : fieldOff Try.prog 31 2 = some 21 := by kernel_rfl
theorem sl82 : SlT Try.prog 82 1 := ⟨by kernel_rfl, by kernel_rfl⟩
theorem ag3 : aggB Try.prog 3 = some false := by kernel_rfl
theorem el31 : elI Try.prog 31 = some (28, 72, 28) := by kernel_rfl
theorem us28 : (Try.prog.underlying 28).isSome = true := by kernel_rfl
theorem eqT26 : EqT Try.prog 26 (List.replicate 20 (Leaf.int .u8)) := ⟨by kernel_rfl, by kernel_rfl, by kernel_rfl, by kernel_rfl, by kernel_rfl⟩
theorem G_api_Instance_fits (x : G_api_Instance) (k0 : x.Target.length ≤ maxLen) : Fits (List.replicate 20 (Leaf.int .u8) ++ [Leaf.int .u64, Leaf.int .u64, Leaf.int .u32, Leaf.bool, Leaf.int .u16, Leaf.int .u16, Leaf.int .u16, Leaf.str]) (el_G_api_Instance.f x) := by
  show Fits _ (bytesV (List.ofFn (n := 20) x.Publisher) ++ ([(v64 x.Seq), (v64 x.Born), (v32 x.Life), (.bool x.Gone), (v16 x.Priority), (v16 x.Weight), (v16 x.Port), (.string (str x.Target))] : List Value))
  exact (Fits.append (fits_span _) (show Fits [Leaf.int .u64, Leaf.int .u64, Leaf.int .u32, Leaf.bool, Leaf.int .u16, Leaf.int .u16, Leaf.int .u16, Leaf.str] [(v64 x.Seq), (v64 x.Born), (v32 x.Life), (.bool x.Gone), (v16 x.Priority), (v16 x.Weight), (v16 x.Port), (.string (str x.Target))] from ⟨leaf_u64 _, ⟨leaf_u64 _, ⟨leaf_u32 _, ⟨⟨_, rfl⟩, ⟨leaf_u16 _, ⟨leaf_u16 _, ⟨leaf_u16 _, ⟨leaf_str (by assumption), trivial⟩⟩⟩⟩⟩⟩⟩⟩))
theorem G_api_Instance_inj {x y : G_api_Instance} : x = y ↔ el_G_api_Instance.f x = el_G_api_Instance.f y := by
  constructor
  · rintro rfl; rfl
  · intro h
    have h : (bytesV (List.ofFn (n := 20) x.Publisher) ++ ([(v64 x.Seq), (v64 x.Born), (v32 x.Life), (.bool x.Gone), (v16 x.Priority), (v16 x.Weight), (v16 x.Port), (.string (str x.Target))] : List Value)) = (bytesV (List.ofFn (n := 20) y.Publisher) ++ ([(v64 y.Seq), (v64 y.Born), (v32 y.Life), (.bool y.Gone), (v16 y.Priority), (v16 y.Weight), (v16 y.Port), (.string (str y.Target))] : List Value)) := h
    obtain ⟨p0, p1, p2, p3, p4, p5, p6, p7, p8⟩ := x
    obtain ⟨q0, q1, q2, q3, q4, q5, q6, q7, q8⟩ := y
    simp only [span_append, span_only, List.append_assoc, List.cons_append, List.nil_append, List.cons.injEq, Value.int.injEq, Value.bool.injEq, Value.string.injEq, true_and, and_true, ofFn_inj', str_inj, Int.natCast_inj, UInt8.toNat_inj, UInt16.toNat_inj, UInt32.toNat_inj, UInt64.toNat_inj] at h
    simp only [h]
end Go.Proofs.Ytmjcemhojhbijaa
