/-
  Facts of the program, a row each. No condition.
-/
import Derived.Test.YtlkilokdbkjbmaaRosterReadsMod
import Derived.Test.YtlkilokdbkjbmaaProg
namespace Go.Proofs.Ytlkilokdbkjbmaa
open Go Go.RowKit
set_option linter.unusedVariables false
set_option linter.unusedSimpArgs false
set_option linter.unnecessarySimpa false
theorem en11 : Enters Try.prog 11 := fun l w => Try.call11 l w
theorem en19 : Enters Try.prog 19 := fun l w => Try.call19 l w
theorem en20 : Enters Try.prog 20 := fun l w => Try.call20 l w
theorem en21 : Enters Try.prog 21 := fun l w => Try.call21 l w
theorem en22 : Enters Try.prog 22 := fun l w => Try.call22 l w
theorem en23 : Enters Try.prog 23 := fun l w => Try.call23 l w
theorem en24 : Enters Try.prog 24 := fun l w => Try.call24 l w
theorem en25 : Enters Try.prog 25 := fun l w => Try.call25 l w
theorem en26 : Enters Try.prog 26 := fun l w => Try.call26 l w
theorem en45 : Enters Try.prog 45 := fun l w => Try.call45 l w
theorem en46 : Enters Try.prog 46 := fun l w => Try.call46 l w
theorem en48 : Enters Try.prog 48 := fun l w => Try.call48 l w
theorem en49 : Enters Try.prog 49 := fun l w => Try.call49 l w
theorem en52 : Enters Try.prog 52 := fun l w => Try.call52 l w
theorem en57 : Enters Try.prog 57 := fun l w => Try.call57 l w
theorem en58 : Enters Try.prog 58 := fun l w => Try.call58 l w
theorem en59 : Enters Try.prog 59 := fun l w => Try.call59 l w
theorem en60 : Enters Try.prog 60 := fun l w => Try.call60 l w
theorem en61 : Enters Try.prog 61 := fun l w => Try.call61 l w
theorem en62 : Enters Try.prog 62 := fun l w => Try.call62 l w
theorem en63 : Enters Try.prog 63 := fun l w => Try.call63 l w
theorem en64 : Enters Try.prog 64 := fun l w => Try.call64 l w
theorem en65 : Enters Try.prog 65 := fun l w => Try.call65 l w
theorem en66 : Enters Try.prog 66 := fun l w => Try.call66 l w
theorem en67 : Enters Try.prog 67 := fun l w => Try.call67 l w
theorem en85 : Enters Try.prog 85 := fun l w => Try.call85 l w
theorem en90 : Enters Try.prog 90 := fun l w => Try.call90 l w
theorem en95 : Enters Try.prog 95 := fun l w => Try.call95 l w
theorem en96 : Enters Try.prog 96 := fun l w => Try.call96 l w
theorem en97 : Enters Try.prog 97 := fun l w => Try.call97 l w
theorem en98 : Enters Try.prog 98 := fun l w => Try.call98 l w
theorem en100 : Enters Try.prog 100 := fun l w => Try.call100 l w
theorem en101 : Enters Try.prog 101 := fun l w => Try.call101 l w
theorem en102 : Enters Try.prog 102 := fun l w => Try.call102 l w
theorem en103 : Enters Try.prog 103 := fun l w => Try.call103 l w
theorem en104 : Enters Try.prog 104 := fun l w => Try.call104 l w
theorem en105 : Enters Try.prog 105 := fun l w => Try.call105 l w
theorem en106 : Enters Try.prog 106 := fun l w => Try.call106 l w
theorem en107 : Enters Try.prog 107 := fun l w => Try.call107 l w
theorem en108 : Enters Try.prog 108 := fun l w => Try.call108 l w
theorem en109 : Enters Try.prog 109 := fun l w => Try.call109 l w
theorem en110 : Enters Try.prog 110 := fun l w => Try.call110 l w
theorem en111 : Enters Try.prog 111 := fun l w => Try.call111 l w
theorem en112 : Enters Try.prog 112 := fun l w => Try.call112 l w
theorem en113 : Enters Try.prog 113 := fun l w => Try.call113 l w
theorem en122 : Enters Try.prog 122 := fun l w => Try.call122 l w
theorem en125 : Enters Try.prog 125 := fun l w => Try.call125 l w
theorem en126 : Enters Try.prog 126 := fun l w => Try.call126 l w
theorem en127 : Enters Try.prog 127 := fun l w => Try.call127 l w
theorem en128 : Enters Try.prog 128 := fun l w => Try.call128 l w
theorem en129 : Enters Try.prog 129 := fun l w => Try.call129 l w
theorem en130 : Enters Try.prog 130 := fun l w => Try.call130 l w
theorem en131 : Enters Try.prog 131 := fun l w => Try.call131 l w
theorem en132 : Enters Try.prog 132 := fun l w => Try.call132 l w
theorem en135 : Enters Try.prog 135 := fun l w => Try.call135 l w
theorem en136 : Enters Try.prog 136 := fun l w => Try.call136 l w
theorem en137 : Enters Try.prog 137 := fun l w => Try.call137 l w
theorem en147 : Enters Try.prog 147 := fun l w => Try.call147 l w
theorem en151 : Enters Try.prog 151 := fun l w => Try.call151 l w
theorem en152 : Enters Try.prog 152 := fun l w => Try.call152 l w
theorem en153 : Enters Try.prog 153 := fun l w => Try.call153 l w
theorem en154 : Enters Try.prog 154 := fun l w => Try.call154 l w
theorem en155 : Enters Try.prog 155 := fun l w => Try.call155 l w
theorem en157 : Enters Try.prog 157 := fun l w => Try.call157 l w
theorem en161 : Enters Try.prog 161 := fun l w => Try.call161 l w
theorem z104 : zeroOf Try.prog 104 = some (.agg #[.int .u8 0, .int .u8 0, .int .u8 0, .int .u8 0, .int .u8 0, .int .u8 0, .int .u8 0, .int .u8 0, .int .u8 0, .int .u8 0, .int .u8 0, .int .u8 0, .int .u8 0, .int .u8 0, .int .u8 0, .int .u8 0, .int .u8 0, .int .u8 0, .int .u8 0, .int .u8 0, .int .u64 0, .int .u64 0, .int .u32 0, .bool false, .int .u16 0, .int .u16 0, .int .u16 0, .string ByteArray.empty]) := by kernel_rfl
theorem sz104 : szOf Try.prog 104 = some 28 := by kernel_rfl
theorem ag104 : aggB Try.prog 104 = some true := by kernel_rfl
theorem fo104_1 : fieldOff Try.prog 104 1 = some 20 := by kernel_rfl
theorem sz84 : szOf Try.prog 84 = some 1 := by kernel_rfl
theorem sl57 : SlT Try.prog 57 28 := ⟨by kernel_rfl, by kernel_rfl⟩
theorem fo104_3 : fieldOff Try.prog 104 3 = some 22 := by kernel_rfl
theorem ag39 : aggB Try.prog 39 = some false := by kernel_rfl
theorem fo104_4 : fieldOff Try.prog 104 4 = some 23 := by kernel_rfl
theorem ag4 : aggB Try.prog 4 = some false := by kernel_rfl
theorem fo104_5 : fieldOff Try.prog 104 5 = some 24 := by kernel_rfl
theorem sz31 : szOf Try.prog 31 = some 1 := by kernel_rfl
theorem fo104_6 : fieldOff Try.prog 104 6 = some 25 := by kernel_rfl
theorem fo104_7 : fieldOff Try.prog 104 7 = some 26 := by kernel_rfl
theorem fo104_8 : fieldOff Try.prog 104 8 = some 27 := by kernel_rfl
theorem sz9 : szOf Try.prog 9 = some 1 := by kernel_rfl
theorem eqT104 : EqT Try.prog 104 (List.replicate 20 (Leaf.int .u8) ++ [Leaf.int .u64, Leaf.int .u64, Leaf.int .u32, Leaf.bool, Leaf.int .u16, Leaf.int .u16, Leaf.int .u16, Leaf.str]) := ⟨by kernel_rfl, by kernel_rfl, by kernel_rfl, by kernel_rfl, by kernel_rfl⟩
theorem ag31 : aggB Try.prog 31 = some false := by kernel_rfl
theorem ag9 : aggB Try.prog 9 = some false := by kernel_rfl
theorem z4 : zeroOf Try.prog 4 = some (.bool false) := by kernel_rfl
theorem sz4 : szOf Try.prog 4 = some 1 := by kernel_rfl
theorem ex166 : (Try.f166.name == "runtime.NumGoroutine") = false ∧ Try.f166.body.isNone = true ∧ Extern.findNext Try.f166 = none ∧ Extern.find Try.f166 = some Extern.BytealgIndexByte.indexByte := ⟨by kernel_rfl, by kernel_rfl, by kernel_rfl, by kernel_rfl⟩
theorem el5 : elI Try.prog 5 = some (1, 1, 1) := by kernel_rfl
theorem sl22 : SlT Try.prog 22 1 := ⟨by kernel_rfl, by kernel_rfl⟩
theorem ag5 : aggB Try.prog 5 = some false := by kernel_rfl
theorem sz5 : szOf Try.prog 5 = some 1 := by kernel_rfl
theorem fo104_0 : fieldOff Try.prog 104 0 = some 0 := by kernel_rfl
theorem ag63 : aggB Try.prog 63 = some true := by kernel_rfl
theorem sz63 : szOf Try.prog 63 = some 20 := by kernel_rfl
theorem ex150 : (Try.f150.name == "runtime.NumGoroutine") = false ∧ Try.f150.body.isNone = true ∧ Extern.findNext Try.f150 = none ∧ Extern.find Try.f150 = some Extern.BytealgCompare.compare := ⟨by kernel_rfl, by kernel_rfl, by kernel_rfl, by kernel_rfl⟩
theorem us3 : (Try.prog.underlying 3).isSome = true := by kernel_rfl
theorem us160 : (Try.prog.underlying 160).isSome = true := by kernel_rfl
theorem ag84 : aggB Try.prog 84 = some false := by kernel_rfl
theorem fo104_2 : fieldOff Try.prog 104 2 = some 21 := by kernel_rfl
theorem sl208 : SlT Try.prog 208 1 := ⟨by kernel_rfl, by kernel_rfl⟩
theorem ag3 : aggB Try.prog 3 = some false := by kernel_rfl
theorem el104 : elI Try.prog 104 = some (28, 72, 28) := by kernel_rfl
theorem us39 : (Try.prog.underlying 39).isSome = true := by kernel_rfl
theorem np51 : Try.prog.underlying 51 = some (.pointer (Try.prog.pointee 51)) := by kernel_rfl
theorem fo111_0 : fieldOff Try.prog 111 0 = some 0 := by kernel_rfl
theorem fo109_1 : fieldOff Try.prog 109 1 = some 1 := by kernel_rfl
theorem fo109_0 : fieldOff Try.prog 109 0 = some 0 := by kernel_rfl
theorem sz22 : szOf Try.prog 22 = some 1 := by kernel_rfl
theorem fo109_2 : fieldOff Try.prog 109 2 = some 2 := by kernel_rfl
theorem ag22 : aggB Try.prog 22 = some false := by kernel_rfl
theorem us5 : (Try.prog.underlying 5).isSome = true := by kernel_rfl
theorem us84 : (Try.prog.underlying 84).isSome = true := by kernel_rfl
theorem sz39 : szOf Try.prog 39 = some 1 := by kernel_rfl
theorem fo55_0 : fieldOff Try.prog 55 0 = some 0 := by kernel_rfl
theorem fo55_1 : fieldOff Try.prog 55 1 = some 1 := by kernel_rfl
theorem fo55_2 : fieldOff Try.prog 55 2 = some 2 := by kernel_rfl
theorem sz3 : szOf Try.prog 3 = some 1 := by kernel_rfl
theorem el9 : elI Try.prog 9 = some (1, 16, 1) := by kernel_rfl
theorem sl81 : SlT Try.prog 81 1 := ⟨by kernel_rfl, by kernel_rfl⟩
theorem G_api_Instance_fits (x : G_api_Instance) (k0 : x.Target.length ≤ maxLen) : Fits (List.replicate 20 (Leaf.int .u8) ++ [Leaf.int .u64, Leaf.int .u64, Leaf.int .u32, Leaf.bool, Leaf.int .u16, Leaf.int .u16, Leaf.int .u16, Leaf.str]) (el_G_api_Instance.f x) := by
  show Fits _ (bytesV (List.ofFn (n := 20) x.Publisher) ++ ([(v64 x.Seq), (v64 x.Born), (v32 x.Life), (.bool x.Gone), (v16 x.Priority), (v16 x.Weight), (v16 x.Port), (.string (str x.Target))] : List Value))
  exact (Fits.append (fits_span _) (show Fits [Leaf.int .u64, Leaf.int .u64, Leaf.int .u32, Leaf.bool, Leaf.int .u16, Leaf.int .u16, Leaf.int .u16, Leaf.str] [(v64 x.Seq), (v64 x.Born), (v32 x.Life), (.bool x.Gone), (v16 x.Priority), (v16 x.Weight), (v16 x.Port), (.string (str x.Target))] from ⟨leaf_u64 _, ⟨leaf_u64 _, ⟨leaf_u32 _, ⟨⟨_, rfl⟩, ⟨leaf_u16 _, ⟨leaf_u16 _, ⟨leaf_u16 _, ⟨leaf_str (by assumption), trivial⟩⟩⟩⟩⟩⟩⟩⟩))
theorem G_api_Instance_inj {x y : G_api_Instance} : x = y ↔ el_G_api_Instance.f x = el_G_api_Instance.f y := by
  constructor
  · rintro rfl; rfl
  · intro h
    have h : (bytesV (List.ofFn (n := 20) x.Publisher) ++ ([(v64 x.Seq), (v64 x.Born), (v32 x.Life), (.bool x.Gone), (v16 x.Priority), (v16 x.Weight), (v16 x.Port), (.string (str x.Target))] : List Value)) = (bytesV (List.ofFn (n := 20) y.Publisher) ++ ([(v64 y.Seq), (v64 y.Born), (v32 y.Life), (.bool y.Gone), (v16 y.Priority), (v16 y.Weight), (v16 y.Port), (.string (str y.Target))] : List Value)) := h
    obtain ⟨p0, p1, p2, p3, p4, p5, p6, p7, p8⟩ := x
    obtain ⟨q0, q1, q2, q3, q4, q5, q6, q7, q8⟩ := y
    simp only [span_append, span_only, List.append_assoc, List.cons_append, List.nil_append, List.cons.injEq, Value.int.injEq, Value.bool.injEq, Value.string.injEq, true_and, and_true, ofFn_inj', str_inj, Int.natCast_inj, UInt8.toNat_inj, UInt16.toNat_inj, UInt32.toNat_inj, UInt64.toNat_inj] at h
    simp only [h]
end Go.Proofs.Ytlkilokdbkjbmaa
