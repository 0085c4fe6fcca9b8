/-
  Facts of the program, a row each. No condition.
-/
import Derived.Test.YtgabplankmljfaaInstBackMod
import Derived.Test.YtgabplankmljfaaProg
namespace Go.Proofs.Ytgabplankmljfaa
open Go Go.RowKit
set_option linter.unusedVariables false
set_option linter.unusedSimpArgs false
set_option linter.unnecessarySimpa false
theorem en29 : Enters Try.prog 29 := fun l w => Try.call29 l w
theorem en30 : Enters Try.prog 30 := fun l w => Try.call30 l w
theorem en32 : Enters Try.prog 32 := fun l w => Try.call32 l w
theorem en34 : Enters Try.prog 34 := fun l w => Try.call34 l w
theorem en36 : Enters Try.prog 36 := fun l w => Try.call36 l w
theorem en38 : Enters Try.prog 38 := fun l w => Try.call38 l w
theorem en40 : Enters Try.prog 40 := fun l w => Try.call40 l w
theorem en52 : Enters Try.prog 52 := fun l w => Try.call52 l w
theorem en53 : Enters Try.prog 53 := fun l w => Try.call53 l w
theorem en55 : Enters Try.prog 55 := fun l w => Try.call55 l w
theorem en57 : Enters Try.prog 57 := fun l w => Try.call57 l w
theorem en86 : Enters Try.prog 86 := fun l w => Try.call86 l w
theorem en87 : Enters Try.prog 87 := fun l w => Try.call87 l w
theorem en88 : Enters Try.prog 88 := fun l w => Try.call88 l w
theorem en89 : Enters Try.prog 89 := fun l w => Try.call89 l w
theorem en92 : Enters Try.prog 92 := fun l w => Try.call92 l w
theorem en93 : Enters Try.prog 93 := fun l w => Try.call93 l w
theorem en110 : Enters Try.prog 110 := fun l w => Try.call110 l w
theorem en111 : Enters Try.prog 111 := fun l w => Try.call111 l w
theorem en112 : Enters Try.prog 112 := fun l w => Try.call112 l w
theorem en116 : Enters Try.prog 116 := fun l w => Try.call116 l w
theorem en117 : Enters Try.prog 117 := fun l w => Try.call117 l w
theorem en133 : Enters Try.prog 133 := fun l w => Try.call133 l w
theorem en134 : Enters Try.prog 134 := fun l w => Try.call134 l w
theorem en135 : Enters Try.prog 135 := fun l w => Try.call135 l w
theorem en143 : Enters Try.prog 143 := fun l w => Try.call143 l w
theorem en144 : Enters Try.prog 144 := fun l w => Try.call144 l w
theorem en145 : Enters Try.prog 145 := fun l w => Try.call145 l w
theorem en156 : Enters Try.prog 156 := fun l w => Try.call156 l w
theorem en157 : Enters Try.prog 157 := fun l w => Try.call157 l w
theorem en158 : Enters Try.prog 158 := fun l w => Try.call158 l w
theorem en165 : Enters Try.prog 165 := fun l w => Try.call165 l w
theorem en168 : Enters Try.prog 168 := fun l w => Try.call168 l w
theorem en169 : Enters Try.prog 169 := fun l w => Try.call169 l w
theorem fo47_8 : fieldOff Try.prog 47 8 = some 27 := by kernel_rfl
theorem ag9 : aggB Try.prog 9 = some false := by kernel_rfl
theorem z47 : zeroOf Try.prog 47 = some (.agg #[.int .u8 0, .int .u8 0, .int .u8 0, .int .u8 0, .int .u8 0, .int .u8 0, .int .u8 0, .int .u8 0, .int .u8 0, .int .u8 0, .int .u8 0, .int .u8 0, .int .u8 0, .int .u8 0, .int .u8 0, .int .u8 0, .int .u8 0, .int .u8 0, .int .u8 0, .int .u8 0, .int .u64 0, .int .u64 0, .int .u32 0, .bool false, .int .u16 0, .int .u16 0, .int .u16 0, .string ByteArray.empty]) := by kernel_rfl
theorem sz47 : szOf Try.prog 47 = some 28 := by kernel_rfl
theorem ag47 : aggB Try.prog 47 = some true := by kernel_rfl
theorem fo47_3 : fieldOff Try.prog 47 3 = some 22 := by kernel_rfl
theorem ag44 : aggB Try.prog 44 = some false := by kernel_rfl
theorem fo47_4 : fieldOff Try.prog 47 4 = some 23 := by kernel_rfl
theorem ag4 : aggB Try.prog 4 = some false := by kernel_rfl
theorem fo47_5 : fieldOff Try.prog 47 5 = some 24 := by kernel_rfl
theorem sz45 : szOf Try.prog 45 = some 1 := by kernel_rfl
theorem fo47_6 : fieldOff Try.prog 47 6 = some 25 := by kernel_rfl
theorem fo47_7 : fieldOff Try.prog 47 7 = some 26 := by kernel_rfl
theorem sz9 : szOf Try.prog 9 = some 1 := by kernel_rfl
theorem eqT47 : EqT Try.prog 47 (List.replicate 20 (Leaf.int .u8) ++ [Leaf.int .u64, Leaf.int .u64, Leaf.int .u32, Leaf.bool, Leaf.int .u16, Leaf.int .u16, Leaf.int .u16, Leaf.str]) := ⟨by kernel_rfl, by kernel_rfl, by kernel_rfl, by kernel_rfl, by kernel_rfl⟩
theorem ag45 : aggB Try.prog 45 = some false := by kernel_rfl
theorem z4 : zeroOf Try.prog 4 = some (.bool false) := by kernel_rfl
theorem sz4 : szOf Try.prog 4 = some 1 := by kernel_rfl
theorem ex173 : (Try.f173.name == "runtime.NumGoroutine") = false ∧ Try.f173.body.isNone = true ∧ Extern.findNext Try.f173 = none ∧ Extern.find Try.f173 = some Extern.BytealgIndexByte.indexByte := ⟨by kernel_rfl, by kernel_rfl, by kernel_rfl, by kernel_rfl⟩
theorem el5 : elI Try.prog 5 = some (1, 1, 1) := by kernel_rfl
theorem sl49 : SlT Try.prog 49 1 := ⟨by kernel_rfl, by kernel_rfl⟩
theorem ag5 : aggB Try.prog 5 = some false := by kernel_rfl
theorem sz5 : szOf Try.prog 5 = some 1 := by kernel_rfl
theorem fo47_0 : fieldOff Try.prog 47 0 = some 0 := by kernel_rfl
theorem z49 : zeroOf Try.prog 49 = some (.slice none 0 0) := by kernel_rfl
theorem sz49 : szOf Try.prog 49 = some 1 := by kernel_rfl
theorem fo47_1 : fieldOff Try.prog 47 1 = some 20 := by kernel_rfl
theorem ag28 : aggB Try.prog 28 = some false := by kernel_rfl
theorem ag49 : aggB Try.prog 49 = some false := by kernel_rfl
theorem us3 : (Try.prog.underlying 3).isSome = true := by kernel_rfl
theorem us28 : (Try.prog.underlying 28).isSome = true := by kernel_rfl
theorem fo47_2 : fieldOff Try.prog 47 2 = some 21 := by kernel_rfl
theorem us44 : (Try.prog.underlying 44).isSome = true := by kernel_rfl
theorem us45 : (Try.prog.underlying 45).isSome = true := by kernel_rfl
theorem np93 : Try.prog.underlying 93 = some (.pointer (Try.prog.pointee 93)) := by kernel_rfl
theorem fo155_0 : fieldOff Try.prog 155 0 = some 0 := by kernel_rfl
theorem fo153_1 : fieldOff Try.prog 153 1 = some 1 := by kernel_rfl
theorem fo153_2 : fieldOff Try.prog 153 2 = some 2 := by kernel_rfl
theorem fo153_0 : fieldOff Try.prog 153 0 = some 0 := by kernel_rfl
theorem us5 : (Try.prog.underlying 5).isSome = true := by kernel_rfl
theorem sz28 : szOf Try.prog 28 = some 1 := by kernel_rfl
theorem sz44 : szOf Try.prog 44 = some 1 := by kernel_rfl
theorem G_api_Instance_fits (x : G_api_Instance) (k0 : x.Target.length ≤ maxLen) : Fits (List.replicate 20 (Leaf.int .u8) ++ [Leaf.int .u64, Leaf.int .u64, Leaf.int .u32, Leaf.bool, Leaf.int .u16, Leaf.int .u16, Leaf.int .u16, Leaf.str]) (el_G_api_Instance.f x) := by
  show Fits _ (bytesV (List.ofFn (n := 20) x.Publisher) ++ ([(v64 x.Seq), (v64 x.Born), (v32 x.Life), (.bool x.Gone), (v16 x.Priority), (v16 x.Weight), (v16 x.Port), (.string (str x.Target))] : List Value))
  exact (Fits.append (fits_span _) (show Fits [Leaf.int .u64, Leaf.int .u64, Leaf.int .u32, Leaf.bool, Leaf.int .u16, Leaf.int .u16, Leaf.int .u16, Leaf.str] [(v64 x.Seq), (v64 x.Born), (v32 x.Life), (.bool x.Gone), (v16 x.Priority), (v16 x.Weight), (v16 x.Port), (.string (str x.Target))] from ⟨leaf_u64 _, ⟨leaf_u64 _, ⟨leaf_u32 _, ⟨⟨_, rfl⟩, ⟨leaf_u16 _, ⟨leaf_u16 _, ⟨leaf_u16 _, ⟨leaf_str (by assumption), trivial⟩⟩⟩⟩⟩⟩⟩⟩))
theorem G_api_Instance_inj {x y : G_api_Instance} : x = y ↔ el_G_api_Instance.f x = el_G_api_Instance.f y := by
  constructor
  · rintro rfl; rfl
  · intro h
    have h : (bytesV (List.ofFn (n := 20) x.Publisher) ++ ([(v64 x.Seq), (v64 x.Born), (v32 x.Life), (.bool x.Gone), (v16 x.Priority), (v16 x.Weight), (v16 x.Port), (.string (str x.Target))] : List Value)) = (bytesV (List.ofFn (n := 20) y.Publisher) ++ ([(v64 y.Seq), (v64 y.Born), (v32 y.Life), (.bool y.Gone), (v16 y.Priority), (v16 y.Weight), (v16 y.Port), (.string (str y.Target))] : List Value)) := h
    obtain ⟨p0, p1, p2, p3, p4, p5, p6, p7, p8⟩ := x
    obtain ⟨q0, q1, q2, q3, q4, q5, q6, q7, q8⟩ := y
    simp only [span_append, span_only, List.append_assoc, List.cons_append, List.nil_append, List.cons.injEq, Value.int.injEq, Value.bool.injEq, Value.string.injEq, true_and, and_true, ofFn_inj', str_inj, Int.natCast_inj, UInt8.toNat_inj, UInt16.toNat_inj, UInt32.toNat_inj, UInt64.toNat_inj] at h
    simp only [h]
end Go.Proofs.Ytgabplankmljfaa
