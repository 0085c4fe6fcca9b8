/-
  Facts of the program, a row each. No condition.
-/
import Derived.Test.YtleemokneeoikaaWireDecodesMod
import Derived.Test.YtleemokneeoikaaProg
namespace Go.Proofs.Ytleemokneeoikaa
open Go Go.RowKit
set_option linter.unusedVariables false
set_option linter.unusedSimpArgs false
set_option linter.unnecessarySimpa false
theorem en7 : Enters Try.prog 7 := fun l w => Try.call7 l w
theorem en8 : Enters Try.prog 8 := fun l w => Try.call8 l w
theorem en11 : Enters Try.prog 11 := fun l w => Try.call11 l w
theorem en12 : Enters Try.prog 12 := fun l w => Try.call12 l w
theorem en15 : Enters Try.prog 15 := fun l w => Try.call15 l w
theorem en18 : Enters Try.prog 18 := fun l w => Try.call18 l w
theorem en19 : Enters Try.prog 19 := fun l w => Try.call19 l w
theorem en20 : Enters Try.prog 20 := fun l w => Try.call20 l w
theorem en22 : Enters Try.prog 22 := fun l w => Try.call22 l w
theorem en23 : Enters Try.prog 23 := fun l w => Try.call23 l w
theorem en24 : Enters Try.prog 24 := fun l w => Try.call24 l w
theorem en25 : Enters Try.prog 25 := fun l w => Try.call25 l w
theorem en26 : Enters Try.prog 26 := fun l w => Try.call26 l w
theorem en28 : Enters Try.prog 28 := fun l w => Try.call28 l w
theorem en30 : Enters Try.prog 30 := fun l w => Try.call30 l w
theorem en31 : Enters Try.prog 31 := fun l w => Try.call31 l w
theorem en33 : Enters Try.prog 33 := fun l w => Try.call33 l w
theorem en34 : Enters Try.prog 34 := fun l w => Try.call34 l w
theorem en35 : Enters Try.prog 35 := fun l w => Try.call35 l w
theorem en38 : Enters Try.prog 38 := fun l w => Try.call38 l w
theorem en39 : Enters Try.prog 39 := fun l w => Try.call39 l w
theorem en40 : Enters Try.prog 40 := fun l w => Try.call40 l w
theorem en41 : Enters Try.prog 41 := fun l w => Try.call41 l w
theorem en42 : Enters Try.prog 42 := fun l w => Try.call42 l w
theorem en43 : Enters Try.prog 43 := fun l w => Try.call43 l w
theorem en44 : Enters Try.prog 44 := fun l w => Try.call44 l w
theorem en45 : Enters Try.prog 45 := fun l w => Try.call45 l w
theorem en46 : Enters Try.prog 46 := fun l w => Try.call46 l w
theorem en47 : Enters Try.prog 47 := fun l w => Try.call47 l w
theorem en48 : Enters Try.prog 48 := fun l w => Try.call48 l w
theorem en49 : Enters Try.prog 49 := fun l w => Try.call49 l w
theorem en50 : Enters Try.prog 50 := fun l w => Try.call50 l w
theorem en51 : Enters Try.prog 51 := fun l w => Try.call51 l w
theorem en52 : Enters Try.prog 52 := fun l w => Try.call52 l w
theorem en53 : Enters Try.prog 53 := fun l w => Try.call53 l w
theorem en54 : Enters Try.prog 54 := fun l w => Try.call54 l w
theorem en55 : Enters Try.prog 55 := fun l w => Try.call55 l w
theorem en58 : Enters Try.prog 58 := fun l w => Try.call58 l w
theorem en59 : Enters Try.prog 59 := fun l w => Try.call59 l w
theorem en60 : Enters Try.prog 60 := fun l w => Try.call60 l w
theorem en61 : Enters Try.prog 61 := fun l w => Try.call61 l w
theorem en62 : Enters Try.prog 62 := fun l w => Try.call62 l w
theorem en63 : Enters Try.prog 63 := fun l w => Try.call63 l w
theorem en64 : Enters Try.prog 64 := fun l w => Try.call64 l w
theorem en65 : Enters Try.prog 65 := fun l w => Try.call65 l w
theorem en66 : Enters Try.prog 66 := fun l w => Try.call66 l w
theorem en67 : Enters Try.prog 67 := fun l w => Try.call67 l w
theorem en68 : Enters Try.prog 68 := fun l w => Try.call68 l w
theorem en69 : Enters Try.prog 69 := fun l w => Try.call69 l w
theorem en70 : Enters Try.prog 70 := fun l w => Try.call70 l w
theorem en71 : Enters Try.prog 71 := fun l w => Try.call71 l w
theorem en72 : Enters Try.prog 72 := fun l w => Try.call72 l w
theorem en73 : Enters Try.prog 73 := fun l w => Try.call73 l w
theorem en74 : Enters Try.prog 74 := fun l w => Try.call74 l w
theorem en75 : Enters Try.prog 75 := fun l w => Try.call75 l w
theorem en76 : Enters Try.prog 76 := fun l w => Try.call76 l w
theorem en77 : Enters Try.prog 77 := fun l w => Try.call77 l w
theorem en78 : Enters Try.prog 78 := fun l w => Try.call78 l w
theorem en79 : Enters Try.prog 79 := fun l w => Try.call79 l w
theorem en80 : Enters Try.prog 80 := fun l w => Try.call80 l w
theorem en81 : Enters Try.prog 81 := fun l w => Try.call81 l w
theorem en84 : Enters Try.prog 84 := fun l w => Try.call84 l w
theorem en85 : Enters Try.prog 85 := fun l w => Try.call85 l w
theorem en86 : Enters Try.prog 86 := fun l w => Try.call86 l w
theorem en87 : Enters Try.prog 87 := fun l w => Try.call87 l w
theorem en88 : Enters Try.prog 88 := fun l w => Try.call88 l w
theorem en89 : Enters Try.prog 89 := fun l w => Try.call89 l w
theorem en90 : Enters Try.prog 90 := fun l w => Try.call90 l w
theorem en91 : Enters Try.prog 91 := fun l w => Try.call91 l w
theorem en92 : Enters Try.prog 92 := fun l w => Try.call92 l w
theorem en93 : Enters Try.prog 93 := fun l w => Try.call93 l w
theorem en94 : Enters Try.prog 94 := fun l w => Try.call94 l w
theorem en95 : Enters Try.prog 95 := fun l w => Try.call95 l w
theorem en96 : Enters Try.prog 96 := fun l w => Try.call96 l w
theorem en97 : Enters Try.prog 97 := fun l w => Try.call97 l w
theorem en98 : Enters Try.prog 98 := fun l w => Try.call98 l w
theorem en99 : Enters Try.prog 99 := fun l w => Try.call99 l w
theorem en101 : Enters Try.prog 101 := fun l w => Try.call101 l w
theorem en102 : Enters Try.prog 102 := fun l w => Try.call102 l w
theorem en103 : Enters Try.prog 103 := fun l w => Try.call103 l w
theorem en104 : Enters Try.prog 104 := fun l w => Try.call104 l w
theorem en105 : Enters Try.prog 105 := fun l w => Try.call105 l w
theorem en106 : Enters Try.prog 106 := fun l w => Try.call106 l w
theorem en107 : Enters Try.prog 107 := fun l w => Try.call107 l w
theorem en108 : Enters Try.prog 108 := fun l w => Try.call108 l w
theorem en109 : Enters Try.prog 109 := fun l w => Try.call109 l w
theorem ag28 : aggB Try.prog 28 = some true := by kernel_rfl
theorem sz28 : szOf Try.prog 28 = some 44 := by kernel_rfl
theorem fo28_0 : fieldOff Try.prog 28 0 = some 0 := by kernel_rfl
theorem ag3 : aggB Try.prog 3 = some false := by kernel_rfl
theorem z49 : zeroOf Try.prog 49 = some (.agg #[.bool false, .bool false, .bool false]) := by kernel_rfl
theorem fo49_2 : fieldOff Try.prog 49 2 = some 2 := by kernel_rfl
theorem sz4 : szOf Try.prog 4 = some 1 := by kernel_rfl
theorem fo49_1 : fieldOff Try.prog 49 1 = some 1 := by kernel_rfl
theorem fo49_0 : fieldOff Try.prog 49 0 = some 0 := by kernel_rfl
theorem ag49 : aggB Try.prog 49 = some true := by kernel_rfl
theorem sz49 : szOf Try.prog 49 = some 3 := by kernel_rfl
theorem ag4 : aggB Try.prog 4 = some false := by kernel_rfl
theorem fo28_3 : fieldOff Try.prog 28 3 = some 22 := by kernel_rfl
theorem ag24 : aggB Try.prog 24 = some true := by kernel_rfl
theorem sz24 : szOf Try.prog 24 = some 20 := by kernel_rfl
theorem eqT24 : EqT Try.prog 24 (List.replicate 20 (Leaf.int .u8)) := ⟨by kernel_rfl, by kernel_rfl, by kernel_rfl, by kernel_rfl, by kernel_rfl⟩
theorem fo28_4 : fieldOff Try.prog 28 4 = some 42 := by kernel_rfl
theorem ag25 : aggB Try.prog 25 = some false := by kernel_rfl
theorem sl25 : SlT Try.prog 25 22 := ⟨by kernel_rfl, by kernel_rfl⟩
theorem ag67 : aggB Try.prog 67 = some true := by kernel_rfl
theorem sz67 : szOf Try.prog 67 = some 22 := by kernel_rfl
theorem z67 : zeroOf Try.prog 67 = some (.agg #[.int .u8 0, .int .u8 0, .int .u8 0, .int .u8 0, .int .u8 0, .int .u8 0, .int .u8 0, .int .u8 0, .int .u8 0, .int .u8 0, .int .u8 0, .int .u8 0, .int .u8 0, .int .u8 0, .int .u8 0, .int .u8 0, .int .u8 0, .int .u8 0, .int .u8 0, .int .u8 0, .int .u32 0, .int .u16 0]) := by kernel_rfl
theorem fo67_1 : fieldOff Try.prog 67 1 = some 20 := by kernel_rfl
theorem ag65 : aggB Try.prog 65 = some true := by kernel_rfl
theorem sz65 : szOf Try.prog 65 = some 2 := by kernel_rfl
theorem fo65_0 : fieldOff Try.prog 65 0 = some 0 := by kernel_rfl
theorem ag22 : aggB Try.prog 22 = some false := by kernel_rfl
theorem fo65_1 : fieldOff Try.prog 65 1 = some 1 := by kernel_rfl
theorem ag63 : aggB Try.prog 63 = some false := by kernel_rfl
theorem eqT65 : EqT Try.prog 65 ([Leaf.int .u32, Leaf.int .u16]) := ⟨by kernel_rfl, by kernel_rfl, by kernel_rfl, by kernel_rfl, by kernel_rfl⟩
theorem fo67_0 : fieldOff Try.prog 67 0 = some 0 := by kernel_rfl
theorem us3 : (Try.prog.underlying 3).isSome = true := by kernel_rfl
theorem el5 : elI Try.prog 5 = some (1, 1, 1) := by kernel_rfl
theorem us53 : (Try.prog.underlying 53).isSome = true := by kernel_rfl
theorem us22 : (Try.prog.underlying 22).isSome = true := by kernel_rfl
theorem us63 : (Try.prog.underlying 63).isSome = true := by kernel_rfl
theorem sl86 : SlT Try.prog 86 1 := ⟨by kernel_rfl, by kernel_rfl⟩
theorem ag31 : aggB Try.prog 31 = some false := by kernel_rfl
theorem sl31 : SlT Try.prog 31 1 := ⟨by kernel_rfl, by kernel_rfl⟩
theorem z5 : zeroOf Try.prog 5 = some (.int .u8 0) := by kernel_rfl
theorem fo28_5 : fieldOff Try.prog 28 5 = some 43 := by kernel_rfl
theorem ag26 : aggB Try.prog 26 = some false := by kernel_rfl
theorem sl26 : SlT Try.prog 26 28 := ⟨by kernel_rfl, by kernel_rfl⟩
theorem ag70 : aggB Try.prog 70 = some true := by kernel_rfl
theorem sz70 : szOf Try.prog 70 = some 28 := by kernel_rfl
theorem z70 : zeroOf Try.prog 70 = some (.agg #[.int .u8 0, .int .u8 0, .int .u8 0, .int .u8 0, .int .u8 0, .int .u8 0, .int .u8 0, .int .u8 0, .int .u8 0, .int .u8 0, .int .u8 0, .int .u8 0, .int .u8 0, .int .u8 0, .int .u8 0, .int .u8 0, .int .u8 0, .int .u8 0, .int .u8 0, .int .u8 0, .int .u64 0, .int .u64 0, .int .u32 0, .bool false, .int .u16 0, .int .u16 0, .int .u16 0, .string ByteArray.empty]) := by kernel_rfl
theorem fo70_3 : fieldOff Try.prog 70 3 = some 22 := by kernel_rfl
theorem fo70_4 : fieldOff Try.prog 70 4 = some 23 := by kernel_rfl
theorem fo70_5 : fieldOff Try.prog 70 5 = some 24 := by kernel_rfl
theorem sz63 : szOf Try.prog 63 = some 1 := by kernel_rfl
theorem fo70_6 : fieldOff Try.prog 70 6 = some 25 := by kernel_rfl
theorem fo70_7 : fieldOff Try.prog 70 7 = some 26 := by kernel_rfl
theorem fo70_8 : fieldOff Try.prog 70 8 = some 27 := by kernel_rfl
theorem sz9 : szOf Try.prog 9 = some 1 := by kernel_rfl
theorem eqT70 : EqT Try.prog 70 (List.replicate 20 (Leaf.int .u8) ++ ([Leaf.int .u64, Leaf.int .u64, Leaf.int .u32, Leaf.bool, Leaf.int .u16, Leaf.int .u16, Leaf.int .u16, Leaf.str])) := ⟨by kernel_rfl, by kernel_rfl, by kernel_rfl, by kernel_rfl, by kernel_rfl⟩
theorem ag9 : aggB Try.prog 9 = some false := by kernel_rfl
theorem z4 : zeroOf Try.prog 4 = some (.bool false) := by kernel_rfl
theorem ex113 : (Try.f113.name == "runtime.NumGoroutine") = false ∧ Try.f113.body.isNone = true ∧ Extern.findNext Try.f113 = none ∧ Extern.find Try.f113 = some Extern.BytealgIndexByte.indexByte := ⟨by kernel_rfl, by kernel_rfl, by kernel_rfl, by kernel_rfl⟩
theorem ag5 : aggB Try.prog 5 = some false := by kernel_rfl
theorem sz5 : szOf Try.prog 5 = some 1 := by kernel_rfl
theorem fo70_0 : fieldOff Try.prog 70 0 = some 0 := by kernel_rfl
theorem ex100 : (Try.f100.name == "runtime.NumGoroutine") = false ∧ Try.f100.body.isNone = true ∧ Extern.findNext Try.f100 = none ∧ Extern.find Try.f100 = some Extern.BytealgCompare.compare := ⟨by kernel_rfl, by kernel_rfl, by kernel_rfl, by kernel_rfl⟩
theorem fo28_1 : fieldOff Try.prog 28 1 = some 1 := by kernel_rfl
theorem fo28_2 : fieldOff Try.prog 28 2 = some 2 := by kernel_rfl
theorem z31 : zeroOf Try.prog 31 = some (.slice none 0 0) := by kernel_rfl
theorem sz31 : szOf Try.prog 31 = some 1 := by kernel_rfl
theorem fo70_1 : fieldOff Try.prog 70 1 = some 20 := by kernel_rfl
theorem ag53 : aggB Try.prog 53 = some false := by kernel_rfl
theorem fo70_2 : fieldOff Try.prog 70 2 = some 21 := by kernel_rfl
theorem z28 : zeroOf Try.prog 28 = some (.agg #[.int .i64 0, .int .u32 0, .int .u8 0, .int .u8 0, .int .u8 0, .int .u8 0, .int .u8 0, .int .u8 0, .int .u8 0, .int .u8 0, .int .u8 0, .int .u8 0, .int .u8 0, .int .u8 0, .int .u8 0, .int .u8 0, .int .u8 0, .int .u8 0, .int .u8 0, .int .u8 0, .int .u8 0, .int .u8 0, .int .u8 0, .int .u8 0, .int .u8 0, .int .u8 0, .int .u8 0, .int .u8 0, .int .u8 0, .int .u8 0, .int .u8 0, .int .u8 0, .int .u8 0, .int .u8 0, .int .u8 0, .int .u8 0, .int .u8 0, .int .u8 0, .int .u8 0, .int .u8 0, .int .u8 0, .int .u8 0, .slice none 0 0, .slice none 0 0]) := by kernel_rfl
theorem np71 : Try.prog.underlying 71 = some (.pointer (Try.prog.pointee 71)) := by kernel_rfl
theorem fo105_0 : fieldOff Try.prog 105 0 = some 0 := by kernel_rfl
theorem fo103_1 : fieldOff Try.prog 103 1 = some 1 := by kernel_rfl
theorem fo103_0 : fieldOff Try.prog 103 0 = some 0 := by kernel_rfl
theorem fo103_2 : fieldOff Try.prog 103 2 = some 2 := by kernel_rfl
theorem us5 : (Try.prog.underlying 5).isSome = true := by kernel_rfl
theorem z65 : zeroOf Try.prog 65 = some (.agg #[.int .u32 0, .int .u16 0]) := by kernel_rfl
theorem eqT67 : EqT Try.prog 67 (List.replicate 20 (Leaf.int .u8) ++ ([Leaf.int .u32, Leaf.int .u16])) := ⟨by kernel_rfl, by kernel_rfl, by kernel_rfl, by kernel_rfl, by kernel_rfl⟩
theorem el67 : elI Try.prog 67 = some (22, 28, 22) := by kernel_rfl
theorem sz25 : szOf Try.prog 25 = some 1 := by kernel_rfl
theorem sz53 : szOf Try.prog 53 = some 1 := by kernel_rfl
theorem sz22 : szOf Try.prog 22 = some 1 := by kernel_rfl
theorem el70 : elI Try.prog 70 = some (28, 72, 28) := by kernel_rfl
theorem sz26 : szOf Try.prog 26 = some 1 := by kernel_rfl
theorem fo80_0 : fieldOff Try.prog 80 0 = some 0 := by kernel_rfl
theorem fo80_1 : fieldOff Try.prog 80 1 = some 1 := by kernel_rfl
theorem fo80_2 : fieldOff Try.prog 80 2 = some 2 := by kernel_rfl
theorem sz3 : szOf Try.prog 3 = some 1 := by kernel_rfl
theorem z95 : zeroOf Try.prog 95 = some (.agg #[.int .u8 0, .int .u8 0, .int .u8 0, .int .u8 0, .int .u8 0, .int .u8 0, .int .u8 0, .int .u8 0, .int .u8 0, .int .u8 0, .int .u8 0, .int .u8 0, .int .u8 0, .int .u8 0, .int .u8 0, .int .u8 0, .int .u8 0, .int .u8 0, .int .u8 0, .int .u8 0, .int .u32 0, .int .u16 0]) := by kernel_rfl
theorem sz95 : szOf Try.prog 95 = some 22 := by kernel_rfl
theorem fo95_0 : fieldOff Try.prog 95 0 = some 0 := by kernel_rfl
theorem z93 : zeroOf Try.prog 93 = some (.agg #[.int .u32 0, .int .u16 0]) := by kernel_rfl
theorem sz93 : szOf Try.prog 93 = some 2 := by kernel_rfl
theorem ag93 : aggB Try.prog 93 = some true := by kernel_rfl
theorem fo93_0 : fieldOff Try.prog 93 0 = some 0 := by kernel_rfl
theorem fo93_1 : fieldOff Try.prog 93 1 = some 1 := by kernel_rfl
theorem fo95_1 : fieldOff Try.prog 95 1 = some 20 := by kernel_rfl
theorem ag95 : aggB Try.prog 95 = some true := by kernel_rfl
theorem el95 : elI Try.prog 95 = some (22, 28, 22) := by kernel_rfl
theorem sl58 : SlT Try.prog 58 22 := ⟨by kernel_rfl, by kernel_rfl⟩
theorem ag92 : aggB Try.prog 92 = some true := by kernel_rfl
theorem sz92 : szOf Try.prog 92 = some 20 := by kernel_rfl
theorem eqT92 : EqT Try.prog 92 (List.replicate 20 (Leaf.int .u8)) := ⟨by kernel_rfl, by kernel_rfl, by kernel_rfl, by kernel_rfl, by kernel_rfl⟩
theorem el9 : elI Try.prog 9 = some (1, 16, 1) := by kernel_rfl
theorem sl140 : SlT Try.prog 140 1 := ⟨by kernel_rfl, by kernel_rfl⟩
theorem G_api_Addr_fits (x : G_api_Addr)  : Fits ([Leaf.int .u32, Leaf.int .u16]) (el_G_api_Addr.f x) := by
  show Fits _ [(v32 x.Host), (v16 x.Port)]
  exact (show Fits [Leaf.int .u32, Leaf.int .u16] [(v32 x.Host), (v16 x.Port)] from ⟨leaf_u32 _, ⟨leaf_u16 _, trivial⟩⟩)
theorem G_api_Addr_inj {x y : G_api_Addr} : x = y ↔ el_G_api_Addr.f x = el_G_api_Addr.f y := by
  constructor
  · rintro rfl; rfl
  · intro h
    have h : [(v32 x.Host), (v16 x.Port)] = [(v32 y.Host), (v16 y.Port)] := h
    obtain ⟨p0, p1⟩ := x
    obtain ⟨q0, q1⟩ := y
    simp only [span_append, span_only, List.append_assoc, List.cons_append, List.nil_append, List.cons.injEq, Value.int.injEq, Value.bool.injEq, Value.string.injEq, true_and, and_true, ofFn_inj', str_inj, Int.natCast_inj, UInt8.toNat_inj, UInt16.toNat_inj, UInt32.toNat_inj, UInt64.toNat_inj] at h
    simp only [h]
theorem G_api_Contact_fits (x : G_api_Contact)  : Fits (List.replicate 20 (Leaf.int .u8) ++ ([Leaf.int .u32, Leaf.int .u16])) (el_G_api_Contact.f x) := by
  show Fits _ (bytesV (List.ofFn (n := 20) x.ID) ++ (([(v32 x.Addr.Host), (v16 x.Addr.Port)] : List Value)))
  exact (Fits.append (fits_span _) (show Fits [Leaf.int .u32, Leaf.int .u16] [(v32 x.Addr.Host), (v16 x.Addr.Port)] from ⟨leaf_u32 _, ⟨leaf_u16 _, trivial⟩⟩))
theorem G_api_Contact_inj {x y : G_api_Contact} : x = y ↔ el_G_api_Contact.f x = el_G_api_Contact.f y := by
  constructor
  · rintro rfl; rfl
  · intro h
    have h : (bytesV (List.ofFn (n := 20) x.ID) ++ (([(v32 x.Addr.Host), (v16 x.Addr.Port)] : List Value))) = (bytesV (List.ofFn (n := 20) y.ID) ++ (([(v32 y.Addr.Host), (v16 y.Addr.Port)] : List Value))) := h
    obtain ⟨p0, ⟨p1_0, p1_1⟩⟩ := x
    obtain ⟨q0, ⟨q1_0, q1_1⟩⟩ := y
    simp only [span_append, span_only, List.append_assoc, List.cons_append, List.nil_append, List.cons.injEq, Value.int.injEq, Value.bool.injEq, Value.string.injEq, true_and, and_true, ofFn_inj', str_inj, Int.natCast_inj, UInt8.toNat_inj, UInt16.toNat_inj, UInt32.toNat_inj, UInt64.toNat_inj] at h
    simp only [h]
theorem G_api_Instance_fits (x : G_api_Instance) (k0 : x.Target.length ≤ maxLen) : Fits (List.replicate 20 (Leaf.int .u8) ++ ([Leaf.int .u64, Leaf.int .u64, Leaf.int .u32, Leaf.bool, Leaf.int .u16, Leaf.int .u16, Leaf.int .u16, Leaf.str])) (el_G_api_Instance.f x) := by
  show Fits _ (bytesV (List.ofFn (n := 20) x.Publisher) ++ (([(v64 x.Seq), (v64 x.Born), (v32 x.Life), (.bool x.Gone), (v16 x.Priority), (v16 x.Weight), (v16 x.Port), (.string (str x.Target))] : List Value)))
  exact (Fits.append (fits_span _) (show Fits [Leaf.int .u64, Leaf.int .u64, Leaf.int .u32, Leaf.bool, Leaf.int .u16, Leaf.int .u16, Leaf.int .u16, Leaf.str] [(v64 x.Seq), (v64 x.Born), (v32 x.Life), (.bool x.Gone), (v16 x.Priority), (v16 x.Weight), (v16 x.Port), (.string (str x.Target))] from ⟨leaf_u64 _, ⟨leaf_u64 _, ⟨leaf_u32 _, ⟨⟨_, rfl⟩, ⟨leaf_u16 _, ⟨leaf_u16 _, ⟨leaf_u16 _, ⟨leaf_str (by assumption), trivial⟩⟩⟩⟩⟩⟩⟩⟩))
theorem G_api_Instance_inj {x y : G_api_Instance} : x = y ↔ el_G_api_Instance.f x = el_G_api_Instance.f y := by
  constructor
  · rintro rfl; rfl
  · intro h
    have h : (bytesV (List.ofFn (n := 20) x.Publisher) ++ (([(v64 x.Seq), (v64 x.Born), (v32 x.Life), (.bool x.Gone), (v16 x.Priority), (v16 x.Weight), (v16 x.Port), (.string (str x.Target))] : List Value))) = (bytesV (List.ofFn (n := 20) y.Publisher) ++ (([(v64 y.Seq), (v64 y.Born), (v32 y.Life), (.bool y.Gone), (v16 y.Priority), (v16 y.Weight), (v16 y.Port), (.string (str y.Target))] : List Value))) := h
    obtain ⟨p0, p1, p2, p3, p4, p5, p6, p7, p8⟩ := x
    obtain ⟨q0, q1, q2, q3, q4, q5, q6, q7, q8⟩ := y
    simp only [span_append, span_only, List.append_assoc, List.cons_append, List.nil_append, List.cons.injEq, Value.int.injEq, Value.bool.injEq, Value.string.injEq, true_and, and_true, ofFn_inj', str_inj, Int.natCast_inj, UInt8.toNat_inj, UInt16.toNat_inj, UInt32.toNat_inj, UInt64.toNat_inj] at h
    simp only [h]
end Go.Proofs.Ytleemokneeoikaa
