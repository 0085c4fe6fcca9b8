/-
  Facts of the program, a row each. No condition.
-/
import Derived.Test.YtpheilpcklfknaaDoorServiceTellsMod
import Derived.Test.YtpheilpcklfknaaDoorProg
namespace Go.Proofs.YtpheilpcklfknaaDoor
open Go Go.RowKit
set_option linter.unusedVariables false
set_option linter.unusedSimpArgs false
set_option linter.unnecessarySimpa false
theorem en5 : Enters Tryd.prog 5 := fun l w => Tryd.call5 l w
theorem en6 : Enters Tryd.prog 6 := fun l w => Tryd.call6 l w
theorem en7 : Enters Tryd.prog 7 := fun l w => Tryd.call7 l w
theorem en9 : Enters Tryd.prog 9 := fun l w => Tryd.call9 l w
theorem en10 : Enters Tryd.prog 10 := fun l w => Tryd.call10 l w
theorem en11 : Enters Tryd.prog 11 := fun l w => Tryd.call11 l w
theorem en12 : Enters Tryd.prog 12 := fun l w => Tryd.call12 l w
theorem en13 : Enters Tryd.prog 13 := fun l w => Tryd.call13 l w
theorem en14 : Enters Tryd.prog 14 := fun l w => Tryd.call14 l w
theorem en15 : Enters Tryd.prog 15 := fun l w => Tryd.call15 l w
theorem en16 : Enters Tryd.prog 16 := fun l w => Tryd.call16 l w
theorem en17 : Enters Tryd.prog 17 := fun l w => Tryd.call17 l w
theorem en18 : Enters Tryd.prog 18 := fun l w => Tryd.call18 l w
theorem en19 : Enters Tryd.prog 19 := fun l w => Tryd.call19 l w
theorem en20 : Enters Tryd.prog 20 := fun l w => Tryd.call20 l w
theorem en21 : Enters Tryd.prog 21 := fun l w => Tryd.call21 l w
theorem en22 : Enters Tryd.prog 22 := fun l w => Tryd.call22 l w
theorem en23 : Enters Tryd.prog 23 := fun l w => Tryd.call23 l w
theorem en24 : Enters Tryd.prog 24 := fun l w => Tryd.call24 l w
theorem en25 : Enters Tryd.prog 25 := fun l w => Tryd.call25 l w
theorem en26 : Enters Tryd.prog 26 := fun l w => Tryd.call26 l w
theorem en27 : Enters Tryd.prog 27 := fun l w => Tryd.call27 l w
theorem en28 : Enters Tryd.prog 28 := fun l w => Tryd.call28 l w
theorem en29 : Enters Tryd.prog 29 := fun l w => Tryd.call29 l w
theorem en30 : Enters Tryd.prog 30 := fun l w => Tryd.call30 l w
theorem en31 : Enters Tryd.prog 31 := fun l w => Tryd.call31 l w
theorem en32 : Enters Tryd.prog 32 := fun l w => Tryd.call32 l w
theorem en33 : Enters Tryd.prog 33 := fun l w => Tryd.call33 l w
theorem en34 : Enters Tryd.prog 34 := fun l w => Tryd.call34 l w
theorem en35 : Enters Tryd.prog 35 := fun l w => Tryd.call35 l w
theorem en36 : Enters Tryd.prog 36 := fun l w => Tryd.call36 l w
theorem en37 : Enters Tryd.prog 37 := fun l w => Tryd.call37 l w
theorem en38 : Enters Tryd.prog 38 := fun l w => Tryd.call38 l w
theorem en39 : Enters Tryd.prog 39 := fun l w => Tryd.call39 l w
theorem en42 : Enters Tryd.prog 42 := fun l w => Tryd.call42 l w
theorem en43 : Enters Tryd.prog 43 := fun l w => Tryd.call43 l w
theorem en44 : Enters Tryd.prog 44 := fun l w => Tryd.call44 l w
theorem en45 : Enters Tryd.prog 45 := fun l w => Tryd.call45 l w
theorem en46 : Enters Tryd.prog 46 := fun l w => Tryd.call46 l w
theorem en47 : Enters Tryd.prog 47 := fun l w => Tryd.call47 l w
theorem en48 : Enters Tryd.prog 48 := fun l w => Tryd.call48 l w
theorem en49 : Enters Tryd.prog 49 := fun l w => Tryd.call49 l w
theorem en50 : Enters Tryd.prog 50 := fun l w => Tryd.call50 l w
theorem en51 : Enters Tryd.prog 51 := fun l w => Tryd.call51 l w
theorem en52 : Enters Tryd.prog 52 := fun l w => Tryd.call52 l w
theorem en53 : Enters Tryd.prog 53 := fun l w => Tryd.call53 l w
theorem en57 : Enters Tryd.prog 57 := fun l w => Tryd.call57 l w
theorem en58 : Enters Tryd.prog 58 := fun l w => Tryd.call58 l w
theorem en59 : Enters Tryd.prog 59 := fun l w => Tryd.call59 l w
theorem en60 : Enters Tryd.prog 60 := fun l w => Tryd.call60 l w
theorem en61 : Enters Tryd.prog 61 := fun l w => Tryd.call61 l w
theorem en62 : Enters Tryd.prog 62 := fun l w => Tryd.call62 l w
theorem en63 : Enters Tryd.prog 63 := fun l w => Tryd.call63 l w
theorem en64 : Enters Tryd.prog 64 := fun l w => Tryd.call64 l w
theorem en69 : Enters Tryd.prog 69 := fun l w => Tryd.call69 l w
theorem z4 : zeroOf Tryd.prog 4 = some (.bool false) := by kernel_rfl
theorem sz4 : szOf Tryd.prog 4 = some 1 := by kernel_rfl
theorem ag4 : aggB Tryd.prog 4 = some false := by kernel_rfl
theorem ag9 : aggB Tryd.prog 9 = some false := by kernel_rfl
theorem ex70 : (Tryd.f70.name == "runtime.NumGoroutine") = false ∧ Tryd.f70.body.isNone = true ∧ Extern.findNext Tryd.f70 = none ∧ Extern.find Tryd.f70 = some Extern.BytealgIndexByte.indexByte := ⟨by kernel_rfl, by kernel_rfl, by kernel_rfl, by kernel_rfl⟩
theorem sz9 : szOf Tryd.prog 9 = some 1 := by kernel_rfl
theorem el5 : elI Tryd.prog 5 = some (1, 1, 1) := by kernel_rfl
theorem sl50 : SlT Tryd.prog 50 1 := ⟨by kernel_rfl, by kernel_rfl⟩
theorem ag5 : aggB Tryd.prog 5 = some false := by kernel_rfl
theorem sz5 : szOf Tryd.prog 5 = some 1 := by kernel_rfl
theorem z43 : zeroOf Tryd.prog 43 = some (.slice none 0 0) := by kernel_rfl
theorem ag43 : aggB Tryd.prog 43 = some false := by kernel_rfl
theorem el9 : elI Tryd.prog 9 = some (1, 16, 1) := by kernel_rfl
theorem sz43 : szOf Tryd.prog 43 = some 1 := by kernel_rfl
theorem sl43 : SlT Tryd.prog 43 1 := ⟨by kernel_rfl, by kernel_rfl⟩
theorem z9 : zeroOf Tryd.prog 9 = some (.string ByteArray.empty) := by kernel_rfl
theorem z24 : zeroOf Tryd.prog 24 = some (.agg #[.int .u8 0, .int .u8 0, .int .u8 0, .int .u8 0, .int .u8 0, .int .u8 0, .int .u8 0, .int .u8 0, .int .u8 0, .int .u8 0, .int .u8 0, .int .u8 0, .int .u8 0, .int .u8 0, .int .u8 0, .int .u8 0, .int .u8 0, .int .u8 0, .int .u8 0, .int .u8 0]) := by kernel_rfl
theorem z59 : zeroOf Tryd.prog 59 = some (.agg #[.int .u32 0, .int .u32 0, .int .u32 0, .int .u32 0, .int .u32 0]) := by kernel_rfl
theorem sz59 : szOf Tryd.prog 59 = some 5 := by kernel_rfl
theorem ag59 : aggB Tryd.prog 59 = some true := by kernel_rfl
theorem np62 : Tryd.prog.underlying 62 = some (.pointer (Tryd.prog.pointee 62)) := by kernel_rfl
theorem fo76_0 : fieldOff Tryd.prog 76 0 = some 0 := by kernel_rfl
theorem fo76_3 : fieldOff Tryd.prog 76 3 = some 7 := by kernel_rfl
theorem ag57 : aggB Tryd.prog 57 = some false := by kernel_rfl
theorem us3 : (Tryd.prog.underlying 3).isSome = true := by kernel_rfl
theorem sz57 : szOf Tryd.prog 57 = some 1 := by kernel_rfl
theorem fo76_2 : fieldOff Tryd.prog 76 2 = some 6 := by kernel_rfl
theorem ag50 : aggB Tryd.prog 50 = some false := by kernel_rfl
theorem fo76_1 : fieldOff Tryd.prog 76 1 = some 1 := by kernel_rfl
theorem z84 : zeroOf Tryd.prog 84 = some (.agg #[.int .u32 0, .int .u32 0, .int .u32 0, .int .u32 0, .int .u32 0, .int .u32 0, .int .u32 0, .int .u32 0, .int .u32 0, .int .u32 0, .int .u32 0, .int .u32 0, .int .u32 0, .int .u32 0, .int .u32 0, .int .u32 0]) := by kernel_rfl
theorem us5 : (Tryd.prog.underlying 5).isSome = true := by kernel_rfl
theorem us57 : (Tryd.prog.underlying 57).isSome = true := by kernel_rfl
theorem ar84 : Tryd.prog.underlying 84 = some (.array 16 (Tryd.prog.elem 84)) ∧ szOf Tryd.prog (Tryd.prog.elem 84) = some 1 := ⟨by kernel_rfl, by kernel_rfl⟩
theorem sz58 : szOf Tryd.prog 58 = some 1 := by kernel_rfl
theorem ag84 : aggB Tryd.prog 84 = some true := by kernel_rfl
theorem sz84 : szOf Tryd.prog 84 = some 16 := by kernel_rfl
theorem ar59 : Tryd.prog.underlying 59 = some (.array 5 (Tryd.prog.elem 59)) ∧ szOf Tryd.prog (Tryd.prog.elem 59) = some 1 := ⟨by kernel_rfl, by kernel_rfl⟩
theorem ag58 : aggB Tryd.prog 58 = some false := by kernel_rfl
theorem sz50 : szOf Tryd.prog 50 = some 1 := by kernel_rfl
theorem sz24 : szOf Tryd.prog 24 = some 20 := by kernel_rfl
theorem ag76 : aggB Tryd.prog 76 = some true := by kernel_rfl
theorem sz76 : szOf Tryd.prog 76 = some 8 := by kernel_rfl
theorem z76 : zeroOf Tryd.prog 76 = some (.agg #[.bool false, .int .u32 0, .int .u32 0, .int .u32 0, .int .u32 0, .int .u32 0, .slice none 0 0, .int .u64 0]) := by kernel_rfl
theorem z5 : zeroOf Tryd.prog 5 = some (.int .u8 0) := by kernel_rfl
theorem arb59 : aggB Tryd.prog (Tryd.prog.elem 59) = some false := by kernel_rfl
theorem us58 : (Tryd.prog.underlying 58).isSome = true := by kernel_rfl
theorem ag24 : aggB Tryd.prog 24 = some true := by kernel_rfl
theorem z38 : zeroOf Tryd.prog 38 = some (.agg #[.int .u8 0, .int .u8 0, .int .u8 0, .int .u8 0, .int .u8 0, .int .u8 0, .int .u8 0, .int .u8 0, .int .u8 0, .int .u8 0, .int .u8 0, .int .u8 0, .int .u8 0, .int .u8 0, .int .u8 0, .int .u8 0, .int .u8 0, .int .u8 0, .int .u8 0, .int .u8 0]) := by kernel_rfl
theorem el58 : elI Tryd.prog 58 = some (1, 4, 1) := by kernel_rfl
theorem sl68 : SlT Tryd.prog 68 1 := ⟨by kernel_rfl, by kernel_rfl⟩
theorem ag38 : aggB Tryd.prog 38 = some true := by kernel_rfl
theorem sz38 : szOf Tryd.prog 38 = some 20 := by kernel_rfl
theorem eqT38 : EqT Tryd.prog 38 (List.replicate 20 (Leaf.int .u8)) := ⟨by kernel_rfl, by kernel_rfl, by kernel_rfl, by kernel_rfl, by kernel_rfl⟩

end Go.Proofs.YtpheilpcklfknaaDoor
