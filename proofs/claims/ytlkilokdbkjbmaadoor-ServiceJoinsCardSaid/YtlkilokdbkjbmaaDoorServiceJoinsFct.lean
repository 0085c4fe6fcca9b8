/-
  Facts of the program, a row each. No condition.
-/
import Derived.Test.YtlkilokdbkjbmaaDoorServiceJoinsMod
import Derived.Test.YtlkilokdbkjbmaaDoorProg
import Derived.Test.YtlkilokdbkjbmaaDoorBShelf
namespace Go.Proofs.YtlkilokdbkjbmaaDoor
open Go Go.RowKit
set_option linter.unusedVariables false
set_option linter.unusedSimpArgs false
set_option linter.unnecessarySimpa false
theorem en4 : Enters Tryd.prog 4 := fun l w => Tryd.call4 l w
theorem en5 : Enters Tryd.prog 5 := fun l w => Tryd.call5 l w
theorem en6 : Enters Tryd.prog 6 := fun l w => Tryd.call6 l w
theorem en7 : Enters Tryd.prog 7 := fun l w => Tryd.call7 l w
theorem en8 : Enters Tryd.prog 8 := fun l w => Tryd.call8 l w
theorem en9 : Enters Tryd.prog 9 := fun l w => Tryd.call9 l w
theorem en10 : Enters Tryd.prog 10 := fun l w => Tryd.call10 l w
theorem en11 : Enters Tryd.prog 11 := fun l w => Tryd.call11 l w
theorem en12 : Enters Tryd.prog 12 := fun l w => Tryd.call12 l w
theorem en13 : Enters Tryd.prog 13 := fun l w => Tryd.call13 l w
theorem en14 : Enters Tryd.prog 14 := fun l w => Tryd.call14 l w
theorem en15 : Enters Tryd.prog 15 := fun l w => Tryd.call15 l w
theorem en16 : Enters Tryd.prog 16 := fun l w => Tryd.call16 l w
theorem en17 : Enters Tryd.prog 17 := fun l w => Tryd.call17 l w
theorem en18 : Enters Tryd.prog 18 := fun l w => Tryd.call18 l w
theorem en19 : Enters Tryd.prog 19 := fun l w => Tryd.call19 l w
theorem en20 : Enters Tryd.prog 20 := fun l w => Tryd.call20 l w
theorem en21 : Enters Tryd.prog 21 := fun l w => Tryd.call21 l w
theorem en25 : Enters Tryd.prog 25 := fun l w => Tryd.call25 l w
theorem en26 : Enters Tryd.prog 26 := fun l w => Tryd.call26 l w
theorem en29 : Enters Tryd.prog 29 := fun l w => Tryd.call29 l w
theorem en30 : Enters Tryd.prog 30 := fun l w => Tryd.call30 l w
theorem en31 : Enters Tryd.prog 31 := fun l w => Tryd.call31 l w
theorem en32 : Enters Tryd.prog 32 := fun l w => Tryd.call32 l w
theorem en35 : Enters Tryd.prog 35 := fun l w => Tryd.call35 l w
theorem en39 : Enters Tryd.prog 39 := fun l w => Tryd.call39 l w
theorem en40 : Enters Tryd.prog 40 := fun l w => Tryd.call40 l w
theorem en43 : Enters Tryd.prog 43 := fun l w => Tryd.call43 l w
theorem en45 : Enters Tryd.prog 45 := fun l w => Tryd.call45 l w
theorem z4 : zeroOf Tryd.prog 4 = some (.bool false) := by kernel_rfl
theorem sz4 : szOf Tryd.prog 4 = some 1 := by kernel_rfl
theorem ag4 : aggB Tryd.prog 4 = some false := by kernel_rfl
theorem ag9 : aggB Tryd.prog 9 = some false := by kernel_rfl
theorem ex49 : (Tryd.f49.name == "runtime.NumGoroutine") = false ∧ Tryd.f49.body.isNone = true ∧ Extern.findNext Tryd.f49 = none ∧ Extern.find Tryd.f49 = some Extern.BytealgIndexByte.indexByte := ⟨by kernel_rfl, by kernel_rfl, by kernel_rfl, by kernel_rfl⟩
theorem sz9 : szOf Tryd.prog 9 = some 1 := by kernel_rfl
theorem el5 : elI Tryd.prog 5 = some (1, 1, 1) := by kernel_rfl
theorem sl44 : SlT Tryd.prog 44 1 := ⟨by kernel_rfl, by kernel_rfl⟩
theorem ag5 : aggB Tryd.prog 5 = some false := by kernel_rfl
theorem sz5 : szOf Tryd.prog 5 = some 1 := by kernel_rfl
theorem z35 : zeroOf Tryd.prog 35 = some (.slice none 0 0) := by kernel_rfl
theorem ag35 : aggB Tryd.prog 35 = some false := by kernel_rfl
theorem el9 : elI Tryd.prog 9 = some (1, 16, 1) := by kernel_rfl
theorem sz35 : szOf Tryd.prog 35 = some 1 := by kernel_rfl
theorem sl35 : SlT Tryd.prog 35 1 := ⟨by kernel_rfl, by kernel_rfl⟩
theorem z9 : zeroOf Tryd.prog 9 = some (.string ByteArray.empty) := by kernel_rfl

end Go.Proofs.YtlkilokdbkjbmaaDoor
