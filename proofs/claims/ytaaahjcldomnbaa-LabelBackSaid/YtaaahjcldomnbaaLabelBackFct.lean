/-
  Facts of the program, a row each. No condition.
-/
import Derived.Test.YtaaahjcldomnbaaLabelBackMod
import Derived.Test.YtaaahjcldomnbaaProg
import Derived.Test.YtaaahjcldomnbaaBShelf
namespace Go.Proofs.Ytaaahjcldomnbaa
open Go Go.RowKit
set_option linter.unusedVariables false
set_option linter.unusedSimpArgs false
set_option linter.unnecessarySimpa false
theorem en47 : Enters Try.prog 47 := fun l w => Try.call47 l w
theorem en48 : Enters Try.prog 48 := fun l w => Try.call48 l w
theorem en49 : Enters Try.prog 49 := fun l w => Try.call49 l w
theorem en50 : Enters Try.prog 50 := fun l w => Try.call50 l w
theorem en51 : Enters Try.prog 51 := fun l w => Try.call51 l w
theorem en53 : Enters Try.prog 53 := fun l w => Try.call53 l w
theorem en81 : Enters Try.prog 81 := fun l w => Try.call81 l w
theorem en82 : Enters Try.prog 82 := fun l w => Try.call82 l w
theorem en83 : Enters Try.prog 83 := fun l w => Try.call83 l w
theorem en84 : Enters Try.prog 84 := fun l w => Try.call84 l w
theorem en85 : Enters Try.prog 85 := fun l w => Try.call85 l w
theorem en88 : Enters Try.prog 88 := fun l w => Try.call88 l w
theorem en89 : Enters Try.prog 89 := fun l w => Try.call89 l w
theorem en111 : Enters Try.prog 111 := fun l w => Try.call111 l w
theorem en112 : Enters Try.prog 112 := fun l w => Try.call112 l w
theorem en113 : Enters Try.prog 113 := fun l w => Try.call113 l w
theorem en114 : Enters Try.prog 114 := fun l w => Try.call114 l w
theorem en125 : Enters Try.prog 125 := fun l w => Try.call125 l w
theorem en134 : Enters Try.prog 134 := fun l w => Try.call134 l w
theorem en139 : Enters Try.prog 139 := fun l w => Try.call139 l w
theorem z22 : zeroOf Try.prog 22 = some (.slice none 0 0) := by kernel_rfl
theorem z4 : zeroOf Try.prog 4 = some (.bool false) := by kernel_rfl
theorem sz4 : szOf Try.prog 4 = some 1 := by kernel_rfl
theorem ag4 : aggB Try.prog 4 = some false := by kernel_rfl
theorem ag9 : aggB Try.prog 9 = some false := by kernel_rfl
theorem ex144 : (Try.f144.name == "runtime.NumGoroutine") = false ∧ Try.f144.body.isNone = true ∧ Extern.findNext Try.f144 = none ∧ Extern.find Try.f144 = some Extern.BytealgIndexByte.indexByte := ⟨by kernel_rfl, by kernel_rfl, by kernel_rfl, by kernel_rfl⟩
theorem sz9 : szOf Try.prog 9 = some 1 := by kernel_rfl
theorem el5 : elI Try.prog 5 = some (1, 1, 1) := by kernel_rfl
theorem sl22 : SlT Try.prog 22 1 := ⟨by kernel_rfl, by kernel_rfl⟩
theorem ag5 : aggB Try.prog 5 = some false := by kernel_rfl
theorem sz22 : szOf Try.prog 22 = some 1 := by kernel_rfl
theorem z132 : zeroOf Try.prog 132 = some (.nilFunc) := by kernel_rfl
theorem sz132 : szOf Try.prog 132 = some 1 := by kernel_rfl
theorem ag132 : aggB Try.prog 132 = some false := by kernel_rfl
theorem ag22 : aggB Try.prog 22 = some false := by kernel_rfl
theorem us3 : (Try.prog.underlying 3).isSome = true := by kernel_rfl
theorem sz5 : szOf Try.prog 5 = some 1 := by kernel_rfl
theorem us5 : (Try.prog.underlying 5).isSome = true := by kernel_rfl
theorem el9 : elI Try.prog 9 = some (1, 16, 1) := by kernel_rfl

end Go.Proofs.Ytaaahjcldomnbaa
