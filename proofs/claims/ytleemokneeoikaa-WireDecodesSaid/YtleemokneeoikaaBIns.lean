/-
  Rows that are shortened in place: an append within the room, what lies behind the end. No condition.
-/
import Derived.Test.YtleemokneeoikaaBExt
namespace Go.Proofs.Ytleemokneeoikaa
open Go Go.RowKit
set_option linter.unusedVariables false
set_option linter.unusedSimpArgs false
section
variable {α : Type} {E : El α} {P : Program} {N : Nat} {L : Slots} {W : Base} {w : World} {a a2 : Option Addr} {c c2 m n : Nat} {l l2 : List α} {R : List Res} {dst : Option Tmp} {t ty : TypeId} {pos : String} {af : Array Edge} {gd : Option (Nat × Bool)} {x y z : Operand}
end
end Go.Proofs.Ytleemokneeoikaa
