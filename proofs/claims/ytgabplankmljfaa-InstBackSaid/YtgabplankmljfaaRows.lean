/-
  No cell of these rows narrows 'for every input' (looked for: loops, veiled, ifaces, maps, wideKeys, modest, calm, conditions, laid).
  DERIVED. THE GIVEN ROWS OF THIS SEAT. 8 by the template 'for every input the law returns true; each argument reads behind the call as it read before'; 0 by the template 'total and deterministic' (their statements: YtgabplankmljfaaTotals.lean).
  GIVEN WITH THE SEED: the statements are not yours to turn. If you find one false, say at which input.
  Laid BY PROGRAM, IN A SANDBOX (cutbox-rows.mjs): the forced cells as the released guide's own fill.sh prints them over the translation dfa2ec2d3d95a8dc… (all of the seat's roots in one cut). By AI agents, Wed Nov 11 2026. No macro, syntax, notation, axiom, sorry.
-/
import Derived.Test.YtgabplankmljfaaChecked
import GoSem.Claim
import GoSem.ClaimJoined
import GoSem.ClaimMapViews
import Derived.JoinedTies
import Derived.KernelRfl
namespace Go.Proofs.Ytgabplankmljfaa
/- THE CELL 'sum', in the pinned program and in every row, IS THE sha256 OF THE DUMP (.gsa) THAT YtgabplankmljfaaProg.lean LOADS. Nothing in Lean hashes anything: it is a label: what it is worth is what the hold of that sum in a sandbox is worth. -/
noncomputable def Try.pinned : Pinned := { name := "ytgabplankmljfaa", sum := "dfa2ec2d3d95a8dc1efed937a59b12bc098dc2d8eac3988850ffbcec2ddaa342", checked := Try.checked }
namespace Rows
def none {H : Type} : Left H := { results := [], args := [] }

/-- 'signpostlaw15.TimersOnce': WHATEVER THE INPUT: true; the input reads as it did. -/
def timersOnceSpec : ChangeSpec := { name := "timersOnce", fn := fun _ => fun
  | [d1, d2] => { results := [.lit (.bool true)], args := [d1, d2] }
  | _ => none }
def timersOnceRow : OpenClaim := { program := "ytgabplankmljfaa", sum := "dfa2ec2d3d95a8dc1efed937a59b12bc098dc2d8eac3988850ffbcec2ddaa342", func := "signpost/signpostlaw15.TimersOnce", spec := "timersOnce", inPlace := ["slices.overlaps[signpost/timers.timer[string]]", "slices.overlaps[signpost/timers.timer[int]]"], unfollowed := true, recurses := true, apart := false }
def TimersOnceSaid : Prop := timersOnceRow.holds Try.pinned (OpenSpec.ofChange timersOnceSpec)

/-- ITS FALSE NEIGHBOUR: 'it returns false'. Refute it at one input. -/
def timersOnceWrong : ChangeSpec := { name := "timersOnce", fn := fun _ => fun
  | [d1, d2] => { results := [.lit (.bool false)], args := [d1, d2] }
  | _ => none }
def TimersOnceWrongFalsely : Prop := timersOnceRow.holds Try.pinned (OpenSpec.ofChange timersOnceWrong)

/-- 'signpostlaw35.ChooseMay': WHATEVER THE INPUT: true; the input reads as it did. -/
def chooseMaySpec : ChangeSpec := { name := "chooseMay", fn := fun _ => fun
  | [d1, d2] => { results := [.lit (.bool true)], args := [d1, d2] }
  | _ => none }
def chooseMayRow : OpenClaim := { program := "ytgabplankmljfaa", sum := "dfa2ec2d3d95a8dc1efed937a59b12bc098dc2d8eac3988850ffbcec2ddaa342", func := "signpost/signpostlaw35.ChooseMay", spec := "chooseMay", unfollowed := true, recurses := true, apart := false }
def ChooseMaySaid : Prop := chooseMayRow.holds Try.pinned (OpenSpec.ofChange chooseMaySpec)

/-- ITS FALSE NEIGHBOUR: 'it returns false'. Refute it at one input. -/
def chooseMayWrong : ChangeSpec := { name := "chooseMay", fn := fun _ => fun
  | [d1, d2] => { results := [.lit (.bool false)], args := [d1, d2] }
  | _ => none }
def ChooseMayWrongFalsely : Prop := chooseMayRow.holds Try.pinned (OpenSpec.ofChange chooseMayWrong)

/-- 'signpostlaw15.TimersPlay': WHATEVER THE INPUT: true; the input reads as it did. -/
def timersPlaySpec : ChangeSpec := { name := "timersPlay", fn := fun _ => fun
  | [d1, d2, d3] => { results := [.lit (.bool true)], args := [d1, d2, d3] }
  | _ => none }
def timersPlayRow : OpenClaim := { program := "ytgabplankmljfaa", sum := "dfa2ec2d3d95a8dc1efed937a59b12bc098dc2d8eac3988850ffbcec2ddaa342", func := "signpost/signpostlaw15.TimersPlay", spec := "timersPlay", inPlace := ["slices.overlaps[signpost/timers.timer[string]]", "slices.overlaps[signpost/timers.timer[int]]"], unfollowed := true, recurses := true, apart := false }
def TimersPlaySaid : Prop := timersPlayRow.holds Try.pinned (OpenSpec.ofChange timersPlaySpec)

/-- ITS FALSE NEIGHBOUR: 'it returns false'. Refute it at one input. -/
def timersPlayWrong : ChangeSpec := { name := "timersPlay", fn := fun _ => fun
  | [d1, d2, d3] => { results := [.lit (.bool false)], args := [d1, d2, d3] }
  | _ => none }
def TimersPlayWrongFalsely : Prop := timersPlayRow.holds Try.pinned (OpenSpec.ofChange timersPlayWrong)

/-- 'signpostlaw11.InstTells': WHATEVER THE INPUT: true; the input reads as it did. -/
def instTellsSpec : ChangeSpec := { name := "instTells", fn := fun _ => fun
  | [d1, d2, d3] => { results := [.lit (.bool true)], args := [d1, d2, d3] }
  | _ => none }
def instTellsRow : OpenClaim := { program := "ytgabplankmljfaa", sum := "dfa2ec2d3d95a8dc1efed937a59b12bc098dc2d8eac3988850ffbcec2ddaa342", func := "signpost/signpostlaw11.InstTells", spec := "instTells", inPlace := ["internal/bytealg.IndexByteString", "internal/bytealg.IndexString", "internal/bytealg.Compare"], unfollowed := true, recurses := true, named := ["internal/bytealg.MaxLen"], apart := false }
def InstTellsSaid : Prop := instTellsRow.holds Try.pinned (OpenSpec.ofChange instTellsSpec)

/-- ITS FALSE NEIGHBOUR: 'it returns false'. Refute it at one input. -/
def instTellsWrong : ChangeSpec := { name := "instTells", fn := fun _ => fun
  | [d1, d2, d3] => { results := [.lit (.bool false)], args := [d1, d2, d3] }
  | _ => none }
def InstTellsWrongFalsely : Prop := instTellsRow.holds Try.pinned (OpenSpec.ofChange instTellsWrong)

/-- 'signpostlaw11.InstLife': WHATEVER THE INPUT: true; the input reads as it did. -/
def instLifeSpec : ChangeSpec := { name := "instLife", fn := fun _ => fun
  | [d1, d2, d3, d4, d5] => { results := [.lit (.bool true)], args := [d1, d2, d3, d4, d5] }
  | _ => none }
def instLifeRow : OpenClaim := { program := "ytgabplankmljfaa", sum := "dfa2ec2d3d95a8dc1efed937a59b12bc098dc2d8eac3988850ffbcec2ddaa342", func := "signpost/signpostlaw11.InstLife", spec := "instLife", inPlace := ["internal/bytealg.IndexByteString", "internal/bytealg.IndexString", "internal/bytealg.Compare"], unfollowed := true, recurses := true, named := ["internal/bytealg.MaxLen"], apart := false }
def InstLifeSaid : Prop := instLifeRow.holds Try.pinned (OpenSpec.ofChange instLifeSpec)

/-- ITS FALSE NEIGHBOUR: 'it returns false'. Refute it at one input. -/
def instLifeWrong : ChangeSpec := { name := "instLife", fn := fun _ => fun
  | [d1, d2, d3, d4, d5] => { results := [.lit (.bool false)], args := [d1, d2, d3, d4, d5] }
  | _ => none }
def InstLifeWrongFalsely : Prop := instLifeRow.holds Try.pinned (OpenSpec.ofChange instLifeWrong)

/-- 'signpostlaw35.ChooseOrders': WHATEVER THE INPUT: true; the input reads as it did. -/
def chooseOrdersSpec : ChangeSpec := { name := "chooseOrders", fn := fun _ => fun
  | [d1, d2, d3, d4, d5] => { results := [.lit (.bool true)], args := [d1, d2, d3, d4, d5] }
  | _ => none }
def chooseOrdersRow : OpenClaim := { program := "ytgabplankmljfaa", sum := "dfa2ec2d3d95a8dc1efed937a59b12bc098dc2d8eac3988850ffbcec2ddaa342", func := "signpost/signpostlaw35.ChooseOrders", spec := "chooseOrders", unfollowed := true, recurses := true, apart := false }
def ChooseOrdersSaid : Prop := chooseOrdersRow.holds Try.pinned (OpenSpec.ofChange chooseOrdersSpec)

/-- ITS FALSE NEIGHBOUR: 'it returns false'. Refute it at one input. -/
def chooseOrdersWrong : ChangeSpec := { name := "chooseOrders", fn := fun _ => fun
  | [d1, d2, d3, d4, d5] => { results := [.lit (.bool false)], args := [d1, d2, d3, d4, d5] }
  | _ => none }
def ChooseOrdersWrongFalsely : Prop := chooseOrdersRow.holds Try.pinned (OpenSpec.ofChange chooseOrdersWrong)

/-- 'signpostlaw11.InstReads': WHATEVER THE INPUT: true; the input reads as it did. -/
def instReadsSpec : ChangeSpec := { name := "instReads", fn := fun _ => fun
  | [d] => { results := [.lit (.bool true)], args := [d] }
  | _ => none }
def instReadsRow : OpenClaim := { program := "ytgabplankmljfaa", sum := "dfa2ec2d3d95a8dc1efed937a59b12bc098dc2d8eac3988850ffbcec2ddaa342", func := "signpost/signpostlaw11.InstReads", spec := "instReads", inPlace := ["internal/bytealg.IndexByteString", "internal/bytealg.IndexString"], unfollowed := true, recurses := true, named := ["internal/bytealg.MaxLen"], apart := false }
def InstReadsSaid : Prop := instReadsRow.holds Try.pinned (OpenSpec.ofChange instReadsSpec)

/-- ITS FALSE NEIGHBOUR: 'it returns false'. Refute it at one input. -/
def instReadsWrong : ChangeSpec := { name := "instReads", fn := fun _ => fun
  | [d] => { results := [.lit (.bool false)], args := [d] }
  | _ => none }
def InstReadsWrongFalsely : Prop := instReadsRow.holds Try.pinned (OpenSpec.ofChange instReadsWrong)

/-- 'signpostlaw11.InstBack': WHATEVER THE INPUT: true; the input reads as it did. -/
def instBackSpec : ChangeSpec := { name := "instBack", fn := fun _ => fun
  | [d1, d2, d3] => { results := [.lit (.bool true)], args := [d1, d2, d3] }
  | _ => none }
def instBackRow : OpenClaim := { program := "ytgabplankmljfaa", sum := "dfa2ec2d3d95a8dc1efed937a59b12bc098dc2d8eac3988850ffbcec2ddaa342", func := "signpost/signpostlaw11.InstBack", spec := "instBack", inPlace := ["internal/bytealg.IndexByteString", "internal/bytealg.IndexString"], unfollowed := true, recurses := true, named := ["internal/bytealg.MaxLen"], apart := false }
def InstBackSaid : Prop := instBackRow.holds Try.pinned (OpenSpec.ofChange instBackSpec)

/-- ITS FALSE NEIGHBOUR: 'it returns false'. Refute it at one input. -/
def instBackWrong : ChangeSpec := { name := "instBack", fn := fun _ => fun
  | [d1, d2, d3] => { results := [.lit (.bool false)], args := [d1, d2, d3] }
  | _ => none }
def InstBackWrongFalsely : Prop := instBackRow.holds Try.pinned (OpenSpec.ofChange instBackWrong)

/- THE SECOND FORM. 'bulk': how many values and letters a reading holds, each counted each time it is reached (what is shared counts as often as it is met; a slice's spare places count too). A statement '..UptoSaid' is the law's where the arguments, and the package variables that the reading takes, are together of bulk at most 1048576: NARROWER than '..Said'. Prove '..Said' where nothing that the law and all that it calls make is longer than what came in: it says more and counts as full. Else prove '..UptoSaid'. A law counts once. -/
mutual
def uptoBulk {H : Type} : DataW H → Nat
  | .lit (.string bytes) => bytes.length + 1
  | .lit _ => 1
  | .nil => 1
  | .ptr d => uptoBulk d + 1
  | .slice elems spare => uptoBulkAll elems + uptoBulkAll spare + 1
  | .agg parts => uptoBulkAll parts + 1
  | .iface _ d => uptoBulk d + 1
  | .map entries => uptoBulkEntries entries + 1
  | .held _ => 1
def uptoBulkAll {H : Type} : List (DataW H) → Nat
  | [] => 0
  | d :: r => uptoBulk d + uptoBulkAll r
def uptoBulkEntries {H : Type} : List (Lit × DataW H) → Nat
  | [] => 0
  | x :: r => uptoBulkEntry x + uptoBulkEntries r
def uptoBulkEntry {H : Type} : Lit × DataW H → Nat
  | (.string bytes, d) => bytes.length + uptoBulk d + 1
  | (_, d) => uptoBulk d + 1
 end
def uptoSmall : (H : Type) → List (DataW H) → Bool := fun _ ds => decide (uptoBulkAll ds ≤ 1048576)
def OpenSpec.upto (s : _root_.Go.ChangeSpec) : _root_.Go.OpenSpec := { _root_.Go.OpenSpec.ofChange s with cond := some uptoSmall }

/-- 'signpostlaw15.TimersOnce', WHERE WHAT IT READS IS OF BULK AT MOST 1048576: true; the input reads as it did. -/
def timersOnceUptoRow : OpenClaim := { program := "ytgabplankmljfaa", sum := "dfa2ec2d3d95a8dc1efed937a59b12bc098dc2d8eac3988850ffbcec2ddaa342", func := "signpost/signpostlaw15.TimersOnce", spec := "timersOnce", inPlace := ["slices.overlaps[signpost/timers.timer[string]]", "slices.overlaps[signpost/timers.timer[int]]"], unfollowed := true, recurses := true, apart := false, narrowed := true }
def TimersOnceUptoSaid : Prop := timersOnceUptoRow.holds Try.pinned (OpenSpec.upto timersOnceSpec)

/-- 'signpostlaw35.ChooseMay', WHERE WHAT IT READS IS OF BULK AT MOST 1048576: true; the input reads as it did. -/
def chooseMayUptoRow : OpenClaim := { program := "ytgabplankmljfaa", sum := "dfa2ec2d3d95a8dc1efed937a59b12bc098dc2d8eac3988850ffbcec2ddaa342", func := "signpost/signpostlaw35.ChooseMay", spec := "chooseMay", unfollowed := true, recurses := true, apart := false, narrowed := true }
def ChooseMayUptoSaid : Prop := chooseMayUptoRow.holds Try.pinned (OpenSpec.upto chooseMaySpec)

/-- 'signpostlaw15.TimersPlay', WHERE WHAT IT READS IS OF BULK AT MOST 1048576: true; the input reads as it did. -/
def timersPlayUptoRow : OpenClaim := { program := "ytgabplankmljfaa", sum := "dfa2ec2d3d95a8dc1efed937a59b12bc098dc2d8eac3988850ffbcec2ddaa342", func := "signpost/signpostlaw15.TimersPlay", spec := "timersPlay", inPlace := ["slices.overlaps[signpost/timers.timer[string]]", "slices.overlaps[signpost/timers.timer[int]]"], unfollowed := true, recurses := true, apart := false, narrowed := true }
def TimersPlayUptoSaid : Prop := timersPlayUptoRow.holds Try.pinned (OpenSpec.upto timersPlaySpec)

/-- 'signpostlaw11.InstTells', WHERE WHAT IT READS IS OF BULK AT MOST 1048576: true; the input reads as it did. -/
def instTellsUptoRow : OpenClaim := { program := "ytgabplankmljfaa", sum := "dfa2ec2d3d95a8dc1efed937a59b12bc098dc2d8eac3988850ffbcec2ddaa342", func := "signpost/signpostlaw11.InstTells", spec := "instTells", inPlace := ["internal/bytealg.IndexByteString", "internal/bytealg.IndexString", "internal/bytealg.Compare"], unfollowed := true, recurses := true, named := ["internal/bytealg.MaxLen"], apart := false, narrowed := true }
def InstTellsUptoSaid : Prop := instTellsUptoRow.holds Try.pinned (OpenSpec.upto instTellsSpec)

/-- 'signpostlaw11.InstLife', WHERE WHAT IT READS IS OF BULK AT MOST 1048576: true; the input reads as it did. -/
def instLifeUptoRow : OpenClaim := { program := "ytgabplankmljfaa", sum := "dfa2ec2d3d95a8dc1efed937a59b12bc098dc2d8eac3988850ffbcec2ddaa342", func := "signpost/signpostlaw11.InstLife", spec := "instLife", inPlace := ["internal/bytealg.IndexByteString", "internal/bytealg.IndexString", "internal/bytealg.Compare"], unfollowed := true, recurses := true, named := ["internal/bytealg.MaxLen"], apart := false, narrowed := true }
def InstLifeUptoSaid : Prop := instLifeUptoRow.holds Try.pinned (OpenSpec.upto instLifeSpec)

/-- 'signpostlaw35.ChooseOrders', WHERE WHAT IT READS IS OF BULK AT MOST 1048576: true; the input reads as it did. -/
def chooseOrdersUptoRow : OpenClaim := { program := "ytgabplankmljfaa", sum := "dfa2ec2d3d95a8dc1efed937a59b12bc098dc2d8eac3988850ffbcec2ddaa342", func := "signpost/signpostlaw35.ChooseOrders", spec := "chooseOrders", unfollowed := true, recurses := true, apart := false, narrowed := true }
def ChooseOrdersUptoSaid : Prop := chooseOrdersUptoRow.holds Try.pinned (OpenSpec.upto chooseOrdersSpec)

/-- 'signpostlaw11.InstReads', WHERE WHAT IT READS IS OF BULK AT MOST 1048576: true; the input reads as it did. -/
def instReadsUptoRow : OpenClaim := { program := "ytgabplankmljfaa", sum := "dfa2ec2d3d95a8dc1efed937a59b12bc098dc2d8eac3988850ffbcec2ddaa342", func := "signpost/signpostlaw11.InstReads", spec := "instReads", inPlace := ["internal/bytealg.IndexByteString", "internal/bytealg.IndexString"], unfollowed := true, recurses := true, named := ["internal/bytealg.MaxLen"], apart := false, narrowed := true }
def InstReadsUptoSaid : Prop := instReadsUptoRow.holds Try.pinned (OpenSpec.upto instReadsSpec)

/-- 'signpostlaw11.InstBack', WHERE WHAT IT READS IS OF BULK AT MOST 1048576: true; the input reads as it did. -/
def instBackUptoRow : OpenClaim := { program := "ytgabplankmljfaa", sum := "dfa2ec2d3d95a8dc1efed937a59b12bc098dc2d8eac3988850ffbcec2ddaa342", func := "signpost/signpostlaw11.InstBack", spec := "instBack", inPlace := ["internal/bytealg.IndexByteString", "internal/bytealg.IndexString"], unfollowed := true, recurses := true, named := ["internal/bytealg.MaxLen"], apart := false, narrowed := true }
def InstBackUptoSaid : Prop := instBackUptoRow.holds Try.pinned (OpenSpec.upto instBackSpec)

end Rows
end Go.Proofs.Ytgabplankmljfaa
