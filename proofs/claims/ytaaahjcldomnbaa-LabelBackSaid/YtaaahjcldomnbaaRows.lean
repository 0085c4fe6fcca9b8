/-
  No cell of these rows narrows 'for every input' (looked for: loops, veiled, ifaces, maps, wideKeys, modest, calm, conditions, laid).
  DERIVED. THE GIVEN ROWS OF THIS SEAT. 10 by the template 'for every input the law returns true; each argument reads behind the call as it read before'; 0 by the template 'total and deterministic' (their statements: YtaaahjcldomnbaaTotals.lean).
  GIVEN WITH THE SEED: the statements are not yours to turn. If you find one false, say at which input.
  Laid BY PROGRAM, IN A SANDBOX (cutbox-rows.mjs): the forced cells as the released guide's own fill.sh prints them over the translation 6bb97ffd45c58a2c… (all of the seat's roots in one cut). By AI agents, Wed Nov 11 2026. No macro, syntax, notation, axiom, sorry.
-/
import Derived.Test.YtaaahjcldomnbaaChecked
import GoSem.Claim
import GoSem.ClaimJoined
import GoSem.ClaimMapViews
import Derived.JoinedTies
import Derived.KernelRfl
namespace Go.Proofs.Ytaaahjcldomnbaa
/- THE CELL 'sum', in the pinned program and in every row, IS THE sha256 OF THE DUMP (.gsa) THAT YtaaahjcldomnbaaProg.lean LOADS. Nothing in Lean hashes anything: it is a label: what it is worth is what the hold of that sum in a sandbox is worth. -/
noncomputable def Try.pinned : Pinned := { name := "ytaaahjcldomnbaa", sum := "6bb97ffd45c58a2cb9af4b38eb5247d70947d0252ea9d73ddfc10ee3222d8cff", checked := Try.checked }
namespace Rows
def none {H : Type} : Left H := { results := [], args := [] }

/-- 'signpostlaw07.DrawOrders': WHATEVER THE INPUT: true; the input reads as it did. -/
def drawOrdersSpec : ChangeSpec := { name := "drawOrders", fn := fun _ => fun
  | [d1, d2, d3] => { results := [.lit (.bool true)], args := [d1, d2, d3] }
  | _ => none }
def drawOrdersRow : OpenClaim := { program := "ytaaahjcldomnbaa", sum := "6bb97ffd45c58a2cb9af4b38eb5247d70947d0252ea9d73ddfc10ee3222d8cff", func := "signpost/signpostlaw07.DrawOrders", spec := "drawOrders", unfollowed := true, recurses := true, apart := false }
def DrawOrdersSaid : Prop := drawOrdersRow.holds Try.pinned (OpenSpec.ofChange drawOrdersSpec)

/-- ITS FALSE NEIGHBOUR: 'it returns false'. Refute it at one input. -/
def drawOrdersWrong : ChangeSpec := { name := "drawOrders", fn := fun _ => fun
  | [d1, d2, d3] => { results := [.lit (.bool false)], args := [d1, d2, d3] }
  | _ => none }
def DrawOrdersWrongFalsely : Prop := drawOrdersRow.holds Try.pinned (OpenSpec.ofChange drawOrdersWrong)

/-- 'signpostlaw07.DrawAll': WHATEVER THE INPUT: true; the input reads as it did. -/
def drawAllSpec : ChangeSpec := { name := "drawAll", fn := fun _ => fun
  | [d1, d2] => { results := [.lit (.bool true)], args := [d1, d2] }
  | _ => none }
def drawAllRow : OpenClaim := { program := "ytaaahjcldomnbaa", sum := "6bb97ffd45c58a2cb9af4b38eb5247d70947d0252ea9d73ddfc10ee3222d8cff", func := "signpost/signpostlaw07.DrawAll", spec := "drawAll", unfollowed := true, recurses := true, apart := false }
def DrawAllSaid : Prop := drawAllRow.holds Try.pinned (OpenSpec.ofChange drawAllSpec)

/-- ITS FALSE NEIGHBOUR: 'it returns false'. Refute it at one input. -/
def drawAllWrong : ChangeSpec := { name := "drawAll", fn := fun _ => fun
  | [d1, d2] => { results := [.lit (.bool false)], args := [d1, d2] }
  | _ => none }
def DrawAllWrongFalsely : Prop := drawAllRow.holds Try.pinned (OpenSpec.ofChange drawAllWrong)

/-- 'signpostlaw07.DrawPlays': WHATEVER THE INPUT: true; the input reads as it did. -/
def drawPlaysSpec : ChangeSpec := { name := "drawPlays", fn := fun _ => fun
  | [d1, d2] => { results := [.lit (.bool true)], args := [d1, d2] }
  | _ => none }
def drawPlaysRow : OpenClaim := { program := "ytaaahjcldomnbaa", sum := "6bb97ffd45c58a2cb9af4b38eb5247d70947d0252ea9d73ddfc10ee3222d8cff", func := "signpost/signpostlaw07.DrawPlays", spec := "drawPlays", unfollowed := true, recurses := true, apart := false }
def DrawPlaysSaid : Prop := drawPlaysRow.holds Try.pinned (OpenSpec.ofChange drawPlaysSpec)

/-- ITS FALSE NEIGHBOUR: 'it returns false'. Refute it at one input. -/
def drawPlaysWrong : ChangeSpec := { name := "drawPlays", fn := fun _ => fun
  | [d1, d2] => { results := [.lit (.bool false)], args := [d1, d2] }
  | _ => none }
def DrawPlaysWrongFalsely : Prop := drawPlaysRow.holds Try.pinned (OpenSpec.ofChange drawPlaysWrong)

/-- 'signpostlaw07.DrawNobody': WHATEVER THE INPUT: true; the input reads as it did. -/
def drawNobodySpec : ChangeSpec := { name := "drawNobody", fn := fun _ => fun
  | [d1, d2] => { results := [.lit (.bool true)], args := [d1, d2] }
  | _ => none }
def drawNobodyRow : OpenClaim := { program := "ytaaahjcldomnbaa", sum := "6bb97ffd45c58a2cb9af4b38eb5247d70947d0252ea9d73ddfc10ee3222d8cff", func := "signpost/signpostlaw07.DrawNobody", spec := "drawNobody", unfollowed := true, recurses := true, apart := false }
def DrawNobodySaid : Prop := drawNobodyRow.holds Try.pinned (OpenSpec.ofChange drawNobodySpec)

/-- ITS FALSE NEIGHBOUR: 'it returns false'. Refute it at one input. -/
def drawNobodyWrong : ChangeSpec := { name := "drawNobody", fn := fun _ => fun
  | [d1, d2] => { results := [.lit (.bool false)], args := [d1, d2] }
  | _ => none }
def DrawNobodyWrongFalsely : Prop := drawNobodyRow.holds Try.pinned (OpenSpec.ofChange drawNobodyWrong)

/-- 'signpostlaw08.ContactReads': WHATEVER THE INPUT: true; the input reads as it did. -/
def contactReadsSpec : ChangeSpec := { name := "contactReads", fn := fun _ => fun
  | [d1, d2] => { results := [.lit (.bool true)], args := [d1, d2] }
  | _ => none }
def contactReadsRow : OpenClaim := { program := "ytaaahjcldomnbaa", sum := "6bb97ffd45c58a2cb9af4b38eb5247d70947d0252ea9d73ddfc10ee3222d8cff", func := "signpost/signpostlaw08.ContactReads", spec := "contactReads", unfollowed := true, recurses := true, apart := false }
def ContactReadsSaid : Prop := contactReadsRow.holds Try.pinned (OpenSpec.ofChange contactReadsSpec)

/-- ITS FALSE NEIGHBOUR: 'it returns false'. Refute it at one input. -/
def contactReadsWrong : ChangeSpec := { name := "contactReads", fn := fun _ => fun
  | [d1, d2] => { results := [.lit (.bool false)], args := [d1, d2] }
  | _ => none }
def ContactReadsWrongFalsely : Prop := contactReadsRow.holds Try.pinned (OpenSpec.ofChange contactReadsWrong)

/-- 'signpostlaw08.ContactBack': WHATEVER THE INPUT: true; the input reads as it did. -/
def contactBackSpec : ChangeSpec := { name := "contactBack", fn := fun _ => fun
  | [d1, d2, d3] => { results := [.lit (.bool true)], args := [d1, d2, d3] }
  | _ => none }
def contactBackRow : OpenClaim := { program := "ytaaahjcldomnbaa", sum := "6bb97ffd45c58a2cb9af4b38eb5247d70947d0252ea9d73ddfc10ee3222d8cff", func := "signpost/signpostlaw08.ContactBack", spec := "contactBack", unfollowed := true, recurses := true, apart := false }
def ContactBackSaid : Prop := contactBackRow.holds Try.pinned (OpenSpec.ofChange contactBackSpec)

/-- ITS FALSE NEIGHBOUR: 'it returns false'. Refute it at one input. -/
def contactBackWrong : ChangeSpec := { name := "contactBack", fn := fun _ => fun
  | [d1, d2, d3] => { results := [.lit (.bool false)], args := [d1, d2, d3] }
  | _ => none }
def ContactBackWrongFalsely : Prop := contactBackRow.holds Try.pinned (OpenSpec.ofChange contactBackWrong)

/-- 'signpostlaw09.LabelUnder': WHATEVER THE INPUT: true; the input reads as it did. -/
def labelUnderSpec : ChangeSpec := { name := "labelUnder", fn := fun _ => fun
  | [d1, d2, d3] => { results := [.lit (.bool true)], args := [d1, d2, d3] }
  | _ => none }
def labelUnderRow : OpenClaim := { program := "ytaaahjcldomnbaa", sum := "6bb97ffd45c58a2cb9af4b38eb5247d70947d0252ea9d73ddfc10ee3222d8cff", func := "signpost/signpostlaw09.LabelUnder", spec := "labelUnder", inPlace := ["internal/bytealg.IndexByteString", "internal/bytealg.IndexString"], unfollowed := true, recurses := true, named := ["internal/bytealg.MaxLen"], apart := false }
def LabelUnderSaid : Prop := labelUnderRow.holds Try.pinned (OpenSpec.ofChange labelUnderSpec)

/-- ITS FALSE NEIGHBOUR: 'it returns false'. Refute it at one input. -/
def labelUnderWrong : ChangeSpec := { name := "labelUnder", fn := fun _ => fun
  | [d1, d2, d3] => { results := [.lit (.bool false)], args := [d1, d2, d3] }
  | _ => none }
def LabelUnderWrongFalsely : Prop := labelUnderRow.holds Try.pinned (OpenSpec.ofChange labelUnderWrong)

/-- 'signpostlaw09.LabelBytes': WHATEVER THE INPUT: true; the input reads as it did. -/
def labelBytesSpec : ChangeSpec := { name := "labelBytes", fn := fun _ => fun
  | [d1, d2, d3] => { results := [.lit (.bool true)], args := [d1, d2, d3] }
  | _ => none }
def labelBytesRow : OpenClaim := { program := "ytaaahjcldomnbaa", sum := "6bb97ffd45c58a2cb9af4b38eb5247d70947d0252ea9d73ddfc10ee3222d8cff", func := "signpost/signpostlaw09.LabelBytes", spec := "labelBytes", inPlace := ["internal/bytealg.IndexByteString", "internal/bytealg.IndexString", "internal/abi.NoEscape", "internal/bytealg.MakeNoZero"], unfollowed := true, recurses := true, named := ["internal/bytealg.MaxLen"], apart := false }
def LabelBytesSaid : Prop := labelBytesRow.holds Try.pinned (OpenSpec.ofChange labelBytesSpec)

/-- ITS FALSE NEIGHBOUR: 'it returns false'. Refute it at one input. -/
def labelBytesWrong : ChangeSpec := { name := "labelBytes", fn := fun _ => fun
  | [d1, d2, d3] => { results := [.lit (.bool false)], args := [d1, d2, d3] }
  | _ => none }
def LabelBytesWrongFalsely : Prop := labelBytesRow.holds Try.pinned (OpenSpec.ofChange labelBytesWrong)

/-- 'signpostlaw09.LabelBack': WHATEVER THE INPUT: true; the input reads as it did. -/
def labelBackSpec : ChangeSpec := { name := "labelBack", fn := fun _ => fun
  | [d1, d2, d3] => { results := [.lit (.bool true)], args := [d1, d2, d3] }
  | _ => none }
def labelBackRow : OpenClaim := { program := "ytaaahjcldomnbaa", sum := "6bb97ffd45c58a2cb9af4b38eb5247d70947d0252ea9d73ddfc10ee3222d8cff", func := "signpost/signpostlaw09.LabelBack", spec := "labelBack", inPlace := ["internal/bytealg.IndexByteString", "internal/bytealg.IndexString", "internal/abi.NoEscape", "internal/bytealg.MakeNoZero"], unfollowed := true, recurses := true, named := ["internal/bytealg.MaxLen"], apart := false }
def LabelBackSaid : Prop := labelBackRow.holds Try.pinned (OpenSpec.ofChange labelBackSpec)

/-- ITS FALSE NEIGHBOUR: 'it returns false'. Refute it at one input. -/
def labelBackWrong : ChangeSpec := { name := "labelBack", fn := fun _ => fun
  | [d1, d2, d3] => { results := [.lit (.bool false)], args := [d1, d2, d3] }
  | _ => none }
def LabelBackWrongFalsely : Prop := labelBackRow.holds Try.pinned (OpenSpec.ofChange labelBackWrong)

/-- 'signpostlaw08.ContactTells': WHATEVER THE INPUT: true; the input reads as it did. -/
def contactTellsSpec : ChangeSpec := { name := "contactTells", fn := fun _ => fun
  | [d1, d2, d3] => { results := [.lit (.bool true)], args := [d1, d2, d3] }
  | _ => none }
def contactTellsRow : OpenClaim := { program := "ytaaahjcldomnbaa", sum := "6bb97ffd45c58a2cb9af4b38eb5247d70947d0252ea9d73ddfc10ee3222d8cff", func := "signpost/signpostlaw08.ContactTells", spec := "contactTells", inPlace := ["internal/bytealg.Compare"], unfollowed := true, recurses := true, apart := false }
def ContactTellsSaid : Prop := contactTellsRow.holds Try.pinned (OpenSpec.ofChange contactTellsSpec)

/-- ITS FALSE NEIGHBOUR: 'it returns false'. Refute it at one input. -/
def contactTellsWrong : ChangeSpec := { name := "contactTells", fn := fun _ => fun
  | [d1, d2, d3] => { results := [.lit (.bool false)], args := [d1, d2, d3] }
  | _ => none }
def ContactTellsWrongFalsely : Prop := contactTellsRow.holds Try.pinned (OpenSpec.ofChange contactTellsWrong)

/- THE SECOND FORM. 'bulk': how many values and letters a reading holds, each counted each time it is reached (what is shared counts as often as it is met; a slice's spare places count too). A statement '..UptoSaid' is the law's where the arguments, and the package variables that the reading takes, are together of bulk at most 1048576: NARROWER than '..Said'. Prove '..Said' where nothing that the law and all that it calls make is longer than what came in: it says more and counts as full. Else prove '..UptoSaid'. A law counts once. -/
mutual
def uptoBulk {H : Type} : DataW H → Nat
  | .lit (.string bytes) => bytes.length + 1
  | .lit _ => 1
  | .nil => 1
  | .ptr d => uptoBulk d + 1
  | .slice elems spare => uptoBulkAll elems + uptoBulkAll spare + 1
  | .agg parts => uptoBulkAll parts + 1
  | .iface _ d => uptoBulk d + 1
  | .map entries => uptoBulkEntries entries + 1
  | .held _ => 1
def uptoBulkAll {H : Type} : List (DataW H) → Nat
  | [] => 0
  | d :: r => uptoBulk d + uptoBulkAll r
def uptoBulkEntries {H : Type} : List (Lit × DataW H) → Nat
  | [] => 0
  | x :: r => uptoBulkEntry x + uptoBulkEntries r
def uptoBulkEntry {H : Type} : Lit × DataW H → Nat
  | (.string bytes, d) => bytes.length + uptoBulk d + 1
  | (_, d) => uptoBulk d + 1
 end
def uptoSmall : (H : Type) → List (DataW H) → Bool := fun _ ds => decide (uptoBulkAll ds ≤ 1048576)
def OpenSpec.upto (s : _root_.Go.ChangeSpec) : _root_.Go.OpenSpec := { _root_.Go.OpenSpec.ofChange s with cond := some uptoSmall }

/-- 'signpostlaw07.DrawOrders', WHERE WHAT IT READS IS OF BULK AT MOST 1048576: true; the input reads as it did. -/
def drawOrdersUptoRow : OpenClaim := { program := "ytaaahjcldomnbaa", sum := "6bb97ffd45c58a2cb9af4b38eb5247d70947d0252ea9d73ddfc10ee3222d8cff", func := "signpost/signpostlaw07.DrawOrders", spec := "drawOrders", unfollowed := true, recurses := true, apart := false, narrowed := true }
def DrawOrdersUptoSaid : Prop := drawOrdersUptoRow.holds Try.pinned (OpenSpec.upto drawOrdersSpec)

/-- 'signpostlaw07.DrawAll', WHERE WHAT IT READS IS OF BULK AT MOST 1048576: true; the input reads as it did. -/
def drawAllUptoRow : OpenClaim := { program := "ytaaahjcldomnbaa", sum := "6bb97ffd45c58a2cb9af4b38eb5247d70947d0252ea9d73ddfc10ee3222d8cff", func := "signpost/signpostlaw07.DrawAll", spec := "drawAll", unfollowed := true, recurses := true, apart := false, narrowed := true }
def DrawAllUptoSaid : Prop := drawAllUptoRow.holds Try.pinned (OpenSpec.upto drawAllSpec)

/-- 'signpostlaw07.DrawPlays', WHERE WHAT IT READS IS OF BULK AT MOST 1048576: true; the input reads as it did. -/
def drawPlaysUptoRow : OpenClaim := { program := "ytaaahjcldomnbaa", sum := "6bb97ffd45c58a2cb9af4b38eb5247d70947d0252ea9d73ddfc10ee3222d8cff", func := "signpost/signpostlaw07.DrawPlays", spec := "drawPlays", unfollowed := true, recurses := true, apart := false, narrowed := true }
def DrawPlaysUptoSaid : Prop := drawPlaysUptoRow.holds Try.pinned (OpenSpec.upto drawPlaysSpec)

/-- 'signpostlaw07.DrawNobody', WHERE WHAT IT READS IS OF BULK AT MOST 1048576: true; the input reads as it did. -/
def drawNobodyUptoRow : OpenClaim := { program := "ytaaahjcldomnbaa", sum := "6bb97ffd45c58a2cb9af4b38eb5247d70947d0252ea9d73ddfc10ee3222d8cff", func := "signpost/signpostlaw07.DrawNobody", spec := "drawNobody", unfollowed := true, recurses := true, apart := false, narrowed := true }
def DrawNobodyUptoSaid : Prop := drawNobodyUptoRow.holds Try.pinned (OpenSpec.upto drawNobodySpec)

/-- 'signpostlaw08.ContactReads', WHERE WHAT IT READS IS OF BULK AT MOST 1048576: true; the input reads as it did. -/
def contactReadsUptoRow : OpenClaim := { program := "ytaaahjcldomnbaa", sum := "6bb97ffd45c58a2cb9af4b38eb5247d70947d0252ea9d73ddfc10ee3222d8cff", func := "signpost/signpostlaw08.ContactReads", spec := "contactReads", unfollowed := true, recurses := true, apart := false, narrowed := true }
def ContactReadsUptoSaid : Prop := contactReadsUptoRow.holds Try.pinned (OpenSpec.upto contactReadsSpec)

/-- 'signpostlaw08.ContactBack', WHERE WHAT IT READS IS OF BULK AT MOST 1048576: true; the input reads as it did. -/
def contactBackUptoRow : OpenClaim := { program := "ytaaahjcldomnbaa", sum := "6bb97ffd45c58a2cb9af4b38eb5247d70947d0252ea9d73ddfc10ee3222d8cff", func := "signpost/signpostlaw08.ContactBack", spec := "contactBack", unfollowed := true, recurses := true, apart := false, narrowed := true }
def ContactBackUptoSaid : Prop := contactBackUptoRow.holds Try.pinned (OpenSpec.upto contactBackSpec)

/-- 'signpostlaw09.LabelUnder', WHERE WHAT IT READS IS OF BULK AT MOST 1048576: true; the input reads as it did. -/
def labelUnderUptoRow : OpenClaim := { program := "ytaaahjcldomnbaa", sum := "6bb97ffd45c58a2cb9af4b38eb5247d70947d0252ea9d73ddfc10ee3222d8cff", func := "signpost/signpostlaw09.LabelUnder", spec := "labelUnder", inPlace := ["internal/bytealg.IndexByteString", "internal/bytealg.IndexString"], unfollowed := true, recurses := true, named := ["internal/bytealg.MaxLen"], apart := false, narrowed := true }
def LabelUnderUptoSaid : Prop := labelUnderUptoRow.holds Try.pinned (OpenSpec.upto labelUnderSpec)

/-- 'signpostlaw09.LabelBytes', WHERE WHAT IT READS IS OF BULK AT MOST 1048576: true; the input reads as it did. -/
def labelBytesUptoRow : OpenClaim := { program := "ytaaahjcldomnbaa", sum := "6bb97ffd45c58a2cb9af4b38eb5247d70947d0252ea9d73ddfc10ee3222d8cff", func := "signpost/signpostlaw09.LabelBytes", spec := "labelBytes", inPlace := ["internal/bytealg.IndexByteString", "internal/bytealg.IndexString", "internal/abi.NoEscape", "internal/bytealg.MakeNoZero"], unfollowed := true, recurses := true, named := ["internal/bytealg.MaxLen"], apart := false, narrowed := true }
def LabelBytesUptoSaid : Prop := labelBytesUptoRow.holds Try.pinned (OpenSpec.upto labelBytesSpec)

/-- 'signpostlaw09.LabelBack', WHERE WHAT IT READS IS OF BULK AT MOST 1048576: true; the input reads as it did. -/
def labelBackUptoRow : OpenClaim := { program := "ytaaahjcldomnbaa", sum := "6bb97ffd45c58a2cb9af4b38eb5247d70947d0252ea9d73ddfc10ee3222d8cff", func := "signpost/signpostlaw09.LabelBack", spec := "labelBack", inPlace := ["internal/bytealg.IndexByteString", "internal/bytealg.IndexString", "internal/abi.NoEscape", "internal/bytealg.MakeNoZero"], unfollowed := true, recurses := true, named := ["internal/bytealg.MaxLen"], apart := false, narrowed := true }
def LabelBackUptoSaid : Prop := labelBackUptoRow.holds Try.pinned (OpenSpec.upto labelBackSpec)

/-- 'signpostlaw08.ContactTells', WHERE WHAT IT READS IS OF BULK AT MOST 1048576: true; the input reads as it did. -/
def contactTellsUptoRow : OpenClaim := { program := "ytaaahjcldomnbaa", sum := "6bb97ffd45c58a2cb9af4b38eb5247d70947d0252ea9d73ddfc10ee3222d8cff", func := "signpost/signpostlaw08.ContactTells", spec := "contactTells", inPlace := ["internal/bytealg.Compare"], unfollowed := true, recurses := true, apart := false, narrowed := true }
def ContactTellsUptoSaid : Prop := contactTellsUptoRow.holds Try.pinned (OpenSpec.upto contactTellsSpec)

end Rows
end Go.Proofs.Ytaaahjcldomnbaa
