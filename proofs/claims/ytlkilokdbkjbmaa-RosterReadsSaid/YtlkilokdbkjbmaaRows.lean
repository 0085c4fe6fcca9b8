/-
  No cell of these rows narrows 'for every input' (looked for: loops, veiled, ifaces, maps, wideKeys, modest, calm, conditions, laid).
  DERIVED. THE GIVEN ROWS OF THIS SEAT. 5 by the template 'for every input the law returns true; each argument reads behind the call as it read before'; 0 by the template 'total and deterministic' (their statements: YtlkilokdbkjbmaaTotals.lean).
  GIVEN WITH THE SEED: the statements are not yours to turn. If you find one false, say at which input.
  Laid BY PROGRAM, IN A SANDBOX (cutbox-rows.mjs): the forced cells as the released guide's own fill.sh prints them over the translation 966a8484e0c306f2… (all of the seat's roots in one cut). By AI agents, Wed Nov 11 2026. No macro, syntax, notation, axiom, sorry.
-/
import Derived.Test.YtlkilokdbkjbmaaChecked
import GoSem.Claim
import GoSem.ClaimJoined
import GoSem.ClaimMapViews
import Derived.JoinedTies
import Derived.KernelRfl
namespace Go.Proofs.Ytlkilokdbkjbmaa
/- THE CELL 'sum', in the pinned program and in every row, IS THE sha256 OF THE DUMP (.gsa) THAT YtlkilokdbkjbmaaProg.lean LOADS. Nothing in Lean hashes anything: it is a label: what it is worth is what the hold of that sum in a sandbox is worth. -/
noncomputable def Try.pinned : Pinned := { name := "ytlkilokdbkjbmaa", sum := "966a8484e0c306f2587ea47dd3eb595f6aa536a55478d06c1d4ee04443913d7c", checked := Try.checked }
namespace Rows
def none {H : Type} : Left H := { results := [], args := [] }

/-- 'signpostlaw31.DnameReads': WHATEVER THE INPUT: true; the input reads as it did. -/
def dnameReadsSpec : ChangeSpec := { name := "dnameReads", fn := fun _ => fun
  | [d1, d2] => { results := [.lit (.bool true)], args := [d1, d2] }
  | _ => none }
def dnameReadsRow : OpenClaim := { program := "ytlkilokdbkjbmaa", sum := "966a8484e0c306f2587ea47dd3eb595f6aa536a55478d06c1d4ee04443913d7c", func := "signpost/signpostlaw31.DnameReads", spec := "dnameReads", inPlace := ["internal/bytealg.IndexByteString", "internal/bytealg.IndexString", "internal/abi.NoEscape", "internal/bytealg.MakeNoZero"], unfollowed := true, recurses := true, named := ["internal/bytealg.MaxLen"], apart := false }
def DnameReadsSaid : Prop := dnameReadsRow.holds Try.pinned (OpenSpec.ofChange dnameReadsSpec)

/-- ITS FALSE NEIGHBOUR: 'it returns false'. Refute it at one input. -/
def dnameReadsWrong : ChangeSpec := { name := "dnameReads", fn := fun _ => fun
  | [d1, d2] => { results := [.lit (.bool false)], args := [d1, d2] }
  | _ => none }
def DnameReadsWrongFalsely : Prop := dnameReadsRow.holds Try.pinned (OpenSpec.ofChange dnameReadsWrong)

/-- 'signpostlaw31.DnameEnds': WHATEVER THE INPUT: true; the input reads as it did. -/
def dnameEndsSpec : ChangeSpec := { name := "dnameEnds", fn := fun _ => fun
  | [d1, d2] => { results := [.lit (.bool true)], args := [d1, d2] }
  | _ => none }
def dnameEndsRow : OpenClaim := { program := "ytlkilokdbkjbmaa", sum := "966a8484e0c306f2587ea47dd3eb595f6aa536a55478d06c1d4ee04443913d7c", func := "signpost/signpostlaw31.DnameEnds", spec := "dnameEnds", inPlace := ["internal/bytealg.IndexByteString", "internal/bytealg.IndexString", "internal/abi.NoEscape", "internal/bytealg.MakeNoZero"], unfollowed := true, recurses := true, named := ["internal/bytealg.MaxLen"], apart := false }
def DnameEndsSaid : Prop := dnameEndsRow.holds Try.pinned (OpenSpec.ofChange dnameEndsSpec)

/-- ITS FALSE NEIGHBOUR: 'it returns false'. Refute it at one input. -/
def dnameEndsWrong : ChangeSpec := { name := "dnameEnds", fn := fun _ => fun
  | [d1, d2] => { results := [.lit (.bool false)], args := [d1, d2] }
  | _ => none }
def DnameEndsWrongFalsely : Prop := dnameEndsRow.holds Try.pinned (OpenSpec.ofChange dnameEndsWrong)

/-- 'signpostlaw32.RrReads': WHATEVER THE INPUT: true; the input reads as it did. -/
def rrReadsSpec : ChangeSpec := { name := "rrReads", fn := fun _ => fun
  | [d1, d2] => { results := [.lit (.bool true)], args := [d1, d2] }
  | _ => none }
def rrReadsRow : OpenClaim := { program := "ytlkilokdbkjbmaa", sum := "966a8484e0c306f2587ea47dd3eb595f6aa536a55478d06c1d4ee04443913d7c", func := "signpost/signpostlaw32.RrReads", spec := "rrReads", inPlace := ["internal/bytealg.IndexByteString", "internal/bytealg.IndexString", "internal/abi.NoEscape", "internal/bytealg.MakeNoZero"], unfollowed := true, recurses := true, named := ["internal/bytealg.MaxLen"], apart := false }
def RrReadsSaid : Prop := rrReadsRow.holds Try.pinned (OpenSpec.ofChange rrReadsSpec)

/-- ITS FALSE NEIGHBOUR: 'it returns false'. Refute it at one input. -/
def rrReadsWrong : ChangeSpec := { name := "rrReads", fn := fun _ => fun
  | [d1, d2] => { results := [.lit (.bool false)], args := [d1, d2] }
  | _ => none }
def RrReadsWrongFalsely : Prop := rrReadsRow.holds Try.pinned (OpenSpec.ofChange rrReadsWrong)

/-- 'signpostlaw12.RosterReads': WHATEVER THE INPUT: true; the input reads as it did. -/
def rosterReadsSpec : ChangeSpec := { name := "rosterReads", fn := fun _ => fun
  | [d] => { results := [.lit (.bool true)], args := [d] }
  | _ => none }
def rosterReadsRow : OpenClaim := { program := "ytlkilokdbkjbmaa", sum := "966a8484e0c306f2587ea47dd3eb595f6aa536a55478d06c1d4ee04443913d7c", func := "signpost/signpostlaw12.RosterReads", spec := "rosterReads", inPlace := ["internal/bytealg.IndexByteString", "internal/bytealg.IndexString", "internal/bytealg.Compare", "slices.overlaps[signpost/api.Instance]"], unfollowed := true, recurses := true, named := ["internal/bytealg.MaxLen"], apart := false }
def RosterReadsSaid : Prop := rosterReadsRow.holds Try.pinned (OpenSpec.ofChange rosterReadsSpec)

/-- ITS FALSE NEIGHBOUR: 'it returns false'. Refute it at one input. -/
def rosterReadsWrong : ChangeSpec := { name := "rosterReads", fn := fun _ => fun
  | [d] => { results := [.lit (.bool false)], args := [d] }
  | _ => none }
def RosterReadsWrongFalsely : Prop := rosterReadsRow.holds Try.pinned (OpenSpec.ofChange rosterReadsWrong)

/-- 'signpostlaw14.WireEncodes': WHATEVER THE INPUT: true; the input reads as it did. -/
def wireEncodesSpec : ChangeSpec := { name := "wireEncodes", fn := fun _ => fun
  | [d1, d2, d3] => { results := [.lit (.bool true)], args := [d1, d2, d3] }
  | _ => none }
def wireEncodesRow : OpenClaim := { program := "ytlkilokdbkjbmaa", sum := "966a8484e0c306f2587ea47dd3eb595f6aa536a55478d06c1d4ee04443913d7c", func := "signpost/signpostlaw14.WireEncodes", spec := "wireEncodes", inPlace := ["internal/bytealg.IndexByteString", "internal/bytealg.IndexString", "internal/bytealg.Compare"], unfollowed := true, recurses := true, named := ["internal/bytealg.MaxLen"], apart := false }
def WireEncodesSaid : Prop := wireEncodesRow.holds Try.pinned (OpenSpec.ofChange wireEncodesSpec)

/-- ITS FALSE NEIGHBOUR: 'it returns false'. Refute it at one input. -/
def wireEncodesWrong : ChangeSpec := { name := "wireEncodes", fn := fun _ => fun
  | [d1, d2, d3] => { results := [.lit (.bool false)], args := [d1, d2, d3] }
  | _ => none }
def WireEncodesWrongFalsely : Prop := wireEncodesRow.holds Try.pinned (OpenSpec.ofChange wireEncodesWrong)

/- THE SECOND FORM. 'bulk': how many values and letters a reading holds, each counted each time it is reached (what is shared counts as often as it is met; a slice's spare places count too). A statement '..UptoSaid' is the law's where the arguments, and the package variables that the reading takes, are together of bulk at most 1048576: NARROWER than '..Said'. Prove '..Said' where nothing that the law and all that it calls make is longer than what came in: it says more and counts as full. Else prove '..UptoSaid'. A law counts once. -/
mutual
def uptoBulk {H : Type} : DataW H → Nat
  | .lit (.string bytes) => bytes.length + 1
  | .lit _ => 1
  | .nil => 1
  | .ptr d => uptoBulk d + 1
  | .slice elems spare => uptoBulkAll elems + uptoBulkAll spare + 1
  | .agg parts => uptoBulkAll parts + 1
  | .iface _ d => uptoBulk d + 1
  | .map entries => uptoBulkEntries entries + 1
  | .held _ => 1
def uptoBulkAll {H : Type} : List (DataW H) → Nat
  | [] => 0
  | d :: r => uptoBulk d + uptoBulkAll r
def uptoBulkEntries {H : Type} : List (Lit × DataW H) → Nat
  | [] => 0
  | x :: r => uptoBulkEntry x + uptoBulkEntries r
def uptoBulkEntry {H : Type} : Lit × DataW H → Nat
  | (.string bytes, d) => bytes.length + uptoBulk d + 1
  | (_, d) => uptoBulk d + 1
 end
def uptoSmall : (H : Type) → List (DataW H) → Bool := fun _ ds => decide (uptoBulkAll ds ≤ 1048576)
def OpenSpec.upto (s : _root_.Go.ChangeSpec) : _root_.Go.OpenSpec := { _root_.Go.OpenSpec.ofChange s with cond := some uptoSmall }

/-- 'signpostlaw31.DnameReads', WHERE WHAT IT READS IS OF BULK AT MOST 1048576: true; the input reads as it did. -/
def dnameReadsUptoRow : OpenClaim := { program := "ytlkilokdbkjbmaa", sum := "966a8484e0c306f2587ea47dd3eb595f6aa536a55478d06c1d4ee04443913d7c", func := "signpost/signpostlaw31.DnameReads", spec := "dnameReads", inPlace := ["internal/bytealg.IndexByteString", "internal/bytealg.IndexString", "internal/abi.NoEscape", "internal/bytealg.MakeNoZero"], unfollowed := true, recurses := true, named := ["internal/bytealg.MaxLen"], apart := false, narrowed := true }
def DnameReadsUptoSaid : Prop := dnameReadsUptoRow.holds Try.pinned (OpenSpec.upto dnameReadsSpec)

/-- 'signpostlaw31.DnameEnds', WHERE WHAT IT READS IS OF BULK AT MOST 1048576: true; the input reads as it did. -/
def dnameEndsUptoRow : OpenClaim := { program := "ytlkilokdbkjbmaa", sum := "966a8484e0c306f2587ea47dd3eb595f6aa536a55478d06c1d4ee04443913d7c", func := "signpost/signpostlaw31.DnameEnds", spec := "dnameEnds", inPlace := ["internal/bytealg.IndexByteString", "internal/bytealg.IndexString", "internal/abi.NoEscape", "internal/bytealg.MakeNoZero"], unfollowed := true, recurses := true, named := ["internal/bytealg.MaxLen"], apart := false, narrowed := true }
def DnameEndsUptoSaid : Prop := dnameEndsUptoRow.holds Try.pinned (OpenSpec.upto dnameEndsSpec)

/-- 'signpostlaw32.RrReads', WHERE WHAT IT READS IS OF BULK AT MOST 1048576: true; the input reads as it did. -/
def rrReadsUptoRow : OpenClaim := { program := "ytlkilokdbkjbmaa", sum := "966a8484e0c306f2587ea47dd3eb595f6aa536a55478d06c1d4ee04443913d7c", func := "signpost/signpostlaw32.RrReads", spec := "rrReads", inPlace := ["internal/bytealg.IndexByteString", "internal/bytealg.IndexString", "internal/abi.NoEscape", "internal/bytealg.MakeNoZero"], unfollowed := true, recurses := true, named := ["internal/bytealg.MaxLen"], apart := false, narrowed := true }
def RrReadsUptoSaid : Prop := rrReadsUptoRow.holds Try.pinned (OpenSpec.upto rrReadsSpec)

/-- 'signpostlaw12.RosterReads', WHERE WHAT IT READS IS OF BULK AT MOST 1048576: true; the input reads as it did. -/
def rosterReadsUptoRow : OpenClaim := { program := "ytlkilokdbkjbmaa", sum := "966a8484e0c306f2587ea47dd3eb595f6aa536a55478d06c1d4ee04443913d7c", func := "signpost/signpostlaw12.RosterReads", spec := "rosterReads", inPlace := ["internal/bytealg.IndexByteString", "internal/bytealg.IndexString", "internal/bytealg.Compare", "slices.overlaps[signpost/api.Instance]"], unfollowed := true, recurses := true, named := ["internal/bytealg.MaxLen"], apart := false, narrowed := true }
def RosterReadsUptoSaid : Prop := rosterReadsUptoRow.holds Try.pinned (OpenSpec.upto rosterReadsSpec)

/-- 'signpostlaw14.WireEncodes', WHERE WHAT IT READS IS OF BULK AT MOST 1048576: true; the input reads as it did. -/
def wireEncodesUptoRow : OpenClaim := { program := "ytlkilokdbkjbmaa", sum := "966a8484e0c306f2587ea47dd3eb595f6aa536a55478d06c1d4ee04443913d7c", func := "signpost/signpostlaw14.WireEncodes", spec := "wireEncodes", inPlace := ["internal/bytealg.IndexByteString", "internal/bytealg.IndexString", "internal/bytealg.Compare"], unfollowed := true, recurses := true, named := ["internal/bytealg.MaxLen"], apart := false, narrowed := true }
def WireEncodesUptoSaid : Prop := wireEncodesUptoRow.holds Try.pinned (OpenSpec.upto wireEncodesSpec)

end Rows
end Go.Proofs.Ytlkilokdbkjbmaa
