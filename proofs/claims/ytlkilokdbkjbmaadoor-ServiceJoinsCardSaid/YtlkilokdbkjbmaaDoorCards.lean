/-
  DERIVED. GIVEN WITH THE SEED: THE CARDS: each row of YtlkilokdbkjbmaaDoorRows.lean that lists a variable, with what it lists TIED to the program's text (the seventh form; the later family's looks); each row that meets fmt, with fmt's text TOLD by the authors' own Lean function (tested against real Go, not proved from fmt's source: count such statements apart). THE CARD IS WHAT COUNTS. Prove the row's statement (the work); the ties are given (YtlkilokdbkjbmaaDoorTie.lean); close each card by the builder's one call (the guide's Derived/Test/ToyasCard.lean, 'card_holds'). Laid BY PROGRAM, IN A SANDBOX (cutbox-door.mjs). By AI agents, Wed Nov 11 2026. No macro, syntax, notation, axiom, sorry.
-/
import Derived.Test.YtlkilokdbkjbmaaDoorRows
import GoSem.ClaimSeven
namespace Go.Proofs.YtlkilokdbkjbmaaDoor
namespace Rows

/-- THE TIED CARD OF 'signpostlaw10.ServiceJoins'. -/
def serviceJoinsCard : Claim7 := { stood := { row := serviceJoinsRow, standIns := [], harness := (true, "e0289b0ca95a237af30f123d1c43572e15e7f8dfd45debc5e45ceb4d57b6c35d"), looks := false }, kinds := [], alts := [], laidByText := true, laidKinds := [.data, .pinned], laidTests := true, laidLooks := .later }
def ServiceJoinsCardSaid : Prop := Claim7.holds Tryd.pinned (.plain (OpenSpec.ofChange serviceJoinsSpec)) serviceJoinsCard

/-- THE SECOND FORM's CARD OF 'signpostlaw10.ServiceJoins'. -/
def serviceJoinsUptoCard : Claim7 := { stood := { row := serviceJoinsUptoRow, standIns := [], harness := (true, "e0289b0ca95a237af30f123d1c43572e15e7f8dfd45debc5e45ceb4d57b6c35d"), looks := false }, kinds := [], alts := [], laidByText := true, laidKinds := [.data, .pinned], laidTests := true, laidLooks := .later }
def ServiceJoinsUptoCardSaid : Prop := Claim7.holds Tryd.pinned (.plain (OpenSpec.upto serviceJoinsSpec)) serviceJoinsUptoCard
end Rows
end Go.Proofs.YtlkilokdbkjbmaaDoor
