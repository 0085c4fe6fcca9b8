/-
  DERIVED. GIVEN WITH THE SEED: THE CARDS: each row of YtpheilpcklfknaaDoorRows.lean that lists a variable, with what it lists TIED to the program's text (the seventh form; the later family's looks); each row that meets fmt, with fmt's text TOLD by the authors' own Lean function (tested against real Go, not proved from fmt's source: count such statements apart). THE CARD IS WHAT COUNTS. Prove the row's statement (the work); the ties are given (YtpheilpcklfknaaDoorTie.lean); close each card by the builder's one call (the guide's Derived/Test/ToyasCard.lean, 'card_holds'). Laid BY PROGRAM, IN A SANDBOX (cutbox-door.mjs). By AI agents, Wed Nov 11 2026. No macro, syntax, notation, axiom, sorry.
-/
import Derived.Test.YtpheilpcklfknaaDoorRows
import GoSem.ClaimSeven
namespace Go.Proofs.YtpheilpcklfknaaDoor
namespace Rows

/-- THE TIED CARD OF 'signpostlaw10.ServiceKeys'. -/
def serviceKeysCard : Claim7 := { stood := { row := serviceKeysRow, standIns := [], harness := (true, "bd1078a53ade0bf4161af77fb7dc4c2c058e85d5d7b1c13844812ebcb026b539"), looks := false }, kinds := [], alts := [], laidByText := true, laidKinds := [.data, .pinned], laidTests := true, laidLooks := .later }
def ServiceKeysCardSaid : Prop := Claim7.holds Tryd.pinned (.plain (OpenSpec.ofChange serviceKeysSpec)) serviceKeysCard

/-- THE TIED CARD OF 'signpostlaw10.ServiceTells'. -/
def serviceTellsCard : Claim7 := { stood := { row := serviceTellsRow, standIns := [], harness := (true, "bd1078a53ade0bf4161af77fb7dc4c2c058e85d5d7b1c13844812ebcb026b539"), looks := false }, kinds := [], alts := [], laidByText := true, laidKinds := [.data, .pinned], laidTests := true, laidLooks := .later }
def ServiceTellsCardSaid : Prop := Claim7.holds Tryd.pinned (.plain (OpenSpec.ofChange serviceTellsSpec)) serviceTellsCard

/-- THE SECOND FORM's CARD OF 'signpostlaw10.ServiceKeys'. -/
def serviceKeysUptoCard : Claim7 := { stood := { row := serviceKeysUptoRow, standIns := [], harness := (true, "bd1078a53ade0bf4161af77fb7dc4c2c058e85d5d7b1c13844812ebcb026b539"), looks := false }, kinds := [], alts := [], laidByText := true, laidKinds := [.data, .pinned], laidTests := true, laidLooks := .later }
def ServiceKeysUptoCardSaid : Prop := Claim7.holds Tryd.pinned (.plain (OpenSpec.upto serviceKeysSpec)) serviceKeysUptoCard

/-- THE SECOND FORM's CARD OF 'signpostlaw10.ServiceTells'. -/
def serviceTellsUptoCard : Claim7 := { stood := { row := serviceTellsUptoRow, standIns := [], harness := (true, "bd1078a53ade0bf4161af77fb7dc4c2c058e85d5d7b1c13844812ebcb026b539"), looks := false }, kinds := [], alts := [], laidByText := true, laidKinds := [.data, .pinned], laidTests := true, laidLooks := .later }
def ServiceTellsUptoCardSaid : Prop := Claim7.holds Tryd.pinned (.plain (OpenSpec.upto serviceTellsSpec)) serviceTellsUptoCard
end Rows
end Go.Proofs.YtpheilpcklfknaaDoor
