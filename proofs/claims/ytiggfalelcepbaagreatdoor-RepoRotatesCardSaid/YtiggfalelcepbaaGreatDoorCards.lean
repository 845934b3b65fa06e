/-
  DERIVED. GIVEN WITH THE SEED: THE CARDS: each row of YtiggfalelcepbaaGreatDoorRows.lean that lists a variable, with what it lists TIED to the program's text (the seventh form; the later family's looks); each row that meets fmt, with fmt's text TOLD by the authors' own Lean function (tested against real Go, not proved from fmt's source: count such statements apart). THE CARD IS WHAT COUNTS. Prove the row's statement (the work); the ties are given (YtiggfalelcepbaaGreatDoorTie.lean); close each card by the builder's one call (the guide's Derived/Test/ToyasCard.lean, 'card_holds'). Laid BY PROGRAM, IN A SANDBOX (cutbox-door.mjs). By AI agents, Wed Nov 11 2026. No macro, syntax, notation, axiom, sorry.
-/
import Derived.Test.YtiggfalelcepbaaGreatDoorRows
import GoSem.ClaimSeven
namespace Go.Proofs.YtiggfalelcepbaaGreatDoor
namespace Rows

/-- THE TIED CARD OF 'ostlerlaw16.RepoRotates'. -/
def repoRotatesCard : Claim7 := { stood := { row := repoRotatesRow, standIns := [], harness := (true, "fc3b69b202fac060632d64dfe469805fdca05e52983974ef09ff60557b3ef703"), looks := false }, kinds := [], alts := [], laidByText := true, laidKinds := [.data, .pinned], laidTests := true, laidLooks := .later }
def RepoRotatesCardSaid : Prop := Claim7.holds Tryz.pinned (.plain (OpenSpec.ofChange repoRotatesSpec)) repoRotatesCard

/-- THE SECOND FORM's CARD OF 'ostlerlaw16.RepoRotates'. -/
def repoRotatesUptoCard : Claim7 := { stood := { row := repoRotatesUptoRow, standIns := [], harness := (true, "fc3b69b202fac060632d64dfe469805fdca05e52983974ef09ff60557b3ef703"), looks := false }, kinds := [], alts := [], laidByText := true, laidKinds := [.data, .pinned], laidTests := true, laidLooks := .later }
def RepoRotatesUptoCardSaid : Prop := Claim7.holds Tryz.pinned (.plain (OpenSpec.upto repoRotatesSpec)) repoRotatesUptoCard
end Rows
end Go.Proofs.YtiggfalelcepbaaGreatDoor
