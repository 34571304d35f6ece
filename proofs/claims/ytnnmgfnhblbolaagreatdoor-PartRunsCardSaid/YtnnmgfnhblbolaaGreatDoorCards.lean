/-
  DERIVED. GIVEN WITH THE SEED: THE CARDS: each row of YtnnmgfnhblbolaaGreatDoorRows.lean that lists a variable, with what it lists TIED to the program's text (the seventh form; the later family's looks); each row that meets fmt, with fmt's text TOLD by the authors' own Lean function (tested against real Go, not proved from fmt's source: count such statements apart). THE CARD IS WHAT COUNTS. Prove the row's statement (the work); the ties are given (YtnnmgfnhblbolaaGreatDoorTie.lean); close each card by the builder's one call (the guide's Derived/Test/ToyasCard.lean, 'card_holds'). Laid BY PROGRAM, IN A SANDBOX (cutbox-door.mjs). By AI agents, Wed Nov 11 2026. No macro, syntax, notation, axiom, sorry.
-/
import Derived.Test.YtnnmgfnhblbolaaGreatDoorRows
import GoSem.ClaimSeven
namespace Go.Proofs.YtnnmgfnhblbolaaGreatDoor
namespace Rows

/-- THE TIED CARD OF 'sordinelaw25.PartRuns'. -/
def partRunsCard : Claim7 := { stood := { row := partRunsRow, standIns := [], harness := (true, "ac1c2d1ca12a171cb6125528dc4fa2340555697e4c1d37a97a599dcf6dfcc352"), looks := false }, kinds := [], alts := [], laidByText := true, laidKinds := [.data], laidTests := true, laidLooks := .later }
def PartRunsCardSaid : Prop := Claim7.holds Tryz.pinned (.plain (OpenSpec.ofChange partRunsSpec)) partRunsCard

/-- THE TIED CARD OF 'sordinelaw27.ServerRuns'. -/
def serverRunsCard : Claim7 := { stood := { row := serverRunsRow, standIns := [], harness := (true, "ac1c2d1ca12a171cb6125528dc4fa2340555697e4c1d37a97a599dcf6dfcc352"), looks := false }, kinds := [], alts := [], laidByText := true, laidKinds := [.data], laidTests := true, laidLooks := .later }
def ServerRunsCardSaid : Prop := Claim7.holds Tryz.pinned (.plain (OpenSpec.ofChange serverRunsSpec)) serverRunsCard

/-- THE TIED CARD OF 'sordinelaw27.ServerMay'. -/
def serverMayCard : Claim7 := { stood := { row := serverMayRow, standIns := [], harness := (true, "ac1c2d1ca12a171cb6125528dc4fa2340555697e4c1d37a97a599dcf6dfcc352"), looks := false }, kinds := [], alts := [], laidByText := true, laidKinds := [.data], laidTests := true, laidLooks := .later }
def ServerMayCardSaid : Prop := Claim7.holds Tryz.pinned (.plain (OpenSpec.ofChange serverMaySpec)) serverMayCard

/-- THE SECOND FORM's CARD OF 'sordinelaw25.PartRuns'. -/
def partRunsUptoCard : Claim7 := { stood := { row := partRunsUptoRow, standIns := [], harness := (true, "ac1c2d1ca12a171cb6125528dc4fa2340555697e4c1d37a97a599dcf6dfcc352"), looks := false }, kinds := [], alts := [], laidByText := true, laidKinds := [.data], laidTests := true, laidLooks := .later }
def PartRunsUptoCardSaid : Prop := Claim7.holds Tryz.pinned (.plain (OpenSpec.upto partRunsSpec)) partRunsUptoCard

/-- THE SECOND FORM's CARD OF 'sordinelaw27.ServerRuns'. -/
def serverRunsUptoCard : Claim7 := { stood := { row := serverRunsUptoRow, standIns := [], harness := (true, "ac1c2d1ca12a171cb6125528dc4fa2340555697e4c1d37a97a599dcf6dfcc352"), looks := false }, kinds := [], alts := [], laidByText := true, laidKinds := [.data], laidTests := true, laidLooks := .later }
def ServerRunsUptoCardSaid : Prop := Claim7.holds Tryz.pinned (.plain (OpenSpec.upto serverRunsSpec)) serverRunsUptoCard

/-- THE SECOND FORM's CARD OF 'sordinelaw27.ServerMay'. -/
def serverMayUptoCard : Claim7 := { stood := { row := serverMayUptoRow, standIns := [], harness := (true, "ac1c2d1ca12a171cb6125528dc4fa2340555697e4c1d37a97a599dcf6dfcc352"), looks := false }, kinds := [], alts := [], laidByText := true, laidKinds := [.data], laidTests := true, laidLooks := .later }
def ServerMayUptoCardSaid : Prop := Claim7.holds Tryz.pinned (.plain (OpenSpec.upto serverMaySpec)) serverMayUptoCard
end Rows
end Go.Proofs.YtnnmgfnhblbolaaGreatDoor
