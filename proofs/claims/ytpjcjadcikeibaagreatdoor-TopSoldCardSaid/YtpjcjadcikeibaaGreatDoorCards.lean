/-
  DERIVED. GIVEN WITH THE SEED: THE CARDS: each row of YtpjcjadcikeibaaGreatDoorRows.lean that lists a variable, with what it lists TIED to the program's text (the seventh form; the later family's looks); each row that meets fmt, with fmt's text TOLD by the authors' own Lean function (tested against real Go, not proved from fmt's source: count such statements apart). THE CARD IS WHAT COUNTS. Prove the row's statement (the work); the ties are given (YtpjcjadcikeibaaGreatDoorTie.lean); close each card by the builder's one call (the guide's Derived/Test/ToyasCard.lean, 'card_holds'). Laid BY PROGRAM, IN A SANDBOX (cutbox-door.mjs). By AI agents, Wed Nov 11 2026. No macro, syntax, notation, axiom, sorry.
-/
import Derived.Test.YtpjcjadcikeibaaGreatDoorRows
import GoSem.ClaimSeven
namespace Go.Proofs.YtpjcjadcikeibaaGreatDoor
namespace Rows

/-- THE TIED CARD OF 'gladstonetop.TopSold'. -/
def topSoldCard : Claim7 := { stood := { row := topSoldRow, standIns := [], harness := (true, "4e01befce082980afd359a048d4da6cb8aa194cbc6105ca829cf5b14aa3d517d"), looks := true }, kinds := [], alts := [], laidByText := true, laidKinds := [.handle], laidTests := true, laidLooks := .later }
def TopSoldCardSaid : Prop := Claim7.holds Tryz.pinned (.plain (OpenSpec.ofChange topSoldSpec)) topSoldCard

/-- THE SECOND FORM's CARD OF 'gladstonetop.TopSold'. -/
def topSoldUptoCard : Claim7 := { stood := { row := topSoldUptoRow, standIns := [], harness := (true, "4e01befce082980afd359a048d4da6cb8aa194cbc6105ca829cf5b14aa3d517d"), looks := true }, kinds := [], alts := [], laidByText := true, laidKinds := [.handle], laidTests := true, laidLooks := .later }
def TopSoldUptoCardSaid : Prop := Claim7.holds Tryz.pinned (.plain (OpenSpec.upto topSoldSpec)) topSoldUptoCard
end Rows
end Go.Proofs.YtpjcjadcikeibaaGreatDoor
