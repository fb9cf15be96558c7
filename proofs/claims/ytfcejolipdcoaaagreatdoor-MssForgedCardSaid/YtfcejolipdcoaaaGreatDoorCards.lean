/-
  DERIVED. GIVEN WITH THE SEED: THE CARDS: each row of YtfcejolipdcoaaaGreatDoorRows.lean that lists a variable, with what it lists TIED to the program's text (the seventh form; the later family's looks); each row that meets fmt, with fmt's text TOLD by the authors' own Lean function (tested against real Go, not proved from fmt's source: count such statements apart). THE CARD IS WHAT COUNTS. Prove the row's statement (the work); the ties are given (YtfcejolipdcoaaaGreatDoorTie.lean); close each card by the builder's one call (the guide's Derived/Test/ToyasCard.lean, 'card_holds'). Laid BY PROGRAM, IN A SANDBOX (cutbox-door.mjs). By AI agents, Wed Nov 11 2026. No macro, syntax, notation, axiom, sorry.
-/
import Derived.Test.YtfcejolipdcoaaaGreatDoorRows
import GoSem.ClaimSeven
namespace Go.Proofs.YtfcejolipdcoaaaGreatDoor
namespace Rows

/-- THE TIED CARD OF 'aumbrylaw09.MssForged'. -/
def mssForgedCard : Claim7 := { stood := { row := mssForgedRow, standIns := [], harness := (true, "c3bcfd7b69b7305bee069dd6a91fa4037340bcce6624b0d1b439334e873d4884"), looks := false }, kinds := [], alts := [], laidByText := true, laidKinds := [.data, .data, .data], laidTests := true, laidLooks := .later }
def MssForgedCardSaid : Prop := Claim7.holds Tryz.pinned (.plain (OpenSpec.ofChange mssForgedSpec)) mssForgedCard

/-- THE SECOND FORM's CARD OF 'aumbrylaw09.MssForged'. -/
def mssForgedUptoCard : Claim7 := { stood := { row := mssForgedUptoRow, standIns := [], harness := (true, "c3bcfd7b69b7305bee069dd6a91fa4037340bcce6624b0d1b439334e873d4884"), looks := false }, kinds := [], alts := [], laidByText := true, laidKinds := [.data, .data, .data], laidTests := true, laidLooks := .later }
def MssForgedUptoCardSaid : Prop := Claim7.holds Tryz.pinned (.plain (OpenSpec.upto mssForgedSpec)) mssForgedUptoCard
end Rows
end Go.Proofs.YtfcejolipdcoaaaGreatDoor
