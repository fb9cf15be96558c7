/-
  DERIVED. GIVEN WITH THE SEED: THE CARDS: each row of YtikgpfhjhfpmbaaDoorRows.lean that lists a variable, with what it lists TIED to the program's text (the seventh form; the later family's looks); each row that meets fmt, with fmt's text TOLD by the authors' own Lean function (tested against real Go, not proved from fmt's source: count such statements apart). THE CARD IS WHAT COUNTS. Prove the row's statement (the work); the ties are given (YtikgpfhjhfpmbaaDoorTie.lean); close each card by the builder's one call (the guide's Derived/Test/ToyasCard.lean, 'card_holds'). Laid BY PROGRAM, IN A SANDBOX (cutbox-door.mjs). By AI agents, Wed Nov 11 2026. No macro, syntax, notation, axiom, sorry.
-/
import Derived.Test.YtikgpfhjhfpmbaaDoorRows
import GoSem.ClaimSeven
namespace Go.Proofs.YtikgpfhjhfpmbaaDoor
namespace Rows

/-- THE TIED CARD OF 'aumbrylaw02.ShaShort'. -/
def shaShortCard : Claim7 := { stood := { row := shaShortRow, standIns := [], harness := (true, "e2e961e2c55685224296d1b6d6757b184d90e9ca39c1960ada989b8997363e0b"), looks := false }, kinds := [], alts := [], laidByText := true, laidKinds := [.data, .data, .data], laidTests := true, laidLooks := .later }
def ShaShortCardSaid : Prop := Claim7.holds Tryd.pinned (.plain (OpenSpec.ofChange shaShortSpec)) shaShortCard

/-- THE TIED CARD OF 'aumbrylaw02.ShaTags'. -/
def shaTagsCard : Claim7 := { stood := { row := shaTagsRow, standIns := [], harness := (true, "e2e961e2c55685224296d1b6d6757b184d90e9ca39c1960ada989b8997363e0b"), looks := false }, kinds := [], alts := [], laidByText := true, laidKinds := [.data, .data, .data], laidTests := true, laidLooks := .later }
def ShaTagsCardSaid : Prop := Claim7.holds Tryd.pinned (.plain (OpenSpec.ofChange shaTagsSpec)) shaTagsCard

/-- THE TIED CARD OF 'aumbrylaw02.ShaTexts'. -/
def shaTextsCard : Claim7 := { stood := { row := shaTextsRow, standIns := [], harness := (true, "e2e961e2c55685224296d1b6d6757b184d90e9ca39c1960ada989b8997363e0b"), looks := false }, kinds := [], alts := [], laidByText := true, laidKinds := [.data, .data, .data], laidTests := true, laidLooks := .later }
def ShaTextsCardSaid : Prop := Claim7.holds Tryd.pinned (.plain (OpenSpec.ofChange shaTextsSpec)) shaTextsCard

/-- THE SECOND FORM's CARD OF 'aumbrylaw02.ShaShort'. -/
def shaShortUptoCard : Claim7 := { stood := { row := shaShortUptoRow, standIns := [], harness := (true, "e2e961e2c55685224296d1b6d6757b184d90e9ca39c1960ada989b8997363e0b"), looks := false }, kinds := [], alts := [], laidByText := true, laidKinds := [.data, .data, .data], laidTests := true, laidLooks := .later }
def ShaShortUptoCardSaid : Prop := Claim7.holds Tryd.pinned (.plain (OpenSpec.upto shaShortSpec)) shaShortUptoCard

/-- THE SECOND FORM's CARD OF 'aumbrylaw02.ShaTags'. -/
def shaTagsUptoCard : Claim7 := { stood := { row := shaTagsUptoRow, standIns := [], harness := (true, "e2e961e2c55685224296d1b6d6757b184d90e9ca39c1960ada989b8997363e0b"), looks := false }, kinds := [], alts := [], laidByText := true, laidKinds := [.data, .data, .data], laidTests := true, laidLooks := .later }
def ShaTagsUptoCardSaid : Prop := Claim7.holds Tryd.pinned (.plain (OpenSpec.upto shaTagsSpec)) shaTagsUptoCard

/-- THE SECOND FORM's CARD OF 'aumbrylaw02.ShaTexts'. -/
def shaTextsUptoCard : Claim7 := { stood := { row := shaTextsUptoRow, standIns := [], harness := (true, "e2e961e2c55685224296d1b6d6757b184d90e9ca39c1960ada989b8997363e0b"), looks := false }, kinds := [], alts := [], laidByText := true, laidKinds := [.data, .data, .data], laidTests := true, laidLooks := .later }
def ShaTextsUptoCardSaid : Prop := Claim7.holds Tryd.pinned (.plain (OpenSpec.upto shaTextsSpec)) shaTextsUptoCard
end Rows
end Go.Proofs.YtikgpfhjhfpmbaaDoor
