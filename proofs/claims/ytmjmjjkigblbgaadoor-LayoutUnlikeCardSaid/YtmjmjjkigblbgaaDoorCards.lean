/-
  DERIVED. GIVEN WITH THE SEED: THE CARDS: each row of YtmjmjjkigblbgaaDoorRows.lean that lists a variable, with what it lists TIED to the program's text (the seventh form; the later family's looks); each row that meets fmt, with fmt's text TOLD by the authors' own Lean function (tested against real Go, not proved from fmt's source: count such statements apart). THE CARD IS WHAT COUNTS. Prove the row's statement (the work); the ties are given (YtmjmjjkigblbgaaDoorTie.lean); close each card by the builder's one call (the guide's Derived/Test/ToyasCard.lean, 'card_holds'). Laid BY PROGRAM, IN A SANDBOX (cutbox-door.mjs). By AI agents, Wed Nov 11 2026. No macro, syntax, notation, axiom, sorry.
-/
import Derived.Test.YtmjmjjkigblbgaaDoorRows
import GoSem.ClaimSeven
namespace Go.Proofs.YtmjmjjkigblbgaaDoor
namespace Rows

/-- THE TIED CARD OF 'aumbrylaw14.LayoutUebs'. -/
def layoutUebsCard : Claim7 := { stood := { row := layoutUebsRow, standIns := [], harness := (true, "afbd87de032e530f4376affa703b6ae8907084f4b8c0a2d15ab2776c1f29dc20"), looks := false }, kinds := [], alts := [], laidByText := true, laidKinds := [.data, .data, .data], laidTests := true, laidLooks := .later }
def LayoutUebsCardSaid : Prop := Claim7.holds Tryd.pinned (.plain (OpenSpec.ofChange layoutUebsSpec)) layoutUebsCard

/-- THE TIED CARD OF 'aumbrylaw14.LayoutUnlike'. -/
def layoutUnlikeCard : Claim7 := { stood := { row := layoutUnlikeRow, standIns := [], harness := (true, "afbd87de032e530f4376affa703b6ae8907084f4b8c0a2d15ab2776c1f29dc20"), looks := false }, kinds := [], alts := [], laidByText := true, laidKinds := [.data, .data, .data], laidTests := true, laidLooks := .later }
def LayoutUnlikeCardSaid : Prop := Claim7.holds Tryd.pinned (.plain (OpenSpec.ofChange layoutUnlikeSpec)) layoutUnlikeCard

/-- THE TIED CARD OF 'aumbrylaw14.LayoutVersions'. -/
def layoutVersionsCard : Claim7 := { stood := { row := layoutVersionsRow, standIns := [], harness := (true, "afbd87de032e530f4376affa703b6ae8907084f4b8c0a2d15ab2776c1f29dc20"), looks := false }, kinds := [], alts := [], laidByText := true, laidKinds := [.data, .data, .data], laidTests := true, laidLooks := .later }
def LayoutVersionsCardSaid : Prop := Claim7.holds Tryd.pinned (.plain (OpenSpec.ofChange layoutVersionsSpec)) layoutVersionsCard

/-- THE TIED CARD OF 'aumbrylaw14.LayoutBack'. -/
def layoutBackCard : Claim7 := { stood := { row := layoutBackRow, standIns := [], harness := (true, "afbd87de032e530f4376affa703b6ae8907084f4b8c0a2d15ab2776c1f29dc20"), looks := false }, kinds := [], alts := [], laidByText := true, laidKinds := [.data, .data, .data], laidTests := true, laidLooks := .later }
def LayoutBackCardSaid : Prop := Claim7.holds Tryd.pinned (.plain (OpenSpec.ofChange layoutBackSpec)) layoutBackCard

/-- THE TIED CARD OF 'aumbrylaw14.LayoutShares'. -/
def layoutSharesCard : Claim7 := { stood := { row := layoutSharesRow, standIns := [], harness := (true, "afbd87de032e530f4376affa703b6ae8907084f4b8c0a2d15ab2776c1f29dc20"), looks := false }, kinds := [], alts := [], laidByText := true, laidKinds := [.data, .data, .data], laidTests := true, laidLooks := .later }
def LayoutSharesCardSaid : Prop := Claim7.holds Tryd.pinned (.plain (OpenSpec.ofChange layoutSharesSpec)) layoutSharesCard

/-- THE TIED CARD OF 'aumbrylaw14.LayoutPieces'. -/
def layoutPiecesCard : Claim7 := { stood := { row := layoutPiecesRow, standIns := [], harness := (true, "afbd87de032e530f4376affa703b6ae8907084f4b8c0a2d15ab2776c1f29dc20"), looks := false }, kinds := [], alts := [], laidByText := true, laidKinds := [.data, .data, .data], laidTests := true, laidLooks := .later }
def LayoutPiecesCardSaid : Prop := Claim7.holds Tryd.pinned (.plain (OpenSpec.ofChange layoutPiecesSpec)) layoutPiecesCard

/-- THE SECOND FORM's CARD OF 'aumbrylaw14.LayoutUebs'. -/
def layoutUebsUptoCard : Claim7 := { stood := { row := layoutUebsUptoRow, standIns := [], harness := (true, "afbd87de032e530f4376affa703b6ae8907084f4b8c0a2d15ab2776c1f29dc20"), looks := false }, kinds := [], alts := [], laidByText := true, laidKinds := [.data, .data, .data], laidTests := true, laidLooks := .later }
def LayoutUebsUptoCardSaid : Prop := Claim7.holds Tryd.pinned (.plain (OpenSpec.upto layoutUebsSpec)) layoutUebsUptoCard

/-- THE SECOND FORM's CARD OF 'aumbrylaw14.LayoutUnlike'. -/
def layoutUnlikeUptoCard : Claim7 := { stood := { row := layoutUnlikeUptoRow, standIns := [], harness := (true, "afbd87de032e530f4376affa703b6ae8907084f4b8c0a2d15ab2776c1f29dc20"), looks := false }, kinds := [], alts := [], laidByText := true, laidKinds := [.data, .data, .data], laidTests := true, laidLooks := .later }
def LayoutUnlikeUptoCardSaid : Prop := Claim7.holds Tryd.pinned (.plain (OpenSpec.upto layoutUnlikeSpec)) layoutUnlikeUptoCard

/-- THE SECOND FORM's CARD OF 'aumbrylaw14.LayoutVersions'. -/
def layoutVersionsUptoCard : Claim7 := { stood := { row := layoutVersionsUptoRow, standIns := [], harness := (true, "afbd87de032e530f4376affa703b6ae8907084f4b8c0a2d15ab2776c1f29dc20"), looks := false }, kinds := [], alts := [], laidByText := true, laidKinds := [.data, .data, .data], laidTests := true, laidLooks := .later }
def LayoutVersionsUptoCardSaid : Prop := Claim7.holds Tryd.pinned (.plain (OpenSpec.upto layoutVersionsSpec)) layoutVersionsUptoCard

/-- THE SECOND FORM's CARD OF 'aumbrylaw14.LayoutBack'. -/
def layoutBackUptoCard : Claim7 := { stood := { row := layoutBackUptoRow, standIns := [], harness := (true, "afbd87de032e530f4376affa703b6ae8907084f4b8c0a2d15ab2776c1f29dc20"), looks := false }, kinds := [], alts := [], laidByText := true, laidKinds := [.data, .data, .data], laidTests := true, laidLooks := .later }
def LayoutBackUptoCardSaid : Prop := Claim7.holds Tryd.pinned (.plain (OpenSpec.upto layoutBackSpec)) layoutBackUptoCard

/-- THE SECOND FORM's CARD OF 'aumbrylaw14.LayoutShares'. -/
def layoutSharesUptoCard : Claim7 := { stood := { row := layoutSharesUptoRow, standIns := [], harness := (true, "afbd87de032e530f4376affa703b6ae8907084f4b8c0a2d15ab2776c1f29dc20"), looks := false }, kinds := [], alts := [], laidByText := true, laidKinds := [.data, .data, .data], laidTests := true, laidLooks := .later }
def LayoutSharesUptoCardSaid : Prop := Claim7.holds Tryd.pinned (.plain (OpenSpec.upto layoutSharesSpec)) layoutSharesUptoCard

/-- THE SECOND FORM's CARD OF 'aumbrylaw14.LayoutPieces'. -/
def layoutPiecesUptoCard : Claim7 := { stood := { row := layoutPiecesUptoRow, standIns := [], harness := (true, "afbd87de032e530f4376affa703b6ae8907084f4b8c0a2d15ab2776c1f29dc20"), looks := false }, kinds := [], alts := [], laidByText := true, laidKinds := [.data, .data, .data], laidTests := true, laidLooks := .later }
def LayoutPiecesUptoCardSaid : Prop := Claim7.holds Tryd.pinned (.plain (OpenSpec.upto layoutPiecesSpec)) layoutPiecesUptoCard
end Rows
end Go.Proofs.YtmjmjjkigblbgaaDoor
