/-
  DERIVED. GIVEN WITH THE SEED: THE CARDS: each row of YtmjmjjkigblbgaaGreatDoorRows.lean that lists a variable, with what it lists TIED to the program's text (the seventh form; the later family's looks); each row that meets fmt, with fmt's text TOLD by the authors' own Lean function (tested against real Go, not proved from fmt's source: count such statements apart). THE CARD IS WHAT COUNTS. Prove the row's statement (the work); the ties are given (YtmjmjjkigblbgaaGreatDoorTie.lean); close each card by the builder's one call (the guide's Derived/Test/ToyasCard.lean, 'card_holds'). Laid BY PROGRAM, IN A SANDBOX (cutbox-door.mjs). By AI agents, Wed Nov 11 2026. No macro, syntax, notation, axiom, sorry.
-/
import Derived.Test.YtmjmjjkigblbgaaGreatDoorRows
import GoSem.ClaimSeven
namespace Go.Proofs.YtmjmjjkigblbgaaGreatDoor
namespace Rows

/-- THE TIED CARD OF 'aumbrylaw14.LayoutOthers'. -/
def layoutOthersCard : Claim7 := { stood := { row := layoutOthersRow, standIns := [], harness := (true, "e430626f22a64e36d0b5944cad3b28151e9079b4da900f40cc508759b4a618a2"), looks := false }, kinds := [], alts := [], laidByText := true, laidKinds := [.data, .data, .data], laidTests := true, laidLooks := .later }
def LayoutOthersCardSaid : Prop := Claim7.holds Tryz.pinned (.plain (OpenSpec.ofChange layoutOthersSpec)) layoutOthersCard

/-- THE TIED CARD OF 'aumbrylaw14.LayoutRight'. -/
def layoutRightCard : Claim7 := { stood := { row := layoutRightRow, standIns := [], harness := (true, "e430626f22a64e36d0b5944cad3b28151e9079b4da900f40cc508759b4a618a2"), looks := false }, kinds := [], alts := [], laidByText := true, laidKinds := [.data, .data, .data], laidTests := true, laidLooks := .later }
def LayoutRightCardSaid : Prop := Claim7.holds Tryz.pinned (.plain (OpenSpec.ofChange layoutRightSpec)) layoutRightCard

/-- THE TIED CARD OF 'aumbrylaw14.LayoutSigned'. -/
def layoutSignedCard : Claim7 := { stood := { row := layoutSignedRow, standIns := [], harness := (true, "e430626f22a64e36d0b5944cad3b28151e9079b4da900f40cc508759b4a618a2"), looks := false }, kinds := [], alts := [], laidByText := true, laidKinds := [.data, .data, .data], laidTests := true, laidLooks := .later }
def LayoutSignedCardSaid : Prop := Claim7.holds Tryz.pinned (.plain (OpenSpec.ofChange layoutSignedSpec)) layoutSignedCard

/-- THE TIED CARD OF 'aumbrylaw14.LayoutRaw'. -/
def layoutRawCard : Claim7 := { stood := { row := layoutRawRow, standIns := [], harness := (true, "e430626f22a64e36d0b5944cad3b28151e9079b4da900f40cc508759b4a618a2"), looks := false }, kinds := [], alts := [], laidByText := true, laidKinds := [.data, .data, .data], laidTests := true, laidLooks := .later }
def LayoutRawCardSaid : Prop := Claim7.holds Tryz.pinned (.plain (OpenSpec.ofChange layoutRawSpec)) layoutRawCard

/-- THE SECOND FORM's CARD OF 'aumbrylaw14.LayoutOthers'. -/
def layoutOthersUptoCard : Claim7 := { stood := { row := layoutOthersUptoRow, standIns := [], harness := (true, "e430626f22a64e36d0b5944cad3b28151e9079b4da900f40cc508759b4a618a2"), looks := false }, kinds := [], alts := [], laidByText := true, laidKinds := [.data, .data, .data], laidTests := true, laidLooks := .later }
def LayoutOthersUptoCardSaid : Prop := Claim7.holds Tryz.pinned (.plain (OpenSpec.upto layoutOthersSpec)) layoutOthersUptoCard

/-- THE SECOND FORM's CARD OF 'aumbrylaw14.LayoutRight'. -/
def layoutRightUptoCard : Claim7 := { stood := { row := layoutRightUptoRow, standIns := [], harness := (true, "e430626f22a64e36d0b5944cad3b28151e9079b4da900f40cc508759b4a618a2"), looks := false }, kinds := [], alts := [], laidByText := true, laidKinds := [.data, .data, .data], laidTests := true, laidLooks := .later }
def LayoutRightUptoCardSaid : Prop := Claim7.holds Tryz.pinned (.plain (OpenSpec.upto layoutRightSpec)) layoutRightUptoCard

/-- THE SECOND FORM's CARD OF 'aumbrylaw14.LayoutSigned'. -/
def layoutSignedUptoCard : Claim7 := { stood := { row := layoutSignedUptoRow, standIns := [], harness := (true, "e430626f22a64e36d0b5944cad3b28151e9079b4da900f40cc508759b4a618a2"), looks := false }, kinds := [], alts := [], laidByText := true, laidKinds := [.data, .data, .data], laidTests := true, laidLooks := .later }
def LayoutSignedUptoCardSaid : Prop := Claim7.holds Tryz.pinned (.plain (OpenSpec.upto layoutSignedSpec)) layoutSignedUptoCard

/-- THE SECOND FORM's CARD OF 'aumbrylaw14.LayoutRaw'. -/
def layoutRawUptoCard : Claim7 := { stood := { row := layoutRawUptoRow, standIns := [], harness := (true, "e430626f22a64e36d0b5944cad3b28151e9079b4da900f40cc508759b4a618a2"), looks := false }, kinds := [], alts := [], laidByText := true, laidKinds := [.data, .data, .data], laidTests := true, laidLooks := .later }
def LayoutRawUptoCardSaid : Prop := Claim7.holds Tryz.pinned (.plain (OpenSpec.upto layoutRawSpec)) layoutRawUptoCard
end Rows
end Go.Proofs.YtmjmjjkigblbgaaGreatDoor
