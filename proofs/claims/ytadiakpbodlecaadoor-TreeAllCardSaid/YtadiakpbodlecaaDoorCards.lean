/-
  DERIVED. GIVEN WITH THE SEED: THE CARDS: each row of YtadiakpbodlecaaDoorRows.lean that lists a variable, with what it lists TIED to the program's text (the seventh form; the later family's looks); each row that meets fmt, with fmt's text TOLD by the authors' own Lean function (tested against real Go, not proved from fmt's source: count such statements apart). THE CARD IS WHAT COUNTS. Prove the row's statement (the work); the ties are given (YtadiakpbodlecaaDoorTie.lean); close each card by the builder's one call (the guide's Derived/Test/ToyasCard.lean, 'card_holds'). Laid BY PROGRAM, IN A SANDBOX (cutbox-door.mjs). By AI agents, Wed Nov 11 2026. No macro, syntax, notation, axiom, sorry.
-/
import Derived.Test.YtadiakpbodlecaaDoorRows
import GoSem.ClaimSeven
namespace Go.Proofs.YtadiakpbodlecaaDoor
namespace Rows

/-- THE TIED CARD OF 'aumbrylaw07.TreeRoots'. -/
def treeRootsCard : Claim7 := { stood := { row := treeRootsRow, standIns := [], harness := (true, "cb02c691b811362cb76a7c3a1df73259f7a2bf4b08f1435cf3380e774cfd48ae"), looks := false }, kinds := [], alts := [], laidByText := true, laidKinds := [.data, .data, .data], laidTests := true, laidLooks := .later }
def TreeRootsCardSaid : Prop := Claim7.holds Tryd.pinned (.plain (OpenSpec.ofChange treeRootsSpec)) treeRootsCard

/-- THE TIED CARD OF 'aumbrylaw07.TreeRows'. -/
def treeRowsCard : Claim7 := { stood := { row := treeRowsRow, standIns := [], harness := (true, "cb02c691b811362cb76a7c3a1df73259f7a2bf4b08f1435cf3380e774cfd48ae"), looks := false }, kinds := [], alts := [], laidByText := true, laidKinds := [.data, .data, .data], laidTests := true, laidLooks := .later }
def TreeRowsCardSaid : Prop := Claim7.holds Tryd.pinned (.plain (OpenSpec.ofChange treeRowsSpec)) treeRowsCard

/-- THE TIED CARD OF 'aumbrylaw07.TreeProofs'. -/
def treeProofsCard : Claim7 := { stood := { row := treeProofsRow, standIns := [], harness := (true, "cb02c691b811362cb76a7c3a1df73259f7a2bf4b08f1435cf3380e774cfd48ae"), looks := false }, kinds := [], alts := [], laidByText := true, laidKinds := [.data, .data, .data], laidTests := true, laidLooks := .later }
def TreeProofsCardSaid : Prop := Claim7.holds Tryd.pinned (.plain (OpenSpec.ofChange treeProofsSpec)) treeProofsCard

/-- THE TIED CARD OF 'aumbrylaw07.TreeUnlike'. -/
def treeUnlikeCard : Claim7 := { stood := { row := treeUnlikeRow, standIns := [], harness := (true, "cb02c691b811362cb76a7c3a1df73259f7a2bf4b08f1435cf3380e774cfd48ae"), looks := false }, kinds := [], alts := [], laidByText := true, laidKinds := [.data, .data, .data], laidTests := true, laidLooks := .later }
def TreeUnlikeCardSaid : Prop := Claim7.holds Tryd.pinned (.plain (OpenSpec.ofChange treeUnlikeSpec)) treeUnlikeCard

/-- THE TIED CARD OF 'aumbrylaw07.TreeClimbs'. -/
def treeClimbsCard : Claim7 := { stood := { row := treeClimbsRow, standIns := [], harness := (true, "cb02c691b811362cb76a7c3a1df73259f7a2bf4b08f1435cf3380e774cfd48ae"), looks := false }, kinds := [], alts := [], laidByText := true, laidKinds := [.data, .data, .data], laidTests := true, laidLooks := .later }
def TreeClimbsCardSaid : Prop := Claim7.holds Tryd.pinned (.plain (OpenSpec.ofChange treeClimbsSpec)) treeClimbsCard

/-- THE TIED CARD OF 'aumbrylaw07.TreeBreaks'. -/
def treeBreaksCard : Claim7 := { stood := { row := treeBreaksRow, standIns := [], harness := (true, "cb02c691b811362cb76a7c3a1df73259f7a2bf4b08f1435cf3380e774cfd48ae"), looks := false }, kinds := [], alts := [], laidByText := true, laidKinds := [.data, .data, .data], laidTests := true, laidLooks := .later }
def TreeBreaksCardSaid : Prop := Claim7.holds Tryd.pinned (.plain (OpenSpec.ofChange treeBreaksSpec)) treeBreaksCard

/-- THE TIED CARD OF 'aumbrylaw07.TreeHigh'. -/
def treeHighCard : Claim7 := { stood := { row := treeHighRow, standIns := [], harness := (true, "cb02c691b811362cb76a7c3a1df73259f7a2bf4b08f1435cf3380e774cfd48ae"), looks := false }, kinds := [], alts := [], laidByText := true, laidKinds := [.data, .data, .data], laidTests := true, laidLooks := .later }
def TreeHighCardSaid : Prop := Claim7.holds Tryd.pinned (.plain (OpenSpec.ofChange treeHighSpec)) treeHighCard

/-- THE TIED CARD OF 'aumbrylaw07.TreePlaces'. -/
def treePlacesCard : Claim7 := { stood := { row := treePlacesRow, standIns := [], harness := (true, "cb02c691b811362cb76a7c3a1df73259f7a2bf4b08f1435cf3380e774cfd48ae"), looks := false }, kinds := [], alts := [], laidByText := true, laidKinds := [.data, .data, .data], laidTests := true, laidLooks := .later }
def TreePlacesCardSaid : Prop := Claim7.holds Tryd.pinned (.plain (OpenSpec.ofChange treePlacesSpec)) treePlacesCard

/-- THE TIED CARD OF 'aumbrylaw07.TreeAll'. -/
def treeAllCard : Claim7 := { stood := { row := treeAllRow, standIns := [], harness := (true, "cb02c691b811362cb76a7c3a1df73259f7a2bf4b08f1435cf3380e774cfd48ae"), looks := false }, kinds := [], alts := [], laidByText := true, laidKinds := [.data, .data, .data], laidTests := true, laidLooks := .later }
def TreeAllCardSaid : Prop := Claim7.holds Tryd.pinned (.plain (OpenSpec.ofChange treeAllSpec)) treeAllCard

/-- THE SECOND FORM's CARD OF 'aumbrylaw07.TreeRoots'. -/
def treeRootsUptoCard : Claim7 := { stood := { row := treeRootsUptoRow, standIns := [], harness := (true, "cb02c691b811362cb76a7c3a1df73259f7a2bf4b08f1435cf3380e774cfd48ae"), looks := false }, kinds := [], alts := [], laidByText := true, laidKinds := [.data, .data, .data], laidTests := true, laidLooks := .later }
def TreeRootsUptoCardSaid : Prop := Claim7.holds Tryd.pinned (.plain (OpenSpec.upto treeRootsSpec)) treeRootsUptoCard

/-- THE SECOND FORM's CARD OF 'aumbrylaw07.TreeRows'. -/
def treeRowsUptoCard : Claim7 := { stood := { row := treeRowsUptoRow, standIns := [], harness := (true, "cb02c691b811362cb76a7c3a1df73259f7a2bf4b08f1435cf3380e774cfd48ae"), looks := false }, kinds := [], alts := [], laidByText := true, laidKinds := [.data, .data, .data], laidTests := true, laidLooks := .later }
def TreeRowsUptoCardSaid : Prop := Claim7.holds Tryd.pinned (.plain (OpenSpec.upto treeRowsSpec)) treeRowsUptoCard

/-- THE SECOND FORM's CARD OF 'aumbrylaw07.TreeProofs'. -/
def treeProofsUptoCard : Claim7 := { stood := { row := treeProofsUptoRow, standIns := [], harness := (true, "cb02c691b811362cb76a7c3a1df73259f7a2bf4b08f1435cf3380e774cfd48ae"), looks := false }, kinds := [], alts := [], laidByText := true, laidKinds := [.data, .data, .data], laidTests := true, laidLooks := .later }
def TreeProofsUptoCardSaid : Prop := Claim7.holds Tryd.pinned (.plain (OpenSpec.upto treeProofsSpec)) treeProofsUptoCard

/-- THE SECOND FORM's CARD OF 'aumbrylaw07.TreeUnlike'. -/
def treeUnlikeUptoCard : Claim7 := { stood := { row := treeUnlikeUptoRow, standIns := [], harness := (true, "cb02c691b811362cb76a7c3a1df73259f7a2bf4b08f1435cf3380e774cfd48ae"), looks := false }, kinds := [], alts := [], laidByText := true, laidKinds := [.data, .data, .data], laidTests := true, laidLooks := .later }
def TreeUnlikeUptoCardSaid : Prop := Claim7.holds Tryd.pinned (.plain (OpenSpec.upto treeUnlikeSpec)) treeUnlikeUptoCard

/-- THE SECOND FORM's CARD OF 'aumbrylaw07.TreeClimbs'. -/
def treeClimbsUptoCard : Claim7 := { stood := { row := treeClimbsUptoRow, standIns := [], harness := (true, "cb02c691b811362cb76a7c3a1df73259f7a2bf4b08f1435cf3380e774cfd48ae"), looks := false }, kinds := [], alts := [], laidByText := true, laidKinds := [.data, .data, .data], laidTests := true, laidLooks := .later }
def TreeClimbsUptoCardSaid : Prop := Claim7.holds Tryd.pinned (.plain (OpenSpec.upto treeClimbsSpec)) treeClimbsUptoCard

/-- THE SECOND FORM's CARD OF 'aumbrylaw07.TreeBreaks'. -/
def treeBreaksUptoCard : Claim7 := { stood := { row := treeBreaksUptoRow, standIns := [], harness := (true, "cb02c691b811362cb76a7c3a1df73259f7a2bf4b08f1435cf3380e774cfd48ae"), looks := false }, kinds := [], alts := [], laidByText := true, laidKinds := [.data, .data, .data], laidTests := true, laidLooks := .later }
def TreeBreaksUptoCardSaid : Prop := Claim7.holds Tryd.pinned (.plain (OpenSpec.upto treeBreaksSpec)) treeBreaksUptoCard

/-- THE SECOND FORM's CARD OF 'aumbrylaw07.TreeHigh'. -/
def treeHighUptoCard : Claim7 := { stood := { row := treeHighUptoRow, standIns := [], harness := (true, "cb02c691b811362cb76a7c3a1df73259f7a2bf4b08f1435cf3380e774cfd48ae"), looks := false }, kinds := [], alts := [], laidByText := true, laidKinds := [.data, .data, .data], laidTests := true, laidLooks := .later }
def TreeHighUptoCardSaid : Prop := Claim7.holds Tryd.pinned (.plain (OpenSpec.upto treeHighSpec)) treeHighUptoCard

/-- THE SECOND FORM's CARD OF 'aumbrylaw07.TreePlaces'. -/
def treePlacesUptoCard : Claim7 := { stood := { row := treePlacesUptoRow, standIns := [], harness := (true, "cb02c691b811362cb76a7c3a1df73259f7a2bf4b08f1435cf3380e774cfd48ae"), looks := false }, kinds := [], alts := [], laidByText := true, laidKinds := [.data, .data, .data], laidTests := true, laidLooks := .later }
def TreePlacesUptoCardSaid : Prop := Claim7.holds Tryd.pinned (.plain (OpenSpec.upto treePlacesSpec)) treePlacesUptoCard

/-- THE SECOND FORM's CARD OF 'aumbrylaw07.TreeAll'. -/
def treeAllUptoCard : Claim7 := { stood := { row := treeAllUptoRow, standIns := [], harness := (true, "cb02c691b811362cb76a7c3a1df73259f7a2bf4b08f1435cf3380e774cfd48ae"), looks := false }, kinds := [], alts := [], laidByText := true, laidKinds := [.data, .data, .data], laidTests := true, laidLooks := .later }
def TreeAllUptoCardSaid : Prop := Claim7.holds Tryd.pinned (.plain (OpenSpec.upto treeAllSpec)) treeAllUptoCard
end Rows
end Go.Proofs.YtadiakpbodlecaaDoor
