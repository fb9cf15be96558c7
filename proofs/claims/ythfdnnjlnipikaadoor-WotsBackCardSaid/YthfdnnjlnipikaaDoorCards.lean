/-
  DERIVED. GIVEN WITH THE SEED: THE CARDS: each row of YthfdnnjlnipikaaDoorRows.lean that lists a variable, with what it lists TIED to the program's text (the seventh form; the later family's looks); each row that meets fmt, with fmt's text TOLD by the authors' own Lean function (tested against real Go, not proved from fmt's source: count such statements apart). THE CARD IS WHAT COUNTS. Prove the row's statement (the work); the ties are given (YthfdnnjlnipikaaDoorTie.lean); close each card by the builder's one call (the guide's Derived/Test/ToyasCard.lean, 'card_holds'). Laid BY PROGRAM, IN A SANDBOX (cutbox-door.mjs). By AI agents, Wed Nov 11 2026. No macro, syntax, notation, axiom, sorry.
-/
import Derived.Test.YthfdnnjlnipikaaDoorRows
import GoSem.ClaimSeven
namespace Go.Proofs.YthfdnnjlnipikaaDoor
namespace Rows

/-- THE TIED CARD OF 'aumbrylaw08.WotsDigits'. -/
def wotsDigitsCard : Claim7 := { stood := { row := wotsDigitsRow, standIns := [], harness := (true, "7b36c580f1a55a13f1ebb49bdd07831cac8456267613a48f80be7cf378c38b71"), looks := false }, kinds := [], alts := [], laidByText := true, laidKinds := [.data, .data, .data], laidTests := true, laidLooks := .later }
def WotsDigitsCardSaid : Prop := Claim7.holds Tryd.pinned (.plain (OpenSpec.ofChange wotsDigitsSpec)) wotsDigitsCard

/-- THE TIED CARD OF 'aumbrylaw08.WotsAlong'. -/
def wotsAlongCard : Claim7 := { stood := { row := wotsAlongRow, standIns := [], harness := (true, "7b36c580f1a55a13f1ebb49bdd07831cac8456267613a48f80be7cf378c38b71"), looks := false }, kinds := [], alts := [], laidByText := true, laidKinds := [.data, .data, .data], laidTests := true, laidLooks := .later }
def WotsAlongCardSaid : Prop := Claim7.holds Tryd.pinned (.plain (OpenSpec.ofChange wotsAlongSpec)) wotsAlongCard

/-- THE TIED CARD OF 'aumbrylaw08.WotsSteps'. -/
def wotsStepsCard : Claim7 := { stood := { row := wotsStepsRow, standIns := [], harness := (true, "7b36c580f1a55a13f1ebb49bdd07831cac8456267613a48f80be7cf378c38b71"), looks := false }, kinds := [], alts := [], laidByText := true, laidKinds := [.data, .data, .data], laidTests := true, laidLooks := .later }
def WotsStepsCardSaid : Prop := Claim7.holds Tryd.pinned (.plain (OpenSpec.ofChange wotsStepsSpec)) wotsStepsCard

/-- THE TIED CARD OF 'aumbrylaw08.WotsEnds'. -/
def wotsEndsCard : Claim7 := { stood := { row := wotsEndsRow, standIns := [], harness := (true, "7b36c580f1a55a13f1ebb49bdd07831cac8456267613a48f80be7cf378c38b71"), looks := false }, kinds := [], alts := [], laidByText := true, laidKinds := [.data, .data, .data], laidTests := true, laidLooks := .later }
def WotsEndsCardSaid : Prop := Claim7.holds Tryd.pinned (.plain (OpenSpec.ofChange wotsEndsSpec)) wotsEndsCard

/-- THE TIED CARD OF 'aumbrylaw08.WotsSigns'. -/
def wotsSignsCard : Claim7 := { stood := { row := wotsSignsRow, standIns := [], harness := (true, "7b36c580f1a55a13f1ebb49bdd07831cac8456267613a48f80be7cf378c38b71"), looks := false }, kinds := [], alts := [], laidByText := true, laidKinds := [.data, .data, .data], laidTests := true, laidLooks := .later }
def WotsSignsCardSaid : Prop := Claim7.holds Tryd.pinned (.plain (OpenSpec.ofChange wotsSignsSpec)) wotsSignsCard

/-- THE TIED CARD OF 'aumbrylaw08.WotsRecovers'. -/
def wotsRecoversCard : Claim7 := { stood := { row := wotsRecoversRow, standIns := [], harness := (true, "7b36c580f1a55a13f1ebb49bdd07831cac8456267613a48f80be7cf378c38b71"), looks := false }, kinds := [], alts := [], laidByText := true, laidKinds := [.data, .data, .data], laidTests := true, laidLooks := .later }
def WotsRecoversCardSaid : Prop := Claim7.holds Tryd.pinned (.plain (OpenSpec.ofChange wotsRecoversSpec)) wotsRecoversCard

/-- THE TIED CARD OF 'aumbrylaw08.WotsBack'. -/
def wotsBackCard : Claim7 := { stood := { row := wotsBackRow, standIns := [], harness := (true, "7b36c580f1a55a13f1ebb49bdd07831cac8456267613a48f80be7cf378c38b71"), looks := false }, kinds := [], alts := [], laidByText := true, laidKinds := [.data, .data, .data], laidTests := true, laidLooks := .later }
def WotsBackCardSaid : Prop := Claim7.holds Tryd.pinned (.plain (OpenSpec.ofChange wotsBackSpec)) wotsBackCard

/-- THE SECOND FORM's CARD OF 'aumbrylaw08.WotsDigits'. -/
def wotsDigitsUptoCard : Claim7 := { stood := { row := wotsDigitsUptoRow, standIns := [], harness := (true, "7b36c580f1a55a13f1ebb49bdd07831cac8456267613a48f80be7cf378c38b71"), looks := false }, kinds := [], alts := [], laidByText := true, laidKinds := [.data, .data, .data], laidTests := true, laidLooks := .later }
def WotsDigitsUptoCardSaid : Prop := Claim7.holds Tryd.pinned (.plain (OpenSpec.upto wotsDigitsSpec)) wotsDigitsUptoCard

/-- THE SECOND FORM's CARD OF 'aumbrylaw08.WotsAlong'. -/
def wotsAlongUptoCard : Claim7 := { stood := { row := wotsAlongUptoRow, standIns := [], harness := (true, "7b36c580f1a55a13f1ebb49bdd07831cac8456267613a48f80be7cf378c38b71"), looks := false }, kinds := [], alts := [], laidByText := true, laidKinds := [.data, .data, .data], laidTests := true, laidLooks := .later }
def WotsAlongUptoCardSaid : Prop := Claim7.holds Tryd.pinned (.plain (OpenSpec.upto wotsAlongSpec)) wotsAlongUptoCard

/-- THE SECOND FORM's CARD OF 'aumbrylaw08.WotsSteps'. -/
def wotsStepsUptoCard : Claim7 := { stood := { row := wotsStepsUptoRow, standIns := [], harness := (true, "7b36c580f1a55a13f1ebb49bdd07831cac8456267613a48f80be7cf378c38b71"), looks := false }, kinds := [], alts := [], laidByText := true, laidKinds := [.data, .data, .data], laidTests := true, laidLooks := .later }
def WotsStepsUptoCardSaid : Prop := Claim7.holds Tryd.pinned (.plain (OpenSpec.upto wotsStepsSpec)) wotsStepsUptoCard

/-- THE SECOND FORM's CARD OF 'aumbrylaw08.WotsEnds'. -/
def wotsEndsUptoCard : Claim7 := { stood := { row := wotsEndsUptoRow, standIns := [], harness := (true, "7b36c580f1a55a13f1ebb49bdd07831cac8456267613a48f80be7cf378c38b71"), looks := false }, kinds := [], alts := [], laidByText := true, laidKinds := [.data, .data, .data], laidTests := true, laidLooks := .later }
def WotsEndsUptoCardSaid : Prop := Claim7.holds Tryd.pinned (.plain (OpenSpec.upto wotsEndsSpec)) wotsEndsUptoCard

/-- THE SECOND FORM's CARD OF 'aumbrylaw08.WotsSigns'. -/
def wotsSignsUptoCard : Claim7 := { stood := { row := wotsSignsUptoRow, standIns := [], harness := (true, "7b36c580f1a55a13f1ebb49bdd07831cac8456267613a48f80be7cf378c38b71"), looks := false }, kinds := [], alts := [], laidByText := true, laidKinds := [.data, .data, .data], laidTests := true, laidLooks := .later }
def WotsSignsUptoCardSaid : Prop := Claim7.holds Tryd.pinned (.plain (OpenSpec.upto wotsSignsSpec)) wotsSignsUptoCard

/-- THE SECOND FORM's CARD OF 'aumbrylaw08.WotsRecovers'. -/
def wotsRecoversUptoCard : Claim7 := { stood := { row := wotsRecoversUptoRow, standIns := [], harness := (true, "7b36c580f1a55a13f1ebb49bdd07831cac8456267613a48f80be7cf378c38b71"), looks := false }, kinds := [], alts := [], laidByText := true, laidKinds := [.data, .data, .data], laidTests := true, laidLooks := .later }
def WotsRecoversUptoCardSaid : Prop := Claim7.holds Tryd.pinned (.plain (OpenSpec.upto wotsRecoversSpec)) wotsRecoversUptoCard

/-- THE SECOND FORM's CARD OF 'aumbrylaw08.WotsBack'. -/
def wotsBackUptoCard : Claim7 := { stood := { row := wotsBackUptoRow, standIns := [], harness := (true, "7b36c580f1a55a13f1ebb49bdd07831cac8456267613a48f80be7cf378c38b71"), looks := false }, kinds := [], alts := [], laidByText := true, laidKinds := [.data, .data, .data], laidTests := true, laidLooks := .later }
def WotsBackUptoCardSaid : Prop := Claim7.holds Tryd.pinned (.plain (OpenSpec.upto wotsBackSpec)) wotsBackUptoCard
end Rows
end Go.Proofs.YthfdnnjlnipikaaDoor
