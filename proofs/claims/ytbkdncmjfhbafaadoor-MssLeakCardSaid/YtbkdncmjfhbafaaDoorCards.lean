/-
  DERIVED. GIVEN WITH THE SEED: THE CARDS: each row of YtbkdncmjfhbafaaDoorRows.lean that lists a variable, with what it lists TIED to the program's text (the seventh form; the later family's looks); each row that meets fmt, with fmt's text TOLD by the authors' own Lean function (tested against real Go, not proved from fmt's source: count such statements apart). THE CARD IS WHAT COUNTS. Prove the row's statement (the work); the ties are given (YtbkdncmjfhbafaaDoorTie.lean); close each card by the builder's one call (the guide's Derived/Test/ToyasCard.lean, 'card_holds'). Laid BY PROGRAM, IN A SANDBOX (cutbox-door.mjs). By AI agents, Wed Nov 11 2026. No macro, syntax, notation, axiom, sorry.
-/
import Derived.Test.YtbkdncmjfhbafaaDoorRows
import GoSem.ClaimSeven
namespace Go.Proofs.YtbkdncmjfhbafaaDoor
namespace Rows

/-- THE TIED CARD OF 'aumbrylaw09.MssHolds'. -/
def mssHoldsCard : Claim7 := { stood := { row := mssHoldsRow, standIns := [], harness := (true, "cfe643ef7711cae4b692059f29c0daffecb814673d29efcbec2d00dbdb816bd1"), looks := false }, kinds := [], alts := [], laidByText := true, laidKinds := [.data, .data, .data], laidTests := true, laidLooks := .later }
def MssHoldsCardSaid : Prop := Claim7.holds Tryd.pinned (.plain (OpenSpec.ofChange mssHoldsSpec)) mssHoldsCard

/-- THE TIED CARD OF 'aumbrylaw09.MssLeaves'. -/
def mssLeavesCard : Claim7 := { stood := { row := mssLeavesRow, standIns := [], harness := (true, "cfe643ef7711cae4b692059f29c0daffecb814673d29efcbec2d00dbdb816bd1"), looks := false }, kinds := [], alts := [], laidByText := true, laidKinds := [.data, .data, .data], laidTests := true, laidLooks := .later }
def MssLeavesCardSaid : Prop := Claim7.holds Tryd.pinned (.plain (OpenSpec.ofChange mssLeavesSpec)) mssLeavesCard

/-- THE TIED CARD OF 'aumbrylaw09.MssSigns'. -/
def mssSignsCard : Claim7 := { stood := { row := mssSignsRow, standIns := [], harness := (true, "cfe643ef7711cae4b692059f29c0daffecb814673d29efcbec2d00dbdb816bd1"), looks := false }, kinds := [], alts := [], laidByText := true, laidKinds := [.data, .data, .data], laidTests := true, laidLooks := .later }
def MssSignsCardSaid : Prop := Claim7.holds Tryd.pinned (.plain (OpenSpec.ofChange mssSignsSpec)) mssSignsCard

/-- THE TIED CARD OF 'aumbrylaw09.MssVerifies'. -/
def mssVerifiesCard : Claim7 := { stood := { row := mssVerifiesRow, standIns := [], harness := (true, "cfe643ef7711cae4b692059f29c0daffecb814673d29efcbec2d00dbdb816bd1"), looks := false }, kinds := [], alts := [], laidByText := true, laidKinds := [.data, .data, .data], laidTests := true, laidLooks := .later }
def MssVerifiesCardSaid : Prop := Claim7.holds Tryd.pinned (.plain (OpenSpec.ofChange mssVerifiesSpec)) mssVerifiesCard

/-- THE TIED CARD OF 'aumbrylaw09.MssLeak'. -/
def mssLeakCard : Claim7 := { stood := { row := mssLeakRow, standIns := [], harness := (true, "cfe643ef7711cae4b692059f29c0daffecb814673d29efcbec2d00dbdb816bd1"), looks := false }, kinds := [], alts := [], laidByText := true, laidKinds := [.data, .data, .data], laidTests := true, laidLooks := .later }
def MssLeakCardSaid : Prop := Claim7.holds Tryd.pinned (.plain (OpenSpec.ofChange mssLeakSpec)) mssLeakCard

/-- THE TIED CARD OF 'aumbrylaw09.MssPacks'. -/
def mssPacksCard : Claim7 := { stood := { row := mssPacksRow, standIns := [], harness := (true, "cfe643ef7711cae4b692059f29c0daffecb814673d29efcbec2d00dbdb816bd1"), looks := false }, kinds := [], alts := [], laidByText := true, laidKinds := [.data, .data, .data], laidTests := true, laidLooks := .later }
def MssPacksCardSaid : Prop := Claim7.holds Tryd.pinned (.plain (OpenSpec.ofChange mssPacksSpec)) mssPacksCard

/-- THE TIED CARD OF 'aumbrylaw09.MssRaw'. -/
def mssRawCard : Claim7 := { stood := { row := mssRawRow, standIns := [], harness := (true, "cfe643ef7711cae4b692059f29c0daffecb814673d29efcbec2d00dbdb816bd1"), looks := false }, kinds := [], alts := [], laidByText := true, laidKinds := [.data, .data, .data], laidTests := true, laidLooks := .later }
def MssRawCardSaid : Prop := Claim7.holds Tryd.pinned (.plain (OpenSpec.ofChange mssRawSpec)) mssRawCard

/-- THE TIED CARD OF 'aumbrylaw09.MssTrue'. -/
def mssTrueCard : Claim7 := { stood := { row := mssTrueRow, standIns := [], harness := (true, "cfe643ef7711cae4b692059f29c0daffecb814673d29efcbec2d00dbdb816bd1"), looks := false }, kinds := [], alts := [], laidByText := true, laidKinds := [.data, .data, .data], laidTests := true, laidLooks := .later }
def MssTrueCardSaid : Prop := Claim7.holds Tryd.pinned (.plain (OpenSpec.ofChange mssTrueSpec)) mssTrueCard

/-- THE SECOND FORM's CARD OF 'aumbrylaw09.MssHolds'. -/
def mssHoldsUptoCard : Claim7 := { stood := { row := mssHoldsUptoRow, standIns := [], harness := (true, "cfe643ef7711cae4b692059f29c0daffecb814673d29efcbec2d00dbdb816bd1"), looks := false }, kinds := [], alts := [], laidByText := true, laidKinds := [.data, .data, .data], laidTests := true, laidLooks := .later }
def MssHoldsUptoCardSaid : Prop := Claim7.holds Tryd.pinned (.plain (OpenSpec.upto mssHoldsSpec)) mssHoldsUptoCard

/-- THE SECOND FORM's CARD OF 'aumbrylaw09.MssLeaves'. -/
def mssLeavesUptoCard : Claim7 := { stood := { row := mssLeavesUptoRow, standIns := [], harness := (true, "cfe643ef7711cae4b692059f29c0daffecb814673d29efcbec2d00dbdb816bd1"), looks := false }, kinds := [], alts := [], laidByText := true, laidKinds := [.data, .data, .data], laidTests := true, laidLooks := .later }
def MssLeavesUptoCardSaid : Prop := Claim7.holds Tryd.pinned (.plain (OpenSpec.upto mssLeavesSpec)) mssLeavesUptoCard

/-- THE SECOND FORM's CARD OF 'aumbrylaw09.MssSigns'. -/
def mssSignsUptoCard : Claim7 := { stood := { row := mssSignsUptoRow, standIns := [], harness := (true, "cfe643ef7711cae4b692059f29c0daffecb814673d29efcbec2d00dbdb816bd1"), looks := false }, kinds := [], alts := [], laidByText := true, laidKinds := [.data, .data, .data], laidTests := true, laidLooks := .later }
def MssSignsUptoCardSaid : Prop := Claim7.holds Tryd.pinned (.plain (OpenSpec.upto mssSignsSpec)) mssSignsUptoCard

/-- THE SECOND FORM's CARD OF 'aumbrylaw09.MssVerifies'. -/
def mssVerifiesUptoCard : Claim7 := { stood := { row := mssVerifiesUptoRow, standIns := [], harness := (true, "cfe643ef7711cae4b692059f29c0daffecb814673d29efcbec2d00dbdb816bd1"), looks := false }, kinds := [], alts := [], laidByText := true, laidKinds := [.data, .data, .data], laidTests := true, laidLooks := .later }
def MssVerifiesUptoCardSaid : Prop := Claim7.holds Tryd.pinned (.plain (OpenSpec.upto mssVerifiesSpec)) mssVerifiesUptoCard

/-- THE SECOND FORM's CARD OF 'aumbrylaw09.MssLeak'. -/
def mssLeakUptoCard : Claim7 := { stood := { row := mssLeakUptoRow, standIns := [], harness := (true, "cfe643ef7711cae4b692059f29c0daffecb814673d29efcbec2d00dbdb816bd1"), looks := false }, kinds := [], alts := [], laidByText := true, laidKinds := [.data, .data, .data], laidTests := true, laidLooks := .later }
def MssLeakUptoCardSaid : Prop := Claim7.holds Tryd.pinned (.plain (OpenSpec.upto mssLeakSpec)) mssLeakUptoCard

/-- THE SECOND FORM's CARD OF 'aumbrylaw09.MssPacks'. -/
def mssPacksUptoCard : Claim7 := { stood := { row := mssPacksUptoRow, standIns := [], harness := (true, "cfe643ef7711cae4b692059f29c0daffecb814673d29efcbec2d00dbdb816bd1"), looks := false }, kinds := [], alts := [], laidByText := true, laidKinds := [.data, .data, .data], laidTests := true, laidLooks := .later }
def MssPacksUptoCardSaid : Prop := Claim7.holds Tryd.pinned (.plain (OpenSpec.upto mssPacksSpec)) mssPacksUptoCard

/-- THE SECOND FORM's CARD OF 'aumbrylaw09.MssRaw'. -/
def mssRawUptoCard : Claim7 := { stood := { row := mssRawUptoRow, standIns := [], harness := (true, "cfe643ef7711cae4b692059f29c0daffecb814673d29efcbec2d00dbdb816bd1"), looks := false }, kinds := [], alts := [], laidByText := true, laidKinds := [.data, .data, .data], laidTests := true, laidLooks := .later }
def MssRawUptoCardSaid : Prop := Claim7.holds Tryd.pinned (.plain (OpenSpec.upto mssRawSpec)) mssRawUptoCard

/-- THE SECOND FORM's CARD OF 'aumbrylaw09.MssTrue'. -/
def mssTrueUptoCard : Claim7 := { stood := { row := mssTrueUptoRow, standIns := [], harness := (true, "cfe643ef7711cae4b692059f29c0daffecb814673d29efcbec2d00dbdb816bd1"), looks := false }, kinds := [], alts := [], laidByText := true, laidKinds := [.data, .data, .data], laidTests := true, laidLooks := .later }
def MssTrueUptoCardSaid : Prop := Claim7.holds Tryd.pinned (.plain (OpenSpec.upto mssTrueSpec)) mssTrueUptoCard
end Rows
end Go.Proofs.YtbkdncmjfhbafaaDoor
