/-
  No cell of these rows narrows 'for every input' (looked for: loops, veiled, ifaces, maps, wideKeys, modest, calm, conditions, laid).
  DERIVED. THE GIVEN ROWS OF THIS SEAT. 5 by the template 'for every input the law returns true; each argument reads behind the call as it read before'; 0 by the template 'total and deterministic' (their statements: YtikgpfhjhfpmbaaTotals.lean).
  GIVEN WITH THE SEED: the statements are not yours to turn. If you find one false, say at which input.
  Laid BY PROGRAM, IN A SANDBOX (cutbox-rows.mjs): the forced cells as the released guide's own fill.sh prints them over the translation 5da9b65d3301edec… (all of the seat's roots in one cut). By AI agents, Wed Nov 11 2026. No macro, syntax, notation, axiom, sorry.
-/
import Derived.Test.YtikgpfhjhfpmbaaChecked
import GoSem.Claim
import GoSem.ClaimJoined
import GoSem.ClaimMapViews
import Derived.JoinedTies
import Derived.KernelRfl
namespace Go.Proofs.Ytikgpfhjhfpmbaa
/- THE CELL 'sum', in the pinned program and in every row, IS THE sha256 OF THE DUMP (.gsa) THAT YtikgpfhjhfpmbaaProg.lean LOADS. Nothing in Lean hashes anything: it is a label: what it is worth is what the hold of that sum in a sandbox is worth. -/
noncomputable def Try.pinned : Pinned := { name := "ytikgpfhjhfpmbaa", sum := "5da9b65d3301edec9bae4a4135ca8c0f8d95c29c357ea8497bd6fc72991bde59", checked := Try.checked }
namespace Rows
def none {H : Type} : Left H := { results := [], args := [] }

/-- 'aumbrylaw02.ShaSplit': WHATEVER THE INPUT: true; the input reads as it did. -/
def shaSplitSpec : ChangeSpec := { name := "shaSplit", fn := fun _ => fun
  | [d1, d2] => { results := [.lit (.bool true)], args := [d1, d2] }
  | _ => none }
def shaSplitRow : OpenClaim := { program := "ytikgpfhjhfpmbaa", sum := "5da9b65d3301edec9bae4a4135ca8c0f8d95c29c357ea8497bd6fc72991bde59", func := "aumbry/aumbrylaw02.ShaSplit", spec := "shaSplit", apart := false }
def ShaSplitSaid : Prop := shaSplitRow.holds Try.pinned (OpenSpec.ofChange shaSplitSpec)

/-- ITS FALSE NEIGHBOUR: 'it returns false'. Refute it at one input. -/
def shaSplitWrong : ChangeSpec := { name := "shaSplit", fn := fun _ => fun
  | [d1, d2] => { results := [.lit (.bool false)], args := [d1, d2] }
  | _ => none }
def ShaSplitWrongFalsely : Prop := shaSplitRow.holds Try.pinned (OpenSpec.ofChange shaSplitWrong)

/-- 'aumbrylaw02.ShaSums': WHATEVER THE INPUT: true; the input reads as it did. -/
def shaSumsSpec : ChangeSpec := { name := "shaSums", fn := fun _ => fun
  | [d] => { results := [.lit (.bool true)], args := [d] }
  | _ => none }
def shaSumsRow : OpenClaim := { program := "ytikgpfhjhfpmbaa", sum := "5da9b65d3301edec9bae4a4135ca8c0f8d95c29c357ea8497bd6fc72991bde59", func := "aumbry/aumbrylaw02.ShaSums", spec := "shaSums", apart := false }
def ShaSumsSaid : Prop := shaSumsRow.holds Try.pinned (OpenSpec.ofChange shaSumsSpec)

/-- ITS FALSE NEIGHBOUR: 'it returns false'. Refute it at one input. -/
def shaSumsWrong : ChangeSpec := { name := "shaSums", fn := fun _ => fun
  | [d] => { results := [.lit (.bool false)], args := [d] }
  | _ => none }
def ShaSumsWrongFalsely : Prop := shaSumsRow.holds Try.pinned (OpenSpec.ofChange shaSumsWrong)

/-- 'aumbrylaw02.ShaLengths': WHATEVER THE INPUT: true; the input reads as it did. -/
def shaLengthsSpec : ChangeSpec := { name := "shaLengths", fn := fun _ => fun
  | [d1, d2] => { results := [.lit (.bool true)], args := [d1, d2] }
  | _ => none }
def shaLengthsRow : OpenClaim := { program := "ytikgpfhjhfpmbaa", sum := "5da9b65d3301edec9bae4a4135ca8c0f8d95c29c357ea8497bd6fc72991bde59", func := "aumbry/aumbrylaw02.ShaLengths", spec := "shaLengths", apart := false }
def ShaLengthsSaid : Prop := shaLengthsRow.holds Try.pinned (OpenSpec.ofChange shaLengthsSpec)

/-- ITS FALSE NEIGHBOUR: 'it returns false'. Refute it at one input. -/
def shaLengthsWrong : ChangeSpec := { name := "shaLengths", fn := fun _ => fun
  | [d1, d2] => { results := [.lit (.bool false)], args := [d1, d2] }
  | _ => none }
def ShaLengthsWrongFalsely : Prop := shaLengthsRow.holds Try.pinned (OpenSpec.ofChange shaLengthsWrong)

/-- 'aumbrylaw02.ShaPieces': WHATEVER THE INPUT: true; the input reads as it did. -/
def shaPiecesSpec : ChangeSpec := { name := "shaPieces", fn := fun _ => fun
  | [d] => { results := [.lit (.bool true)], args := [d] }
  | _ => none }
def shaPiecesRow : OpenClaim := { program := "ytikgpfhjhfpmbaa", sum := "5da9b65d3301edec9bae4a4135ca8c0f8d95c29c357ea8497bd6fc72991bde59", func := "aumbry/aumbrylaw02.ShaPieces", spec := "shaPieces", apart := false }
def ShaPiecesSaid : Prop := shaPiecesRow.holds Try.pinned (OpenSpec.ofChange shaPiecesSpec)

/-- ITS FALSE NEIGHBOUR: 'it returns false'. Refute it at one input. -/
def shaPiecesWrong : ChangeSpec := { name := "shaPieces", fn := fun _ => fun
  | [d] => { results := [.lit (.bool false)], args := [d] }
  | _ => none }
def ShaPiecesWrongFalsely : Prop := shaPiecesRow.holds Try.pinned (OpenSpec.ofChange shaPiecesWrong)

/-- 'aumbrylaw02.ShaBreaks': WHATEVER THE INPUT: true; the input reads as it did. -/
def shaBreaksSpec : ChangeSpec := { name := "shaBreaks", fn := fun _ => fun
  | [d1, d2] => { results := [.lit (.bool true)], args := [d1, d2] }
  | _ => none }
def shaBreaksRow : OpenClaim := { program := "ytikgpfhjhfpmbaa", sum := "5da9b65d3301edec9bae4a4135ca8c0f8d95c29c357ea8497bd6fc72991bde59", func := "aumbry/aumbrylaw02.ShaBreaks", spec := "shaBreaks", apart := false }
def ShaBreaksSaid : Prop := shaBreaksRow.holds Try.pinned (OpenSpec.ofChange shaBreaksSpec)

/-- ITS FALSE NEIGHBOUR: 'it returns false'. Refute it at one input. -/
def shaBreaksWrong : ChangeSpec := { name := "shaBreaks", fn := fun _ => fun
  | [d1, d2] => { results := [.lit (.bool false)], args := [d1, d2] }
  | _ => none }
def ShaBreaksWrongFalsely : Prop := shaBreaksRow.holds Try.pinned (OpenSpec.ofChange shaBreaksWrong)

/- THE SECOND FORM. 'bulk': how many values and letters a reading holds, each counted each time it is reached (what is shared counts as often as it is met; a slice's spare places count too). A statement '..UptoSaid' is the law's where the arguments, and the package variables that the reading takes, are together of bulk at most 1048576: NARROWER than '..Said'. Prove '..Said' where nothing that the law and all that it calls make is longer than what came in: it says more and counts as full. Else prove '..UptoSaid'. A law counts once. -/
mutual
def uptoBulk {H : Type} : DataW H → Nat
  | .lit (.string bytes) => bytes.length + 1
  | .lit _ => 1
  | .nil => 1
  | .ptr d => uptoBulk d + 1
  | .slice elems spare => uptoBulkAll elems + uptoBulkAll spare + 1
  | .agg parts => uptoBulkAll parts + 1
  | .iface _ d => uptoBulk d + 1
  | .map entries => uptoBulkEntries entries + 1
  | .held _ => 1
def uptoBulkAll {H : Type} : List (DataW H) → Nat
  | [] => 0
  | d :: r => uptoBulk d + uptoBulkAll r
def uptoBulkEntries {H : Type} : List (Lit × DataW H) → Nat
  | [] => 0
  | x :: r => uptoBulkEntry x + uptoBulkEntries r
def uptoBulkEntry {H : Type} : Lit × DataW H → Nat
  | (.string bytes, d) => bytes.length + uptoBulk d + 1
  | (_, d) => uptoBulk d + 1
 end
def uptoSmall : (H : Type) → List (DataW H) → Bool := fun _ ds => decide (uptoBulkAll ds ≤ 1048576)
def OpenSpec.upto (s : _root_.Go.ChangeSpec) : _root_.Go.OpenSpec := { _root_.Go.OpenSpec.ofChange s with cond := some uptoSmall }

/-- 'aumbrylaw02.ShaSplit', WHERE WHAT IT READS IS OF BULK AT MOST 1048576: true; the input reads as it did. -/
def shaSplitUptoRow : OpenClaim := { program := "ytikgpfhjhfpmbaa", sum := "5da9b65d3301edec9bae4a4135ca8c0f8d95c29c357ea8497bd6fc72991bde59", func := "aumbry/aumbrylaw02.ShaSplit", spec := "shaSplit", apart := false, narrowed := true }
def ShaSplitUptoSaid : Prop := shaSplitUptoRow.holds Try.pinned (OpenSpec.upto shaSplitSpec)

/-- 'aumbrylaw02.ShaSums', WHERE WHAT IT READS IS OF BULK AT MOST 1048576: true; the input reads as it did. -/
def shaSumsUptoRow : OpenClaim := { program := "ytikgpfhjhfpmbaa", sum := "5da9b65d3301edec9bae4a4135ca8c0f8d95c29c357ea8497bd6fc72991bde59", func := "aumbry/aumbrylaw02.ShaSums", spec := "shaSums", apart := false, narrowed := true }
def ShaSumsUptoSaid : Prop := shaSumsUptoRow.holds Try.pinned (OpenSpec.upto shaSumsSpec)

/-- 'aumbrylaw02.ShaLengths', WHERE WHAT IT READS IS OF BULK AT MOST 1048576: true; the input reads as it did. -/
def shaLengthsUptoRow : OpenClaim := { program := "ytikgpfhjhfpmbaa", sum := "5da9b65d3301edec9bae4a4135ca8c0f8d95c29c357ea8497bd6fc72991bde59", func := "aumbry/aumbrylaw02.ShaLengths", spec := "shaLengths", apart := false, narrowed := true }
def ShaLengthsUptoSaid : Prop := shaLengthsUptoRow.holds Try.pinned (OpenSpec.upto shaLengthsSpec)

/-- 'aumbrylaw02.ShaPieces', WHERE WHAT IT READS IS OF BULK AT MOST 1048576: true; the input reads as it did. -/
def shaPiecesUptoRow : OpenClaim := { program := "ytikgpfhjhfpmbaa", sum := "5da9b65d3301edec9bae4a4135ca8c0f8d95c29c357ea8497bd6fc72991bde59", func := "aumbry/aumbrylaw02.ShaPieces", spec := "shaPieces", apart := false, narrowed := true }
def ShaPiecesUptoSaid : Prop := shaPiecesUptoRow.holds Try.pinned (OpenSpec.upto shaPiecesSpec)

/-- 'aumbrylaw02.ShaBreaks', WHERE WHAT IT READS IS OF BULK AT MOST 1048576: true; the input reads as it did. -/
def shaBreaksUptoRow : OpenClaim := { program := "ytikgpfhjhfpmbaa", sum := "5da9b65d3301edec9bae4a4135ca8c0f8d95c29c357ea8497bd6fc72991bde59", func := "aumbry/aumbrylaw02.ShaBreaks", spec := "shaBreaks", apart := false, narrowed := true }
def ShaBreaksUptoSaid : Prop := shaBreaksUptoRow.holds Try.pinned (OpenSpec.upto shaBreaksSpec)

end Rows
end Go.Proofs.Ytikgpfhjhfpmbaa
