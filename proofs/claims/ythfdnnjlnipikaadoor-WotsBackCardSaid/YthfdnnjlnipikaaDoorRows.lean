/-
  NARROWER THAN 'FOR EVERY INPUT', by the rows' own cells (each row's printed sentence says how): WotsDigits: laid · WotsAlong: laid · WotsSteps: laid · WotsEnds: laid · WotsSigns: laid · WotsRecovers: laid · WotsBack: laid.
  DERIVED. THE GIVEN ROWS OF THIS SEAT. 7 by the template 'for every input the law returns true; each argument reads behind the call as it read before'; 0 by the template 'total and deterministic' (their statements: YthfdnnjlnipikaaDoorTotals.lean).
  GIVEN WITH THE SEED: the statements are not yours to turn. If you find one false, say at which input.
  Laid BY PROGRAM, IN A SANDBOX (cutbox-rows.mjs): the forced cells as the released guide's own fill.sh prints them over the translation d5dcd0557559cb93… (all of the seat's roots in one cut). By AI agents, Wed Nov 11 2026. No macro, syntax, notation, axiom, sorry.
-/
import Derived.Test.YthfdnnjlnipikaaDoorChecked
import GoSem.Claim
import GoSem.ClaimJoined
import GoSem.ClaimMapViews
import Derived.JoinedTies
import Derived.KernelRfl
namespace Go.Proofs.YthfdnnjlnipikaaDoor
/- THE CELL 'sum', in the pinned program and in every row, IS THE sha256 OF THE DUMP (.gsa) THAT YthfdnnjlnipikaaDoorProg.lean LOADS. Nothing in Lean hashes anything: it is a label: what it is worth is what the hold of that sum in a sandbox is worth. -/
noncomputable def Tryd.pinned : Pinned := { name := "ythfdnnjlnipikaadoor", sum := "d5dcd0557559cb938fa413191685d912f3df72e4f67ee3728a9f0bf73f4e955c", checked := Tryd.checked }
namespace Rows
def none {H : Type} : Left H := { results := [], args := [] }

/- WHAT THE LISTED PACKAGE-LEVEL VARIABLES READ AS WHEN THE CALL BEGINS. Each datum BY PROGRAM (the guide's laid-datum.mjs) off the statement by which the dump's own 'gosem.cut.vars' lays the variable. In a bare row this is a premise. The card (YthfdnnjlnipikaaDoorCards.lean) ties it to the program's text. -/
def laid_math_bits_deBruijn32tab {H : Type} : DataW H := .agg [.lit (.int .u8 0), .lit (.int .u8 1), .lit (.int .u8 28), .lit (.int .u8 2), .lit (.int .u8 29), .lit (.int .u8 14), .lit (.int .u8 24), .lit (.int .u8 3), .lit (.int .u8 30), .lit (.int .u8 22), .lit (.int .u8 20), .lit (.int .u8 15), .lit (.int .u8 25), .lit (.int .u8 17), .lit (.int .u8 4), .lit (.int .u8 8), .lit (.int .u8 31), .lit (.int .u8 27), .lit (.int .u8 13), .lit (.int .u8 23), .lit (.int .u8 21), .lit (.int .u8 19), .lit (.int .u8 16), .lit (.int .u8 7), .lit (.int .u8 26), .lit (.int .u8 12), .lit (.int .u8 18), .lit (.int .u8 6), .lit (.int .u8 11), .lit (.int .u8 5), .lit (.int .u8 10), .lit (.int .u8 9)]
def laid_math_bits_deBruijn64tab {H : Type} : DataW H := .agg [.lit (.int .u8 0), .lit (.int .u8 1), .lit (.int .u8 56), .lit (.int .u8 2), .lit (.int .u8 57), .lit (.int .u8 49), .lit (.int .u8 28), .lit (.int .u8 3), .lit (.int .u8 61), .lit (.int .u8 58), .lit (.int .u8 42), .lit (.int .u8 50), .lit (.int .u8 38), .lit (.int .u8 29), .lit (.int .u8 17), .lit (.int .u8 4), .lit (.int .u8 62), .lit (.int .u8 47), .lit (.int .u8 59), .lit (.int .u8 36), .lit (.int .u8 45), .lit (.int .u8 43), .lit (.int .u8 51), .lit (.int .u8 22), .lit (.int .u8 53), .lit (.int .u8 39), .lit (.int .u8 33), .lit (.int .u8 30), .lit (.int .u8 24), .lit (.int .u8 18), .lit (.int .u8 12), .lit (.int .u8 5), .lit (.int .u8 63), .lit (.int .u8 55), .lit (.int .u8 48), .lit (.int .u8 27), .lit (.int .u8 60), .lit (.int .u8 41), .lit (.int .u8 37), .lit (.int .u8 16), .lit (.int .u8 46), .lit (.int .u8 35), .lit (.int .u8 44), .lit (.int .u8 21), .lit (.int .u8 52), .lit (.int .u8 32), .lit (.int .u8 23), .lit (.int .u8 11), .lit (.int .u8 54), .lit (.int .u8 26), .lit (.int .u8 40), .lit (.int .u8 15), .lit (.int .u8 34), .lit (.int .u8 20), .lit (.int .u8 31), .lit (.int .u8 10), .lit (.int .u8 25), .lit (.int .u8 14), .lit (.int .u8 19), .lit (.int .u8 9), .lit (.int .u8 13), .lit (.int .u8 8), .lit (.int .u8 7), .lit (.int .u8 6)]
def laid_internal_strconv_uint64pow10 {H : Type} : DataW H := .agg [.lit (.int .u64 1), .lit (.int .u64 10), .lit (.int .u64 100), .lit (.int .u64 1000), .lit (.int .u64 10000), .lit (.int .u64 100000), .lit (.int .u64 1000000), .lit (.int .u64 10000000), .lit (.int .u64 100000000), .lit (.int .u64 1000000000), .lit (.int .u64 10000000000), .lit (.int .u64 100000000000), .lit (.int .u64 1000000000000), .lit (.int .u64 10000000000000), .lit (.int .u64 100000000000000), .lit (.int .u64 1000000000000000), .lit (.int .u64 10000000000000000), .lit (.int .u64 100000000000000000), .lit (.int .u64 1000000000000000000), .lit (.int .u64 10000000000000000000)]

/-- 'aumbrylaw08.WotsDigits': WHATEVER THE INPUT: true; the input reads as it did. -/
def wotsDigitsSpec : ChangeSpec := { name := "wotsDigits", fn := fun _ => fun
  | [d] => { results := [.lit (.bool true)], args := [d] }
  | _ => none }
def wotsDigitsRow : OpenClaim := { program := "ythfdnnjlnipikaadoor", sum := "d5dcd0557559cb938fa413191685d912f3df72e4f67ee3728a9f0bf73f4e955c", func := "aumbry/aumbrylaw08.WotsDigits", spec := "wotsDigits", recurses := true, named := ["internal/strconv.uint64pow10", "math/bits.deBruijn32tab", "math/bits.deBruijn64tab"], apart := false, laid := [("math/bits.deBruijn32tab", laid_math_bits_deBruijn32tab), ("math/bits.deBruijn64tab", laid_math_bits_deBruijn64tab), ("internal/strconv.uint64pow10", laid_internal_strconv_uint64pow10)] }
def WotsDigitsSaid : Prop := wotsDigitsRow.holds Tryd.pinned (OpenSpec.ofChange wotsDigitsSpec)

/-- ITS FALSE NEIGHBOUR: 'it returns false'. Refute it at one input. -/
def wotsDigitsWrong : ChangeSpec := { name := "wotsDigits", fn := fun _ => fun
  | [d] => { results := [.lit (.bool false)], args := [d] }
  | _ => none }
def WotsDigitsWrongFalsely : Prop := wotsDigitsRow.holds Tryd.pinned (OpenSpec.ofChange wotsDigitsWrong)

/-- 'aumbrylaw08.WotsAlong': WHATEVER THE INPUT: true; the input reads as it did. -/
def wotsAlongSpec : ChangeSpec := { name := "wotsAlong", fn := fun _ => fun
  | [d1, d2, d3] => { results := [.lit (.bool true)], args := [d1, d2, d3] }
  | _ => none }
def wotsAlongRow : OpenClaim := { program := "ythfdnnjlnipikaadoor", sum := "d5dcd0557559cb938fa413191685d912f3df72e4f67ee3728a9f0bf73f4e955c", func := "aumbry/aumbrylaw08.WotsAlong", spec := "wotsAlong", named := ["internal/strconv.uint64pow10", "math/bits.deBruijn32tab", "math/bits.deBruijn64tab"], apart := false, laid := [("math/bits.deBruijn32tab", laid_math_bits_deBruijn32tab), ("math/bits.deBruijn64tab", laid_math_bits_deBruijn64tab), ("internal/strconv.uint64pow10", laid_internal_strconv_uint64pow10)] }
def WotsAlongSaid : Prop := wotsAlongRow.holds Tryd.pinned (OpenSpec.ofChange wotsAlongSpec)

/-- ITS FALSE NEIGHBOUR: 'it returns false'. Refute it at one input. -/
def wotsAlongWrong : ChangeSpec := { name := "wotsAlong", fn := fun _ => fun
  | [d1, d2, d3] => { results := [.lit (.bool false)], args := [d1, d2, d3] }
  | _ => none }
def WotsAlongWrongFalsely : Prop := wotsAlongRow.holds Tryd.pinned (OpenSpec.ofChange wotsAlongWrong)

/-- 'aumbrylaw08.WotsSteps': WHATEVER THE INPUT: true; the input reads as it did. -/
def wotsStepsSpec : ChangeSpec := { name := "wotsSteps", fn := fun _ => fun
  | [d1, d2, d3, d4, d5] => { results := [.lit (.bool true)], args := [d1, d2, d3, d4, d5] }
  | _ => none }
def wotsStepsRow : OpenClaim := { program := "ythfdnnjlnipikaadoor", sum := "d5dcd0557559cb938fa413191685d912f3df72e4f67ee3728a9f0bf73f4e955c", func := "aumbry/aumbrylaw08.WotsSteps", spec := "wotsSteps", recurses := true, named := ["internal/strconv.uint64pow10", "math/bits.deBruijn32tab", "math/bits.deBruijn64tab"], apart := false, laid := [("math/bits.deBruijn32tab", laid_math_bits_deBruijn32tab), ("math/bits.deBruijn64tab", laid_math_bits_deBruijn64tab), ("internal/strconv.uint64pow10", laid_internal_strconv_uint64pow10)] }
def WotsStepsSaid : Prop := wotsStepsRow.holds Tryd.pinned (OpenSpec.ofChange wotsStepsSpec)

/-- ITS FALSE NEIGHBOUR: 'it returns false'. Refute it at one input. -/
def wotsStepsWrong : ChangeSpec := { name := "wotsSteps", fn := fun _ => fun
  | [d1, d2, d3, d4, d5] => { results := [.lit (.bool false)], args := [d1, d2, d3, d4, d5] }
  | _ => none }
def WotsStepsWrongFalsely : Prop := wotsStepsRow.holds Tryd.pinned (OpenSpec.ofChange wotsStepsWrong)

/-- 'aumbrylaw08.WotsEnds': WHATEVER THE INPUT: true; the input reads as it did. -/
def wotsEndsSpec : ChangeSpec := { name := "wotsEnds", fn := fun _ => fun
  | [d1, d2, d3, d4] => { results := [.lit (.bool true)], args := [d1, d2, d3, d4] }
  | _ => none }
def wotsEndsRow : OpenClaim := { program := "ythfdnnjlnipikaadoor", sum := "d5dcd0557559cb938fa413191685d912f3df72e4f67ee3728a9f0bf73f4e955c", func := "aumbry/aumbrylaw08.WotsEnds", spec := "wotsEnds", named := ["internal/strconv.uint64pow10", "math/bits.deBruijn32tab", "math/bits.deBruijn64tab"], apart := false, laid := [("math/bits.deBruijn32tab", laid_math_bits_deBruijn32tab), ("math/bits.deBruijn64tab", laid_math_bits_deBruijn64tab), ("internal/strconv.uint64pow10", laid_internal_strconv_uint64pow10)] }
def WotsEndsSaid : Prop := wotsEndsRow.holds Tryd.pinned (OpenSpec.ofChange wotsEndsSpec)

/-- ITS FALSE NEIGHBOUR: 'it returns false'. Refute it at one input. -/
def wotsEndsWrong : ChangeSpec := { name := "wotsEnds", fn := fun _ => fun
  | [d1, d2, d3, d4] => { results := [.lit (.bool false)], args := [d1, d2, d3, d4] }
  | _ => none }
def WotsEndsWrongFalsely : Prop := wotsEndsRow.holds Tryd.pinned (OpenSpec.ofChange wotsEndsWrong)

/-- 'aumbrylaw08.WotsSigns': WHATEVER THE INPUT: true; the input reads as it did. -/
def wotsSignsSpec : ChangeSpec := { name := "wotsSigns", fn := fun _ => fun
  | [d1, d2, d3] => { results := [.lit (.bool true)], args := [d1, d2, d3] }
  | _ => none }
def wotsSignsRow : OpenClaim := { program := "ythfdnnjlnipikaadoor", sum := "d5dcd0557559cb938fa413191685d912f3df72e4f67ee3728a9f0bf73f4e955c", func := "aumbry/aumbrylaw08.WotsSigns", spec := "wotsSigns", recurses := true, named := ["internal/strconv.uint64pow10", "math/bits.deBruijn32tab", "math/bits.deBruijn64tab"], apart := false, laid := [("math/bits.deBruijn32tab", laid_math_bits_deBruijn32tab), ("math/bits.deBruijn64tab", laid_math_bits_deBruijn64tab), ("internal/strconv.uint64pow10", laid_internal_strconv_uint64pow10)] }
def WotsSignsSaid : Prop := wotsSignsRow.holds Tryd.pinned (OpenSpec.ofChange wotsSignsSpec)

/-- ITS FALSE NEIGHBOUR: 'it returns false'. Refute it at one input. -/
def wotsSignsWrong : ChangeSpec := { name := "wotsSigns", fn := fun _ => fun
  | [d1, d2, d3] => { results := [.lit (.bool false)], args := [d1, d2, d3] }
  | _ => none }
def WotsSignsWrongFalsely : Prop := wotsSignsRow.holds Tryd.pinned (OpenSpec.ofChange wotsSignsWrong)

/-- 'aumbrylaw08.WotsRecovers': WHATEVER THE INPUT: true; the input reads as it did. -/
def wotsRecoversSpec : ChangeSpec := { name := "wotsRecovers", fn := fun _ => fun
  | [d1, d2, d3] => { results := [.lit (.bool true)], args := [d1, d2, d3] }
  | _ => none }
def wotsRecoversRow : OpenClaim := { program := "ythfdnnjlnipikaadoor", sum := "d5dcd0557559cb938fa413191685d912f3df72e4f67ee3728a9f0bf73f4e955c", func := "aumbry/aumbrylaw08.WotsRecovers", spec := "wotsRecovers", recurses := true, named := ["internal/strconv.uint64pow10", "math/bits.deBruijn32tab", "math/bits.deBruijn64tab"], apart := false, laid := [("math/bits.deBruijn32tab", laid_math_bits_deBruijn32tab), ("math/bits.deBruijn64tab", laid_math_bits_deBruijn64tab), ("internal/strconv.uint64pow10", laid_internal_strconv_uint64pow10)] }
def WotsRecoversSaid : Prop := wotsRecoversRow.holds Tryd.pinned (OpenSpec.ofChange wotsRecoversSpec)

/-- ITS FALSE NEIGHBOUR: 'it returns false'. Refute it at one input. -/
def wotsRecoversWrong : ChangeSpec := { name := "wotsRecovers", fn := fun _ => fun
  | [d1, d2, d3] => { results := [.lit (.bool false)], args := [d1, d2, d3] }
  | _ => none }
def WotsRecoversWrongFalsely : Prop := wotsRecoversRow.holds Tryd.pinned (OpenSpec.ofChange wotsRecoversWrong)

/-- 'aumbrylaw08.WotsBack': WHATEVER THE INPUT: true; the input reads as it did. -/
def wotsBackSpec : ChangeSpec := { name := "wotsBack", fn := fun _ => fun
  | [d1, d2, d3, d4] => { results := [.lit (.bool true)], args := [d1, d2, d3, d4] }
  | _ => none }
def wotsBackRow : OpenClaim := { program := "ythfdnnjlnipikaadoor", sum := "d5dcd0557559cb938fa413191685d912f3df72e4f67ee3728a9f0bf73f4e955c", func := "aumbry/aumbrylaw08.WotsBack", spec := "wotsBack", named := ["internal/strconv.uint64pow10", "math/bits.deBruijn32tab", "math/bits.deBruijn64tab"], apart := false, laid := [("math/bits.deBruijn32tab", laid_math_bits_deBruijn32tab), ("math/bits.deBruijn64tab", laid_math_bits_deBruijn64tab), ("internal/strconv.uint64pow10", laid_internal_strconv_uint64pow10)] }
def WotsBackSaid : Prop := wotsBackRow.holds Tryd.pinned (OpenSpec.ofChange wotsBackSpec)

/-- ITS FALSE NEIGHBOUR: 'it returns false'. Refute it at one input. -/
def wotsBackWrong : ChangeSpec := { name := "wotsBack", fn := fun _ => fun
  | [d1, d2, d3, d4] => { results := [.lit (.bool false)], args := [d1, d2, d3, d4] }
  | _ => none }
def WotsBackWrongFalsely : Prop := wotsBackRow.holds Tryd.pinned (OpenSpec.ofChange wotsBackWrong)

/- THE SECOND FORM. 'bulk': how many values and letters a reading holds, each counted each time it is reached (what is shared counts as often as it is met; a slice's spare places count too). A statement '..UptoSaid' is the law's where the arguments, and the package variables that the reading takes, are together of bulk at most 1048576: NARROWER than '..Said'. Prove '..Said' where nothing that the law and all that it calls make is longer than what came in: it says more and counts as full. Else prove '..UptoSaid'. A law counts once. -/
mutual
def uptoBulk {H : Type} : DataW H → Nat
  | .lit (.string bytes) => bytes.length + 1
  | .lit _ => 1
  | .nil => 1
  | .ptr d => uptoBulk d + 1
  | .slice elems spare => uptoBulkAll elems + uptoBulkAll spare + 1
  | .agg parts => uptoBulkAll parts + 1
  | .iface _ d => uptoBulk d + 1
  | .map entries => uptoBulkEntries entries + 1
  | .held _ => 1
def uptoBulkAll {H : Type} : List (DataW H) → Nat
  | [] => 0
  | d :: r => uptoBulk d + uptoBulkAll r
def uptoBulkEntries {H : Type} : List (Lit × DataW H) → Nat
  | [] => 0
  | x :: r => uptoBulkEntry x + uptoBulkEntries r
def uptoBulkEntry {H : Type} : Lit × DataW H → Nat
  | (.string bytes, d) => bytes.length + uptoBulk d + 1
  | (_, d) => uptoBulk d + 1
 end
def uptoSmall : (H : Type) → List (DataW H) → Bool := fun _ ds => decide (uptoBulkAll ds ≤ 1048576)
def OpenSpec.upto (s : _root_.Go.ChangeSpec) : _root_.Go.OpenSpec := { _root_.Go.OpenSpec.ofChange s with cond := some uptoSmall }

/-- 'aumbrylaw08.WotsDigits', WHERE WHAT IT READS IS OF BULK AT MOST 1048576: true; the input reads as it did. -/
def wotsDigitsUptoRow : OpenClaim := { program := "ythfdnnjlnipikaadoor", sum := "d5dcd0557559cb938fa413191685d912f3df72e4f67ee3728a9f0bf73f4e955c", func := "aumbry/aumbrylaw08.WotsDigits", spec := "wotsDigits", recurses := true, named := ["internal/strconv.uint64pow10", "math/bits.deBruijn32tab", "math/bits.deBruijn64tab"], apart := false, laid := [("math/bits.deBruijn32tab", laid_math_bits_deBruijn32tab), ("math/bits.deBruijn64tab", laid_math_bits_deBruijn64tab), ("internal/strconv.uint64pow10", laid_internal_strconv_uint64pow10)], narrowed := true }
def WotsDigitsUptoSaid : Prop := wotsDigitsUptoRow.holds Tryd.pinned (OpenSpec.upto wotsDigitsSpec)

/-- 'aumbrylaw08.WotsAlong', WHERE WHAT IT READS IS OF BULK AT MOST 1048576: true; the input reads as it did. -/
def wotsAlongUptoRow : OpenClaim := { program := "ythfdnnjlnipikaadoor", sum := "d5dcd0557559cb938fa413191685d912f3df72e4f67ee3728a9f0bf73f4e955c", func := "aumbry/aumbrylaw08.WotsAlong", spec := "wotsAlong", named := ["internal/strconv.uint64pow10", "math/bits.deBruijn32tab", "math/bits.deBruijn64tab"], apart := false, laid := [("math/bits.deBruijn32tab", laid_math_bits_deBruijn32tab), ("math/bits.deBruijn64tab", laid_math_bits_deBruijn64tab), ("internal/strconv.uint64pow10", laid_internal_strconv_uint64pow10)], narrowed := true }
def WotsAlongUptoSaid : Prop := wotsAlongUptoRow.holds Tryd.pinned (OpenSpec.upto wotsAlongSpec)

/-- 'aumbrylaw08.WotsSteps', WHERE WHAT IT READS IS OF BULK AT MOST 1048576: true; the input reads as it did. -/
def wotsStepsUptoRow : OpenClaim := { program := "ythfdnnjlnipikaadoor", sum := "d5dcd0557559cb938fa413191685d912f3df72e4f67ee3728a9f0bf73f4e955c", func := "aumbry/aumbrylaw08.WotsSteps", spec := "wotsSteps", recurses := true, named := ["internal/strconv.uint64pow10", "math/bits.deBruijn32tab", "math/bits.deBruijn64tab"], apart := false, laid := [("math/bits.deBruijn32tab", laid_math_bits_deBruijn32tab), ("math/bits.deBruijn64tab", laid_math_bits_deBruijn64tab), ("internal/strconv.uint64pow10", laid_internal_strconv_uint64pow10)], narrowed := true }
def WotsStepsUptoSaid : Prop := wotsStepsUptoRow.holds Tryd.pinned (OpenSpec.upto wotsStepsSpec)

/-- 'aumbrylaw08.WotsEnds', WHERE WHAT IT READS IS OF BULK AT MOST 1048576: true; the input reads as it did. -/
def wotsEndsUptoRow : OpenClaim := { program := "ythfdnnjlnipikaadoor", sum := "d5dcd0557559cb938fa413191685d912f3df72e4f67ee3728a9f0bf73f4e955c", func := "aumbry/aumbrylaw08.WotsEnds", spec := "wotsEnds", named := ["internal/strconv.uint64pow10", "math/bits.deBruijn32tab", "math/bits.deBruijn64tab"], apart := false, laid := [("math/bits.deBruijn32tab", laid_math_bits_deBruijn32tab), ("math/bits.deBruijn64tab", laid_math_bits_deBruijn64tab), ("internal/strconv.uint64pow10", laid_internal_strconv_uint64pow10)], narrowed := true }
def WotsEndsUptoSaid : Prop := wotsEndsUptoRow.holds Tryd.pinned (OpenSpec.upto wotsEndsSpec)

/-- 'aumbrylaw08.WotsSigns', WHERE WHAT IT READS IS OF BULK AT MOST 1048576: true; the input reads as it did. -/
def wotsSignsUptoRow : OpenClaim := { program := "ythfdnnjlnipikaadoor", sum := "d5dcd0557559cb938fa413191685d912f3df72e4f67ee3728a9f0bf73f4e955c", func := "aumbry/aumbrylaw08.WotsSigns", spec := "wotsSigns", recurses := true, named := ["internal/strconv.uint64pow10", "math/bits.deBruijn32tab", "math/bits.deBruijn64tab"], apart := false, laid := [("math/bits.deBruijn32tab", laid_math_bits_deBruijn32tab), ("math/bits.deBruijn64tab", laid_math_bits_deBruijn64tab), ("internal/strconv.uint64pow10", laid_internal_strconv_uint64pow10)], narrowed := true }
def WotsSignsUptoSaid : Prop := wotsSignsUptoRow.holds Tryd.pinned (OpenSpec.upto wotsSignsSpec)

/-- 'aumbrylaw08.WotsRecovers', WHERE WHAT IT READS IS OF BULK AT MOST 1048576: true; the input reads as it did. -/
def wotsRecoversUptoRow : OpenClaim := { program := "ythfdnnjlnipikaadoor", sum := "d5dcd0557559cb938fa413191685d912f3df72e4f67ee3728a9f0bf73f4e955c", func := "aumbry/aumbrylaw08.WotsRecovers", spec := "wotsRecovers", recurses := true, named := ["internal/strconv.uint64pow10", "math/bits.deBruijn32tab", "math/bits.deBruijn64tab"], apart := false, laid := [("math/bits.deBruijn32tab", laid_math_bits_deBruijn32tab), ("math/bits.deBruijn64tab", laid_math_bits_deBruijn64tab), ("internal/strconv.uint64pow10", laid_internal_strconv_uint64pow10)], narrowed := true }
def WotsRecoversUptoSaid : Prop := wotsRecoversUptoRow.holds Tryd.pinned (OpenSpec.upto wotsRecoversSpec)

/-- 'aumbrylaw08.WotsBack', WHERE WHAT IT READS IS OF BULK AT MOST 1048576: true; the input reads as it did. -/
def wotsBackUptoRow : OpenClaim := { program := "ythfdnnjlnipikaadoor", sum := "d5dcd0557559cb938fa413191685d912f3df72e4f67ee3728a9f0bf73f4e955c", func := "aumbry/aumbrylaw08.WotsBack", spec := "wotsBack", named := ["internal/strconv.uint64pow10", "math/bits.deBruijn32tab", "math/bits.deBruijn64tab"], apart := false, laid := [("math/bits.deBruijn32tab", laid_math_bits_deBruijn32tab), ("math/bits.deBruijn64tab", laid_math_bits_deBruijn64tab), ("internal/strconv.uint64pow10", laid_internal_strconv_uint64pow10)], narrowed := true }
def WotsBackUptoSaid : Prop := wotsBackUptoRow.holds Tryd.pinned (OpenSpec.upto wotsBackSpec)

end Rows
end Go.Proofs.YthfdnnjlnipikaaDoor
