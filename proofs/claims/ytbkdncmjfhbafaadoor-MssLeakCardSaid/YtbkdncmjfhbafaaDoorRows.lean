/-
  NARROWER THAN 'FOR EVERY INPUT', by the rows' own cells (each row's printed sentence says how): MssHolds: laid · MssLeaves: laid · MssSigns: laid · MssVerifies: laid · MssLeak: laid · MssPacks: laid · MssRaw: laid · MssTrue: laid.
  DERIVED. THE GIVEN ROWS OF THIS SEAT. 8 by the template 'for every input the law returns true; each argument reads behind the call as it read before'; 0 by the template 'total and deterministic' (their statements: YtbkdncmjfhbafaaDoorTotals.lean).
  GIVEN WITH THE SEED: the statements are not yours to turn. If you find one false, say at which input.
  Laid BY PROGRAM, IN A SANDBOX (cutbox-rows.mjs): the forced cells as the released guide's own fill.sh prints them over the translation 39e61ba17625c2c9… (all of the seat's roots in one cut). By AI agents, Wed Nov 11 2026. No macro, syntax, notation, axiom, sorry.
-/
import Derived.Test.YtbkdncmjfhbafaaDoorChecked
import GoSem.Claim
import GoSem.ClaimJoined
import GoSem.ClaimMapViews
import Derived.JoinedTies
import Derived.KernelRfl
namespace Go.Proofs.YtbkdncmjfhbafaaDoor
/- THE CELL 'sum', in the pinned program and in every row, IS THE sha256 OF THE DUMP (.gsa) THAT YtbkdncmjfhbafaaDoorProg.lean LOADS. Nothing in Lean hashes anything: it is a label: what it is worth is what the hold of that sum in a sandbox is worth. -/
noncomputable def Tryd.pinned : Pinned := { name := "ytbkdncmjfhbafaadoor", sum := "39e61ba17625c2c9e36b79a29b1298859c38d6a56ac80e05a9455fe09702e8f0", checked := Tryd.checked }
namespace Rows
def none {H : Type} : Left H := { results := [], args := [] }

/- WHAT THE LISTED PACKAGE-LEVEL VARIABLES READ AS WHEN THE CALL BEGINS. Each datum BY PROGRAM (the guide's laid-datum.mjs) off the statement by which the dump's own 'gosem.cut.vars' lays the variable. In a bare row this is a premise. The card (YtbkdncmjfhbafaaDoorCards.lean) ties it to the program's text. -/
def laid_math_bits_deBruijn32tab {H : Type} : DataW H := .agg [.lit (.int .u8 0), .lit (.int .u8 1), .lit (.int .u8 28), .lit (.int .u8 2), .lit (.int .u8 29), .lit (.int .u8 14), .lit (.int .u8 24), .lit (.int .u8 3), .lit (.int .u8 30), .lit (.int .u8 22), .lit (.int .u8 20), .lit (.int .u8 15), .lit (.int .u8 25), .lit (.int .u8 17), .lit (.int .u8 4), .lit (.int .u8 8), .lit (.int .u8 31), .lit (.int .u8 27), .lit (.int .u8 13), .lit (.int .u8 23), .lit (.int .u8 21), .lit (.int .u8 19), .lit (.int .u8 16), .lit (.int .u8 7), .lit (.int .u8 26), .lit (.int .u8 12), .lit (.int .u8 18), .lit (.int .u8 6), .lit (.int .u8 11), .lit (.int .u8 5), .lit (.int .u8 10), .lit (.int .u8 9)]
def laid_math_bits_deBruijn64tab {H : Type} : DataW H := .agg [.lit (.int .u8 0), .lit (.int .u8 1), .lit (.int .u8 56), .lit (.int .u8 2), .lit (.int .u8 57), .lit (.int .u8 49), .lit (.int .u8 28), .lit (.int .u8 3), .lit (.int .u8 61), .lit (.int .u8 58), .lit (.int .u8 42), .lit (.int .u8 50), .lit (.int .u8 38), .lit (.int .u8 29), .lit (.int .u8 17), .lit (.int .u8 4), .lit (.int .u8 62), .lit (.int .u8 47), .lit (.int .u8 59), .lit (.int .u8 36), .lit (.int .u8 45), .lit (.int .u8 43), .lit (.int .u8 51), .lit (.int .u8 22), .lit (.int .u8 53), .lit (.int .u8 39), .lit (.int .u8 33), .lit (.int .u8 30), .lit (.int .u8 24), .lit (.int .u8 18), .lit (.int .u8 12), .lit (.int .u8 5), .lit (.int .u8 63), .lit (.int .u8 55), .lit (.int .u8 48), .lit (.int .u8 27), .lit (.int .u8 60), .lit (.int .u8 41), .lit (.int .u8 37), .lit (.int .u8 16), .lit (.int .u8 46), .lit (.int .u8 35), .lit (.int .u8 44), .lit (.int .u8 21), .lit (.int .u8 52), .lit (.int .u8 32), .lit (.int .u8 23), .lit (.int .u8 11), .lit (.int .u8 54), .lit (.int .u8 26), .lit (.int .u8 40), .lit (.int .u8 15), .lit (.int .u8 34), .lit (.int .u8 20), .lit (.int .u8 31), .lit (.int .u8 10), .lit (.int .u8 25), .lit (.int .u8 14), .lit (.int .u8 19), .lit (.int .u8 9), .lit (.int .u8 13), .lit (.int .u8 8), .lit (.int .u8 7), .lit (.int .u8 6)]
def laid_internal_strconv_uint64pow10 {H : Type} : DataW H := .agg [.lit (.int .u64 1), .lit (.int .u64 10), .lit (.int .u64 100), .lit (.int .u64 1000), .lit (.int .u64 10000), .lit (.int .u64 100000), .lit (.int .u64 1000000), .lit (.int .u64 10000000), .lit (.int .u64 100000000), .lit (.int .u64 1000000000), .lit (.int .u64 10000000000), .lit (.int .u64 100000000000), .lit (.int .u64 1000000000000), .lit (.int .u64 10000000000000), .lit (.int .u64 100000000000000), .lit (.int .u64 1000000000000000), .lit (.int .u64 10000000000000000), .lit (.int .u64 100000000000000000), .lit (.int .u64 1000000000000000000), .lit (.int .u64 10000000000000000000)]

/-- 'aumbrylaw09.MssHolds': WHATEVER THE INPUT: true; the input reads as it did. -/
def mssHoldsSpec : ChangeSpec := { name := "mssHolds", fn := fun _ => fun
  | [d1, d2, d3, d4, d5, d6, d7, d8, d9, d10, d11] => { results := [.lit (.bool true)], args := [d1, d2, d3, d4, d5, d6, d7, d8, d9, d10, d11] }
  | _ => none }
def mssHoldsRow : OpenClaim := { program := "ytbkdncmjfhbafaadoor", sum := "39e61ba17625c2c9e36b79a29b1298859c38d6a56ac80e05a9455fe09702e8f0", func := "aumbry/aumbrylaw09.MssHolds", spec := "mssHolds", recurses := true, named := ["internal/strconv.uint64pow10", "math/bits.deBruijn32tab", "math/bits.deBruijn64tab"], apart := false, laid := [("math/bits.deBruijn32tab", laid_math_bits_deBruijn32tab), ("math/bits.deBruijn64tab", laid_math_bits_deBruijn64tab), ("internal/strconv.uint64pow10", laid_internal_strconv_uint64pow10)] }
def MssHoldsSaid : Prop := mssHoldsRow.holds Tryd.pinned (OpenSpec.ofChange mssHoldsSpec)

/-- ITS FALSE NEIGHBOUR: 'it returns false'. Refute it at one input. -/
def mssHoldsWrong : ChangeSpec := { name := "mssHolds", fn := fun _ => fun
  | [d1, d2, d3, d4, d5, d6, d7, d8, d9, d10, d11] => { results := [.lit (.bool false)], args := [d1, d2, d3, d4, d5, d6, d7, d8, d9, d10, d11] }
  | _ => none }
def MssHoldsWrongFalsely : Prop := mssHoldsRow.holds Tryd.pinned (OpenSpec.ofChange mssHoldsWrong)

/-- 'aumbrylaw09.MssLeaves': WHATEVER THE INPUT: true; the input reads as it did. -/
def mssLeavesSpec : ChangeSpec := { name := "mssLeaves", fn := fun _ => fun
  | [d1, d2] => { results := [.lit (.bool true)], args := [d1, d2] }
  | _ => none }
def mssLeavesRow : OpenClaim := { program := "ytbkdncmjfhbafaadoor", sum := "39e61ba17625c2c9e36b79a29b1298859c38d6a56ac80e05a9455fe09702e8f0", func := "aumbry/aumbrylaw09.MssLeaves", spec := "mssLeaves", recurses := true, named := ["internal/strconv.uint64pow10", "math/bits.deBruijn32tab", "math/bits.deBruijn64tab"], apart := false, laid := [("math/bits.deBruijn32tab", laid_math_bits_deBruijn32tab), ("math/bits.deBruijn64tab", laid_math_bits_deBruijn64tab), ("internal/strconv.uint64pow10", laid_internal_strconv_uint64pow10)] }
def MssLeavesSaid : Prop := mssLeavesRow.holds Tryd.pinned (OpenSpec.ofChange mssLeavesSpec)

/-- ITS FALSE NEIGHBOUR: 'it returns false'. Refute it at one input. -/
def mssLeavesWrong : ChangeSpec := { name := "mssLeaves", fn := fun _ => fun
  | [d1, d2] => { results := [.lit (.bool false)], args := [d1, d2] }
  | _ => none }
def MssLeavesWrongFalsely : Prop := mssLeavesRow.holds Tryd.pinned (OpenSpec.ofChange mssLeavesWrong)

/-- 'aumbrylaw09.MssSigns': WHATEVER THE INPUT: true; the input reads as it did. -/
def mssSignsSpec : ChangeSpec := { name := "mssSigns", fn := fun _ => fun
  | [d1, d2, d3, d4] => { results := [.lit (.bool true)], args := [d1, d2, d3, d4] }
  | _ => none }
def mssSignsRow : OpenClaim := { program := "ytbkdncmjfhbafaadoor", sum := "39e61ba17625c2c9e36b79a29b1298859c38d6a56ac80e05a9455fe09702e8f0", func := "aumbry/aumbrylaw09.MssSigns", spec := "mssSigns", recurses := true, named := ["internal/strconv.uint64pow10", "math/bits.deBruijn32tab", "math/bits.deBruijn64tab"], apart := false, laid := [("math/bits.deBruijn32tab", laid_math_bits_deBruijn32tab), ("math/bits.deBruijn64tab", laid_math_bits_deBruijn64tab), ("internal/strconv.uint64pow10", laid_internal_strconv_uint64pow10)] }
def MssSignsSaid : Prop := mssSignsRow.holds Tryd.pinned (OpenSpec.ofChange mssSignsSpec)

/-- ITS FALSE NEIGHBOUR: 'it returns false'. Refute it at one input. -/
def mssSignsWrong : ChangeSpec := { name := "mssSigns", fn := fun _ => fun
  | [d1, d2, d3, d4] => { results := [.lit (.bool false)], args := [d1, d2, d3, d4] }
  | _ => none }
def MssSignsWrongFalsely : Prop := mssSignsRow.holds Tryd.pinned (OpenSpec.ofChange mssSignsWrong)

/-- 'aumbrylaw09.MssVerifies': WHATEVER THE INPUT: true; the input reads as it did. -/
def mssVerifiesSpec : ChangeSpec := { name := "mssVerifies", fn := fun _ => fun
  | [d1, d2, d3, d4, d5, d6, d7] => { results := [.lit (.bool true)], args := [d1, d2, d3, d4, d5, d6, d7] }
  | _ => none }
def mssVerifiesRow : OpenClaim := { program := "ytbkdncmjfhbafaadoor", sum := "39e61ba17625c2c9e36b79a29b1298859c38d6a56ac80e05a9455fe09702e8f0", func := "aumbry/aumbrylaw09.MssVerifies", spec := "mssVerifies", recurses := true, named := ["internal/strconv.uint64pow10", "math/bits.deBruijn32tab", "math/bits.deBruijn64tab"], apart := false, laid := [("math/bits.deBruijn32tab", laid_math_bits_deBruijn32tab), ("math/bits.deBruijn64tab", laid_math_bits_deBruijn64tab), ("internal/strconv.uint64pow10", laid_internal_strconv_uint64pow10)] }
def MssVerifiesSaid : Prop := mssVerifiesRow.holds Tryd.pinned (OpenSpec.ofChange mssVerifiesSpec)

/-- ITS FALSE NEIGHBOUR: 'it returns false'. Refute it at one input. -/
def mssVerifiesWrong : ChangeSpec := { name := "mssVerifies", fn := fun _ => fun
  | [d1, d2, d3, d4, d5, d6, d7] => { results := [.lit (.bool false)], args := [d1, d2, d3, d4, d5, d6, d7] }
  | _ => none }
def MssVerifiesWrongFalsely : Prop := mssVerifiesRow.holds Tryd.pinned (OpenSpec.ofChange mssVerifiesWrong)

/-- 'aumbrylaw09.MssLeak': WHATEVER THE INPUT: true; the input reads as it did. -/
def mssLeakSpec : ChangeSpec := { name := "mssLeak", fn := fun _ => fun
  | [d1, d2, d3, d4, d5, d6] => { results := [.lit (.bool true)], args := [d1, d2, d3, d4, d5, d6] }
  | _ => none }
def mssLeakRow : OpenClaim := { program := "ytbkdncmjfhbafaadoor", sum := "39e61ba17625c2c9e36b79a29b1298859c38d6a56ac80e05a9455fe09702e8f0", func := "aumbry/aumbrylaw09.MssLeak", spec := "mssLeak", recurses := true, named := ["internal/strconv.uint64pow10", "math/bits.deBruijn32tab", "math/bits.deBruijn64tab"], apart := false, laid := [("math/bits.deBruijn32tab", laid_math_bits_deBruijn32tab), ("math/bits.deBruijn64tab", laid_math_bits_deBruijn64tab), ("internal/strconv.uint64pow10", laid_internal_strconv_uint64pow10)] }
def MssLeakSaid : Prop := mssLeakRow.holds Tryd.pinned (OpenSpec.ofChange mssLeakSpec)

/-- ITS FALSE NEIGHBOUR: 'it returns false'. Refute it at one input. -/
def mssLeakWrong : ChangeSpec := { name := "mssLeak", fn := fun _ => fun
  | [d1, d2, d3, d4, d5, d6] => { results := [.lit (.bool false)], args := [d1, d2, d3, d4, d5, d6] }
  | _ => none }
def MssLeakWrongFalsely : Prop := mssLeakRow.holds Tryd.pinned (OpenSpec.ofChange mssLeakWrong)

/-- 'aumbrylaw09.MssPacks': WHATEVER THE INPUT: true; the input reads as it did. -/
def mssPacksSpec : ChangeSpec := { name := "mssPacks", fn := fun _ => fun
  | [d1, d2, d3, d4] => { results := [.lit (.bool true)], args := [d1, d2, d3, d4] }
  | _ => none }
def mssPacksRow : OpenClaim := { program := "ytbkdncmjfhbafaadoor", sum := "39e61ba17625c2c9e36b79a29b1298859c38d6a56ac80e05a9455fe09702e8f0", func := "aumbry/aumbrylaw09.MssPacks", spec := "mssPacks", named := ["internal/strconv.uint64pow10", "math/bits.deBruijn32tab", "math/bits.deBruijn64tab"], apart := false, laid := [("math/bits.deBruijn32tab", laid_math_bits_deBruijn32tab), ("math/bits.deBruijn64tab", laid_math_bits_deBruijn64tab), ("internal/strconv.uint64pow10", laid_internal_strconv_uint64pow10)] }
def MssPacksSaid : Prop := mssPacksRow.holds Tryd.pinned (OpenSpec.ofChange mssPacksSpec)

/-- ITS FALSE NEIGHBOUR: 'it returns false'. Refute it at one input. -/
def mssPacksWrong : ChangeSpec := { name := "mssPacks", fn := fun _ => fun
  | [d1, d2, d3, d4] => { results := [.lit (.bool false)], args := [d1, d2, d3, d4] }
  | _ => none }
def MssPacksWrongFalsely : Prop := mssPacksRow.holds Tryd.pinned (OpenSpec.ofChange mssPacksWrong)

/-- 'aumbrylaw09.MssRaw': WHATEVER THE INPUT: true; the input reads as it did. -/
def mssRawSpec : ChangeSpec := { name := "mssRaw", fn := fun _ => fun
  | [d1, d2, d3, d4] => { results := [.lit (.bool true)], args := [d1, d2, d3, d4] }
  | _ => none }
def mssRawRow : OpenClaim := { program := "ytbkdncmjfhbafaadoor", sum := "39e61ba17625c2c9e36b79a29b1298859c38d6a56ac80e05a9455fe09702e8f0", func := "aumbry/aumbrylaw09.MssRaw", spec := "mssRaw", recurses := true, named := ["internal/strconv.uint64pow10", "math/bits.deBruijn32tab", "math/bits.deBruijn64tab"], apart := false, laid := [("math/bits.deBruijn32tab", laid_math_bits_deBruijn32tab), ("math/bits.deBruijn64tab", laid_math_bits_deBruijn64tab), ("internal/strconv.uint64pow10", laid_internal_strconv_uint64pow10)] }
def MssRawSaid : Prop := mssRawRow.holds Tryd.pinned (OpenSpec.ofChange mssRawSpec)

/-- ITS FALSE NEIGHBOUR: 'it returns false'. Refute it at one input. -/
def mssRawWrong : ChangeSpec := { name := "mssRaw", fn := fun _ => fun
  | [d1, d2, d3, d4] => { results := [.lit (.bool false)], args := [d1, d2, d3, d4] }
  | _ => none }
def MssRawWrongFalsely : Prop := mssRawRow.holds Tryd.pinned (OpenSpec.ofChange mssRawWrong)

/-- 'aumbrylaw09.MssTrue': WHATEVER THE INPUT: true; the input reads as it did. -/
def mssTrueSpec : ChangeSpec := { name := "mssTrue", fn := fun _ => fun
  | [d1, d2, d3, d4, d5] => { results := [.lit (.bool true)], args := [d1, d2, d3, d4, d5] }
  | _ => none }
def mssTrueRow : OpenClaim := { program := "ytbkdncmjfhbafaadoor", sum := "39e61ba17625c2c9e36b79a29b1298859c38d6a56ac80e05a9455fe09702e8f0", func := "aumbry/aumbrylaw09.MssTrue", spec := "mssTrue", named := ["internal/strconv.uint64pow10", "math/bits.deBruijn32tab", "math/bits.deBruijn64tab"], apart := false, laid := [("math/bits.deBruijn32tab", laid_math_bits_deBruijn32tab), ("math/bits.deBruijn64tab", laid_math_bits_deBruijn64tab), ("internal/strconv.uint64pow10", laid_internal_strconv_uint64pow10)] }
def MssTrueSaid : Prop := mssTrueRow.holds Tryd.pinned (OpenSpec.ofChange mssTrueSpec)

/-- ITS FALSE NEIGHBOUR: 'it returns false'. Refute it at one input. -/
def mssTrueWrong : ChangeSpec := { name := "mssTrue", fn := fun _ => fun
  | [d1, d2, d3, d4, d5] => { results := [.lit (.bool false)], args := [d1, d2, d3, d4, d5] }
  | _ => none }
def MssTrueWrongFalsely : Prop := mssTrueRow.holds Tryd.pinned (OpenSpec.ofChange mssTrueWrong)

/- THE SECOND FORM. 'bulk': how many values and letters a reading holds, each counted each time it is reached (what is shared counts as often as it is met; a slice's spare places count too). A statement '..UptoSaid' is the law's where the arguments, and the package variables that the reading takes, are together of bulk at most 1048576: NARROWER than '..Said'. Prove '..Said' where nothing that the law and all that it calls make is longer than what came in: it says more and counts as full. Else prove '..UptoSaid'. A law counts once. -/
mutual
def uptoBulk {H : Type} : DataW H → Nat
  | .lit (.string bytes) => bytes.length + 1
  | .lit _ => 1
  | .nil => 1
  | .ptr d => uptoBulk d + 1
  | .slice elems spare => uptoBulkAll elems + uptoBulkAll spare + 1
  | .agg parts => uptoBulkAll parts + 1
  | .iface _ d => uptoBulk d + 1
  | .map entries => uptoBulkEntries entries + 1
  | .held _ => 1
def uptoBulkAll {H : Type} : List (DataW H) → Nat
  | [] => 0
  | d :: r => uptoBulk d + uptoBulkAll r
def uptoBulkEntries {H : Type} : List (Lit × DataW H) → Nat
  | [] => 0
  | x :: r => uptoBulkEntry x + uptoBulkEntries r
def uptoBulkEntry {H : Type} : Lit × DataW H → Nat
  | (.string bytes, d) => bytes.length + uptoBulk d + 1
  | (_, d) => uptoBulk d + 1
 end
def uptoSmall : (H : Type) → List (DataW H) → Bool := fun _ ds => decide (uptoBulkAll ds ≤ 1048576)
def OpenSpec.upto (s : _root_.Go.ChangeSpec) : _root_.Go.OpenSpec := { _root_.Go.OpenSpec.ofChange s with cond := some uptoSmall }

/-- 'aumbrylaw09.MssHolds', WHERE WHAT IT READS IS OF BULK AT MOST 1048576: true; the input reads as it did. -/
def mssHoldsUptoRow : OpenClaim := { program := "ytbkdncmjfhbafaadoor", sum := "39e61ba17625c2c9e36b79a29b1298859c38d6a56ac80e05a9455fe09702e8f0", func := "aumbry/aumbrylaw09.MssHolds", spec := "mssHolds", recurses := true, named := ["internal/strconv.uint64pow10", "math/bits.deBruijn32tab", "math/bits.deBruijn64tab"], apart := false, laid := [("math/bits.deBruijn32tab", laid_math_bits_deBruijn32tab), ("math/bits.deBruijn64tab", laid_math_bits_deBruijn64tab), ("internal/strconv.uint64pow10", laid_internal_strconv_uint64pow10)], narrowed := true }
def MssHoldsUptoSaid : Prop := mssHoldsUptoRow.holds Tryd.pinned (OpenSpec.upto mssHoldsSpec)

/-- 'aumbrylaw09.MssLeaves', WHERE WHAT IT READS IS OF BULK AT MOST 1048576: true; the input reads as it did. -/
def mssLeavesUptoRow : OpenClaim := { program := "ytbkdncmjfhbafaadoor", sum := "39e61ba17625c2c9e36b79a29b1298859c38d6a56ac80e05a9455fe09702e8f0", func := "aumbry/aumbrylaw09.MssLeaves", spec := "mssLeaves", recurses := true, named := ["internal/strconv.uint64pow10", "math/bits.deBruijn32tab", "math/bits.deBruijn64tab"], apart := false, laid := [("math/bits.deBruijn32tab", laid_math_bits_deBruijn32tab), ("math/bits.deBruijn64tab", laid_math_bits_deBruijn64tab), ("internal/strconv.uint64pow10", laid_internal_strconv_uint64pow10)], narrowed := true }
def MssLeavesUptoSaid : Prop := mssLeavesUptoRow.holds Tryd.pinned (OpenSpec.upto mssLeavesSpec)

/-- 'aumbrylaw09.MssSigns', WHERE WHAT IT READS IS OF BULK AT MOST 1048576: true; the input reads as it did. -/
def mssSignsUptoRow : OpenClaim := { program := "ytbkdncmjfhbafaadoor", sum := "39e61ba17625c2c9e36b79a29b1298859c38d6a56ac80e05a9455fe09702e8f0", func := "aumbry/aumbrylaw09.MssSigns", spec := "mssSigns", recurses := true, named := ["internal/strconv.uint64pow10", "math/bits.deBruijn32tab", "math/bits.deBruijn64tab"], apart := false, laid := [("math/bits.deBruijn32tab", laid_math_bits_deBruijn32tab), ("math/bits.deBruijn64tab", laid_math_bits_deBruijn64tab), ("internal/strconv.uint64pow10", laid_internal_strconv_uint64pow10)], narrowed := true }
def MssSignsUptoSaid : Prop := mssSignsUptoRow.holds Tryd.pinned (OpenSpec.upto mssSignsSpec)

/-- 'aumbrylaw09.MssVerifies', WHERE WHAT IT READS IS OF BULK AT MOST 1048576: true; the input reads as it did. -/
def mssVerifiesUptoRow : OpenClaim := { program := "ytbkdncmjfhbafaadoor", sum := "39e61ba17625c2c9e36b79a29b1298859c38d6a56ac80e05a9455fe09702e8f0", func := "aumbry/aumbrylaw09.MssVerifies", spec := "mssVerifies", recurses := true, named := ["internal/strconv.uint64pow10", "math/bits.deBruijn32tab", "math/bits.deBruijn64tab"], apart := false, laid := [("math/bits.deBruijn32tab", laid_math_bits_deBruijn32tab), ("math/bits.deBruijn64tab", laid_math_bits_deBruijn64tab), ("internal/strconv.uint64pow10", laid_internal_strconv_uint64pow10)], narrowed := true }
def MssVerifiesUptoSaid : Prop := mssVerifiesUptoRow.holds Tryd.pinned (OpenSpec.upto mssVerifiesSpec)

/-- 'aumbrylaw09.MssLeak', WHERE WHAT IT READS IS OF BULK AT MOST 1048576: true; the input reads as it did. -/
def mssLeakUptoRow : OpenClaim := { program := "ytbkdncmjfhbafaadoor", sum := "39e61ba17625c2c9e36b79a29b1298859c38d6a56ac80e05a9455fe09702e8f0", func := "aumbry/aumbrylaw09.MssLeak", spec := "mssLeak", recurses := true, named := ["internal/strconv.uint64pow10", "math/bits.deBruijn32tab", "math/bits.deBruijn64tab"], apart := false, laid := [("math/bits.deBruijn32tab", laid_math_bits_deBruijn32tab), ("math/bits.deBruijn64tab", laid_math_bits_deBruijn64tab), ("internal/strconv.uint64pow10", laid_internal_strconv_uint64pow10)], narrowed := true }
def MssLeakUptoSaid : Prop := mssLeakUptoRow.holds Tryd.pinned (OpenSpec.upto mssLeakSpec)

/-- 'aumbrylaw09.MssPacks', WHERE WHAT IT READS IS OF BULK AT MOST 1048576: true; the input reads as it did. -/
def mssPacksUptoRow : OpenClaim := { program := "ytbkdncmjfhbafaadoor", sum := "39e61ba17625c2c9e36b79a29b1298859c38d6a56ac80e05a9455fe09702e8f0", func := "aumbry/aumbrylaw09.MssPacks", spec := "mssPacks", named := ["internal/strconv.uint64pow10", "math/bits.deBruijn32tab", "math/bits.deBruijn64tab"], apart := false, laid := [("math/bits.deBruijn32tab", laid_math_bits_deBruijn32tab), ("math/bits.deBruijn64tab", laid_math_bits_deBruijn64tab), ("internal/strconv.uint64pow10", laid_internal_strconv_uint64pow10)], narrowed := true }
def MssPacksUptoSaid : Prop := mssPacksUptoRow.holds Tryd.pinned (OpenSpec.upto mssPacksSpec)

/-- 'aumbrylaw09.MssRaw', WHERE WHAT IT READS IS OF BULK AT MOST 1048576: true; the input reads as it did. -/
def mssRawUptoRow : OpenClaim := { program := "ytbkdncmjfhbafaadoor", sum := "39e61ba17625c2c9e36b79a29b1298859c38d6a56ac80e05a9455fe09702e8f0", func := "aumbry/aumbrylaw09.MssRaw", spec := "mssRaw", recurses := true, named := ["internal/strconv.uint64pow10", "math/bits.deBruijn32tab", "math/bits.deBruijn64tab"], apart := false, laid := [("math/bits.deBruijn32tab", laid_math_bits_deBruijn32tab), ("math/bits.deBruijn64tab", laid_math_bits_deBruijn64tab), ("internal/strconv.uint64pow10", laid_internal_strconv_uint64pow10)], narrowed := true }
def MssRawUptoSaid : Prop := mssRawUptoRow.holds Tryd.pinned (OpenSpec.upto mssRawSpec)

/-- 'aumbrylaw09.MssTrue', WHERE WHAT IT READS IS OF BULK AT MOST 1048576: true; the input reads as it did. -/
def mssTrueUptoRow : OpenClaim := { program := "ytbkdncmjfhbafaadoor", sum := "39e61ba17625c2c9e36b79a29b1298859c38d6a56ac80e05a9455fe09702e8f0", func := "aumbry/aumbrylaw09.MssTrue", spec := "mssTrue", named := ["internal/strconv.uint64pow10", "math/bits.deBruijn32tab", "math/bits.deBruijn64tab"], apart := false, laid := [("math/bits.deBruijn32tab", laid_math_bits_deBruijn32tab), ("math/bits.deBruijn64tab", laid_math_bits_deBruijn64tab), ("internal/strconv.uint64pow10", laid_internal_strconv_uint64pow10)], narrowed := true }
def MssTrueUptoSaid : Prop := mssTrueUptoRow.holds Tryd.pinned (OpenSpec.upto mssTrueSpec)

end Rows
end Go.Proofs.YtbkdncmjfhbafaaDoor
