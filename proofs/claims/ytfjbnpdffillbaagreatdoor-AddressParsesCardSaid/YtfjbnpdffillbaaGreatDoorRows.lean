/-
  NARROWER THAN 'FOR EVERY INPUT', by the rows' own cells (each row's printed sentence says how): AddressParses: laid · AddressPrints: laid · AddressGates: laid · AddressBack: laid · AddressRange: laid · AddressNot: laid · AddressAlone: laid.
  DERIVED. THE GIVEN ROWS OF THIS SEAT. 7 by the template 'for every input the law returns true; each argument reads behind the call as it read before'; 0 by the template 'total and deterministic' (their statements: YtfjbnpdffillbaaGreatDoorTotals.lean).
  GIVEN WITH THE SEED: the statements are not yours to turn. If you find one false, say at which input.
  Laid BY PROGRAM, IN A SANDBOX (cutbox-rows.mjs): the forced cells as the released guide's own fill.sh prints them over the translation e3bc8ea3faff5521… (all of the seat's roots in one cut). By AI agents, Wed Nov 11 2026. No macro, syntax, notation, axiom, sorry.
-/
import Derived.Test.YtfjbnpdffillbaaGreatDoorChecked
import GoSem.Claim
import GoSem.ClaimJoined
import GoSem.ClaimMapViews
import Derived.JoinedTies
import Derived.KernelRfl
namespace Go.Proofs.YtfjbnpdffillbaaGreatDoor
/- THE CELL 'sum', in the pinned program and in every row, IS THE sha256 OF THE DUMP (.gsa) THAT YtfjbnpdffillbaaGreatDoorProg.lean LOADS. Nothing in Lean hashes anything: it is a label: what it is worth is what the hold of that sum in a sandbox is worth. -/
noncomputable def Tryz.pinned : Pinned := { name := "ytfjbnpdffillbaagreatdoor", sum := "e3bc8ea3faff5521d44c5ae5cc2c3adbc9fd8a6566a7e4219bbd664276662313", checked := Tryz.checked }
namespace Rows
def none {H : Type} : Left H := { results := [], args := [] }

/- WHAT THE LISTED PACKAGE-LEVEL VARIABLES READ AS WHEN THE CALL BEGINS. Each datum BY PROGRAM (the guide's laid-datum.mjs) off the statement by which the dump's own 'gosem.cut.vars' lays the variable. In a bare row this is a premise. The card (YtfjbnpdffillbaaGreatDoorCards.lean) ties it to the program's text. -/
def laid_math_bits_deBruijn32tab {H : Type} : DataW H := .agg [.lit (.int .u8 0), .lit (.int .u8 1), .lit (.int .u8 28), .lit (.int .u8 2), .lit (.int .u8 29), .lit (.int .u8 14), .lit (.int .u8 24), .lit (.int .u8 3), .lit (.int .u8 30), .lit (.int .u8 22), .lit (.int .u8 20), .lit (.int .u8 15), .lit (.int .u8 25), .lit (.int .u8 17), .lit (.int .u8 4), .lit (.int .u8 8), .lit (.int .u8 31), .lit (.int .u8 27), .lit (.int .u8 13), .lit (.int .u8 23), .lit (.int .u8 21), .lit (.int .u8 19), .lit (.int .u8 16), .lit (.int .u8 7), .lit (.int .u8 26), .lit (.int .u8 12), .lit (.int .u8 18), .lit (.int .u8 6), .lit (.int .u8 11), .lit (.int .u8 5), .lit (.int .u8 10), .lit (.int .u8 9)]
def laid_math_bits_deBruijn64tab {H : Type} : DataW H := .agg [.lit (.int .u8 0), .lit (.int .u8 1), .lit (.int .u8 56), .lit (.int .u8 2), .lit (.int .u8 57), .lit (.int .u8 49), .lit (.int .u8 28), .lit (.int .u8 3), .lit (.int .u8 61), .lit (.int .u8 58), .lit (.int .u8 42), .lit (.int .u8 50), .lit (.int .u8 38), .lit (.int .u8 29), .lit (.int .u8 17), .lit (.int .u8 4), .lit (.int .u8 62), .lit (.int .u8 47), .lit (.int .u8 59), .lit (.int .u8 36), .lit (.int .u8 45), .lit (.int .u8 43), .lit (.int .u8 51), .lit (.int .u8 22), .lit (.int .u8 53), .lit (.int .u8 39), .lit (.int .u8 33), .lit (.int .u8 30), .lit (.int .u8 24), .lit (.int .u8 18), .lit (.int .u8 12), .lit (.int .u8 5), .lit (.int .u8 63), .lit (.int .u8 55), .lit (.int .u8 48), .lit (.int .u8 27), .lit (.int .u8 60), .lit (.int .u8 41), .lit (.int .u8 37), .lit (.int .u8 16), .lit (.int .u8 46), .lit (.int .u8 35), .lit (.int .u8 44), .lit (.int .u8 21), .lit (.int .u8 52), .lit (.int .u8 32), .lit (.int .u8 23), .lit (.int .u8 11), .lit (.int .u8 54), .lit (.int .u8 26), .lit (.int .u8 40), .lit (.int .u8 15), .lit (.int .u8 34), .lit (.int .u8 20), .lit (.int .u8 31), .lit (.int .u8 10), .lit (.int .u8 25), .lit (.int .u8 14), .lit (.int .u8 19), .lit (.int .u8 9), .lit (.int .u8 13), .lit (.int .u8 8), .lit (.int .u8 7), .lit (.int .u8 6)]
def laid_galley_bracket_apart {H : Type} : DataW H := .agg [.lit (.int .u8 91), .lit (.int .u8 93), .lit (.int .u8 45), .lit (.int .u8 94)]
def laid_internal_strconv_uint64pow10 {H : Type} : DataW H := .agg [.lit (.int .u64 1), .lit (.int .u64 10), .lit (.int .u64 100), .lit (.int .u64 1000), .lit (.int .u64 10000), .lit (.int .u64 100000), .lit (.int .u64 1000000), .lit (.int .u64 10000000), .lit (.int .u64 100000000), .lit (.int .u64 1000000000), .lit (.int .u64 10000000000), .lit (.int .u64 100000000000), .lit (.int .u64 1000000000000), .lit (.int .u64 10000000000000), .lit (.int .u64 100000000000000), .lit (.int .u64 1000000000000000), .lit (.int .u64 10000000000000000), .lit (.int .u64 100000000000000000), .lit (.int .u64 1000000000000000000), .lit (.int .u64 10000000000000000000)]

/-- 'galleylaw20.AddressParses': WHATEVER THE INPUT: true; the input reads as it did. -/
def addressParsesSpec : ChangeSpec := { name := "addressParses", fn := fun _ => fun
  | [d1, d2] => { results := [.lit (.bool true)], args := [d1, d2] }
  | _ => none }
def addressParsesRow : OpenClaim := { program := "ytfjbnpdffillbaagreatdoor", sum := "e3bc8ea3faff5521d44c5ae5cc2c3adbc9fd8a6566a7e4219bbd664276662313", func := "galley/galleylaw20.AddressParses", spec := "addressParses", inPlace := ["internal/bytealg.IndexByteString", "internal/bytealg.IndexString"], unfollowed := true, recurses := true, named := ["internal/strconv.uint64pow10", "math/bits.deBruijn32tab", "math/bits.deBruijn64tab", "galley/bracket.apart", "internal/bytealg.MaxLen"], apart := false, laid := [("math/bits.deBruijn32tab", laid_math_bits_deBruijn32tab), ("math/bits.deBruijn64tab", laid_math_bits_deBruijn64tab), ("galley/bracket.apart", laid_galley_bracket_apart), ("internal/strconv.uint64pow10", laid_internal_strconv_uint64pow10)] }
def AddressParsesSaid : Prop := addressParsesRow.holds Tryz.pinned (OpenSpec.ofChange addressParsesSpec)

/-- ITS FALSE NEIGHBOUR: 'it returns false'. Refute it at one input. -/
def addressParsesWrong : ChangeSpec := { name := "addressParses", fn := fun _ => fun
  | [d1, d2] => { results := [.lit (.bool false)], args := [d1, d2] }
  | _ => none }
def AddressParsesWrongFalsely : Prop := addressParsesRow.holds Tryz.pinned (OpenSpec.ofChange addressParsesWrong)

/-- 'galleylaw20.AddressPrints': WHATEVER THE INPUT: true; the input reads as it did. -/
def addressPrintsSpec : ChangeSpec := { name := "addressPrints", fn := fun _ => fun
  | [d1, d2] => { results := [.lit (.bool true)], args := [d1, d2] }
  | _ => none }
def addressPrintsRow : OpenClaim := { program := "ytfjbnpdffillbaagreatdoor", sum := "e3bc8ea3faff5521d44c5ae5cc2c3adbc9fd8a6566a7e4219bbd664276662313", func := "galley/galleylaw20.AddressPrints", spec := "addressPrints", inPlace := ["internal/bytealg.IndexByteString", "internal/bytealg.IndexString"], unfollowed := true, recurses := true, named := ["internal/strconv.uint64pow10", "math/bits.deBruijn32tab", "math/bits.deBruijn64tab", "galley/bracket.apart", "internal/bytealg.MaxLen"], apart := false, laid := [("math/bits.deBruijn32tab", laid_math_bits_deBruijn32tab), ("math/bits.deBruijn64tab", laid_math_bits_deBruijn64tab), ("galley/bracket.apart", laid_galley_bracket_apart), ("internal/strconv.uint64pow10", laid_internal_strconv_uint64pow10)] }
def AddressPrintsSaid : Prop := addressPrintsRow.holds Tryz.pinned (OpenSpec.ofChange addressPrintsSpec)

/-- ITS FALSE NEIGHBOUR: 'it returns false'. Refute it at one input. -/
def addressPrintsWrong : ChangeSpec := { name := "addressPrints", fn := fun _ => fun
  | [d1, d2] => { results := [.lit (.bool false)], args := [d1, d2] }
  | _ => none }
def AddressPrintsWrongFalsely : Prop := addressPrintsRow.holds Tryz.pinned (OpenSpec.ofChange addressPrintsWrong)

/-- 'galleylaw20.AddressGates': WHATEVER THE INPUT: true; the input reads as it did. -/
def addressGatesSpec : ChangeSpec := { name := "addressGates", fn := fun _ => fun
  | [d1, d2] => { results := [.lit (.bool true)], args := [d1, d2] }
  | _ => none }
def addressGatesRow : OpenClaim := { program := "ytfjbnpdffillbaagreatdoor", sum := "e3bc8ea3faff5521d44c5ae5cc2c3adbc9fd8a6566a7e4219bbd664276662313", func := "galley/galleylaw20.AddressGates", spec := "addressGates", inPlace := ["internal/bytealg.IndexByteString", "internal/bytealg.IndexString"], unfollowed := true, recurses := true, named := ["internal/strconv.uint64pow10", "math/bits.deBruijn32tab", "math/bits.deBruijn64tab", "galley/bracket.apart", "internal/bytealg.MaxLen"], apart := false, laid := [("math/bits.deBruijn32tab", laid_math_bits_deBruijn32tab), ("math/bits.deBruijn64tab", laid_math_bits_deBruijn64tab), ("galley/bracket.apart", laid_galley_bracket_apart), ("internal/strconv.uint64pow10", laid_internal_strconv_uint64pow10)] }
def AddressGatesSaid : Prop := addressGatesRow.holds Tryz.pinned (OpenSpec.ofChange addressGatesSpec)

/-- ITS FALSE NEIGHBOUR: 'it returns false'. Refute it at one input. -/
def addressGatesWrong : ChangeSpec := { name := "addressGates", fn := fun _ => fun
  | [d1, d2] => { results := [.lit (.bool false)], args := [d1, d2] }
  | _ => none }
def AddressGatesWrongFalsely : Prop := addressGatesRow.holds Tryz.pinned (OpenSpec.ofChange addressGatesWrong)

/-- 'galleylaw20.AddressBack': WHATEVER THE INPUT: true; the input reads as it did. -/
def addressBackSpec : ChangeSpec := { name := "addressBack", fn := fun _ => fun
  | [d1, d2, d3] => { results := [.lit (.bool true)], args := [d1, d2, d3] }
  | _ => none }
def addressBackRow : OpenClaim := { program := "ytfjbnpdffillbaagreatdoor", sum := "e3bc8ea3faff5521d44c5ae5cc2c3adbc9fd8a6566a7e4219bbd664276662313", func := "galley/galleylaw20.AddressBack", spec := "addressBack", inPlace := ["internal/bytealg.IndexByteString", "internal/bytealg.IndexString"], unfollowed := true, recurses := true, named := ["internal/strconv.uint64pow10", "math/bits.deBruijn32tab", "math/bits.deBruijn64tab", "galley/bracket.apart", "internal/bytealg.MaxLen"], apart := false, laid := [("math/bits.deBruijn32tab", laid_math_bits_deBruijn32tab), ("math/bits.deBruijn64tab", laid_math_bits_deBruijn64tab), ("galley/bracket.apart", laid_galley_bracket_apart), ("internal/strconv.uint64pow10", laid_internal_strconv_uint64pow10)] }
def AddressBackSaid : Prop := addressBackRow.holds Tryz.pinned (OpenSpec.ofChange addressBackSpec)

/-- ITS FALSE NEIGHBOUR: 'it returns false'. Refute it at one input. -/
def addressBackWrong : ChangeSpec := { name := "addressBack", fn := fun _ => fun
  | [d1, d2, d3] => { results := [.lit (.bool false)], args := [d1, d2, d3] }
  | _ => none }
def AddressBackWrongFalsely : Prop := addressBackRow.holds Tryz.pinned (OpenSpec.ofChange addressBackWrong)

/-- 'galleylaw20.AddressRange': WHATEVER THE INPUT: true; the input reads as it did. -/
def addressRangeSpec : ChangeSpec := { name := "addressRange", fn := fun _ => fun
  | [d] => { results := [.lit (.bool true)], args := [d] }
  | _ => none }
def addressRangeRow : OpenClaim := { program := "ytfjbnpdffillbaagreatdoor", sum := "e3bc8ea3faff5521d44c5ae5cc2c3adbc9fd8a6566a7e4219bbd664276662313", func := "galley/galleylaw20.AddressRange", spec := "addressRange", inPlace := ["internal/bytealg.IndexByteString", "internal/bytealg.IndexString"], unfollowed := true, recurses := true, named := ["internal/strconv.uint64pow10", "math/bits.deBruijn32tab", "math/bits.deBruijn64tab", "galley/bracket.apart", "internal/bytealg.MaxLen"], apart := false, laid := [("math/bits.deBruijn32tab", laid_math_bits_deBruijn32tab), ("math/bits.deBruijn64tab", laid_math_bits_deBruijn64tab), ("galley/bracket.apart", laid_galley_bracket_apart), ("internal/strconv.uint64pow10", laid_internal_strconv_uint64pow10)] }
def AddressRangeSaid : Prop := addressRangeRow.holds Tryz.pinned (OpenSpec.ofChange addressRangeSpec)

/-- ITS FALSE NEIGHBOUR: 'it returns false'. Refute it at one input. -/
def addressRangeWrong : ChangeSpec := { name := "addressRange", fn := fun _ => fun
  | [d] => { results := [.lit (.bool false)], args := [d] }
  | _ => none }
def AddressRangeWrongFalsely : Prop := addressRangeRow.holds Tryz.pinned (OpenSpec.ofChange addressRangeWrong)

/-- 'galleylaw20.AddressNot': WHATEVER THE INPUT: true; the input reads as it did. -/
def addressNotSpec : ChangeSpec := { name := "addressNot", fn := fun _ => fun
  | [d] => { results := [.lit (.bool true)], args := [d] }
  | _ => none }
def addressNotRow : OpenClaim := { program := "ytfjbnpdffillbaagreatdoor", sum := "e3bc8ea3faff5521d44c5ae5cc2c3adbc9fd8a6566a7e4219bbd664276662313", func := "galley/galleylaw20.AddressNot", spec := "addressNot", inPlace := ["internal/bytealg.IndexByteString", "internal/bytealg.IndexString"], unfollowed := true, recurses := true, named := ["internal/strconv.uint64pow10", "math/bits.deBruijn32tab", "math/bits.deBruijn64tab", "galley/bracket.apart", "internal/bytealg.MaxLen"], apart := false, laid := [("math/bits.deBruijn32tab", laid_math_bits_deBruijn32tab), ("math/bits.deBruijn64tab", laid_math_bits_deBruijn64tab), ("galley/bracket.apart", laid_galley_bracket_apart), ("internal/strconv.uint64pow10", laid_internal_strconv_uint64pow10)] }
def AddressNotSaid : Prop := addressNotRow.holds Tryz.pinned (OpenSpec.ofChange addressNotSpec)

/-- ITS FALSE NEIGHBOUR: 'it returns false'. Refute it at one input. -/
def addressNotWrong : ChangeSpec := { name := "addressNot", fn := fun _ => fun
  | [d] => { results := [.lit (.bool false)], args := [d] }
  | _ => none }
def AddressNotWrongFalsely : Prop := addressNotRow.holds Tryz.pinned (OpenSpec.ofChange addressNotWrong)

/-- 'galleylaw20.AddressAlone': WHATEVER THE INPUT: true; the input reads as it did. -/
def addressAloneSpec : ChangeSpec := { name := "addressAlone", fn := fun _ => fun
  | [d1, d2] => { results := [.lit (.bool true)], args := [d1, d2] }
  | _ => none }
def addressAloneRow : OpenClaim := { program := "ytfjbnpdffillbaagreatdoor", sum := "e3bc8ea3faff5521d44c5ae5cc2c3adbc9fd8a6566a7e4219bbd664276662313", func := "galley/galleylaw20.AddressAlone", spec := "addressAlone", inPlace := ["internal/bytealg.IndexByteString", "internal/bytealg.IndexString"], unfollowed := true, recurses := true, named := ["internal/strconv.uint64pow10", "math/bits.deBruijn32tab", "math/bits.deBruijn64tab", "galley/bracket.apart", "internal/bytealg.MaxLen"], apart := false, laid := [("math/bits.deBruijn32tab", laid_math_bits_deBruijn32tab), ("math/bits.deBruijn64tab", laid_math_bits_deBruijn64tab), ("galley/bracket.apart", laid_galley_bracket_apart), ("internal/strconv.uint64pow10", laid_internal_strconv_uint64pow10)] }
def AddressAloneSaid : Prop := addressAloneRow.holds Tryz.pinned (OpenSpec.ofChange addressAloneSpec)

/-- ITS FALSE NEIGHBOUR: 'it returns false'. Refute it at one input. -/
def addressAloneWrong : ChangeSpec := { name := "addressAlone", fn := fun _ => fun
  | [d1, d2] => { results := [.lit (.bool false)], args := [d1, d2] }
  | _ => none }
def AddressAloneWrongFalsely : Prop := addressAloneRow.holds Tryz.pinned (OpenSpec.ofChange addressAloneWrong)

/- THE SECOND FORM. 'bulk': how many values and letters a reading holds, each counted each time it is reached (what is shared counts as often as it is met; a slice's spare places count too). A statement '..UptoSaid' is the law's where the arguments, and the package variables that the reading takes, are together of bulk at most 1048576: NARROWER than '..Said'. Prove '..Said' where nothing that the law and all that it calls make is longer than what came in: it says more and counts as full. Else prove '..UptoSaid'. A law counts once. -/
mutual
def uptoBulk {H : Type} : DataW H → Nat
  | .lit (.string bytes) => bytes.length + 1
  | .lit _ => 1
  | .nil => 1
  | .ptr d => uptoBulk d + 1
  | .slice elems spare => uptoBulkAll elems + uptoBulkAll spare + 1
  | .agg parts => uptoBulkAll parts + 1
  | .iface _ d => uptoBulk d + 1
  | .map entries => uptoBulkEntries entries + 1
  | .held _ => 1
def uptoBulkAll {H : Type} : List (DataW H) → Nat
  | [] => 0
  | d :: r => uptoBulk d + uptoBulkAll r
def uptoBulkEntries {H : Type} : List (Lit × DataW H) → Nat
  | [] => 0
  | x :: r => uptoBulkEntry x + uptoBulkEntries r
def uptoBulkEntry {H : Type} : Lit × DataW H → Nat
  | (.string bytes, d) => bytes.length + uptoBulk d + 1
  | (_, d) => uptoBulk d + 1
 end
def uptoSmall : (H : Type) → List (DataW H) → Bool := fun _ ds => decide (uptoBulkAll ds ≤ 1048576)
def OpenSpec.upto (s : _root_.Go.ChangeSpec) : _root_.Go.OpenSpec := { _root_.Go.OpenSpec.ofChange s with cond := some uptoSmall }

/-- 'galleylaw20.AddressParses', WHERE WHAT IT READS IS OF BULK AT MOST 1048576: true; the input reads as it did. -/
def addressParsesUptoRow : OpenClaim := { program := "ytfjbnpdffillbaagreatdoor", sum := "e3bc8ea3faff5521d44c5ae5cc2c3adbc9fd8a6566a7e4219bbd664276662313", func := "galley/galleylaw20.AddressParses", spec := "addressParses", inPlace := ["internal/bytealg.IndexByteString", "internal/bytealg.IndexString"], unfollowed := true, recurses := true, named := ["internal/strconv.uint64pow10", "math/bits.deBruijn32tab", "math/bits.deBruijn64tab", "galley/bracket.apart", "internal/bytealg.MaxLen"], apart := false, laid := [("math/bits.deBruijn32tab", laid_math_bits_deBruijn32tab), ("math/bits.deBruijn64tab", laid_math_bits_deBruijn64tab), ("galley/bracket.apart", laid_galley_bracket_apart), ("internal/strconv.uint64pow10", laid_internal_strconv_uint64pow10)], narrowed := true }
def AddressParsesUptoSaid : Prop := addressParsesUptoRow.holds Tryz.pinned (OpenSpec.upto addressParsesSpec)

/-- 'galleylaw20.AddressPrints', WHERE WHAT IT READS IS OF BULK AT MOST 1048576: true; the input reads as it did. -/
def addressPrintsUptoRow : OpenClaim := { program := "ytfjbnpdffillbaagreatdoor", sum := "e3bc8ea3faff5521d44c5ae5cc2c3adbc9fd8a6566a7e4219bbd664276662313", func := "galley/galleylaw20.AddressPrints", spec := "addressPrints", inPlace := ["internal/bytealg.IndexByteString", "internal/bytealg.IndexString"], unfollowed := true, recurses := true, named := ["internal/strconv.uint64pow10", "math/bits.deBruijn32tab", "math/bits.deBruijn64tab", "galley/bracket.apart", "internal/bytealg.MaxLen"], apart := false, laid := [("math/bits.deBruijn32tab", laid_math_bits_deBruijn32tab), ("math/bits.deBruijn64tab", laid_math_bits_deBruijn64tab), ("galley/bracket.apart", laid_galley_bracket_apart), ("internal/strconv.uint64pow10", laid_internal_strconv_uint64pow10)], narrowed := true }
def AddressPrintsUptoSaid : Prop := addressPrintsUptoRow.holds Tryz.pinned (OpenSpec.upto addressPrintsSpec)

/-- 'galleylaw20.AddressGates', WHERE WHAT IT READS IS OF BULK AT MOST 1048576: true; the input reads as it did. -/
def addressGatesUptoRow : OpenClaim := { program := "ytfjbnpdffillbaagreatdoor", sum := "e3bc8ea3faff5521d44c5ae5cc2c3adbc9fd8a6566a7e4219bbd664276662313", func := "galley/galleylaw20.AddressGates", spec := "addressGates", inPlace := ["internal/bytealg.IndexByteString", "internal/bytealg.IndexString"], unfollowed := true, recurses := true, named := ["internal/strconv.uint64pow10", "math/bits.deBruijn32tab", "math/bits.deBruijn64tab", "galley/bracket.apart", "internal/bytealg.MaxLen"], apart := false, laid := [("math/bits.deBruijn32tab", laid_math_bits_deBruijn32tab), ("math/bits.deBruijn64tab", laid_math_bits_deBruijn64tab), ("galley/bracket.apart", laid_galley_bracket_apart), ("internal/strconv.uint64pow10", laid_internal_strconv_uint64pow10)], narrowed := true }
def AddressGatesUptoSaid : Prop := addressGatesUptoRow.holds Tryz.pinned (OpenSpec.upto addressGatesSpec)

/-- 'galleylaw20.AddressBack', WHERE WHAT IT READS IS OF BULK AT MOST 1048576: true; the input reads as it did. -/
def addressBackUptoRow : OpenClaim := { program := "ytfjbnpdffillbaagreatdoor", sum := "e3bc8ea3faff5521d44c5ae5cc2c3adbc9fd8a6566a7e4219bbd664276662313", func := "galley/galleylaw20.AddressBack", spec := "addressBack", inPlace := ["internal/bytealg.IndexByteString", "internal/bytealg.IndexString"], unfollowed := true, recurses := true, named := ["internal/strconv.uint64pow10", "math/bits.deBruijn32tab", "math/bits.deBruijn64tab", "galley/bracket.apart", "internal/bytealg.MaxLen"], apart := false, laid := [("math/bits.deBruijn32tab", laid_math_bits_deBruijn32tab), ("math/bits.deBruijn64tab", laid_math_bits_deBruijn64tab), ("galley/bracket.apart", laid_galley_bracket_apart), ("internal/strconv.uint64pow10", laid_internal_strconv_uint64pow10)], narrowed := true }
def AddressBackUptoSaid : Prop := addressBackUptoRow.holds Tryz.pinned (OpenSpec.upto addressBackSpec)

/-- 'galleylaw20.AddressRange', WHERE WHAT IT READS IS OF BULK AT MOST 1048576: true; the input reads as it did. -/
def addressRangeUptoRow : OpenClaim := { program := "ytfjbnpdffillbaagreatdoor", sum := "e3bc8ea3faff5521d44c5ae5cc2c3adbc9fd8a6566a7e4219bbd664276662313", func := "galley/galleylaw20.AddressRange", spec := "addressRange", inPlace := ["internal/bytealg.IndexByteString", "internal/bytealg.IndexString"], unfollowed := true, recurses := true, named := ["internal/strconv.uint64pow10", "math/bits.deBruijn32tab", "math/bits.deBruijn64tab", "galley/bracket.apart", "internal/bytealg.MaxLen"], apart := false, laid := [("math/bits.deBruijn32tab", laid_math_bits_deBruijn32tab), ("math/bits.deBruijn64tab", laid_math_bits_deBruijn64tab), ("galley/bracket.apart", laid_galley_bracket_apart), ("internal/strconv.uint64pow10", laid_internal_strconv_uint64pow10)], narrowed := true }
def AddressRangeUptoSaid : Prop := addressRangeUptoRow.holds Tryz.pinned (OpenSpec.upto addressRangeSpec)

/-- 'galleylaw20.AddressNot', WHERE WHAT IT READS IS OF BULK AT MOST 1048576: true; the input reads as it did. -/
def addressNotUptoRow : OpenClaim := { program := "ytfjbnpdffillbaagreatdoor", sum := "e3bc8ea3faff5521d44c5ae5cc2c3adbc9fd8a6566a7e4219bbd664276662313", func := "galley/galleylaw20.AddressNot", spec := "addressNot", inPlace := ["internal/bytealg.IndexByteString", "internal/bytealg.IndexString"], unfollowed := true, recurses := true, named := ["internal/strconv.uint64pow10", "math/bits.deBruijn32tab", "math/bits.deBruijn64tab", "galley/bracket.apart", "internal/bytealg.MaxLen"], apart := false, laid := [("math/bits.deBruijn32tab", laid_math_bits_deBruijn32tab), ("math/bits.deBruijn64tab", laid_math_bits_deBruijn64tab), ("galley/bracket.apart", laid_galley_bracket_apart), ("internal/strconv.uint64pow10", laid_internal_strconv_uint64pow10)], narrowed := true }
def AddressNotUptoSaid : Prop := addressNotUptoRow.holds Tryz.pinned (OpenSpec.upto addressNotSpec)

/-- 'galleylaw20.AddressAlone', WHERE WHAT IT READS IS OF BULK AT MOST 1048576: true; the input reads as it did. -/
def addressAloneUptoRow : OpenClaim := { program := "ytfjbnpdffillbaagreatdoor", sum := "e3bc8ea3faff5521d44c5ae5cc2c3adbc9fd8a6566a7e4219bbd664276662313", func := "galley/galleylaw20.AddressAlone", spec := "addressAlone", inPlace := ["internal/bytealg.IndexByteString", "internal/bytealg.IndexString"], unfollowed := true, recurses := true, named := ["internal/strconv.uint64pow10", "math/bits.deBruijn32tab", "math/bits.deBruijn64tab", "galley/bracket.apart", "internal/bytealg.MaxLen"], apart := false, laid := [("math/bits.deBruijn32tab", laid_math_bits_deBruijn32tab), ("math/bits.deBruijn64tab", laid_math_bits_deBruijn64tab), ("galley/bracket.apart", laid_galley_bracket_apart), ("internal/strconv.uint64pow10", laid_internal_strconv_uint64pow10)], narrowed := true }
def AddressAloneUptoSaid : Prop := addressAloneUptoRow.holds Tryz.pinned (OpenSpec.upto addressAloneSpec)

end Rows
end Go.Proofs.YtfjbnpdffillbaaGreatDoor
