/-
  NARROWER THAN 'FOR EVERY INPUT', by the rows' own cells (each row's printed sentence says how): FaultWords: laid · FaultPlaces: laid · FaultShows: laid · FaultEquals: laid · FaultColumns: laid.
  DERIVED. THE GIVEN ROWS OF THIS SEAT. 5 by the template 'for every input the law returns true; each argument reads behind the call as it read before'; 0 by the template 'total and deterministic' (their statements: YtppmfndfgafnhaaDoorTotals.lean).
  GIVEN WITH THE SEED: the statements are not yours to turn. If you find one false, say at which input.
  Laid BY PROGRAM, IN A SANDBOX (cutbox-rows.mjs): the forced cells as the released guide's own fill.sh prints them over the translation 1cca157deb934e2e… (all of the seat's roots in one cut). By AI agents, Wed Nov 11 2026. No macro, syntax, notation, axiom, sorry.
-/
import Derived.Test.YtppmfndfgafnhaaDoorChecked
import GoSem.Claim
import GoSem.ClaimJoined
import GoSem.ClaimMapViews
import Derived.JoinedTies
import Derived.KernelRfl
namespace Go.Proofs.YtppmfndfgafnhaaDoor
/- THE CELL 'sum', in the pinned program and in every row, IS THE sha256 OF THE DUMP (.gsa) THAT YtppmfndfgafnhaaDoorProg.lean LOADS. Nothing in Lean hashes anything: it is a label: what it is worth is what the hold of that sum in a sandbox is worth. -/
noncomputable def Tryd.pinned : Pinned := { name := "ytppmfndfgafnhaadoor", sum := "1cca157deb934e2e3ccf6598e8add9410a02a9c597bf83b9d66cdcd208ef231c", checked := Tryd.checked }
namespace Rows
def none {H : Type} : Left H := { results := [], args := [] }

/- WHAT THE LISTED PACKAGE-LEVEL VARIABLES READ AS WHEN THE CALL BEGINS. Each datum BY PROGRAM (the guide's laid-datum.mjs) off the statement by which the dump's own 'gosem.cut.vars' lays the variable. In a bare row this is a premise. The card (YtppmfndfgafnhaaDoorCards.lean) ties it to the program's text. -/
def laid_math_bits_deBruijn32tab {H : Type} : DataW H := .agg [.lit (.int .u8 0), .lit (.int .u8 1), .lit (.int .u8 28), .lit (.int .u8 2), .lit (.int .u8 29), .lit (.int .u8 14), .lit (.int .u8 24), .lit (.int .u8 3), .lit (.int .u8 30), .lit (.int .u8 22), .lit (.int .u8 20), .lit (.int .u8 15), .lit (.int .u8 25), .lit (.int .u8 17), .lit (.int .u8 4), .lit (.int .u8 8), .lit (.int .u8 31), .lit (.int .u8 27), .lit (.int .u8 13), .lit (.int .u8 23), .lit (.int .u8 21), .lit (.int .u8 19), .lit (.int .u8 16), .lit (.int .u8 7), .lit (.int .u8 26), .lit (.int .u8 12), .lit (.int .u8 18), .lit (.int .u8 6), .lit (.int .u8 11), .lit (.int .u8 5), .lit (.int .u8 10), .lit (.int .u8 9)]
def laid_math_bits_deBruijn64tab {H : Type} : DataW H := .agg [.lit (.int .u8 0), .lit (.int .u8 1), .lit (.int .u8 56), .lit (.int .u8 2), .lit (.int .u8 57), .lit (.int .u8 49), .lit (.int .u8 28), .lit (.int .u8 3), .lit (.int .u8 61), .lit (.int .u8 58), .lit (.int .u8 42), .lit (.int .u8 50), .lit (.int .u8 38), .lit (.int .u8 29), .lit (.int .u8 17), .lit (.int .u8 4), .lit (.int .u8 62), .lit (.int .u8 47), .lit (.int .u8 59), .lit (.int .u8 36), .lit (.int .u8 45), .lit (.int .u8 43), .lit (.int .u8 51), .lit (.int .u8 22), .lit (.int .u8 53), .lit (.int .u8 39), .lit (.int .u8 33), .lit (.int .u8 30), .lit (.int .u8 24), .lit (.int .u8 18), .lit (.int .u8 12), .lit (.int .u8 5), .lit (.int .u8 63), .lit (.int .u8 55), .lit (.int .u8 48), .lit (.int .u8 27), .lit (.int .u8 60), .lit (.int .u8 41), .lit (.int .u8 37), .lit (.int .u8 16), .lit (.int .u8 46), .lit (.int .u8 35), .lit (.int .u8 44), .lit (.int .u8 21), .lit (.int .u8 52), .lit (.int .u8 32), .lit (.int .u8 23), .lit (.int .u8 11), .lit (.int .u8 54), .lit (.int .u8 26), .lit (.int .u8 40), .lit (.int .u8 15), .lit (.int .u8 34), .lit (.int .u8 20), .lit (.int .u8 31), .lit (.int .u8 10), .lit (.int .u8 25), .lit (.int .u8 14), .lit (.int .u8 19), .lit (.int .u8 9), .lit (.int .u8 13), .lit (.int .u8 8), .lit (.int .u8 7), .lit (.int .u8 6)]
def laid_internal_strconv_uint64pow10 {H : Type} : DataW H := .agg [.lit (.int .u64 1), .lit (.int .u64 10), .lit (.int .u64 100), .lit (.int .u64 1000), .lit (.int .u64 10000), .lit (.int .u64 100000), .lit (.int .u64 1000000), .lit (.int .u64 10000000), .lit (.int .u64 100000000), .lit (.int .u64 1000000000), .lit (.int .u64 10000000000), .lit (.int .u64 100000000000), .lit (.int .u64 1000000000000), .lit (.int .u64 10000000000000), .lit (.int .u64 100000000000000), .lit (.int .u64 1000000000000000), .lit (.int .u64 10000000000000000), .lit (.int .u64 100000000000000000), .lit (.int .u64 1000000000000000000), .lit (.int .u64 10000000000000000000)]
def laid_arraylang_fault_words {H : Type} : DataW H := .agg [.lit (.string [111, 107]), .lit (.string [97, 114, 103]), .lit (.string [108, 111, 110, 103]), .lit (.string [99, 104, 97, 114]), .lit (.string [110, 117, 109, 98, 101, 114]), .lit (.string [115, 116, 114, 105, 110, 103]), .lit (.string [116, 111, 107, 101, 110]), .lit (.string [101, 110, 100]), .lit (.string [100, 101, 101, 112]), .lit (.string [110, 97, 109, 101]), .lit (.string [100, 117, 112, 108, 105, 99, 97, 116, 101]), .lit (.string [99, 108, 97, 115, 115]), .lit (.string [114, 101, 115, 117, 108, 116]), .lit (.string [118, 97, 108, 101, 110, 99, 101]), .lit (.string [107, 105, 110, 100]), .lit (.string [114, 97, 110, 107]), .lit (.string [108, 101, 110, 103, 116, 104]), .lit (.string [100, 111, 109, 97, 105, 110]), .lit (.string [105, 110, 100, 101, 120]), .lit (.string [111, 118, 101, 114, 102, 108, 111, 119]), .lit (.string [122, 101, 114, 111]), .lit (.string [108, 105, 109, 105, 116]), .lit (.string [99, 97, 108, 108, 115]), .lit (.string [115, 116, 101, 112, 115]), .lit (.string [109, 101, 109, 111, 114, 121]), .lit (.string [102, 111, 114, 109]), .lit (.string [99, 111, 100, 101]), .lit (.string [115, 117, 109]), .lit (.string [110, 111, 116, 102, 111, 117, 110, 100])]

/-- 'arraylanglaw07.FaultWords': WHATEVER THE INPUT: true; the input reads as it did. -/
def faultWordsSpec : ChangeSpec := { name := "faultWords", fn := fun _ => fun
  | [d] => { results := [.lit (.bool true)], args := [d] }
  | _ => none }
def faultWordsRow : OpenClaim := { program := "ytppmfndfgafnhaadoor", sum := "1cca157deb934e2e3ccf6598e8add9410a02a9c597bf83b9d66cdcd208ef231c", func := "arraylang/arraylanglaw07.FaultWords", spec := "faultWords", inPlace := ["internal/bytealg.CountString", "internal/bytealg.IndexByteString", "internal/bytealg.IndexString", "internal/abi.NoEscape"], named := ["arraylang/fault.words", "internal/bytealg.MaxLen", "internal/strconv.uint64pow10", "math/bits.deBruijn32tab", "math/bits.deBruijn64tab"], apart := false, laid := [("math/bits.deBruijn32tab", laid_math_bits_deBruijn32tab), ("math/bits.deBruijn64tab", laid_math_bits_deBruijn64tab), ("internal/strconv.uint64pow10", laid_internal_strconv_uint64pow10), ("arraylang/fault.words", laid_arraylang_fault_words)] }
def FaultWordsSaid : Prop := faultWordsRow.holds Tryd.pinned (OpenSpec.ofChange faultWordsSpec)

/-- ITS FALSE NEIGHBOUR: 'it returns false'. Refute it at one input. -/
def faultWordsWrong : ChangeSpec := { name := "faultWords", fn := fun _ => fun
  | [d] => { results := [.lit (.bool false)], args := [d] }
  | _ => none }
def FaultWordsWrongFalsely : Prop := faultWordsRow.holds Tryd.pinned (OpenSpec.ofChange faultWordsWrong)

/-- 'arraylanglaw07.FaultPlaces': WHATEVER THE INPUT: true; the input reads as it did. -/
def faultPlacesSpec : ChangeSpec := { name := "faultPlaces", fn := fun _ => fun
  | [d1, d2] => { results := [.lit (.bool true)], args := [d1, d2] }
  | _ => none }
def faultPlacesRow : OpenClaim := { program := "ytppmfndfgafnhaadoor", sum := "1cca157deb934e2e3ccf6598e8add9410a02a9c597bf83b9d66cdcd208ef231c", func := "arraylang/arraylanglaw07.FaultPlaces", spec := "faultPlaces", inPlace := ["internal/bytealg.CountString", "internal/bytealg.IndexByteString", "internal/bytealg.IndexString", "internal/abi.NoEscape"], named := ["internal/bytealg.MaxLen", "internal/strconv.uint64pow10", "math/bits.deBruijn32tab", "math/bits.deBruijn64tab", "arraylang/fault.words"], apart := false, laid := [("math/bits.deBruijn32tab", laid_math_bits_deBruijn32tab), ("math/bits.deBruijn64tab", laid_math_bits_deBruijn64tab), ("internal/strconv.uint64pow10", laid_internal_strconv_uint64pow10), ("arraylang/fault.words", laid_arraylang_fault_words)] }
def FaultPlacesSaid : Prop := faultPlacesRow.holds Tryd.pinned (OpenSpec.ofChange faultPlacesSpec)

/-- ITS FALSE NEIGHBOUR: 'it returns false'. Refute it at one input. -/
def faultPlacesWrong : ChangeSpec := { name := "faultPlaces", fn := fun _ => fun
  | [d1, d2] => { results := [.lit (.bool false)], args := [d1, d2] }
  | _ => none }
def FaultPlacesWrongFalsely : Prop := faultPlacesRow.holds Tryd.pinned (OpenSpec.ofChange faultPlacesWrong)

/-- 'arraylanglaw07.FaultShows': WHATEVER THE INPUT: true; the input reads as it did. -/
def faultShowsSpec : ChangeSpec := { name := "faultShows", fn := fun _ => fun
  | [d1, d2] => { results := [.lit (.bool true)], args := [d1, d2] }
  | _ => none }
def faultShowsRow : OpenClaim := { program := "ytppmfndfgafnhaadoor", sum := "1cca157deb934e2e3ccf6598e8add9410a02a9c597bf83b9d66cdcd208ef231c", func := "arraylang/arraylanglaw07.FaultShows", spec := "faultShows", inPlace := ["internal/bytealg.CountString", "internal/bytealg.IndexByteString", "internal/bytealg.IndexString", "internal/abi.NoEscape"], recurses := true, named := ["internal/bytealg.MaxLen", "internal/strconv.uint64pow10", "math/bits.deBruijn32tab", "math/bits.deBruijn64tab", "arraylang/fault.words"], apart := false, laid := [("math/bits.deBruijn32tab", laid_math_bits_deBruijn32tab), ("math/bits.deBruijn64tab", laid_math_bits_deBruijn64tab), ("internal/strconv.uint64pow10", laid_internal_strconv_uint64pow10), ("arraylang/fault.words", laid_arraylang_fault_words)] }
def FaultShowsSaid : Prop := faultShowsRow.holds Tryd.pinned (OpenSpec.ofChange faultShowsSpec)

/-- ITS FALSE NEIGHBOUR: 'it returns false'. Refute it at one input. -/
def faultShowsWrong : ChangeSpec := { name := "faultShows", fn := fun _ => fun
  | [d1, d2] => { results := [.lit (.bool false)], args := [d1, d2] }
  | _ => none }
def FaultShowsWrongFalsely : Prop := faultShowsRow.holds Tryd.pinned (OpenSpec.ofChange faultShowsWrong)

/-- 'arraylanglaw07.FaultEquals': WHATEVER THE INPUT: true; the input reads as it did. -/
def faultEqualsSpec : ChangeSpec := { name := "faultEquals", fn := fun _ => fun
  | [d1, d2] => { results := [.lit (.bool true)], args := [d1, d2] }
  | _ => none }
def faultEqualsRow : OpenClaim := { program := "ytppmfndfgafnhaadoor", sum := "1cca157deb934e2e3ccf6598e8add9410a02a9c597bf83b9d66cdcd208ef231c", func := "arraylang/arraylanglaw07.FaultEquals", spec := "faultEquals", inPlace := ["internal/bytealg.CountString", "internal/bytealg.IndexByteString", "internal/bytealg.IndexString", "internal/abi.NoEscape"], named := ["internal/bytealg.MaxLen", "internal/strconv.uint64pow10", "math/bits.deBruijn32tab", "math/bits.deBruijn64tab", "arraylang/fault.words"], apart := false, laid := [("math/bits.deBruijn32tab", laid_math_bits_deBruijn32tab), ("math/bits.deBruijn64tab", laid_math_bits_deBruijn64tab), ("internal/strconv.uint64pow10", laid_internal_strconv_uint64pow10), ("arraylang/fault.words", laid_arraylang_fault_words)] }
def FaultEqualsSaid : Prop := faultEqualsRow.holds Tryd.pinned (OpenSpec.ofChange faultEqualsSpec)

/-- ITS FALSE NEIGHBOUR: 'it returns false'. Refute it at one input. -/
def faultEqualsWrong : ChangeSpec := { name := "faultEquals", fn := fun _ => fun
  | [d1, d2] => { results := [.lit (.bool false)], args := [d1, d2] }
  | _ => none }
def FaultEqualsWrongFalsely : Prop := faultEqualsRow.holds Tryd.pinned (OpenSpec.ofChange faultEqualsWrong)

/-- 'arraylanglaw07.FaultColumns': WHATEVER THE INPUT: true; the input reads as it did. -/
def faultColumnsSpec : ChangeSpec := { name := "faultColumns", fn := fun _ => fun
  | [d1, d2] => { results := [.lit (.bool true)], args := [d1, d2] }
  | _ => none }
def faultColumnsRow : OpenClaim := { program := "ytppmfndfgafnhaadoor", sum := "1cca157deb934e2e3ccf6598e8add9410a02a9c597bf83b9d66cdcd208ef231c", func := "arraylang/arraylanglaw07.FaultColumns", spec := "faultColumns", inPlace := ["internal/bytealg.CountString", "internal/bytealg.IndexByteString", "internal/bytealg.IndexString", "internal/abi.NoEscape"], named := ["internal/bytealg.MaxLen", "internal/strconv.uint64pow10", "math/bits.deBruijn32tab", "math/bits.deBruijn64tab", "arraylang/fault.words"], apart := false, laid := [("math/bits.deBruijn32tab", laid_math_bits_deBruijn32tab), ("math/bits.deBruijn64tab", laid_math_bits_deBruijn64tab), ("internal/strconv.uint64pow10", laid_internal_strconv_uint64pow10), ("arraylang/fault.words", laid_arraylang_fault_words)] }
def FaultColumnsSaid : Prop := faultColumnsRow.holds Tryd.pinned (OpenSpec.ofChange faultColumnsSpec)

/-- ITS FALSE NEIGHBOUR: 'it returns false'. Refute it at one input. -/
def faultColumnsWrong : ChangeSpec := { name := "faultColumns", fn := fun _ => fun
  | [d1, d2] => { results := [.lit (.bool false)], args := [d1, d2] }
  | _ => none }
def FaultColumnsWrongFalsely : Prop := faultColumnsRow.holds Tryd.pinned (OpenSpec.ofChange faultColumnsWrong)

/- THE SECOND FORM. 'bulk': how many values and letters a reading holds, each counted each time it is reached (what is shared counts as often as it is met; a slice's spare places count too). A statement '..UptoSaid' is the law's where the arguments, and the package variables that the reading takes, are together of bulk at most 1048576: NARROWER than '..Said'. Prove '..Said' where nothing that the law and all that it calls make is longer than what came in: it says more and counts as full. Else prove '..UptoSaid'. A law counts once. -/
mutual
def uptoBulk {H : Type} : DataW H → Nat
  | .lit (.string bytes) => bytes.length + 1
  | .lit _ => 1
  | .nil => 1
  | .ptr d => uptoBulk d + 1
  | .slice elems spare => uptoBulkAll elems + uptoBulkAll spare + 1
  | .agg parts => uptoBulkAll parts + 1
  | .iface _ d => uptoBulk d + 1
  | .map entries => uptoBulkEntries entries + 1
  | .held _ => 1
def uptoBulkAll {H : Type} : List (DataW H) → Nat
  | [] => 0
  | d :: r => uptoBulk d + uptoBulkAll r
def uptoBulkEntries {H : Type} : List (Lit × DataW H) → Nat
  | [] => 0
  | x :: r => uptoBulkEntry x + uptoBulkEntries r
def uptoBulkEntry {H : Type} : Lit × DataW H → Nat
  | (.string bytes, d) => bytes.length + uptoBulk d + 1
  | (_, d) => uptoBulk d + 1
 end
def uptoSmall : (H : Type) → List (DataW H) → Bool := fun _ ds => decide (uptoBulkAll ds ≤ 1048576)
def OpenSpec.upto (s : _root_.Go.ChangeSpec) : _root_.Go.OpenSpec := { _root_.Go.OpenSpec.ofChange s with cond := some uptoSmall }

/-- 'arraylanglaw07.FaultWords', WHERE WHAT IT READS IS OF BULK AT MOST 1048576: true; the input reads as it did. -/
def faultWordsUptoRow : OpenClaim := { program := "ytppmfndfgafnhaadoor", sum := "1cca157deb934e2e3ccf6598e8add9410a02a9c597bf83b9d66cdcd208ef231c", func := "arraylang/arraylanglaw07.FaultWords", spec := "faultWords", inPlace := ["internal/bytealg.CountString", "internal/bytealg.IndexByteString", "internal/bytealg.IndexString", "internal/abi.NoEscape"], named := ["arraylang/fault.words", "internal/bytealg.MaxLen", "internal/strconv.uint64pow10", "math/bits.deBruijn32tab", "math/bits.deBruijn64tab"], apart := false, laid := [("math/bits.deBruijn32tab", laid_math_bits_deBruijn32tab), ("math/bits.deBruijn64tab", laid_math_bits_deBruijn64tab), ("internal/strconv.uint64pow10", laid_internal_strconv_uint64pow10), ("arraylang/fault.words", laid_arraylang_fault_words)], narrowed := true }
def FaultWordsUptoSaid : Prop := faultWordsUptoRow.holds Tryd.pinned (OpenSpec.upto faultWordsSpec)

/-- 'arraylanglaw07.FaultPlaces', WHERE WHAT IT READS IS OF BULK AT MOST 1048576: true; the input reads as it did. -/
def faultPlacesUptoRow : OpenClaim := { program := "ytppmfndfgafnhaadoor", sum := "1cca157deb934e2e3ccf6598e8add9410a02a9c597bf83b9d66cdcd208ef231c", func := "arraylang/arraylanglaw07.FaultPlaces", spec := "faultPlaces", inPlace := ["internal/bytealg.CountString", "internal/bytealg.IndexByteString", "internal/bytealg.IndexString", "internal/abi.NoEscape"], named := ["internal/bytealg.MaxLen", "internal/strconv.uint64pow10", "math/bits.deBruijn32tab", "math/bits.deBruijn64tab", "arraylang/fault.words"], apart := false, laid := [("math/bits.deBruijn32tab", laid_math_bits_deBruijn32tab), ("math/bits.deBruijn64tab", laid_math_bits_deBruijn64tab), ("internal/strconv.uint64pow10", laid_internal_strconv_uint64pow10), ("arraylang/fault.words", laid_arraylang_fault_words)], narrowed := true }
def FaultPlacesUptoSaid : Prop := faultPlacesUptoRow.holds Tryd.pinned (OpenSpec.upto faultPlacesSpec)

/-- 'arraylanglaw07.FaultShows', WHERE WHAT IT READS IS OF BULK AT MOST 1048576: true; the input reads as it did. -/
def faultShowsUptoRow : OpenClaim := { program := "ytppmfndfgafnhaadoor", sum := "1cca157deb934e2e3ccf6598e8add9410a02a9c597bf83b9d66cdcd208ef231c", func := "arraylang/arraylanglaw07.FaultShows", spec := "faultShows", inPlace := ["internal/bytealg.CountString", "internal/bytealg.IndexByteString", "internal/bytealg.IndexString", "internal/abi.NoEscape"], recurses := true, named := ["internal/bytealg.MaxLen", "internal/strconv.uint64pow10", "math/bits.deBruijn32tab", "math/bits.deBruijn64tab", "arraylang/fault.words"], apart := false, laid := [("math/bits.deBruijn32tab", laid_math_bits_deBruijn32tab), ("math/bits.deBruijn64tab", laid_math_bits_deBruijn64tab), ("internal/strconv.uint64pow10", laid_internal_strconv_uint64pow10), ("arraylang/fault.words", laid_arraylang_fault_words)], narrowed := true }
def FaultShowsUptoSaid : Prop := faultShowsUptoRow.holds Tryd.pinned (OpenSpec.upto faultShowsSpec)

/-- 'arraylanglaw07.FaultEquals', WHERE WHAT IT READS IS OF BULK AT MOST 1048576: true; the input reads as it did. -/
def faultEqualsUptoRow : OpenClaim := { program := "ytppmfndfgafnhaadoor", sum := "1cca157deb934e2e3ccf6598e8add9410a02a9c597bf83b9d66cdcd208ef231c", func := "arraylang/arraylanglaw07.FaultEquals", spec := "faultEquals", inPlace := ["internal/bytealg.CountString", "internal/bytealg.IndexByteString", "internal/bytealg.IndexString", "internal/abi.NoEscape"], named := ["internal/bytealg.MaxLen", "internal/strconv.uint64pow10", "math/bits.deBruijn32tab", "math/bits.deBruijn64tab", "arraylang/fault.words"], apart := false, laid := [("math/bits.deBruijn32tab", laid_math_bits_deBruijn32tab), ("math/bits.deBruijn64tab", laid_math_bits_deBruijn64tab), ("internal/strconv.uint64pow10", laid_internal_strconv_uint64pow10), ("arraylang/fault.words", laid_arraylang_fault_words)], narrowed := true }
def FaultEqualsUptoSaid : Prop := faultEqualsUptoRow.holds Tryd.pinned (OpenSpec.upto faultEqualsSpec)

/-- 'arraylanglaw07.FaultColumns', WHERE WHAT IT READS IS OF BULK AT MOST 1048576: true; the input reads as it did. -/
def faultColumnsUptoRow : OpenClaim := { program := "ytppmfndfgafnhaadoor", sum := "1cca157deb934e2e3ccf6598e8add9410a02a9c597bf83b9d66cdcd208ef231c", func := "arraylang/arraylanglaw07.FaultColumns", spec := "faultColumns", inPlace := ["internal/bytealg.CountString", "internal/bytealg.IndexByteString", "internal/bytealg.IndexString", "internal/abi.NoEscape"], named := ["internal/bytealg.MaxLen", "internal/strconv.uint64pow10", "math/bits.deBruijn32tab", "math/bits.deBruijn64tab", "arraylang/fault.words"], apart := false, laid := [("math/bits.deBruijn32tab", laid_math_bits_deBruijn32tab), ("math/bits.deBruijn64tab", laid_math_bits_deBruijn64tab), ("internal/strconv.uint64pow10", laid_internal_strconv_uint64pow10), ("arraylang/fault.words", laid_arraylang_fault_words)], narrowed := true }
def FaultColumnsUptoSaid : Prop := faultColumnsUptoRow.holds Tryd.pinned (OpenSpec.upto faultColumnsSpec)

end Rows
end Go.Proofs.YtppmfndfgafnhaaDoor
