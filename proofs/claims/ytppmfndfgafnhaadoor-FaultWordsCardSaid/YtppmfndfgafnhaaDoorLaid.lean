/-
  What the list of tables gives, and a world for the witnesses.
-/
import Derived.Test.YtppmfndfgafnhaaDoorW4
import Derived.Test.YtppmfndfgafnhaaDoorRows
import Derived.Test.YtppmfndfgafnhaaDoorAbsW
import Derived.ProofKit
import Derived.OpenShut
import Derived.Deep.DeepHandedRow
import Derived.Lib.LaidTab
set_option linter.unusedSimpArgs false
set_option linter.unusedVariables false
set_option maxRecDepth 100000
namespace Go.Proofs.YtppmfndfgafnhaaDoor
open Go.Abs Go Go.ChangeShapes Go.WideShapes Go.ChangeAt Go.RowKit

theorem own : ownKnob Tryd.prog.godebug = none := by kernel_rfl
theorem laid : laidOutB Tryd.prog = true := by kernel_rfl
def Lty : List TypeId := [3, 9, 23, 29, 31]
theorem plain : plainSet Tryd.prog Lty = true := by kernel_rfl

theorem gTab2 : Tryd.prog.globalNamed "internal/strconv.uint64pow10" = some 2 := by kernel_rfl
theorem gTabType2 : (Tryd.prog.globals[2]?).map (·.type) = some 67 := by kernel_rfl
theorem table2 {W : World} (h : laidMetH Tryd.prog Rows.faultWordsRow.laid W) : W.var? Tryd.prog "internal/strconv.uint64pow10" = some (Lib.pow10Tab.map fun z => Value.int .u64 z).toArray := by
  have h0 : laidMet Tryd.prog Rows.faultWordsRow.laid W := h
  obtain ⟨ps, ⟨_, _, _, _, _, _, _, _, _, _, ⟨_, _, _, _, _, _, _, _, _, _, ⟨g', t', cs, fuel, p, q, hg', ht', hvar, hd, _, _⟩, _⟩, _⟩, _⟩ := h0
  obtain rfl := Option.some.inj (gTab2.symm.trans hg')
  obtain rfl := Option.some.inj (gTabType2.symm.trans ht')
  have hc : cs.toList = Lib.pow10Tab.map fun z => Value.int .u64 z := Lib.cells_of_tab (zs := Lib.pow10Tab) Tryd.underlying67 Tryd.underlying57 (by kernel_rfl) (by kernel_rfl) hd
  rw [hvar, ← hc]

theorem gTab0 : Tryd.prog.globalNamed "arraylang/fault.words" = some 0 := by kernel_rfl
theorem gTabType0 : (Tryd.prog.globals[0]?).map (·.type) = some 35 := by kernel_rfl
theorem table0 {W : World} (h : laidMetH Tryd.prog Rows.faultWordsRow.laid W) : W.var? Tryd.prog "arraylang/fault.words" = some ([.string ⟨#[111, 107]⟩, .string ⟨#[97, 114, 103]⟩, .string ⟨#[108, 111, 110, 103]⟩, .string ⟨#[99, 104, 97, 114]⟩, .string ⟨#[110, 117, 109, 98, 101, 114]⟩, .string ⟨#[115, 116, 114, 105, 110, 103]⟩, .string ⟨#[116, 111, 107, 101, 110]⟩, .string ⟨#[101, 110, 100]⟩, .string ⟨#[100, 101, 101, 112]⟩, .string ⟨#[110, 97, 109, 101]⟩, .string ⟨#[100, 117, 112, 108, 105, 99, 97, 116, 101]⟩, .string ⟨#[99, 108, 97, 115, 115]⟩, .string ⟨#[114, 101, 115, 117, 108, 116]⟩, .string ⟨#[118, 97, 108, 101, 110, 99, 101]⟩, .string ⟨#[107, 105, 110, 100]⟩, .string ⟨#[114, 97, 110, 107]⟩, .string ⟨#[108, 101, 110, 103, 116, 104]⟩, .string ⟨#[100, 111, 109, 97, 105, 110]⟩, .string ⟨#[105, 110, 100, 101, 120]⟩, .string ⟨#[111, 118, 101, 114, 102, 108, 111, 119]⟩, .string ⟨#[122, 101, 114, 111]⟩, .string ⟨#[108, 105, 109, 105, 116]⟩, .string ⟨#[99, 97, 108, 108, 115]⟩, .string ⟨#[115, 116, 101, 112, 115]⟩, .string ⟨#[109, 101, 109, 111, 114, 121]⟩, .string ⟨#[102, 111, 114, 109]⟩, .string ⟨#[99, 111, 100, 101]⟩, .string ⟨#[115, 117, 109]⟩, .string ⟨#[110, 111, 116, 102, 111, 117, 110, 100]⟩]).toArray := by
  have h0 : laidMet Tryd.prog Rows.faultWordsRow.laid W := h
  obtain ⟨ps, ⟨_, _, _, _, _, _, _, _, _, _, ⟨_, _, _, _, _, _, _, _, _, _, ⟨_, _, _, _, _, _, _, _, _, _, ⟨g', t', cs, fuel, p, q, hg', ht', hvar, hd, _, _⟩, _⟩, _⟩, _⟩, _⟩ := h0
  obtain rfl := Option.some.inj (gTab0.symm.trans hg')
  obtain rfl := Option.some.inj (gTabType0.symm.trans ht')
  have hc : cs.toList = [.string ⟨#[111, 107]⟩, .string ⟨#[97, 114, 103]⟩, .string ⟨#[108, 111, 110, 103]⟩, .string ⟨#[99, 104, 97, 114]⟩, .string ⟨#[110, 117, 109, 98, 101, 114]⟩, .string ⟨#[115, 116, 114, 105, 110, 103]⟩, .string ⟨#[116, 111, 107, 101, 110]⟩, .string ⟨#[101, 110, 100]⟩, .string ⟨#[100, 101, 101, 112]⟩, .string ⟨#[110, 97, 109, 101]⟩, .string ⟨#[100, 117, 112, 108, 105, 99, 97, 116, 101]⟩, .string ⟨#[99, 108, 97, 115, 115]⟩, .string ⟨#[114, 101, 115, 117, 108, 116]⟩, .string ⟨#[118, 97, 108, 101, 110, 99, 101]⟩, .string ⟨#[107, 105, 110, 100]⟩, .string ⟨#[114, 97, 110, 107]⟩, .string ⟨#[108, 101, 110, 103, 116, 104]⟩, .string ⟨#[100, 111, 109, 97, 105, 110]⟩, .string ⟨#[105, 110, 100, 101, 120]⟩, .string ⟨#[111, 118, 101, 114, 102, 108, 111, 119]⟩, .string ⟨#[122, 101, 114, 111]⟩, .string ⟨#[108, 105, 109, 105, 116]⟩, .string ⟨#[99, 97, 108, 108, 115]⟩, .string ⟨#[115, 116, 101, 112, 115]⟩, .string ⟨#[109, 101, 109, 111, 114, 121]⟩, .string ⟨#[102, 111, 114, 109]⟩, .string ⟨#[99, 111, 100, 101]⟩, .string ⟨#[115, 117, 109]⟩, .string ⟨#[110, 111, 116, 102, 111, 117, 110, 100]⟩] := cells_of_strs (ss := [[111, 107], [97, 114, 103], [108, 111, 110, 103], [99, 104, 97, 114], [110, 117, 109, 98, 101, 114], [115, 116, 114, 105, 110, 103], [116, 111, 107, 101, 110], [101, 110, 100], [100, 101, 101, 112], [110, 97, 109, 101], [100, 117, 112, 108, 105, 99, 97, 116, 101], [99, 108, 97, 115, 115], [114, 101, 115, 117, 108, 116], [118, 97, 108, 101, 110, 99, 101], [107, 105, 110, 100], [114, 97, 110, 107], [108, 101, 110, 103, 116, 104], [100, 111, 109, 97, 105, 110], [105, 110, 100, 101, 120], [111, 118, 101, 114, 102, 108, 111, 119], [122, 101, 114, 111], [108, 105, 109, 105, 116], [99, 97, 108, 108, 115], [115, 116, 101, 112, 115], [109, 101, 109, 111, 114, 121], [102, 111, 114, 109], [99, 111, 100, 101], [115, 117, 109], [110, 111, 116, 102, 111, 117, 110, 100]]) Tryd.underlying35 Tryd.underlying9 (by kernel_rfl) (by kernel_rfl) hd
  rw [hvar, ← hc]

theorem good {W : World} (h : laidMetH Tryd.prog Rows.faultWordsRow.laid W) : TabGood (fun _ _ => True) W := by
  intro p hp
  simp only [goodTab, List.mem_cons, List.mem_singleton, List.not_mem_nil, or_false] at hp
  rcases hp with rfl | rfl
  · exact ⟨fun _ _ => trivial, good_of_var gTab2 (table2 h)⟩
  · exact ⟨fun _ _ => trivial, good_of_var gTab0 (table0 h)⟩


noncomputable def laidWorld (os : Os) : World :=
  let w0 := World.holding Tryd.prog os ⟨#[], #[], []⟩
  { w0 with heap := ((((w0.heap).modify 3 fun
      | .cells _ t frozen => .cells #[.int .u8 0, .int .u8 1, .int .u8 28, .int .u8 2, .int .u8 29, .int .u8 14, .int .u8 24, .int .u8 3, .int .u8 30, .int .u8 22, .int .u8 20, .int .u8 15, .int .u8 25, .int .u8 17, .int .u8 4, .int .u8 8, .int .u8 31, .int .u8 27, .int .u8 13, .int .u8 23, .int .u8 21, .int .u8 19, .int .u8 16, .int .u8 7, .int .u8 26, .int .u8 12, .int .u8 18, .int .u8 6, .int .u8 11, .int .u8 5, .int .u8 10, .int .u8 9] t frozen
      | o => o).modify 4 fun
      | .cells _ t frozen => .cells #[.int .u8 0, .int .u8 1, .int .u8 56, .int .u8 2, .int .u8 57, .int .u8 49, .int .u8 28, .int .u8 3, .int .u8 61, .int .u8 58, .int .u8 42, .int .u8 50, .int .u8 38, .int .u8 29, .int .u8 17, .int .u8 4, .int .u8 62, .int .u8 47, .int .u8 59, .int .u8 36, .int .u8 45, .int .u8 43, .int .u8 51, .int .u8 22, .int .u8 53, .int .u8 39, .int .u8 33, .int .u8 30, .int .u8 24, .int .u8 18, .int .u8 12, .int .u8 5, .int .u8 63, .int .u8 55, .int .u8 48, .int .u8 27, .int .u8 60, .int .u8 41, .int .u8 37, .int .u8 16, .int .u8 46, .int .u8 35, .int .u8 44, .int .u8 21, .int .u8 52, .int .u8 32, .int .u8 23, .int .u8 11, .int .u8 54, .int .u8 26, .int .u8 40, .int .u8 15, .int .u8 34, .int .u8 20, .int .u8 31, .int .u8 10, .int .u8 25, .int .u8 14, .int .u8 19, .int .u8 9, .int .u8 13, .int .u8 8, .int .u8 7, .int .u8 6] t frozen
      | o => o).modify 2 fun
      | .cells _ t frozen => .cells #[.int .u64 1, .int .u64 10, .int .u64 100, .int .u64 1000, .int .u64 10000, .int .u64 100000, .int .u64 1000000, .int .u64 10000000, .int .u64 100000000, .int .u64 1000000000, .int .u64 10000000000, .int .u64 100000000000, .int .u64 1000000000000, .int .u64 10000000000000, .int .u64 100000000000000, .int .u64 1000000000000000, .int .u64 10000000000000000, .int .u64 100000000000000000, .int .u64 1000000000000000000, .int .u64 10000000000000000000] t frozen
      | o => o).modify 0 fun
      | .cells _ t frozen => .cells #[.string ⟨#[111, 107]⟩, .string ⟨#[97, 114, 103]⟩, .string ⟨#[108, 111, 110, 103]⟩, .string ⟨#[99, 104, 97, 114]⟩, .string ⟨#[110, 117, 109, 98, 101, 114]⟩, .string ⟨#[115, 116, 114, 105, 110, 103]⟩, .string ⟨#[116, 111, 107, 101, 110]⟩, .string ⟨#[101, 110, 100]⟩, .string ⟨#[100, 101, 101, 112]⟩, .string ⟨#[110, 97, 109, 101]⟩, .string ⟨#[100, 117, 112, 108, 105, 99, 97, 116, 101]⟩, .string ⟨#[99, 108, 97, 115, 115]⟩, .string ⟨#[114, 101, 115, 117, 108, 116]⟩, .string ⟨#[118, 97, 108, 101, 110, 99, 101]⟩, .string ⟨#[107, 105, 110, 100]⟩, .string ⟨#[114, 97, 110, 107]⟩, .string ⟨#[108, 101, 110, 103, 116, 104]⟩, .string ⟨#[100, 111, 109, 97, 105, 110]⟩, .string ⟨#[105, 110, 100, 101, 120]⟩, .string ⟨#[111, 118, 101, 114, 102, 108, 111, 119]⟩, .string ⟨#[122, 101, 114, 111]⟩, .string ⟨#[108, 105, 109, 105, 116]⟩, .string ⟨#[99, 97, 108, 108, 115]⟩, .string ⟨#[115, 116, 101, 112, 115]⟩, .string ⟨#[109, 101, 109, 111, 114, 121]⟩, .string ⟨#[102, 111, 114, 109]⟩, .string ⟨#[99, 111, 100, 101]⟩, .string ⟨#[115, 117, 109]⟩, .string ⟨#[110, 111, 116, 102, 111, 117, 110, 100]⟩] t frozen
      | o => o }
theorem laid_met (os : Os) (args : Array Value) : laidMet Tryd.prog Rows.faultWordsRow.laid ((laidWorld os).forCall (fun _ _ => 0) ⟨#[], args, []⟩).memory :=
  laidMet_of_run' 8 (by kernel_rfl) (by kernel_rfl)
end Go.Proofs.YtppmfndfgafnhaaDoor
