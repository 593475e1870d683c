/-
  The package-level tables that the library's contracts read in this program.
-/
import Derived.WalkKit
import Derived.Lib.ItoaNum
namespace Go.Abs

/-- The block of each table, and what it holds. -/
def goodTab : List (Nat × List Value) := [(2, Lib.pow10Tab.map fun z => Value.int .u64 z), (0, [.string ⟨#[111, 107]⟩, .string ⟨#[97, 114, 103]⟩, .string ⟨#[108, 111, 110, 103]⟩, .string ⟨#[99, 104, 97, 114]⟩, .string ⟨#[110, 117, 109, 98, 101, 114]⟩, .string ⟨#[115, 116, 114, 105, 110, 103]⟩, .string ⟨#[116, 111, 107, 101, 110]⟩, .string ⟨#[101, 110, 100]⟩, .string ⟨#[100, 101, 101, 112]⟩, .string ⟨#[110, 97, 109, 101]⟩, .string ⟨#[100, 117, 112, 108, 105, 99, 97, 116, 101]⟩, .string ⟨#[99, 108, 97, 115, 115]⟩, .string ⟨#[114, 101, 115, 117, 108, 116]⟩, .string ⟨#[118, 97, 108, 101, 110, 99, 101]⟩, .string ⟨#[107, 105, 110, 100]⟩, .string ⟨#[114, 97, 110, 107]⟩, .string ⟨#[108, 101, 110, 103, 116, 104]⟩, .string ⟨#[100, 111, 109, 97, 105, 110]⟩, .string ⟨#[105, 110, 100, 101, 120]⟩, .string ⟨#[111, 118, 101, 114, 102, 108, 111, 119]⟩, .string ⟨#[122, 101, 114, 111]⟩, .string ⟨#[108, 105, 109, 105, 116]⟩, .string ⟨#[99, 97, 108, 108, 115]⟩, .string ⟨#[115, 116, 101, 112, 115]⟩, .string ⟨#[109, 101, 109, 111, 114, 121]⟩, .string ⟨#[102, 111, 114, 109]⟩, .string ⟨#[99, 111, 100, 101]⟩, .string ⟨#[115, 117, 109]⟩, .string ⟨#[110, 111, 116, 102, 111, 117, 110, 100]⟩])]
theorem goodOk : (goodTab.all fun p => p.2.all (·.oneCell')) = true := by decide
end Go.Abs
