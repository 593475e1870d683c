/-
  The package-level tables that the library's contracts read in this program.
-/
import Derived.WalkKit
import Derived.Lib.ItoaNum
namespace Go.Abs

/-- The block of each table, and what it holds. -/
def goodTab : List (Nat × List Value) := [(1, Lib.pow10Tab.map fun z => Value.int .u64 z)]
theorem goodOk : (goodTab.all fun p => p.2.all (·.oneCell')) = true := by decide
end Go.Abs
