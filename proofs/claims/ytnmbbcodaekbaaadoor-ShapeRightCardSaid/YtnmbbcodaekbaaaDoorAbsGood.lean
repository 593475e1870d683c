/-
  The package-level tables that the library's contracts read in this program.
-/
import Derived.WalkKit
import Derived.Lib.ItoaNum
namespace Go.Abs

/-- The block of each table, and what it holds. -/
def goodTab : List (Nat × List Value) := [(0, Lib.pow10Tab.map fun z => Value.int .u64 z)]
end Go.Abs
