/-
  Small helpers of the laws.
-/
import Derived.Test.YtncglcfhbhbaoaaW13
set_option linter.unusedSimpArgs false
set_option linter.unusedVariables false
set_option maxRecDepth 100000
set_option maxHeartbeats 4000000
namespace Go.Proofs.Ytncglcfhbhbaoaa
open Go.Abs Go

@[go_sem] def rArr (a : Arr) : Res := .one (.agg ((eArr a).map .d))
theorem ints28 (l : List Int) (hl : Len l) : Gives Try.prog 28 [.c (.sl (eInts l))] (rArr (.mk 1 [(l.length : Int)] l [])) := by
  rw [rArr, eArr_eq]
  refine Gives.intro Try.tyOk Try.func28 (by kernel_rfl) rfl (by simp [Try.ntmps28]) ?_
  simp only [go_sem, ↓reduceIte, Nat.reduceEqDiff, Nat.reduceAdd, Nat.reduceLeDiff, Nat.reduceMul, Nat.reducePow, Nat.reduceLT, Nat.reduceSub, Int.reduceEq, Int.reduceLT, Int.reduceLE, Int.reduceNeg, Int.reduceToNat, Int.cast_ofNat_Int]
  simp only [Try.ntmps28, Try.results28, eInt, eStr, rBool, rInt, rStr, rTwo, rThree, rDC, List.map_cons, List.map_nil]
  generalize hBQ : retQ _ _ _ = BQ
  iterate 2 (refine wpL_region Try.tyOk (by decide) ?_; simp only [go_sem, ↓reduceIte, Nat.reduceEqDiff, Nat.reduceAdd, Nat.reduceLeDiff, Nat.reduceMul, Nat.reducePow, Nat.reduceLT, Nat.reduceSub, Int.reduceEq, Int.reduceLT, Int.reduceLE, Int.reduceNeg, Int.reduceToNat, Int.cast_ofNat_Int])
  refine wpL_ret ?_
  rw [← hBQ]
  try simp only [go_sem, ↓reduceIte, Nat.reduceEqDiff, Nat.reduceAdd, Nat.reduceLeDiff, Nat.reduceMul, Nat.reducePow, Nat.reduceLT, Nat.reduceSub, Int.reduceEq, Int.reduceLT, Int.reduceLE, Int.reduceNeg, Int.reduceToNat, Int.cast_ofNat_Int]
  exact ⟨rfl, rfl, rfl, rfl⟩
end Go.Proofs.Ytncglcfhbhbaoaa
