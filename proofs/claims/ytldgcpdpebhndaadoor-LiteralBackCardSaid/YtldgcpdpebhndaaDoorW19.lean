/-
  Literals: the examples.
-/
import Derived.Test.YtldgcpdpebhndaaDoorW18
set_option linter.unusedSimpArgs false
set_option linter.unusedVariables false
set_option maxRecDepth 100000
set_option maxHeartbeats 4000000
namespace Go.Proofs.YtldgcpdpebhndaaDoor
open Go.Abs Go

theorem x1 : unqS ⟨#[34, 120, 92, 117, 123, 52, 49, 125, 34, 32, 43, 32, 49]⟩ = (⟨#[120, 65]⟩, 9, 0) := by kernel_rfl
theorem x2 : unqS ⟨#[34, 97, 98]⟩ = (⟨#[]⟩, 0, 5) := by kernel_rfl
theorem x3 : unqS ⟨#[34, 92, 113, 34]⟩ = (⟨#[]⟩, 0, 3) := by kernel_rfl
theorem x4 : runeS ⟨#[39, 92, 110, 39, 120]⟩ = (10, 4, 0) := by kernel_rfl
theorem x5 : runeS ⟨#[39, 97, 98, 39]⟩ = (0, 0, 5) := by kernel_rfl
theorem x6 : quoteS ⟨#[97, 10, 34]⟩ = ⟨#[34, 97, 92, 110, 92, 34, 34]⟩ := by kernel_rfl
theorem x7 : showS 127 = ⟨#[39, 92, 117, 123, 55, 102, 125, 39]⟩ := by kernel_rfl
theorem x8 : showS 34 = ⟨#[39, 34, 39]⟩ := by kernel_rfl
theorem lives6 : Gives Tryd.prog 6 [] (rBool true) := by
  have e1 := unq14 ⟨#[34, 120, 92, 117, 123, 52, 49, 125, 34, 32, 43, 32, 49]⟩ (by decide)
  have e2 := unq14 ⟨#[34, 97, 98]⟩ (by decide)
  have e3 := unq14 ⟨#[34, 92, 113, 34]⟩ (by decide)
  have e4 := rune12 ⟨#[39, 92, 110, 39, 120]⟩ (by decide)
  have e5 := rune12 ⟨#[39, 97, 98, 39]⟩ (by decide)
  have e6 := quote7 ⟨#[97, 10, 34]⟩ (by decide)
  have e7 := show9 127 (by decide) (by decide)
  have e8 := show9 34 (by decide) (by decide)
  rw [x1] at e1
  rw [x2] at e2
  rw [x3] at e3
  rw [x4] at e4
  rw [x5] at e5
  rw [x6] at e6
  rw [x7] at e7
  rw [x8] at e8
  refine Gives.intro Tryd.tyOk Tryd.func6 (by kernel_rfl) rfl (by simp [Tryd.ntmps6]) ?_
  simp only [go_sem, ↓reduceIte, Nat.reduceEqDiff, Nat.reduceAdd, Nat.reduceLeDiff, Nat.reduceMul, Nat.reducePow, Nat.reduceLT, Nat.reduceSub, Int.reduceEq, Int.reduceLT, Int.reduceLE, Int.reduceNeg, Int.reduceToNat, Int.cast_ofNat_Int]
  simp only [Tryd.ntmps6, Tryd.results6, eInt, eRune, eByte, eStr, rBool, rInt, rStr, rTwo, rTrip, rUnq, List.map_cons, List.map_nil]
  generalize hBQ : retQ _ _ _ = BQ
  iterate 2 (refine wpL_region Tryd.tyOk (by decide) ?_; simp only [go_sem, ↓reduceIte, Nat.reduceEqDiff, Nat.reduceAdd, Nat.reduceLeDiff, Nat.reduceMul, Nat.reducePow, Nat.reduceLT, Nat.reduceSub, Int.reduceEq, Int.reduceLT, Int.reduceLE, Int.reduceNeg, Int.reduceToNat, Int.cast_ofNat_Int])
  refine ⟨_, e1, ?_⟩
  simp only [go_sem, ↓reduceIte, Nat.reduceEqDiff, Nat.reduceAdd, Nat.reduceLeDiff, Nat.reduceMul, Nat.reducePow, Nat.reduceLT, Nat.reduceSub, Int.reduceEq, Int.reduceLT, Int.reduceLE, Int.reduceNeg, Int.reduceToNat, Int.cast_ofNat_Int]
  refine wpL_region Tryd.tyOk (by decide) ?_
  simp only [go_sem, ↓reduceIte, Nat.reduceEqDiff, Nat.reduceAdd, Nat.reduceLeDiff, Nat.reduceMul, Nat.reducePow, Nat.reduceLT, Nat.reduceSub, Int.reduceEq, Int.reduceLT, Int.reduceLE, Int.reduceNeg, Int.reduceToNat, Int.cast_ofNat_Int]
  refine ⟨_, e2, ?_⟩
  simp only [go_sem, ↓reduceIte, Nat.reduceEqDiff, Nat.reduceAdd, Nat.reduceLeDiff, Nat.reduceMul, Nat.reducePow, Nat.reduceLT, Nat.reduceSub, Int.reduceEq, Int.reduceLT, Int.reduceLE, Int.reduceNeg, Int.reduceToNat, Int.cast_ofNat_Int]
  refine wpL_region Tryd.tyOk (by decide) ?_
  simp only [go_sem, ↓reduceIte, Nat.reduceEqDiff, Nat.reduceAdd, Nat.reduceLeDiff, Nat.reduceMul, Nat.reducePow, Nat.reduceLT, Nat.reduceSub, Int.reduceEq, Int.reduceLT, Int.reduceLE, Int.reduceNeg, Int.reduceToNat, Int.cast_ofNat_Int]
  refine ⟨_, e3, ?_⟩
  simp only [go_sem, ↓reduceIte, Nat.reduceEqDiff, Nat.reduceAdd, Nat.reduceLeDiff, Nat.reduceMul, Nat.reducePow, Nat.reduceLT, Nat.reduceSub, Int.reduceEq, Int.reduceLT, Int.reduceLE, Int.reduceNeg, Int.reduceToNat, Int.cast_ofNat_Int]
  refine wpL_region Tryd.tyOk (by decide) ?_
  simp only [go_sem, ↓reduceIte, Nat.reduceEqDiff, Nat.reduceAdd, Nat.reduceLeDiff, Nat.reduceMul, Nat.reducePow, Nat.reduceLT, Nat.reduceSub, Int.reduceEq, Int.reduceLT, Int.reduceLE, Int.reduceNeg, Int.reduceToNat, Int.cast_ofNat_Int]
  refine ⟨_, e4, ?_⟩
  simp only [go_sem, ↓reduceIte, Nat.reduceEqDiff, Nat.reduceAdd, Nat.reduceLeDiff, Nat.reduceMul, Nat.reducePow, Nat.reduceLT, Nat.reduceSub, Int.reduceEq, Int.reduceLT, Int.reduceLE, Int.reduceNeg, Int.reduceToNat, Int.cast_ofNat_Int]
  refine wpL_region Tryd.tyOk (by decide) ?_
  simp only [go_sem, ↓reduceIte, Nat.reduceEqDiff, Nat.reduceAdd, Nat.reduceLeDiff, Nat.reduceMul, Nat.reducePow, Nat.reduceLT, Nat.reduceSub, Int.reduceEq, Int.reduceLT, Int.reduceLE, Int.reduceNeg, Int.reduceToNat, Int.cast_ofNat_Int]
  refine ⟨_, e5, ?_⟩
  simp only [go_sem, ↓reduceIte, Nat.reduceEqDiff, Nat.reduceAdd, Nat.reduceLeDiff, Nat.reduceMul, Nat.reducePow, Nat.reduceLT, Nat.reduceSub, Int.reduceEq, Int.reduceLT, Int.reduceLE, Int.reduceNeg, Int.reduceToNat, Int.cast_ofNat_Int]
  refine wpL_weaken (s' := ⟨[(1, .c (.d (.sc (.string ⟨#[120, 65]⟩)))), (2, sint .i64 9), (3, sint .i64 0), (6, sint .i64 5), (9, sint .i64 3), (10, sint .i32 10), (11, sint .i64 4), (12, sint .i64 0), (15, sint .i64 5)], []⟩) ?_ ?_
  · refine le_mk ?_ ?_ ?_ <;> (simp only [go_sem, ↓reduceIte, Nat.reduceEqDiff]; try simp [eInt, eRune, eByte, eStr, rBool, rInt, rStr, rTwo, rTrip, rUnq, eInt]; try simp (disch := omega) only [IntWalk.i64_in, and_self])
  have q1 : (ByteArray.toList ⟨#[34, 97, 92, 110, 92, 34, 34]⟩ == ByteArray.toList ⟨#[34, 97, 92, 110, 92, 34, 34]⟩) = true := by simp
  have q2 : (ByteArray.toList ⟨#[120, 65]⟩ == ByteArray.toList ⟨#[120, 65]⟩) = true := by simp
  refine wpL_region Tryd.tyOk (by decide) ?_
  simp only [go_sem, ↓reduceIte, Nat.reduceEqDiff, Nat.reduceAdd, Nat.reduceLeDiff, Nat.reduceMul, Nat.reducePow, Nat.reduceLT, Nat.reduceSub, Int.reduceEq, Int.reduceLT, Int.reduceLE, Int.reduceNeg, Int.reduceToNat, Int.cast_ofNat_Int, q1, q2]
  refine ⟨_, e6, ?_⟩
  simp only [go_sem, ↓reduceIte, Nat.reduceEqDiff, Nat.reduceAdd, Nat.reduceLeDiff, Nat.reduceMul, Nat.reducePow, Nat.reduceLT, Nat.reduceSub, Int.reduceEq, Int.reduceLT, Int.reduceLE, Int.reduceNeg, Int.reduceToNat, Int.cast_ofNat_Int, q1, q2]
  have q3 : (ByteArray.toList ⟨#[39, 92, 117, 123, 55, 102, 125, 39]⟩ == ByteArray.toList ⟨#[39, 92, 117, 123, 55, 102, 125, 39]⟩) = true := by simp
  have q4 : (ByteArray.toList ⟨#[39, 34, 39]⟩ == ByteArray.toList ⟨#[39, 34, 39]⟩) = true := by simp
  refine ⟨_, e7, ?_⟩
  simp only [go_sem, ↓reduceIte, Nat.reduceEqDiff, Nat.reduceAdd, Nat.reduceLeDiff, Nat.reduceMul, Nat.reducePow, Nat.reduceLT, Nat.reduceSub, Int.reduceEq, Int.reduceLT, Int.reduceLE, Int.reduceNeg, Int.reduceToNat, Int.cast_ofNat_Int, q3]
  refine ⟨_, e8, ?_⟩
  simp only [go_sem, ↓reduceIte, Nat.reduceEqDiff, Nat.reduceAdd, Nat.reduceLeDiff, Nat.reduceMul, Nat.reducePow, Nat.reduceLT, Nat.reduceSub, Int.reduceEq, Int.reduceLT, Int.reduceLE, Int.reduceNeg, Int.reduceToNat, Int.cast_ofNat_Int, q4]
  refine wpL_ret ?_
  rw [← hBQ]
  try simp only [go_sem, ↓reduceIte, Nat.reduceEqDiff]
end Go.Proofs.YtldgcpdpebhndaaDoor
