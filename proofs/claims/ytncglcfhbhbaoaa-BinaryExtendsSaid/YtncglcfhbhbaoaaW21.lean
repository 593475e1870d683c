/-
  The laws, walked.
-/
import Derived.Test.YtncglcfhbhbaoaaW20
import Derived.Test.YtncglcfhbhbaoaaAbsZB
set_option linter.unusedSimpArgs false
set_option linter.unusedVariables false
set_option maxRecDepth 100000
set_option maxHeartbeats 4000000
namespace Go.Proofs.Ytncglcfhbhbaoaa
open Go.Abs Go

theorem law3 (k a b : Int) : Gives Try.prog 3 [.c (eInt k), .c (eInt a), .c (eInt b)] (rBool true) := by
  refine Gives.intro Try.tyOk Try.func3 (by kernel_rfl) rfl (by simp [Try.ntmps3]) ?_
  simp only [go_sem, ↓reduceIte, Nat.reduceEqDiff, Nat.reduceAdd, Nat.reduceLeDiff, Nat.reduceMul, Nat.reducePow, Nat.reduceLT, Nat.reduceSub, Int.reduceEq, Int.reduceLT, Int.reduceLE, Int.reduceNeg, Int.reduceToNat, Int.cast_ofNat_Int]
  simp only [Try.ntmps3, Try.results3, eInt, eStr, rBool, rInt, rStr, rTwo, rThree, rDC, rAE, List.map_cons, List.map_nil]
  generalize hBQ : retQ _ _ _ = BQ
  iterate 2 (refine wpL_region Try.tyOk (by decide) ?_; simp only [go_sem, ↓reduceIte, Nat.reduceEqDiff, Nat.reduceAdd, Nat.reduceLeDiff, Nat.reduceMul, Nat.reducePow, Nat.reduceLT, Nat.reduceSub, Int.reduceEq, Int.reduceLT, Int.reduceLE, Int.reduceNeg, Int.reduceToNat, Int.cast_ofNat_Int])
  refine ⟨_, scalar8 k a b, ?_⟩
  simp only [go_sem, ↓reduceIte, Nat.reduceEqDiff, Nat.reduceAdd, Nat.reduceLeDiff, Nat.reduceMul, Nat.reducePow, Nat.reduceLT, Nat.reduceSub, Int.reduceEq, Int.reduceLT, Int.reduceLE, Int.reduceNeg, Int.reduceToNat, Int.cast_ofNat_Int]
  refine wpL_region Try.tyOk (by decide) ?_
  simp only [go_sem, ↓reduceIte, Nat.reduceEqDiff, Nat.reduceAdd, Nat.reduceLeDiff, Nat.reduceMul, Nat.reducePow, Nat.reduceLT, Nat.reduceSub, Int.reduceEq, Int.reduceLT, Int.reduceLE, Int.reduceNeg, Int.reduceToNat, Int.cast_ofNat_Int]
  refine ⟨_, Scalar9 k a b, ?_⟩
  simp only [go_sem, ↓reduceIte, Nat.reduceEqDiff, Nat.reduceAdd, Nat.reduceLeDiff, Nat.reduceMul, Nat.reducePow, Nat.reduceLT, Nat.reduceSub, Int.reduceEq, Int.reduceLT, Int.reduceLE, Int.reduceNeg, Int.reduceToNat, Int.cast_ofNat_Int]
  refine wpL_region Try.tyOk (by decide) ?_
  simp only [go_sem, ↓reduceIte, Nat.reduceEqDiff, Nat.reduceAdd, Nat.reduceLeDiff, Nat.reduceMul, Nat.reducePow, Nat.reduceLT, Nat.reduceSub, Int.reduceEq, Int.reduceLT, Int.reduceLE, Int.reduceNeg, Int.reduceToNat, Int.cast_ofNat_Int]
  refine ⟨_, is10 k, ?_⟩
  simp only [go_sem, ↓reduceIte, Nat.reduceEqDiff, Nat.reduceAdd, Nat.reduceLeDiff, Nat.reduceMul, Nat.reducePow, Nat.reduceLT, Nat.reduceSub, Int.reduceEq, Int.reduceLT, Int.reduceLE, Int.reduceNeg, Int.reduceToNat, Int.cast_ofNat_Int]
  refine ⟨_, is11 k, ?_⟩
  simp only [go_sem, ↓reduceIte, Nat.reduceEqDiff, Nat.reduceAdd, Nat.reduceLeDiff, Nat.reduceMul, Nat.reducePow, Nat.reduceLT, Nat.reduceSub, Int.reduceEq, Int.reduceLT, Int.reduceLE, Int.reduceNeg, Int.reduceToNat, Int.cast_ofNat_Int, decide_true, beq_self_eq_true]
  refine ⟨_, lives12, ?_⟩
  simp only [go_sem, ↓reduceIte, Nat.reduceEqDiff, Nat.reduceAdd, Nat.reduceLeDiff, Nat.reduceMul, Nat.reducePow, Nat.reduceLT, Nat.reduceSub, Int.reduceEq, Int.reduceLT, Int.reduceLE, Int.reduceNeg, Int.reduceToNat, Int.cast_ofNat_Int]
  refine wpL_ret ?_
  rw [← hBQ]
  try simp only [go_sem, ↓reduceIte, Nat.reduceEqDiff, Nat.reduceAdd, Nat.reduceLeDiff, Nat.reduceMul, Nat.reducePow, Nat.reduceLT, Nat.reduceSub, Int.reduceEq, Int.reduceLT, Int.reduceLE, Int.reduceNeg, Int.reduceToNat, Int.cast_ofNat_Int]
  try simp only [go_sem, ↓reduceIte, Nat.reduceEqDiff, Nat.reduceAdd, Nat.reduceLeDiff, Nat.reduceMul, Nat.reducePow, Nat.reduceLT, Nat.reduceSub, Int.reduceEq, Int.reduceLT, Int.reduceLE, Int.reduceNeg, Int.reduceToNat, Int.cast_ofNat_Int]
theorem law6 (a b : Int) : Gives Try.prog 6 [.c (eInt a), .c (eInt b)] (rBool true) := by
  have hl := divides_law a b
  refine Gives.intro Try.tyOk Try.func6 (by kernel_rfl) rfl (by simp [Try.ntmps6]) ?_
  simp only [go_sem, ↓reduceIte, Nat.reduceEqDiff, Nat.reduceAdd, Nat.reduceLeDiff, Nat.reduceMul, Nat.reducePow, Nat.reduceLT, Nat.reduceSub, Int.reduceEq, Int.reduceLT, Int.reduceLE, Int.reduceNeg, Int.reduceToNat, Int.cast_ofNat_Int]
  simp only [Try.ntmps6, Try.results6, eInt, eStr, rBool, rInt, rStr, rTwo, rThree, rDC, rAE, List.map_cons, List.map_nil]
  generalize hBQ : retQ _ _ _ = BQ
  iterate 2 (refine wpL_region Try.tyOk (by decide) ?_; simp only [go_sem, ↓reduceIte, Nat.reduceEqDiff, Nat.reduceAdd, Nat.reduceLeDiff, Nat.reduceMul, Nat.reducePow, Nat.reduceLT, Nat.reduceSub, Int.reduceEq, Int.reduceLT, Int.reduceLE, Int.reduceNeg, Int.reduceToNat, Int.cast_ofNat_Int])
  refine ⟨_, scalar8 4 a b, ?_⟩
  simp only [go_sem, ↓reduceIte, Nat.reduceEqDiff, Nat.reduceAdd, Nat.reduceLeDiff, Nat.reduceMul, Nat.reducePow, Nat.reduceLT, Nat.reduceSub, Int.reduceEq, Int.reduceLT, Int.reduceLE, Int.reduceNeg, Int.reduceToNat, Int.cast_ofNat_Int]
  refine wpL_region Try.tyOk (by decide) ?_
  simp only [go_sem, ↓reduceIte, Nat.reduceEqDiff, Nat.reduceAdd, Nat.reduceLeDiff, Nat.reduceMul, Nat.reducePow, Nat.reduceLT, Nat.reduceSub, Int.reduceEq, Int.reduceLT, Int.reduceLE, Int.reduceNeg, Int.reduceToNat, Int.cast_ofNat_Int]
  refine ⟨_, scalar8 5 a b, ?_⟩
  simp only [go_sem, ↓reduceIte, Nat.reduceEqDiff, Nat.reduceAdd, Nat.reduceLeDiff, Nat.reduceMul, Nat.reducePow, Nat.reduceLT, Nat.reduceSub, Int.reduceEq, Int.reduceLT, Int.reduceLE, Int.reduceNeg, Int.reduceToNat, Int.cast_ofNat_Int]
  generalize scalarS 4 a b = q at *
  generalize scalarS 5 a b = r at *
  refine wpL_to ⟨[(30, .c (.d (.sc (.bool (decide (q.2 = 1 ∨ q.2 = 20)))))), (0, sint .i64 a), (1, sint .i64 b), (5, sint .i64 q.1), (6, sint .i64 q.2), (7, sint .i64 r.1), (8, sint .i64 r.2)], []⟩ ?_ ?_
  · by_cases h1 : q.2 = 1
    · refine wpL_region Try.tyOk (by decide) ?_
      simp only [go_sem, ↓reduceIte, Nat.reduceEqDiff, Nat.reduceAdd, Nat.reduceLeDiff, Nat.reduceMul, Nat.reducePow, Nat.reduceLT, Nat.reduceSub, Int.reduceEq, Int.reduceLT, Int.reduceLE, Int.reduceNeg, Int.reduceToNat, Int.cast_ofNat_Int, h1, decide_true]
      refine le_mk ?_ ?_ ?_ <;> (simp only [go_sem, ↓reduceIte, Nat.reduceEqDiff, Nat.reduceAdd, Nat.reduceLeDiff, Nat.reduceMul, Nat.reducePow, Nat.reduceLT, Nat.reduceSub, Int.reduceEq, Int.reduceLT, Int.reduceLE, Int.reduceNeg, Int.reduceToNat, Int.cast_ofNat_Int]; try simp [eInt, eStr, rBool, rInt, rStr, rTwo, rThree, rDC, rAE, eInts, h1]; try simp (disch := omega) only [IntWalk.i64_in, and_self])
    · refine wpL_region Try.tyOk (by decide) ?_
      simp only [go_sem, ↓reduceIte, Nat.reduceEqDiff, Nat.reduceAdd, Nat.reduceLeDiff, Nat.reduceMul, Nat.reducePow, Nat.reduceLT, Nat.reduceSub, Int.reduceEq, Int.reduceLT, Int.reduceLE, Int.reduceNeg, Int.reduceToNat, Int.cast_ofNat_Int, h1, decide_false]
      refine le_mk ?_ ?_ ?_ <;> (simp only [go_sem, ↓reduceIte, Nat.reduceEqDiff, Nat.reduceAdd, Nat.reduceLeDiff, Nat.reduceMul, Nat.reducePow, Nat.reduceLT, Nat.reduceSub, Int.reduceEq, Int.reduceLT, Int.reduceLE, Int.reduceNeg, Int.reduceToNat, Int.cast_ofNat_Int]; try simp [eInt, eStr, rBool, rInt, rStr, rTwo, rThree, rDC, rAE, eInts, h1]; try simp (disch := omega) only [IntWalk.i64_in, and_self])
  try simp only [go_sem, ↓reduceIte, Nat.reduceEqDiff, Nat.reduceAdd, Nat.reduceLeDiff, Nat.reduceMul, Nat.reducePow, Nat.reduceLT, Nat.reduceSub, Int.reduceEq, Int.reduceLT, Int.reduceLE, Int.reduceNeg, Int.reduceToNat, Int.cast_ofNat_Int]
  rcases hl with ⟨h1, h2⟩ | ⟨h1, h2, h3⟩
  · refine wpL_cond (t := true) (by simp only [go_sem, ↓reduceIte, Nat.reduceEqDiff, Nat.reduceAdd, Nat.reduceLeDiff, Nat.reduceMul, Nat.reducePow, Nat.reduceLT, Nat.reduceSub, Int.reduceEq, Int.reduceLT, Int.reduceLE, Int.reduceNeg, Int.reduceToNat, Int.cast_ofNat_Int, h1, decide_true]) (fun _ => ?_) (fun h => Bool.noConfusion h)
    try simp only [go_sem, ↓reduceIte, Nat.reduceEqDiff, Nat.reduceAdd, Nat.reduceLeDiff, Nat.reduceMul, Nat.reducePow, Nat.reduceLT, Nat.reduceSub, Int.reduceEq, Int.reduceLT, Int.reduceLE, Int.reduceNeg, Int.reduceToNat, Int.cast_ofNat_Int]
    refine wpL_region Try.tyOk (by decide) ?_
    simp only [go_sem, ↓reduceIte, Nat.reduceEqDiff, Nat.reduceAdd, Nat.reduceLeDiff, Nat.reduceMul, Nat.reducePow, Nat.reduceLT, Nat.reduceSub, Int.reduceEq, Int.reduceLT, Int.reduceLE, Int.reduceNeg, Int.reduceToNat, Int.cast_ofNat_Int, h2, decide_true]
    refine ⟨_, lives12, ?_⟩
    simp only [go_sem, ↓reduceIte, Nat.reduceEqDiff, Nat.reduceAdd, Nat.reduceLeDiff, Nat.reduceMul, Nat.reducePow, Nat.reduceLT, Nat.reduceSub, Int.reduceEq, Int.reduceLT, Int.reduceLE, Int.reduceNeg, Int.reduceToNat, Int.cast_ofNat_Int]
    refine wpL_ret ?_
    rw [← hBQ]
    try simp only [go_sem, ↓reduceIte, Nat.reduceEqDiff, Nat.reduceAdd, Nat.reduceLeDiff, Nat.reduceMul, Nat.reducePow, Nat.reduceLT, Nat.reduceSub, Int.reduceEq, Int.reduceLT, Int.reduceLE, Int.reduceNeg, Int.reduceToNat, Int.cast_ofNat_Int]
    try simp only [go_sem, ↓reduceIte, Nat.reduceEqDiff, Nat.reduceAdd, Nat.reduceLeDiff, Nat.reduceMul, Nat.reducePow, Nat.reduceLT, Nat.reduceSub, Int.reduceEq, Int.reduceLT, Int.reduceLE, Int.reduceNeg, Int.reduceToNat, Int.cast_ofNat_Int]
  refine wpL_cond (t := false) (by simp only [go_sem, ↓reduceIte, Nat.reduceEqDiff, Nat.reduceAdd, Nat.reduceLeDiff, Nat.reduceMul, Nat.reducePow, Nat.reduceLT, Nat.reduceSub, Int.reduceEq, Int.reduceLT, Int.reduceLE, Int.reduceNeg, Int.reduceToNat, Int.cast_ofNat_Int, h1, decide_false, Int.reduceEq, or_self]) (fun h => Bool.noConfusion h) (fun _ => ?_)
  try simp only [go_sem, ↓reduceIte, Nat.reduceEqDiff, Nat.reduceAdd, Nat.reduceLeDiff, Nat.reduceMul, Nat.reducePow, Nat.reduceLT, Nat.reduceSub, Int.reduceEq, Int.reduceLT, Int.reduceLE, Int.reduceNeg, Int.reduceToNat, Int.cast_ofNat_Int]
  refine wpL_skip ?_
  refine wpL_region Try.tyOk (by decide) ?_
  simp only [go_sem, ↓reduceIte, Nat.reduceEqDiff, Nat.reduceAdd, Nat.reduceLeDiff, Nat.reduceMul, Nat.reducePow, Nat.reduceLT, Nat.reduceSub, Int.reduceEq, Int.reduceLT, Int.reduceLE, Int.reduceNeg, Int.reduceToNat, Int.cast_ofNat_Int, h1, h2, Ne, not_true_eq_false, decide_false]
  refine wpL_cond (t := false) (by simp only [go_sem, ↓reduceIte, Nat.reduceEqDiff, Nat.reduceAdd, Nat.reduceLeDiff, Nat.reduceMul, Nat.reducePow, Nat.reduceLT, Nat.reduceSub, Int.reduceEq, Int.reduceLT, Int.reduceLE, Int.reduceNeg, Int.reduceToNat, Int.cast_ofNat_Int]) (fun h => Bool.noConfusion h) (fun _ => ?_)
  try simp only [go_sem, ↓reduceIte, Nat.reduceEqDiff, Nat.reduceAdd, Nat.reduceLeDiff, Nat.reduceMul, Nat.reducePow, Nat.reduceLT, Nat.reduceSub, Int.reduceEq, Int.reduceLT, Int.reduceLE, Int.reduceNeg, Int.reduceToNat, Int.cast_ofNat_Int]
  refine wpL_skip ?_
  refine wpL_region Try.tyOk (by decide) ?_
  simp only [go_sem, ↓reduceIte, Nat.reduceEqDiff, Nat.reduceAdd, Nat.reduceLeDiff, Nat.reduceMul, Nat.reducePow, Nat.reduceLT, Nat.reduceSub, Int.reduceEq, Int.reduceLT, Int.reduceLE, Int.reduceNeg, Int.reduceToNat, Int.cast_ofNat_Int]
  refine ⟨_, scalar8 3 q.1 b, ?_⟩
  simp only [go_sem, ↓reduceIte, Nat.reduceEqDiff, Nat.reduceAdd, Nat.reduceLeDiff, Nat.reduceMul, Nat.reducePow, Nat.reduceLT, Nat.reduceSub, Int.reduceEq, Int.reduceLT, Int.reduceLE, Int.reduceNeg, Int.reduceToNat, Int.cast_ofNat_Int]
  generalize scalarS 3 q.1 b = n at *
  refine wpL_region Try.tyOk (by decide) ?_
  simp only [go_sem, ↓reduceIte, Nat.reduceEqDiff, Nat.reduceAdd, Nat.reduceLeDiff, Nat.reduceMul, Nat.reducePow, Nat.reduceLT, Nat.reduceSub, Int.reduceEq, Int.reduceLT, Int.reduceLE, Int.reduceNeg, Int.reduceToNat, Int.cast_ofNat_Int]
  rcases h3 with h3 | ⟨h3, h4⟩
  · refine wpL_cond (t := true) (by simp only [go_sem, ↓reduceIte, Nat.reduceEqDiff, Nat.reduceAdd, Nat.reduceLeDiff, Nat.reduceMul, Nat.reducePow, Nat.reduceLT, Nat.reduceSub, Int.reduceEq, Int.reduceLT, Int.reduceLE, Int.reduceNeg, Int.reduceToNat, Int.cast_ofNat_Int, h3, Ne, Int.reduceEq, not_false_eq_true, decide_true]) (fun _ => ?_) (fun h => Bool.noConfusion h)
    try simp only [go_sem, ↓reduceIte, Nat.reduceEqDiff, Nat.reduceAdd, Nat.reduceLeDiff, Nat.reduceMul, Nat.reducePow, Nat.reduceLT, Nat.reduceSub, Int.reduceEq, Int.reduceLT, Int.reduceLE, Int.reduceNeg, Int.reduceToNat, Int.cast_ofNat_Int]
    refine wpL_region Try.tyOk (by decide) ?_
    simp only [go_sem, ↓reduceIte, Nat.reduceEqDiff, Nat.reduceAdd, Nat.reduceLeDiff, Nat.reduceMul, Nat.reducePow, Nat.reduceLT, Nat.reduceSub, Int.reduceEq, Int.reduceLT, Int.reduceLE, Int.reduceNeg, Int.reduceToNat, Int.cast_ofNat_Int, h3, decide_true]
    refine ⟨_, lives12, ?_⟩
    simp only [go_sem, ↓reduceIte, Nat.reduceEqDiff, Nat.reduceAdd, Nat.reduceLeDiff, Nat.reduceMul, Nat.reducePow, Nat.reduceLT, Nat.reduceSub, Int.reduceEq, Int.reduceLT, Int.reduceLE, Int.reduceNeg, Int.reduceToNat, Int.cast_ofNat_Int]
    refine wpL_ret ?_
    rw [← hBQ]
    try simp only [go_sem, ↓reduceIte, Nat.reduceEqDiff, Nat.reduceAdd, Nat.reduceLeDiff, Nat.reduceMul, Nat.reducePow, Nat.reduceLT, Nat.reduceSub, Int.reduceEq, Int.reduceLT, Int.reduceLE, Int.reduceNeg, Int.reduceToNat, Int.cast_ofNat_Int]
    try simp only [go_sem, ↓reduceIte, Nat.reduceEqDiff, Nat.reduceAdd, Nat.reduceLeDiff, Nat.reduceMul, Nat.reducePow, Nat.reduceLT, Nat.reduceSub, Int.reduceEq, Int.reduceLT, Int.reduceLE, Int.reduceNeg, Int.reduceToNat, Int.cast_ofNat_Int]
  refine wpL_cond (t := false) (by simp only [go_sem, ↓reduceIte, Nat.reduceEqDiff, Nat.reduceAdd, Nat.reduceLeDiff, Nat.reduceMul, Nat.reducePow, Nat.reduceLT, Nat.reduceSub, Int.reduceEq, Int.reduceLT, Int.reduceLE, Int.reduceNeg, Int.reduceToNat, Int.cast_ofNat_Int, h3, Ne, not_true_eq_false, decide_false]) (fun h => Bool.noConfusion h) (fun _ => ?_)
  try simp only [go_sem, ↓reduceIte, Nat.reduceEqDiff, Nat.reduceAdd, Nat.reduceLeDiff, Nat.reduceMul, Nat.reducePow, Nat.reduceLT, Nat.reduceSub, Int.reduceEq, Int.reduceLT, Int.reduceLE, Int.reduceNeg, Int.reduceToNat, Int.cast_ofNat_Int]
  refine wpL_skip ?_
  refine wpL_region Try.tyOk (by decide) ?_
  simp only [go_sem, ↓reduceIte, Nat.reduceEqDiff, Nat.reduceAdd, Nat.reduceLeDiff, Nat.reduceMul, Nat.reducePow, Nat.reduceLT, Nat.reduceSub, Int.reduceEq, Int.reduceLT, Int.reduceLE, Int.reduceNeg, Int.reduceToNat, Int.cast_ofNat_Int]
  refine ⟨_, scalar8 1 n.1 r.1, ?_⟩
  rw [h4]
  simp only [go_sem, ↓reduceIte, Nat.reduceEqDiff, Nat.reduceAdd, Nat.reduceLeDiff, Nat.reduceMul, Nat.reducePow, Nat.reduceLT, Nat.reduceSub, Int.reduceEq, Int.reduceLT, Int.reduceLE, Int.reduceNeg, Int.reduceToNat, Int.cast_ofNat_Int]
  refine wpL_region Try.tyOk (by decide) ?_
  simp only [go_sem, ↓reduceIte, Nat.reduceEqDiff, Nat.reduceAdd, Nat.reduceLeDiff, Nat.reduceMul, Nat.reducePow, Nat.reduceLT, Nat.reduceSub, Int.reduceEq, Int.reduceLT, Int.reduceLE, Int.reduceNeg, Int.reduceToNat, Int.cast_ofNat_Int, decide_true]
  refine ⟨_, lives12, ?_⟩
  simp only [go_sem, ↓reduceIte, Nat.reduceEqDiff, Nat.reduceAdd, Nat.reduceLeDiff, Nat.reduceMul, Nat.reducePow, Nat.reduceLT, Nat.reduceSub, Int.reduceEq, Int.reduceLT, Int.reduceLE, Int.reduceNeg, Int.reduceToNat, Int.cast_ofNat_Int]
  refine wpL_ret ?_
  rw [← hBQ]
  try simp only [go_sem, ↓reduceIte, Nat.reduceEqDiff, Nat.reduceAdd, Nat.reduceLeDiff, Nat.reduceMul, Nat.reducePow, Nat.reduceLT, Nat.reduceSub, Int.reduceEq, Int.reduceLT, Int.reduceLE, Int.reduceNeg, Int.reduceToNat, Int.cast_ofNat_Int]
  try simp only [go_sem, ↓reduceIte, Nat.reduceEqDiff, Nat.reduceAdd, Nat.reduceLeDiff, Nat.reduceMul, Nat.reducePow, Nat.reduceLT, Nat.reduceSub, Int.reduceEq, Int.reduceLT, Int.reduceLE, Int.reduceNeg, Int.reduceToNat, Int.cast_ofNat_Int]
theorem sameR (r : Arr) (h : Fine r) : Gives Try.prog 16 [.agg [eInt r.kind, .sl (eInts r.shape), .sl (eInts r.nums), .sl (r.items.map eArr)], .agg [eInt r.kind, .sl (eInts r.shape), .sl (eInts r.nums), .sl (r.items.map eArr)]] (rBool true) := by
  have h := Same16 _ r r (Nat.le_refl _) h h
  rw [eqA_same, eArr_eq] at h
  exact h
theorem applyR (k : Int) (x y : Arr) (hx : Fine x) (hy : Fine y) {r : Arr × Int} (hr : applyS k x y = r) : Gives Try.prog 14 [.c (eInt k), .agg [eInt x.kind, .sl (eInts x.shape), .sl (eInts x.nums), .sl (x.items.map eArr)], .agg [eInt y.kind, .sl (eInts y.shape), .sl (eInts y.nums), .sl (y.items.map eArr)]] (.tup [.agg [.d (eInt r.1.kind), .d (.sl (eInts r.1.shape)), .d (.sl (eInts r.1.nums)), .d (.sl (r.1.items.map eArr))], .c (.d (eInt r.2))]) := by
  have h := apply14 k x y hx hy
  rw [hr, rAE, eArr_eq, eArr_eq, eArr_eq] at h
  exact h
theorem applyT (k : Int) (x y : Arr) (hx : Fine x) (hy : Fine y) {r : Arr × Int} (hr : applyS k x y = r) : Gives Try.prog 15 [.c (eInt k), .agg [eInt x.kind, .sl (eInts x.shape), .sl (eInts x.nums), .sl (x.items.map eArr)], .agg [eInt y.kind, .sl (eInts y.shape), .sl (eInts y.nums), .sl (y.items.map eArr)]] (.tup [.agg [.d (eInt r.1.kind), .d (.sl (eInts r.1.shape)), .d (.sl (eInts r.1.nums)), .d (.sl (r.1.items.map eArr))], .c (.d (eInt r.2))]) := by
  have h := apply15 k x y hx hy
  rw [hr, rAE, eArr_eq, eArr_eq, eArr_eq] at h
  exact h
theorem law4 (k : Int) (x y : Arr) (hx : Fine x) (hy : Fine y) : Gives Try.prog 4 [.c (eInt k), .agg (eArr x), .agg (eArr y)] (rBool true) := by
  have hsx := small13 x hx
  have hsy := small13 y hy
  obtain ⟨r, hr⟩ : ∃ r, applyS k x y = r := ⟨_, rfl⟩
  have hfr : Fine r.1 := by rw [← hr]; exact fine_apply
  rw [eArr_eq x] at hsx ⊢
  rw [eArr_eq y] at hsy ⊢
  refine Gives.intro Try.tyOk Try.func4 (by kernel_rfl) rfl (by simp [Try.ntmps4]) ?_
  simp only [go_sem, ↓reduceIte, Nat.reduceEqDiff, Nat.reduceAdd, Nat.reduceLeDiff, Nat.reduceMul, Nat.reducePow, Nat.reduceLT, Nat.reduceSub, Int.reduceEq, Int.reduceLT, Int.reduceLE, Int.reduceNeg, Int.reduceToNat, Int.cast_ofNat_Int]
  simp only [Try.ntmps4, Try.results4, eInt, eStr, rBool, rInt, rStr, rTwo, rThree, rDC, rAE, List.map_cons, List.map_nil]
  generalize hBQ : retQ _ _ _ = BQ
  refine wpL_region Try.tyOk (by decide) ?_
  simp only [go_sem, ↓reduceIte, Nat.reduceEqDiff, Nat.reduceAdd, Nat.reduceLeDiff, Nat.reduceMul, Nat.reducePow, Nat.reduceLT, Nat.reduceSub, Int.reduceEq, Int.reduceLT, Int.reduceLE, Int.reduceNeg, Int.reduceToNat, Int.cast_ofNat_Int]
  refine wpL_to ⟨[(18, .c (.d (.sc (.bool (!smallS x || !smallS y))))), (0, sint .i64 k), (4, .c (.ptr 4 0)), (5, .c (.ptr 5 0))], [(4, .box 33 ([eInt x.kind, .sl (eInts x.shape), .sl (eInts x.nums), .sl (x.items.map eArr)].map .d)), (5, .box 33 ([eInt y.kind, .sl (eInts y.shape), .sl (eInts y.nums), .sl (y.items.map eArr)].map .d))]⟩ ?_ ?_
  · refine wpL_region Try.tyOk (by decide) ?_
    simp only [go_sem, ↓reduceIte, Nat.reduceEqDiff, Nat.reduceAdd, Nat.reduceLeDiff, Nat.reduceMul, Nat.reducePow, Nat.reduceLT, Nat.reduceSub, Int.reduceEq, Int.reduceLT, Int.reduceLE, Int.reduceNeg, Int.reduceToNat, Int.cast_ofNat_Int]
    refine ⟨_, hsx, ?_⟩
    cases smallS x
    · simp only [go_sem, ↓reduceIte, Nat.reduceEqDiff, Nat.reduceAdd, Nat.reduceLeDiff, Nat.reduceMul, Nat.reducePow, Nat.reduceLT, Nat.reduceSub, Int.reduceEq, Int.reduceLT, Int.reduceLE, Int.reduceNeg, Int.reduceToNat, Int.cast_ofNat_Int, Bool.not_false]
      refine le_mk ?_ ?_ ?_ <;> (simp only [go_sem, ↓reduceIte, Nat.reduceEqDiff, Nat.reduceAdd, Nat.reduceLeDiff, Nat.reduceMul, Nat.reducePow, Nat.reduceLT, Nat.reduceSub, Int.reduceEq, Int.reduceLT, Int.reduceLE, Int.reduceNeg, Int.reduceToNat, Int.cast_ofNat_Int]; try simp [eInt, eStr, rBool, rInt, rStr, rTwo, rThree, rDC, rAE, eInts]; try simp (disch := omega) only [IntWalk.i64_in, and_self])
    · simp only [go_sem, ↓reduceIte, Nat.reduceEqDiff, Nat.reduceAdd, Nat.reduceLeDiff, Nat.reduceMul, Nat.reducePow, Nat.reduceLT, Nat.reduceSub, Int.reduceEq, Int.reduceLT, Int.reduceLE, Int.reduceNeg, Int.reduceToNat, Int.cast_ofNat_Int, Bool.not_true]
      refine ⟨_, hsy, ?_⟩
      simp only [go_sem, ↓reduceIte, Nat.reduceEqDiff, Nat.reduceAdd, Nat.reduceLeDiff, Nat.reduceMul, Nat.reducePow, Nat.reduceLT, Nat.reduceSub, Int.reduceEq, Int.reduceLT, Int.reduceLE, Int.reduceNeg, Int.reduceToNat, Int.cast_ofNat_Int]
      refine le_mk ?_ ?_ ?_ <;> (simp only [go_sem, ↓reduceIte, Nat.reduceEqDiff, Nat.reduceAdd, Nat.reduceLeDiff, Nat.reduceMul, Nat.reducePow, Nat.reduceLT, Nat.reduceSub, Int.reduceEq, Int.reduceLT, Int.reduceLE, Int.reduceNeg, Int.reduceToNat, Int.cast_ofNat_Int]; try simp [eInt, eStr, rBool, rInt, rStr, rTwo, rThree, rDC, rAE, eInts]; try simp (disch := omega) only [IntWalk.i64_in, and_self])
  try simp only [go_sem, ↓reduceIte, Nat.reduceEqDiff, Nat.reduceAdd, Nat.reduceLeDiff, Nat.reduceMul, Nat.reducePow, Nat.reduceLT, Nat.reduceSub, Int.reduceEq, Int.reduceLT, Int.reduceLE, Int.reduceNeg, Int.reduceToNat, Int.cast_ofNat_Int]
  refine wpL_cond (t := !smallS x || !smallS y) (by simp only [go_sem, ↓reduceIte, Nat.reduceEqDiff, Nat.reduceAdd, Nat.reduceLeDiff, Nat.reduceMul, Nat.reducePow, Nat.reduceLT, Nat.reduceSub, Int.reduceEq, Int.reduceLT, Int.reduceLE, Int.reduceNeg, Int.reduceToNat, Int.cast_ofNat_Int]) (fun _ => ?_) (fun _ => ?_)
  · try simp only [go_sem, ↓reduceIte, Nat.reduceEqDiff, Nat.reduceAdd, Nat.reduceLeDiff, Nat.reduceMul, Nat.reducePow, Nat.reduceLT, Nat.reduceSub, Int.reduceEq, Int.reduceLT, Int.reduceLE, Int.reduceNeg, Int.reduceToNat, Int.cast_ofNat_Int]
    refine wpL_region Try.tyOk (by decide) ?_
    simp only [go_sem, ↓reduceIte, Nat.reduceEqDiff, Nat.reduceAdd, Nat.reduceLeDiff, Nat.reduceMul, Nat.reducePow, Nat.reduceLT, Nat.reduceSub, Int.reduceEq, Int.reduceLT, Int.reduceLE, Int.reduceNeg, Int.reduceToNat, Int.cast_ofNat_Int]
    refine ⟨_, lives12, ?_⟩
    simp only [go_sem, ↓reduceIte, Nat.reduceEqDiff, Nat.reduceAdd, Nat.reduceLeDiff, Nat.reduceMul, Nat.reducePow, Nat.reduceLT, Nat.reduceSub, Int.reduceEq, Int.reduceLT, Int.reduceLE, Int.reduceNeg, Int.reduceToNat, Int.cast_ofNat_Int]
    refine wpL_ret ?_
    rw [← hBQ]
    try simp only [go_sem, ↓reduceIte, Nat.reduceEqDiff, Nat.reduceAdd, Nat.reduceLeDiff, Nat.reduceMul, Nat.reducePow, Nat.reduceLT, Nat.reduceSub, Int.reduceEq, Int.reduceLT, Int.reduceLE, Int.reduceNeg, Int.reduceToNat, Int.cast_ofNat_Int]
    try simp only [go_sem, ↓reduceIte, Nat.reduceEqDiff, Nat.reduceAdd, Nat.reduceLeDiff, Nat.reduceMul, Nat.reducePow, Nat.reduceLT, Nat.reduceSub, Int.reduceEq, Int.reduceLT, Int.reduceLE, Int.reduceNeg, Int.reduceToNat, Int.cast_ofNat_Int]
  try simp only [go_sem, ↓reduceIte, Nat.reduceEqDiff, Nat.reduceAdd, Nat.reduceLeDiff, Nat.reduceMul, Nat.reducePow, Nat.reduceLT, Nat.reduceSub, Int.reduceEq, Int.reduceLT, Int.reduceLE, Int.reduceNeg, Int.reduceToNat, Int.cast_ofNat_Int]
  refine wpL_skip ?_
  refine wpL_region Try.tyOk (by decide) ?_
  simp only [go_sem, ↓reduceIte, Nat.reduceEqDiff, Nat.reduceAdd, Nat.reduceLeDiff, Nat.reduceMul, Nat.reducePow, Nat.reduceLT, Nat.reduceSub, Int.reduceEq, Int.reduceLT, Int.reduceLE, Int.reduceNeg, Int.reduceToNat, Int.cast_ofNat_Int]
  refine ⟨_, applyR k x y hx hy hr, ?_⟩
  simp only [go_sem, ↓reduceIte, Nat.reduceEqDiff, Nat.reduceAdd, Nat.reduceLeDiff, Nat.reduceMul, Nat.reducePow, Nat.reduceLT, Nat.reduceSub, Int.reduceEq, Int.reduceLT, Int.reduceLE, Int.reduceNeg, Int.reduceToNat, Int.cast_ofNat_Int]
  refine wpL_region Try.tyOk (by decide) ?_
  simp only [go_sem, ↓reduceIte, Nat.reduceEqDiff, Nat.reduceAdd, Nat.reduceLeDiff, Nat.reduceMul, Nat.reducePow, Nat.reduceLT, Nat.reduceSub, Int.reduceEq, Int.reduceLT, Int.reduceLE, Int.reduceNeg, Int.reduceToNat, Int.cast_ofNat_Int]
  refine ⟨_, applyT k x y hx hy hr, ?_⟩
  simp only [go_sem, ↓reduceIte, Nat.reduceEqDiff, Nat.reduceAdd, Nat.reduceLeDiff, Nat.reduceMul, Nat.reducePow, Nat.reduceLT, Nat.reduceSub, Int.reduceEq, Int.reduceLT, Int.reduceLE, Int.reduceNeg, Int.reduceToNat, Int.cast_ofNat_Int]
  refine wpL_region Try.tyOk (by decide) ?_
  simp only [go_sem, ↓reduceIte, Nat.reduceEqDiff, Nat.reduceAdd, Nat.reduceLeDiff, Nat.reduceMul, Nat.reducePow, Nat.reduceLT, Nat.reduceSub, Int.reduceEq, Int.reduceLT, Int.reduceLE, Int.reduceNeg, Int.reduceToNat, Int.cast_ofNat_Int, decide_true]
  refine ⟨_, sameR r.1 hfr, ?_⟩
  simp only [go_sem, ↓reduceIte, Nat.reduceEqDiff, Nat.reduceAdd, Nat.reduceLeDiff, Nat.reduceMul, Nat.reducePow, Nat.reduceLT, Nat.reduceSub, Int.reduceEq, Int.reduceLT, Int.reduceLE, Int.reduceNeg, Int.reduceToNat, Int.cast_ofNat_Int]
  refine ⟨_, lives12, ?_⟩
  simp only [go_sem, ↓reduceIte, Nat.reduceEqDiff, Nat.reduceAdd, Nat.reduceLeDiff, Nat.reduceMul, Nat.reducePow, Nat.reduceLT, Nat.reduceSub, Int.reduceEq, Int.reduceLT, Int.reduceLE, Int.reduceNeg, Int.reduceToNat, Int.cast_ofNat_Int]
  refine wpL_ret ?_
  rw [← hBQ]
  try simp only [go_sem, ↓reduceIte, Nat.reduceEqDiff, Nat.reduceAdd, Nat.reduceLeDiff, Nat.reduceMul, Nat.reducePow, Nat.reduceLT, Nat.reduceSub, Int.reduceEq, Int.reduceLT, Int.reduceLE, Int.reduceNeg, Int.reduceToNat, Int.cast_ofNat_Int]
  try simp only [go_sem, ↓reduceIte, Nat.reduceEqDiff, Nat.reduceAdd, Nat.reduceLeDiff, Nat.reduceMul, Nat.reducePow, Nat.reduceLT, Nat.reduceSub, Int.reduceEq, Int.reduceLT, Int.reduceLE, Int.reduceNeg, Int.reduceToNat, Int.cast_ofNat_Int]
end Go.Proofs.Ytncglcfhbhbaoaa
