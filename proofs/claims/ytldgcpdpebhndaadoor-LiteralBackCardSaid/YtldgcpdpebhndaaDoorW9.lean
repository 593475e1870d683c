/-
  Literals: the short form of a character; character literals shown.
-/
import Derived.Test.YtldgcpdpebhndaaDoorW8
import Derived.Test.YtldgcpdpebhndaaDoorAbsZB
set_option linter.unusedSimpArgs false
set_option linter.unusedVariables false
set_option maxRecDepth 100000
set_option maxHeartbeats 4000000
namespace Go.Proofs.YtldgcpdpebhndaaDoor
open Go.Abs Go

theorem short17 (n q : Nat) (hn : isR n = true) (hq : isR q = true) : Gives Tryd.prog 17 [.c (eRune n), .c (eRune q)] (rStr (shortS n q)) := by
  have hn' := isR_iff.1 hn
  obtain ⟨r, hr⟩ : ∃ r, shortS n q = r := ⟨_, rfl⟩
  rw [hr]
  unfold shortS at hr
  refine Gives.intro Tryd.tyOk Tryd.func17 (by kernel_rfl) rfl (by simp [Tryd.ntmps17]) ?_
  simp only [go_sem, ↓reduceIte, Nat.reduceEqDiff, Nat.reduceAdd, Nat.reduceLeDiff, Nat.reduceMul, Nat.reducePow, Nat.reduceLT, Nat.reduceSub, Int.reduceEq, Int.reduceLT, Int.reduceLE, Int.reduceNeg, Int.reduceToNat, Int.cast_ofNat_Int]
  simp only [Tryd.ntmps17, Tryd.results17, eInt, eRune, eByte, eStr, rBool, rInt, rStr, rTwo, List.map_cons, List.map_nil]
  generalize hBQ : retQ _ _ _ = BQ
  iterate 2 (refine wpL_region Tryd.tyOk (by decide) ?_; simp only [go_sem, ↓reduceIte, Nat.reduceEqDiff, Nat.reduceAdd, Nat.reduceLeDiff, Nat.reduceMul, Nat.reducePow, Nat.reduceLT, Nat.reduceSub, Int.reduceEq, Int.reduceLT, Int.reduceLE, Int.reduceNeg, Int.reduceToNat, Int.cast_ofNat_Int])
  refine wpL_block ?_
  generalize hB0 : blockQ _ _ _ = B0
  simp only [go_sem, ↓reduceIte, Nat.reduceEqDiff]
  by_cases c1 : n = 10
  · rw [if_pos c1] at hr
    subst hr
    have c1' : ((n : Int) = 10) = True := eq_true (by omega)
    try (simp only [go_sem, ↓reduceIte, Nat.reduceEqDiff, Nat.reduceAdd, Nat.reduceLeDiff, Nat.reduceMul, Nat.reducePow, Nat.reduceLT, Nat.reduceSub, Int.reduceEq, Int.reduceLT, Int.reduceLE, Int.reduceNeg, Int.reduceToNat, Int.cast_ofNat_Int, c1', decide_true, decide_false])
    repeat ((first | refine wpL_region Tryd.tyOk (by decide) ?_ | refine wpL_skip ?_ | (refine wpL_cond (t := true) ?_ (fun _ => ?_) (fun h => Bool.noConfusion h); (solve | (simp only [go_sem, ↓reduceIte, Nat.reduceEqDiff, Nat.reduceAdd, Nat.reduceLeDiff, Nat.reduceMul, Nat.reducePow, Nat.reduceLT, Nat.reduceSub, Int.reduceEq, Int.reduceLT, Int.reduceLE, Int.reduceNeg, Int.reduceToNat, Int.cast_ofNat_Int, c1', decide_true, decide_false]))) | (refine wpL_cond (t := false) ?_ (fun h => Bool.noConfusion h) (fun _ => ?_); (solve | (simp only [go_sem, ↓reduceIte, Nat.reduceEqDiff, Nat.reduceAdd, Nat.reduceLeDiff, Nat.reduceMul, Nat.reducePow, Nat.reduceLT, Nat.reduceSub, Int.reduceEq, Int.reduceLT, Int.reduceLE, Int.reduceNeg, Int.reduceToNat, Int.cast_ofNat_Int, c1', decide_true, decide_false])))); try (simp only [go_sem, ↓reduceIte, Nat.reduceEqDiff, Nat.reduceAdd, Nat.reduceLeDiff, Nat.reduceMul, Nat.reducePow, Nat.reduceLT, Nat.reduceSub, Int.reduceEq, Int.reduceLT, Int.reduceLE, Int.reduceNeg, Int.reduceToNat, Int.cast_ofNat_Int, c1', decide_true, decide_false]))
    refine wpL_ret ?_
    rw [← hB0]
    try simp only [go_sem, ↓reduceIte, Nat.reduceEqDiff]
    rw [← hBQ]
    try simp only [go_sem, ↓reduceIte, Nat.reduceEqDiff]
  rw [if_neg c1] at hr
  have c1' : ((n : Int) = 10) = False := eq_false (by omega)
  by_cases c2 : n = 9
  · rw [if_pos c2] at hr
    subst hr
    have c2' : ((n : Int) = 9) = True := eq_true (by omega)
    try (simp only [go_sem, ↓reduceIte, Nat.reduceEqDiff, Nat.reduceAdd, Nat.reduceLeDiff, Nat.reduceMul, Nat.reducePow, Nat.reduceLT, Nat.reduceSub, Int.reduceEq, Int.reduceLT, Int.reduceLE, Int.reduceNeg, Int.reduceToNat, Int.cast_ofNat_Int, c1', c2', decide_true, decide_false])
    repeat ((first | refine wpL_region Tryd.tyOk (by decide) ?_ | refine wpL_skip ?_ | (refine wpL_cond (t := true) ?_ (fun _ => ?_) (fun h => Bool.noConfusion h); (solve | (simp only [go_sem, ↓reduceIte, Nat.reduceEqDiff, Nat.reduceAdd, Nat.reduceLeDiff, Nat.reduceMul, Nat.reducePow, Nat.reduceLT, Nat.reduceSub, Int.reduceEq, Int.reduceLT, Int.reduceLE, Int.reduceNeg, Int.reduceToNat, Int.cast_ofNat_Int, c1', c2', decide_true, decide_false]))) | (refine wpL_cond (t := false) ?_ (fun h => Bool.noConfusion h) (fun _ => ?_); (solve | (simp only [go_sem, ↓reduceIte, Nat.reduceEqDiff, Nat.reduceAdd, Nat.reduceLeDiff, Nat.reduceMul, Nat.reducePow, Nat.reduceLT, Nat.reduceSub, Int.reduceEq, Int.reduceLT, Int.reduceLE, Int.reduceNeg, Int.reduceToNat, Int.cast_ofNat_Int, c1', c2', decide_true, decide_false])))); try (simp only [go_sem, ↓reduceIte, Nat.reduceEqDiff, Nat.reduceAdd, Nat.reduceLeDiff, Nat.reduceMul, Nat.reducePow, Nat.reduceLT, Nat.reduceSub, Int.reduceEq, Int.reduceLT, Int.reduceLE, Int.reduceNeg, Int.reduceToNat, Int.cast_ofNat_Int, c1', c2', decide_true, decide_false]))
    refine wpL_ret ?_
    rw [← hB0]
    try simp only [go_sem, ↓reduceIte, Nat.reduceEqDiff]
    rw [← hBQ]
    try simp only [go_sem, ↓reduceIte, Nat.reduceEqDiff]
  rw [if_neg c2] at hr
  have c2' : ((n : Int) = 9) = False := eq_false (by omega)
  by_cases c3 : n = 13
  · rw [if_pos c3] at hr
    subst hr
    have c3' : ((n : Int) = 13) = True := eq_true (by omega)
    try (simp only [go_sem, ↓reduceIte, Nat.reduceEqDiff, Nat.reduceAdd, Nat.reduceLeDiff, Nat.reduceMul, Nat.reducePow, Nat.reduceLT, Nat.reduceSub, Int.reduceEq, Int.reduceLT, Int.reduceLE, Int.reduceNeg, Int.reduceToNat, Int.cast_ofNat_Int, c1', c2', c3', decide_true, decide_false])
    repeat ((first | refine wpL_region Tryd.tyOk (by decide) ?_ | refine wpL_skip ?_ | (refine wpL_cond (t := true) ?_ (fun _ => ?_) (fun h => Bool.noConfusion h); (solve | (simp only [go_sem, ↓reduceIte, Nat.reduceEqDiff, Nat.reduceAdd, Nat.reduceLeDiff, Nat.reduceMul, Nat.reducePow, Nat.reduceLT, Nat.reduceSub, Int.reduceEq, Int.reduceLT, Int.reduceLE, Int.reduceNeg, Int.reduceToNat, Int.cast_ofNat_Int, c1', c2', c3', decide_true, decide_false]))) | (refine wpL_cond (t := false) ?_ (fun h => Bool.noConfusion h) (fun _ => ?_); (solve | (simp only [go_sem, ↓reduceIte, Nat.reduceEqDiff, Nat.reduceAdd, Nat.reduceLeDiff, Nat.reduceMul, Nat.reducePow, Nat.reduceLT, Nat.reduceSub, Int.reduceEq, Int.reduceLT, Int.reduceLE, Int.reduceNeg, Int.reduceToNat, Int.cast_ofNat_Int, c1', c2', c3', decide_true, decide_false])))); try (simp only [go_sem, ↓reduceIte, Nat.reduceEqDiff, Nat.reduceAdd, Nat.reduceLeDiff, Nat.reduceMul, Nat.reducePow, Nat.reduceLT, Nat.reduceSub, Int.reduceEq, Int.reduceLT, Int.reduceLE, Int.reduceNeg, Int.reduceToNat, Int.cast_ofNat_Int, c1', c2', c3', decide_true, decide_false]))
    refine wpL_ret ?_
    rw [← hB0]
    try simp only [go_sem, ↓reduceIte, Nat.reduceEqDiff]
    rw [← hBQ]
    try simp only [go_sem, ↓reduceIte, Nat.reduceEqDiff]
  rw [if_neg c3] at hr
  have c3' : ((n : Int) = 13) = False := eq_false (by omega)
  have z2 := max_le'
  by_cases c4 : n = 92
  · rw [if_pos c4] at hr
    subst hr
    have c4' : ((n : Int) = 92) = True := eq_true (by omega)
    try (simp only [go_sem, ↓reduceIte, Nat.reduceEqDiff, Nat.reduceAdd, Nat.reduceLeDiff, Nat.reduceMul, Nat.reducePow, Nat.reduceLT, Nat.reduceSub, Int.reduceEq, Int.reduceLT, Int.reduceLE, Int.reduceNeg, Int.reduceToNat, Int.cast_ofNat_Int, c1', c2', c3', c4', decide_true, decide_false])
    repeat ((first | refine wpL_region Tryd.tyOk (by decide) ?_ | refine wpL_skip ?_ | (refine wpL_cond (t := true) ?_ (fun _ => ?_) (fun h => Bool.noConfusion h); (solve | (simp only [go_sem, ↓reduceIte, Nat.reduceEqDiff, Nat.reduceAdd, Nat.reduceLeDiff, Nat.reduceMul, Nat.reducePow, Nat.reduceLT, Nat.reduceSub, Int.reduceEq, Int.reduceLT, Int.reduceLE, Int.reduceNeg, Int.reduceToNat, Int.cast_ofNat_Int, c1', c2', c3', c4', decide_true, decide_false]))) | (refine wpL_cond (t := false) ?_ (fun h => Bool.noConfusion h) (fun _ => ?_); (solve | (simp only [go_sem, ↓reduceIte, Nat.reduceEqDiff, Nat.reduceAdd, Nat.reduceLeDiff, Nat.reduceMul, Nat.reducePow, Nat.reduceLT, Nat.reduceSub, Int.reduceEq, Int.reduceLT, Int.reduceLE, Int.reduceNeg, Int.reduceToNat, Int.cast_ofNat_Int, c1', c2', c3', c4', decide_true, decide_false])))); try (simp only [go_sem, ↓reduceIte, Nat.reduceEqDiff, Nat.reduceAdd, Nat.reduceLeDiff, Nat.reduceMul, Nat.reducePow, Nat.reduceLT, Nat.reduceSub, Int.reduceEq, Int.reduceLT, Int.reduceLE, Int.reduceNeg, Int.reduceToNat, Int.cast_ofNat_Int, c1', c2', c3', c4', decide_true, decide_false]))
    refine ⟨by have h1 := enc_size n; show 1 + _ ≤ _; omega, ?_⟩
    refine wpL_ret ?_
    rw [← hB0]
    try simp only [go_sem, ↓reduceIte, Nat.reduceEqDiff]
    rw [← hBQ]
    try simp only [go_sem, ↓reduceIte, Nat.reduceEqDiff]
    subst c4
    rfl
  rw [if_neg c4] at hr
  have c4' : ((n : Int) = 92) = False := eq_false (by omega)
  by_cases c5 : n = q
  · rw [if_pos c5] at hr
    subst hr
    have c5' : ((n : Int) = (q : Int)) = True := eq_true (by omega)
    try (simp only [go_sem, ↓reduceIte, Nat.reduceEqDiff, Nat.reduceAdd, Nat.reduceLeDiff, Nat.reduceMul, Nat.reducePow, Nat.reduceLT, Nat.reduceSub, Int.reduceEq, Int.reduceLT, Int.reduceLE, Int.reduceNeg, Int.reduceToNat, Int.cast_ofNat_Int, c1', c2', c3', c4', c5', decide_true, decide_false])
    repeat ((first | refine wpL_region Tryd.tyOk (by decide) ?_ | refine wpL_skip ?_ | (refine wpL_cond (t := true) ?_ (fun _ => ?_) (fun h => Bool.noConfusion h); (solve | (simp only [go_sem, ↓reduceIte, Nat.reduceEqDiff, Nat.reduceAdd, Nat.reduceLeDiff, Nat.reduceMul, Nat.reducePow, Nat.reduceLT, Nat.reduceSub, Int.reduceEq, Int.reduceLT, Int.reduceLE, Int.reduceNeg, Int.reduceToNat, Int.cast_ofNat_Int, c1', c2', c3', c4', c5', decide_true, decide_false]))) | (refine wpL_cond (t := false) ?_ (fun h => Bool.noConfusion h) (fun _ => ?_); (solve | (simp only [go_sem, ↓reduceIte, Nat.reduceEqDiff, Nat.reduceAdd, Nat.reduceLeDiff, Nat.reduceMul, Nat.reducePow, Nat.reduceLT, Nat.reduceSub, Int.reduceEq, Int.reduceLT, Int.reduceLE, Int.reduceNeg, Int.reduceToNat, Int.cast_ofNat_Int, c1', c2', c3', c4', c5', decide_true, decide_false])))); try (simp only [go_sem, ↓reduceIte, Nat.reduceEqDiff, Nat.reduceAdd, Nat.reduceLeDiff, Nat.reduceMul, Nat.reducePow, Nat.reduceLT, Nat.reduceSub, Int.reduceEq, Int.reduceLT, Int.reduceLE, Int.reduceNeg, Int.reduceToNat, Int.cast_ofNat_Int, c1', c2', c3', c4', c5', decide_true, decide_false]))
    refine ⟨by have h1 := enc_size n; show 1 + _ ≤ _; omega, ?_⟩
    refine wpL_ret ?_
    rw [← hB0]
    try simp only [go_sem, ↓reduceIte, Nat.reduceEqDiff]
    rw [← hBQ]
    try simp only [go_sem, ↓reduceIte, Nat.reduceEqDiff]
    subst c5
    rfl
  rw [if_neg c5] at hr
  have c5' : ((n : Int) = (q : Int)) = False := eq_false (by omega)
  try (simp only [go_sem, ↓reduceIte, Nat.reduceEqDiff, Nat.reduceAdd, Nat.reduceLeDiff, Nat.reduceMul, Nat.reducePow, Nat.reduceLT, Nat.reduceSub, Int.reduceEq, Int.reduceLT, Int.reduceLE, Int.reduceNeg, Int.reduceToNat, Int.cast_ofNat_Int, c1', c2', c3', c4', c5', decide_true, decide_false])
  repeat ((first | refine wpL_region Tryd.tyOk (by decide) ?_ | refine wpL_skip ?_ | (refine wpL_cond (t := true) ?_ (fun _ => ?_) (fun h => Bool.noConfusion h); (solve | (simp only [go_sem, ↓reduceIte, Nat.reduceEqDiff, Nat.reduceAdd, Nat.reduceLeDiff, Nat.reduceMul, Nat.reducePow, Nat.reduceLT, Nat.reduceSub, Int.reduceEq, Int.reduceLT, Int.reduceLE, Int.reduceNeg, Int.reduceToNat, Int.cast_ofNat_Int, c1', c2', c3', c4', c5', decide_true, decide_false]))) | (refine wpL_cond (t := false) ?_ (fun h => Bool.noConfusion h) (fun _ => ?_); (solve | (simp only [go_sem, ↓reduceIte, Nat.reduceEqDiff, Nat.reduceAdd, Nat.reduceLeDiff, Nat.reduceMul, Nat.reducePow, Nat.reduceLT, Nat.reduceSub, Int.reduceEq, Int.reduceLT, Int.reduceLE, Int.reduceNeg, Int.reduceToNat, Int.cast_ofNat_Int, c1', c2', c3', c4', c5', decide_true, decide_false])))); try (simp only [go_sem, ↓reduceIte, Nat.reduceEqDiff, Nat.reduceAdd, Nat.reduceLeDiff, Nat.reduceMul, Nat.reducePow, Nat.reduceLT, Nat.reduceSub, Int.reduceEq, Int.reduceLT, Int.reduceLE, Int.reduceNeg, Int.reduceToNat, Int.cast_ofNat_Int, c1', c2', c3', c4', c5', decide_true, decide_false]))
  rw [← hB0]
  try simp only [go_sem, ↓reduceIte, Nat.reduceEqDiff]
  by_cases c6 : n < 32 ∨ n = 127
  · rw [if_pos c6] at hr
    subst hr
    have eh := fmt26 n (by omega)
    have z1 := hexS_size n
    have w1 : IntKind.i64.wrap (n : Int) = (n : Int) := w64 (by omega) (by omega)
    by_cases c7 : n < 32
    · have c7' : ((n : Int) < 32) = True := eq_true (by omega)
      try (simp only [go_sem, ↓reduceIte, Nat.reduceEqDiff, Nat.reduceAdd, Nat.reduceLeDiff, Nat.reduceMul, Nat.reducePow, Nat.reduceLT, Nat.reduceSub, Int.reduceEq, Int.reduceLT, Int.reduceLE, Int.reduceNeg, Int.reduceToNat, Int.cast_ofNat_Int, c7', decide_true, decide_false, w1])
      repeat ((first | refine wpL_region Tryd.tyOk (by decide) ?_ | refine wpL_skip ?_ | (refine wpL_cond (t := true) ?_ (fun _ => ?_) (fun h => Bool.noConfusion h); (solve | (simp only [go_sem, ↓reduceIte, Nat.reduceEqDiff, Nat.reduceAdd, Nat.reduceLeDiff, Nat.reduceMul, Nat.reducePow, Nat.reduceLT, Nat.reduceSub, Int.reduceEq, Int.reduceLT, Int.reduceLE, Int.reduceNeg, Int.reduceToNat, Int.cast_ofNat_Int, c7', decide_true, decide_false, w1]))) | (refine wpL_cond (t := false) ?_ (fun h => Bool.noConfusion h) (fun _ => ?_); (solve | (simp only [go_sem, ↓reduceIte, Nat.reduceEqDiff, Nat.reduceAdd, Nat.reduceLeDiff, Nat.reduceMul, Nat.reducePow, Nat.reduceLT, Nat.reduceSub, Int.reduceEq, Int.reduceLT, Int.reduceLE, Int.reduceNeg, Int.reduceToNat, Int.cast_ofNat_Int, c7', decide_true, decide_false, w1])))); try (simp only [go_sem, ↓reduceIte, Nat.reduceEqDiff, Nat.reduceAdd, Nat.reduceLeDiff, Nat.reduceMul, Nat.reducePow, Nat.reduceLT, Nat.reduceSub, Int.reduceEq, Int.reduceLT, Int.reduceLE, Int.reduceNeg, Int.reduceToNat, Int.cast_ofNat_Int, c7', decide_true, decide_false, w1]))
      refine ⟨_, eh, ?_⟩
      simp only [go_sem, ↓reduceIte, Nat.reduceEqDiff, Nat.reduceAdd, Nat.reduceLeDiff, Nat.reduceMul, Nat.reducePow, Nat.reduceLT, Nat.reduceSub, Int.reduceEq, Int.reduceLT, Int.reduceLE, Int.reduceNeg, Int.reduceToNat, Int.cast_ofNat_Int, ByteArray.size_append]
      refine ⟨by show 3 + _ ≤ _; omega, by show 3 + _ + 1 ≤ _; omega, ?_⟩
      refine wpL_ret ?_
      rw [← hBQ]
      try simp only [go_sem, ↓reduceIte, Nat.reduceEqDiff]
    · have c7' : ((n : Int) < 32) = False := eq_false (by omega)
      have c8' : ((n : Int) = 127) = True := eq_true (by omega)
      try (simp only [go_sem, ↓reduceIte, Nat.reduceEqDiff, Nat.reduceAdd, Nat.reduceLeDiff, Nat.reduceMul, Nat.reducePow, Nat.reduceLT, Nat.reduceSub, Int.reduceEq, Int.reduceLT, Int.reduceLE, Int.reduceNeg, Int.reduceToNat, Int.cast_ofNat_Int, c7', c8', decide_true, decide_false, w1])
      repeat ((first | refine wpL_region Tryd.tyOk (by decide) ?_ | refine wpL_skip ?_ | (refine wpL_cond (t := true) ?_ (fun _ => ?_) (fun h => Bool.noConfusion h); (solve | (simp only [go_sem, ↓reduceIte, Nat.reduceEqDiff, Nat.reduceAdd, Nat.reduceLeDiff, Nat.reduceMul, Nat.reducePow, Nat.reduceLT, Nat.reduceSub, Int.reduceEq, Int.reduceLT, Int.reduceLE, Int.reduceNeg, Int.reduceToNat, Int.cast_ofNat_Int, c7', c8', decide_true, decide_false, w1]))) | (refine wpL_cond (t := false) ?_ (fun h => Bool.noConfusion h) (fun _ => ?_); (solve | (simp only [go_sem, ↓reduceIte, Nat.reduceEqDiff, Nat.reduceAdd, Nat.reduceLeDiff, Nat.reduceMul, Nat.reducePow, Nat.reduceLT, Nat.reduceSub, Int.reduceEq, Int.reduceLT, Int.reduceLE, Int.reduceNeg, Int.reduceToNat, Int.cast_ofNat_Int, c7', c8', decide_true, decide_false, w1])))); try (simp only [go_sem, ↓reduceIte, Nat.reduceEqDiff, Nat.reduceAdd, Nat.reduceLeDiff, Nat.reduceMul, Nat.reducePow, Nat.reduceLT, Nat.reduceSub, Int.reduceEq, Int.reduceLT, Int.reduceLE, Int.reduceNeg, Int.reduceToNat, Int.cast_ofNat_Int, c7', c8', decide_true, decide_false, w1]))
      refine ⟨_, eh, ?_⟩
      simp only [go_sem, ↓reduceIte, Nat.reduceEqDiff, Nat.reduceAdd, Nat.reduceLeDiff, Nat.reduceMul, Nat.reducePow, Nat.reduceLT, Nat.reduceSub, Int.reduceEq, Int.reduceLT, Int.reduceLE, Int.reduceNeg, Int.reduceToNat, Int.cast_ofNat_Int, ByteArray.size_append]
      refine ⟨by show 3 + _ ≤ _; omega, by show 3 + _ + 1 ≤ _; omega, ?_⟩
      refine wpL_ret ?_
      rw [← hBQ]
      try simp only [go_sem, ↓reduceIte, Nat.reduceEqDiff]
  rw [if_neg c6] at hr
  subst hr
  have c7' : ((n : Int) < 32) = False := eq_false (by omega)
  have c8' : ((n : Int) = 127) = False := eq_false (by omega)
  try (simp only [go_sem, ↓reduceIte, Nat.reduceEqDiff, Nat.reduceAdd, Nat.reduceLeDiff, Nat.reduceMul, Nat.reducePow, Nat.reduceLT, Nat.reduceSub, Int.reduceEq, Int.reduceLT, Int.reduceLE, Int.reduceNeg, Int.reduceToNat, Int.cast_ofNat_Int, c7', c8', decide_true, decide_false])
  repeat ((first | refine wpL_region Tryd.tyOk (by decide) ?_ | refine wpL_skip ?_ | (refine wpL_cond (t := true) ?_ (fun _ => ?_) (fun h => Bool.noConfusion h); (solve | (simp only [go_sem, ↓reduceIte, Nat.reduceEqDiff, Nat.reduceAdd, Nat.reduceLeDiff, Nat.reduceMul, Nat.reducePow, Nat.reduceLT, Nat.reduceSub, Int.reduceEq, Int.reduceLT, Int.reduceLE, Int.reduceNeg, Int.reduceToNat, Int.cast_ofNat_Int, c7', c8', decide_true, decide_false]))) | (refine wpL_cond (t := false) ?_ (fun h => Bool.noConfusion h) (fun _ => ?_); (solve | (simp only [go_sem, ↓reduceIte, Nat.reduceEqDiff, Nat.reduceAdd, Nat.reduceLeDiff, Nat.reduceMul, Nat.reducePow, Nat.reduceLT, Nat.reduceSub, Int.reduceEq, Int.reduceLT, Int.reduceLE, Int.reduceNeg, Int.reduceToNat, Int.cast_ofNat_Int, c7', c8', decide_true, decide_false])))); try (simp only [go_sem, ↓reduceIte, Nat.reduceEqDiff, Nat.reduceAdd, Nat.reduceLeDiff, Nat.reduceMul, Nat.reducePow, Nat.reduceLT, Nat.reduceSub, Int.reduceEq, Int.reduceLT, Int.reduceLE, Int.reduceNeg, Int.reduceToNat, Int.cast_ofNat_Int, c7', c8', decide_true, decide_false]))
  refine wpL_ret ?_
  rw [← hBQ]
  try simp only [go_sem, ↓reduceIte, Nat.reduceEqDiff]
def showS (r : Int) : ByteArray := if isR r then ⟨#[39]⟩ ++ shortS r.toNat 39 ++ ⟨#[39]⟩ else ⟨#[]⟩
theorem short_size (n q : Nat) : (shortS n q).size ≤ 40 := by
  unfold shortS
  have h1 := enc_size n
  have h2 := enc_size q
  have h3 := hexS_size n
  have s1 : (⟨#[92]⟩ : ByteArray).size = 1 := rfl
  have s2 : (⟨#[92, 117, 123]⟩ : ByteArray).size = 3 := rfl
  have s3 : (⟨#[125]⟩ : ByteArray).size = 1 := rfl
  have s4 : (⟨#[92, 110]⟩ : ByteArray).size = 2 := rfl
  have s5 : (⟨#[92, 116]⟩ : ByteArray).size = 2 := rfl
  have s6 : (⟨#[92, 114]⟩ : ByteArray).size = 2 := rfl
  have s7 : (⟨#[92, 92]⟩ : ByteArray).size = 2 := rfl
  repeat' split
  all_goals (try simp only [ByteArray.size_append, s1, s2, s3, s4, s5, s6, s7]); omega
theorem show9 (r : Int) (h0 : -2147483648 ≤ r) (h1 : r ≤ 2147483647) : Gives Tryd.prog 9 [.c (eRune r)] (rStr (showS r)) := by
  have w1 : IntKind.i64.wrap r = r := by simp (disch := omega) only [IntWalk.i64_in]
  have e1 := is21 r
  refine Gives.intro Tryd.tyOk Tryd.func9 (by kernel_rfl) rfl (by simp [Tryd.ntmps9]) ?_
  simp only [go_sem, ↓reduceIte, Nat.reduceEqDiff, Nat.reduceAdd, Nat.reduceLeDiff, Nat.reduceMul, Nat.reducePow, Nat.reduceLT, Nat.reduceSub, Int.reduceEq, Int.reduceLT, Int.reduceLE, Int.reduceNeg, Int.reduceToNat, Int.cast_ofNat_Int]
  simp only [Tryd.ntmps9, Tryd.results9, eInt, eRune, eByte, eStr, rBool, rInt, rStr, rTwo, List.map_cons, List.map_nil]
  generalize hBQ : retQ _ _ _ = BQ
  iterate 2 (refine wpL_region Tryd.tyOk (by decide) ?_; simp only [go_sem, ↓reduceIte, Nat.reduceEqDiff, Nat.reduceAdd, Nat.reduceLeDiff, Nat.reduceMul, Nat.reducePow, Nat.reduceLT, Nat.reduceSub, Int.reduceEq, Int.reduceLT, Int.reduceLE, Int.reduceNeg, Int.reduceToNat, Int.cast_ofNat_Int, w1])
  refine ⟨_, e1, ?_⟩
  simp only [go_sem, ↓reduceIte, Nat.reduceEqDiff, Nat.reduceAdd, Nat.reduceLeDiff, Nat.reduceMul, Nat.reducePow, Nat.reduceLT, Nat.reduceSub, Int.reduceEq, Int.reduceLT, Int.reduceLE, Int.reduceNeg, Int.reduceToNat, Int.cast_ofNat_Int]
  cases h : isR r with
  | false =>
    refine wpL_cond (t := true) (by simp only [go_sem, ↓reduceIte, Nat.reduceEqDiff, h]) (fun _ => ?_) (fun h => Bool.noConfusion h)
    refine wpL_region Tryd.tyOk (by decide) ?_
    simp only [go_sem, ↓reduceIte, Nat.reduceEqDiff, Nat.reduceAdd, Nat.reduceLeDiff, Nat.reduceMul, Nat.reducePow, Nat.reduceLT, Nat.reduceSub, Int.reduceEq, Int.reduceLT, Int.reduceLE, Int.reduceNeg, Int.reduceToNat, Int.cast_ofNat_Int]
    refine wpL_ret ?_
    rw [← hBQ]
    try simp only [go_sem, ↓reduceIte, Nat.reduceEqDiff]
    simp [showS, h]
  | true =>
    have hr := isR_iff.1 h
    obtain ⟨n, rfl⟩ : ∃ n : Nat, r = n := ⟨r.toNat, by omega⟩
    have e2 := short17 n 39 h (by decide)
    have z2 := max_le'
    have z3 := short_size n 39
    refine wpL_cond (t := false) (by simp only [go_sem, ↓reduceIte, Nat.reduceEqDiff, h]) (fun h => Bool.noConfusion h) (fun _ => ?_)
    refine wpL_skip ?_
    refine wpL_region Tryd.tyOk (by decide) ?_
    simp only [go_sem, ↓reduceIte, Nat.reduceEqDiff, Nat.reduceAdd, Nat.reduceLeDiff, Nat.reduceMul, Nat.reducePow, Nat.reduceLT, Nat.reduceSub, Int.reduceEq, Int.reduceLT, Int.reduceLE, Int.reduceNeg, Int.reduceToNat, Int.cast_ofNat_Int]
    refine ⟨_, e2, ?_⟩
    simp only [go_sem, ↓reduceIte, Nat.reduceEqDiff, Nat.reduceAdd, Nat.reduceLeDiff, Nat.reduceMul, Nat.reducePow, Nat.reduceLT, Nat.reduceSub, Int.reduceEq, Int.reduceLT, Int.reduceLE, Int.reduceNeg, Int.reduceToNat, Int.cast_ofNat_Int, ByteArray.size_append]
    refine ⟨by show 1 + _ ≤ _; omega, by show 1 + _ + 1 ≤ _; omega, ?_⟩
    refine wpL_ret ?_
    rw [← hBQ]
    try simp only [go_sem, ↓reduceIte, Nat.reduceEqDiff]
    simp [showS, h]
theorem show10 (r : Int) (h0 : -2147483648 ≤ r) (h1 : r ≤ 2147483647) : Gives Tryd.prog 10 [.c (eRune r)] (rStr (showS r)) := by
  have w1 : IntKind.i64.wrap r = r := by simp (disch := omega) only [IntWalk.i64_in]
  have e1 := is11 r
  refine Gives.intro Tryd.tyOk Tryd.func10 (by kernel_rfl) rfl (by simp [Tryd.ntmps10]) ?_
  simp only [go_sem, ↓reduceIte, Nat.reduceEqDiff, Nat.reduceAdd, Nat.reduceLeDiff, Nat.reduceMul, Nat.reducePow, Nat.reduceLT, Nat.reduceSub, Int.reduceEq, Int.reduceLT, Int.reduceLE, Int.reduceNeg, Int.reduceToNat, Int.cast_ofNat_Int]
  simp only [Tryd.ntmps10, Tryd.results10, eInt, eRune, eByte, eStr, rBool, rInt, rStr, rTwo, List.map_cons, List.map_nil]
  generalize hBQ : retQ _ _ _ = BQ
  iterate 2 (refine wpL_region Tryd.tyOk (by decide) ?_; simp only [go_sem, ↓reduceIte, Nat.reduceEqDiff, Nat.reduceAdd, Nat.reduceLeDiff, Nat.reduceMul, Nat.reducePow, Nat.reduceLT, Nat.reduceSub, Int.reduceEq, Int.reduceLT, Int.reduceLE, Int.reduceNeg, Int.reduceToNat, Int.cast_ofNat_Int, w1])
  refine ⟨_, e1, ?_⟩
  simp only [go_sem, ↓reduceIte, Nat.reduceEqDiff, Nat.reduceAdd, Nat.reduceLeDiff, Nat.reduceMul, Nat.reducePow, Nat.reduceLT, Nat.reduceSub, Int.reduceEq, Int.reduceLT, Int.reduceLE, Int.reduceNeg, Int.reduceToNat, Int.cast_ofNat_Int]
  cases h : isR r with
  | false =>
    refine wpL_cond (t := true) (by simp only [go_sem, ↓reduceIte, Nat.reduceEqDiff, h]) (fun _ => ?_) (fun h => Bool.noConfusion h)
    refine wpL_region Tryd.tyOk (by decide) ?_
    simp only [go_sem, ↓reduceIte, Nat.reduceEqDiff, Nat.reduceAdd, Nat.reduceLeDiff, Nat.reduceMul, Nat.reducePow, Nat.reduceLT, Nat.reduceSub, Int.reduceEq, Int.reduceLT, Int.reduceLE, Int.reduceNeg, Int.reduceToNat, Int.cast_ofNat_Int]
    refine wpL_ret ?_
    rw [← hBQ]
    try simp only [go_sem, ↓reduceIte, Nat.reduceEqDiff]
    simp [showS, h]
  | true =>
    have hr := isR_iff.1 h
    obtain ⟨n, rfl⟩ : ∃ n : Nat, r = n := ⟨r.toNat, by omega⟩
    have e2 := short20 n 39 h (by decide)
    have z2 := max_le'
    have z3 := short_size n 39
    refine wpL_cond (t := false) (by simp only [go_sem, ↓reduceIte, Nat.reduceEqDiff, h]) (fun h => Bool.noConfusion h) (fun _ => ?_)
    refine wpL_skip ?_
    refine wpL_region Tryd.tyOk (by decide) ?_
    simp only [go_sem, ↓reduceIte, Nat.reduceEqDiff, Nat.reduceAdd, Nat.reduceLeDiff, Nat.reduceMul, Nat.reducePow, Nat.reduceLT, Nat.reduceSub, Int.reduceEq, Int.reduceLT, Int.reduceLE, Int.reduceNeg, Int.reduceToNat, Int.cast_ofNat_Int, w1]
    refine ⟨_, e2, ?_⟩
    simp only [go_sem, ↓reduceIte, Nat.reduceEqDiff, Nat.reduceAdd, Nat.reduceLeDiff, Nat.reduceMul, Nat.reducePow, Nat.reduceLT, Nat.reduceSub, Int.reduceEq, Int.reduceLT, Int.reduceLE, Int.reduceNeg, Int.reduceToNat, Int.cast_ofNat_Int, ByteArray.size_append]
    refine ⟨by show 1 + _ ≤ _; omega, by show 1 + _ + 1 ≤ _; omega, ?_⟩
    refine wpL_ret ?_
    rw [← hBQ]
    try simp only [go_sem, ↓reduceIte, Nat.reduceEqDiff]
    simp [showS, h]
end Go.Proofs.YtldgcpdpebhndaaDoor
