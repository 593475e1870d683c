/-
  The examples of the chapter; the size of an array.
-/
import Derived.Test.YtncglcfhbhbaoaaW17
import Derived.Test.YtncglcfhbhbaoaaAbsZB
set_option linter.unusedSimpArgs false
set_option linter.unusedVariables false
set_option maxRecDepth 100000
set_option maxHeartbeats 4000000
namespace Go.Proofs.Ytncglcfhbhbaoaa
open Go.Abs Go

def cA (k : Int) (s n : List Int) : Arr := .mk k s n []
@[go_sem] def dA (k : Int) (s n : List Int) : DV := .agg [eInt k, .sl (eInts s), .sl (eInts n), .sl []]
@[go_sem] def qA (k : Int) (s n : List Int) (e : Int) : Res := .tup [.agg [.d (eInt k), .d (.sl (eInts s)), .d (.sl (eInts n)), .d (.sl [])], .c (.d (eInt e))]
theorem fine_cA {k : Int} {s n : List Int} (hs : s.length ≤ 9223372036854775807) (hn : n.length ≤ 9223372036854775807) : Fine (cA k s n) := by
  rw [cA, Fine]
  exact ⟨hs, hn, Nat.zero_le _, trivial⟩
theorem ex1 : Gives Try.prog 14 [.c (eInt 1), dA 1 [2] [10, 20], dA 1 [2, 3] [1, 2, 3, 4, 5, 6]] (qA 1 [2, 3] [11, 12, 13, 24, 25, 26] 0) := by
  have h := apply14 1 (cA 1 [2] [10, 20]) (cA 1 [2, 3] [1, 2, 3, 4, 5, 6]) (fine_cA (by decide) (by decide)) (fine_cA (by decide) (by decide))
  rw [show applyS 1 (cA 1 [2] [10, 20]) (cA 1 [2, 3] [1, 2, 3, 4, 5, 6]) = (cA 1 [2, 3] [11, 12, 13, 24, 25, 26], 0) from rfl] at h
  exact h
theorem ex2 : Gives Try.prog 14 [.c (eInt 1), dA 1 [3] [1, 2, 3], dA 1 [2, 3] [1, 2, 3, 4, 5, 6]] (qA 0 [] [] 16) := by
  have h := apply14 1 (cA 1 [3] [1, 2, 3]) (cA 1 [2, 3] [1, 2, 3, 4, 5, 6]) (fine_cA (by decide) (by decide)) (fine_cA (by decide) (by decide))
  rw [show applyS 1 (cA 1 [3] [1, 2, 3]) (cA 1 [2, 3] [1, 2, 3, 4, 5, 6]) = (zA, 16) from rfl] at h
  exact h
theorem ex3 : Gives Try.prog 14 [.c (eInt 11), dA 2 [2] [97, 98], dA 1 [2] [97, 98]] (qA 1 [2] [0, 0] 0) := by
  have h := apply14 11 (cA 2 [2] [97, 98]) (cA 1 [2] [97, 98]) (fine_cA (by decide) (by decide)) (fine_cA (by decide) (by decide))
  rw [show applyS 11 (cA 2 [2] [97, 98]) (cA 1 [2] [97, 98]) = (cA 1 [2] [0, 0], 0) from rfl] at h
  exact h
theorem ex4 : Gives Try.prog 14 [.c (eInt 4), dA 1 [3] [1, 2, 3], dA 1 [3] [1, 0, 0]] (qA 0 [] [] 20) := by
  have h := apply14 4 (cA 1 [3] [1, 2, 3]) (cA 1 [3] [1, 0, 0]) (fine_cA (by decide) (by decide)) (fine_cA (by decide) (by decide))
  rw [show applyS 4 (cA 1 [3] [1, 2, 3]) (cA 1 [3] [1, 0, 0]) = (zA, 20) from rfl] at h
  exact h
theorem ex5 : Gives Try.prog 8 [.c (eInt 5), .c (eInt (-7)), .c (eInt 2)] (rTwo (1, 0)) := scalar8 5 (-7) 2
theorem sameC (k : Int) (s n : List Int) (hs : s.length ≤ 9223372036854775807) (hn : n.length ≤ 9223372036854775807) : Gives Try.prog 16 [dA k s n, dA k s n] (rBool true) := by
  have h := Same16 _ (cA k s n) (cA k s n) (Nat.le_refl _) (fine_cA hs hn) (fine_cA hs hn)
  rw [eqA_same] at h
  exact h
theorem intsC (l : List Int) (hl : Len l) : Gives Try.prog 28 [.c (.sl (eInts l))] (.one (.agg [.d (eInt 1), .d (.sl (eInts [(l.length : Int)])), .d (.sl (eInts l)), .d (.sl [])])) := by
  have h := ints28 l hl
  rw [rArr, eArr_eq] at h
  exact h
@[go_sem] theorem eInts_flat (l : List Int) : ((eInts l).all fun x => x.all (·.flat)) = true := by simp [eInts, eInt, DC.flat]
theorem lives12 : Gives Try.prog 12 [] (rBool true) := by
  refine Gives.intro Try.tyOk Try.func12 (by kernel_rfl) rfl (by simp [Try.ntmps12]) ?_
  simp only [go_sem, ↓reduceIte, Nat.reduceEqDiff, Nat.reduceAdd, Nat.reduceLeDiff, Nat.reduceMul, Nat.reducePow, Nat.reduceLT, Nat.reduceSub, Int.reduceEq, Int.reduceLT, Int.reduceLE, Int.reduceNeg, Int.reduceToNat, Int.cast_ofNat_Int]
  simp only [Try.ntmps12, Try.results12, eInt, eStr, rBool, rInt, rStr, rTwo, rThree, rDC, rAE, List.map_cons, List.map_nil]
  generalize hBQ : retQ _ _ _ = BQ
  refine wpL_region Try.tyOk (by decide) ?_
  simp only [go_sem, ↓reduceIte, Nat.reduceEqDiff, Nat.reduceAdd, Nat.reduceLeDiff, Nat.reduceMul, Nat.reducePow, Nat.reduceLT, Nat.reduceSub, Int.reduceEq, Int.reduceLT, Int.reduceLE, Int.reduceNeg, Int.reduceToNat, Int.cast_ofNat_Int]
  refine wpL_region Try.tyOk.fast (by decide) ?_
  simp only [go_sem, ↓reduceIte, Nat.reduceEqDiff, Nat.reduceAdd, Nat.reduceLeDiff, Nat.reduceMul, Nat.reducePow, Nat.reduceLT, Nat.reduceSub, Int.reduceEq, Int.reduceLT, Int.reduceLE, Int.reduceNeg, Int.reduceToNat, Int.cast_ofNat_Int]
  refine wpL_boxD 1 (xs := [eInt 1, .sl (eInts [2, 3]), .sl (eInts [1, 2, 3, 4, 5, 6]), .sl []]) (by rfl) (by rfl) ?_
  try simp only [go_sem, ↓reduceIte, Nat.reduceEqDiff, Nat.reduceAdd, Nat.reduceLeDiff, Nat.reduceMul, Nat.reducePow, Nat.reduceLT, Nat.reduceSub, Int.reduceEq, Int.reduceLT, Int.reduceLE, Int.reduceNeg, Int.reduceToNat, Int.cast_ofNat_Int]
  refine wpL_lend (xs := [eInt 1, .sl (eInts [2, 3]), .sl (eInts [1, 2, 3, 4, 5, 6]), .sl []]) 1 1 (by rfl) (by rfl) ?_
  try simp only [go_sem, ↓reduceIte, Nat.reduceEqDiff, Nat.reduceAdd, Nat.reduceLeDiff, Nat.reduceMul, Nat.reducePow, Nat.reduceLT, Nat.reduceSub, Int.reduceEq, Int.reduceLT, Int.reduceLE, Int.reduceNeg, Int.reduceToNat, Int.cast_ofNat_Int]
  refine wpL_to ⟨[(1, .c (.dptr [eInt 1, .sl (eInts [2, 3]), .sl (eInts [1, 2, 3, 4, 5, 6]), .sl []])), (2, .c (.ptr 2 0)), (3, sint .i64 0)], [(2, .box 33 ([eInt 1, .sl (eInts [2, 3]), .sl (eInts [11, 12, 13, 24, 25, 26]), .sl []].map .d))]⟩ ?_ ?_
  · refine wpL_drawF Try.tyOk.fast (by kernel_rfl) [6] 8 (by decide) (by decide) ?_
    simp only [go_sem, ↓reduceIte, Nat.reduceEqDiff, Nat.reduceAdd, Nat.reduceLeDiff, Nat.reduceMul, Nat.reducePow, Nat.reduceLT, Nat.reduceSub, Int.reduceEq, Int.reduceLT, Int.reduceLE, Int.reduceNeg, Int.reduceToNat, Int.cast_ofNat_Int]
    refine ⟨_, intsC [10, 20] (by decide), ?_⟩
    simp only [go_sem, ↓reduceIte, Nat.reduceEqDiff, Nat.reduceAdd, Nat.reduceLeDiff, Nat.reduceMul, Nat.reducePow, Nat.reduceLT, Nat.reduceSub, Int.reduceEq, Int.reduceLT, Int.reduceLE, Int.reduceNeg, Int.reduceToNat, Int.cast_ofNat_Int]
    refine ⟨_, ex1, ?_⟩
    simp only [go_sem, ↓reduceIte, Nat.reduceEqDiff, Nat.reduceAdd, Nat.reduceLeDiff, Nat.reduceMul, Nat.reducePow, Nat.reduceLT, Nat.reduceSub, Int.reduceEq, Int.reduceLT, Int.reduceLE, Int.reduceNeg, Int.reduceToNat, Int.cast_ofNat_Int]
    refine floatK_one ?_ ?_
    · simp only [go_sem, ↓reduceIte, Nat.reduceEqDiff, Nat.reduceAdd, Nat.reduceLeDiff, Nat.reduceMul, Nat.reducePow, Nat.reduceLT, Nat.reduceSub, Int.reduceEq, Int.reduceLT, Int.reduceLE, Int.reduceNeg, Int.reduceToNat, Int.cast_ofNat_Int]
      refine le_mk ?_ ?_ ?_ <;> (simp only [go_sem, ↓reduceIte, Nat.reduceEqDiff, Nat.reduceAdd, Nat.reduceLeDiff, Nat.reduceMul, Nat.reducePow, Nat.reduceLT, Nat.reduceSub, Int.reduceEq, Int.reduceLT, Int.reduceLE, Int.reduceNeg, Int.reduceToNat, Int.cast_ofNat_Int]; try simp [eInt, eStr, rBool, rInt, rStr, rTwo, rThree, rDC, rAE, eInts]; try simp (disch := omega) only [IntWalk.i64_in, and_self])
    · simp only [go_sem, ↓reduceIte, Nat.reduceEqDiff, Nat.reduceAdd, Nat.reduceLeDiff, Nat.reduceMul, Nat.reducePow, Nat.reduceLT, Nat.reduceSub, Int.reduceEq, Int.reduceLT, Int.reduceLE, Int.reduceNeg, Int.reduceToNat, Int.cast_ofNat_Int]
      refine le_mk ?_ ?_ ?_ <;> (simp only [go_sem, ↓reduceIte, Nat.reduceEqDiff, Nat.reduceAdd, Nat.reduceLeDiff, Nat.reduceMul, Nat.reducePow, Nat.reduceLT, Nat.reduceSub, Int.reduceEq, Int.reduceLT, Int.reduceLE, Int.reduceNeg, Int.reduceToNat, Int.cast_ofNat_Int]; try simp [eInt, eStr, rBool, rInt, rStr, rTwo, rThree, rDC, rAE, eInts]; try simp (disch := omega) only [IntWalk.i64_in, and_self])
  try simp only [go_sem, ↓reduceIte, Nat.reduceEqDiff, Nat.reduceAdd, Nat.reduceLeDiff, Nat.reduceMul, Nat.reducePow, Nat.reduceLT, Nat.reduceSub, Int.reduceEq, Int.reduceLT, Int.reduceLE, Int.reduceNeg, Int.reduceToNat, Int.cast_ofNat_Int]
  refine wpL_to ⟨[(5, sint .i64 16), (4, .c (.ptr 4 0)), (1, .c (.dptr [eInt 1, .sl (eInts [2, 3]), .sl (eInts [1, 2, 3, 4, 5, 6]), .sl []])), (2, .c (.ptr 2 0)), (3, sint .i64 0)], [(4, .box 33 ([eInt 0, .sl (eInts []), .sl (eInts []), .sl []].map .d)), (2, .box 33 ([eInt 1, .sl (eInts [2, 3]), .sl (eInts [11, 12, 13, 24, 25, 26]), .sl []].map .d))]⟩ ?_ ?_
  · refine wpL_drawF Try.tyOk.fast (by kernel_rfl) [6] 8 (by decide) (by decide) ?_
    simp only [go_sem, ↓reduceIte, Nat.reduceEqDiff, Nat.reduceAdd, Nat.reduceLeDiff, Nat.reduceMul, Nat.reducePow, Nat.reduceLT, Nat.reduceSub, Int.reduceEq, Int.reduceLT, Int.reduceLE, Int.reduceNeg, Int.reduceToNat, Int.cast_ofNat_Int]
    refine ⟨_, intsC [1, 2, 3] (by decide), ?_⟩
    simp only [go_sem, ↓reduceIte, Nat.reduceEqDiff, Nat.reduceAdd, Nat.reduceLeDiff, Nat.reduceMul, Nat.reducePow, Nat.reduceLT, Nat.reduceSub, Int.reduceEq, Int.reduceLT, Int.reduceLE, Int.reduceNeg, Int.reduceToNat, Int.cast_ofNat_Int]
    refine ⟨_, ex2, ?_⟩
    simp only [go_sem, ↓reduceIte, Nat.reduceEqDiff, Nat.reduceAdd, Nat.reduceLeDiff, Nat.reduceMul, Nat.reducePow, Nat.reduceLT, Nat.reduceSub, Int.reduceEq, Int.reduceLT, Int.reduceLE, Int.reduceNeg, Int.reduceToNat, Int.cast_ofNat_Int]
    refine floatK_one ?_ ?_
    · simp only [go_sem, ↓reduceIte, Nat.reduceEqDiff, Nat.reduceAdd, Nat.reduceLeDiff, Nat.reduceMul, Nat.reducePow, Nat.reduceLT, Nat.reduceSub, Int.reduceEq, Int.reduceLT, Int.reduceLE, Int.reduceNeg, Int.reduceToNat, Int.cast_ofNat_Int]
      refine le_mk ?_ ?_ ?_ <;> (simp only [go_sem, ↓reduceIte, Nat.reduceEqDiff, Nat.reduceAdd, Nat.reduceLeDiff, Nat.reduceMul, Nat.reducePow, Nat.reduceLT, Nat.reduceSub, Int.reduceEq, Int.reduceLT, Int.reduceLE, Int.reduceNeg, Int.reduceToNat, Int.cast_ofNat_Int]; try simp [eInt, eStr, rBool, rInt, rStr, rTwo, rThree, rDC, rAE, eInts]; try simp (disch := omega) only [IntWalk.i64_in, and_self])
    · simp only [go_sem, ↓reduceIte, Nat.reduceEqDiff, Nat.reduceAdd, Nat.reduceLeDiff, Nat.reduceMul, Nat.reducePow, Nat.reduceLT, Nat.reduceSub, Int.reduceEq, Int.reduceLT, Int.reduceLE, Int.reduceNeg, Int.reduceToNat, Int.cast_ofNat_Int]
      refine le_mk ?_ ?_ ?_ <;> (simp only [go_sem, ↓reduceIte, Nat.reduceEqDiff, Nat.reduceAdd, Nat.reduceLeDiff, Nat.reduceMul, Nat.reducePow, Nat.reduceLT, Nat.reduceSub, Int.reduceEq, Int.reduceLT, Int.reduceLE, Int.reduceNeg, Int.reduceToNat, Int.cast_ofNat_Int]; try simp [eInt, eStr, rBool, rInt, rStr, rTwo, rThree, rDC, rAE, eInts]; try simp (disch := omega) only [IntWalk.i64_in, and_self])
  try simp only [go_sem, ↓reduceIte, Nat.reduceEqDiff, Nat.reduceAdd, Nat.reduceLeDiff, Nat.reduceMul, Nat.reducePow, Nat.reduceLT, Nat.reduceSub, Int.reduceEq, Int.reduceLT, Int.reduceLE, Int.reduceNeg, Int.reduceToNat, Int.cast_ofNat_Int]
  refine wpL_region Try.tyOk.fast (by decide) ?_
  simp only [go_sem, ↓reduceIte, Nat.reduceEqDiff, Nat.reduceAdd, Nat.reduceLeDiff, Nat.reduceMul, Nat.reducePow, Nat.reduceLT, Nat.reduceSub, Int.reduceEq, Int.reduceLT, Int.reduceLE, Int.reduceNeg, Int.reduceToNat, Int.cast_ofNat_Int]
  refine ⟨_, intsC [97, 98] (by decide), ?_⟩
  simp only [go_sem, ↓reduceIte, Nat.reduceEqDiff, Nat.reduceAdd, Nat.reduceLeDiff, Nat.reduceMul, Nat.reducePow, Nat.reduceLT, Nat.reduceSub, Int.reduceEq, Int.reduceLT, Int.reduceLE, Int.reduceNeg, Int.reduceToNat, Int.cast_ofNat_Int]
  refine ⟨_, ex3, ?_⟩
  simp only [go_sem, ↓reduceIte, Nat.reduceEqDiff, Nat.reduceAdd, Nat.reduceLeDiff, Nat.reduceMul, Nat.reducePow, Nat.reduceLT, Nat.reduceSub, Int.reduceEq, Int.reduceLT, Int.reduceLE, Int.reduceNeg, Int.reduceToNat, Int.cast_ofNat_Int]
  refine wpL_region Try.tyOk.fast (by decide) ?_
  simp only [go_sem, ↓reduceIte, Nat.reduceEqDiff, Nat.reduceAdd, Nat.reduceLeDiff, Nat.reduceMul, Nat.reducePow, Nat.reduceLT, Nat.reduceSub, Int.reduceEq, Int.reduceLT, Int.reduceLE, Int.reduceNeg, Int.reduceToNat, Int.cast_ofNat_Int]
  refine ⟨_, intsC [1, 2, 3] (by decide), ?_⟩
  simp only [go_sem, ↓reduceIte, Nat.reduceEqDiff, Nat.reduceAdd, Nat.reduceLeDiff, Nat.reduceMul, Nat.reducePow, Nat.reduceLT, Nat.reduceSub, Int.reduceEq, Int.reduceLT, Int.reduceLE, Int.reduceNeg, Int.reduceToNat, Int.cast_ofNat_Int]
  refine ⟨_, intsC [1, 0, 0] (by decide), ?_⟩
  simp only [go_sem, ↓reduceIte, Nat.reduceEqDiff, Nat.reduceAdd, Nat.reduceLeDiff, Nat.reduceMul, Nat.reducePow, Nat.reduceLT, Nat.reduceSub, Int.reduceEq, Int.reduceLT, Int.reduceLE, Int.reduceNeg, Int.reduceToNat, Int.cast_ofNat_Int]
  refine ⟨_, ex4, ?_⟩
  simp only [go_sem, ↓reduceIte, Nat.reduceEqDiff, Nat.reduceAdd, Nat.reduceLeDiff, Nat.reduceMul, Nat.reducePow, Nat.reduceLT, Nat.reduceSub, Int.reduceEq, Int.reduceLT, Int.reduceLE, Int.reduceNeg, Int.reduceToNat, Int.cast_ofNat_Int]
  refine wpL_region Try.tyOk (by decide) ?_
  simp only [go_sem, ↓reduceIte, Nat.reduceEqDiff, Nat.reduceAdd, Nat.reduceLeDiff, Nat.reduceMul, Nat.reducePow, Nat.reduceLT, Nat.reduceSub, Int.reduceEq, Int.reduceLT, Int.reduceLE, Int.reduceNeg, Int.reduceToNat, Int.cast_ofNat_Int]
  refine ⟨_, ex5, ?_⟩
  simp only [go_sem, ↓reduceIte, Nat.reduceEqDiff, Nat.reduceAdd, Nat.reduceLeDiff, Nat.reduceMul, Nat.reducePow, Nat.reduceLT, Nat.reduceSub, Int.reduceEq, Int.reduceLT, Int.reduceLE, Int.reduceNeg, Int.reduceToNat, Int.cast_ofNat_Int]
  refine wpL_draw Try.tyOk.fast (by kernel_rfl) 35 (by decide) (by decide) ?_
  simp only [go_sem, ↓reduceIte, Nat.reduceEqDiff, Nat.reduceAdd, Nat.reduceLeDiff, Nat.reduceMul, Nat.reducePow, Nat.reduceLT, Nat.reduceSub, Int.reduceEq, Int.reduceLT, Int.reduceLE, Int.reduceNeg, Int.reduceToNat, Int.cast_ofNat_Int]
  refine ⟨_, sameC 1 [2, 3] [11, 12, 13, 24, 25, 26] (by decide) (by decide), ?_⟩
  simp only [go_sem, ↓reduceIte, Nat.reduceEqDiff, Nat.reduceAdd, Nat.reduceLeDiff, Nat.reduceMul, Nat.reducePow, Nat.reduceLT, Nat.reduceSub, Int.reduceEq, Int.reduceLT, Int.reduceLE, Int.reduceNeg, Int.reduceToNat, Int.cast_ofNat_Int]
  refine ⟨_, intsC [0, 0] (by decide), ?_⟩
  simp only [go_sem, ↓reduceIte, Nat.reduceEqDiff, Nat.reduceAdd, Nat.reduceLeDiff, Nat.reduceMul, Nat.reducePow, Nat.reduceLT, Nat.reduceSub, Int.reduceEq, Int.reduceLT, Int.reduceLE, Int.reduceNeg, Int.reduceToNat, Int.cast_ofNat_Int]
  refine ⟨_, sameC 1 [2] [0, 0] (by decide) (by decide), ?_⟩
  simp only [go_sem, ↓reduceIte, Nat.reduceEqDiff, Nat.reduceAdd, Nat.reduceLeDiff, Nat.reduceMul, Nat.reducePow, Nat.reduceLT, Nat.reduceSub, Int.reduceEq, Int.reduceLT, Int.reduceLE, Int.reduceNeg, Int.reduceToNat, Int.cast_ofNat_Int]
  refine wpL_ret ?_
  rw [← hBQ]
  try simp only [go_sem, ↓reduceIte, Nat.reduceEqDiff, Nat.reduceAdd, Nat.reduceLeDiff, Nat.reduceMul, Nat.reducePow, Nat.reduceLT, Nat.reduceSub, Int.reduceEq, Int.reduceLT, Int.reduceLE, Int.reduceNeg, Int.reduceToNat, Int.cast_ofNat_Int]
  try simp only [go_sem, ↓reduceIte, Nat.reduceEqDiff, Nat.reduceAdd, Nat.reduceLeDiff, Nat.reduceMul, Nat.reducePow, Nat.reduceLT, Nat.reduceSub, Int.reduceEq, Int.reduceLT, Int.reduceLE, Int.reduceNeg, Int.reduceToNat, Int.cast_ofNat_Int]
end Go.Proofs.Ytncglcfhbhbaoaa
