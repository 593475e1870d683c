/-
  Literals: an escape; a character of a literal.
-/
import Derived.Test.YtldgcpdpebhndaaDoorW10
import Derived.Test.YtldgcpdpebhndaaDoorAbsZB
set_option linter.unusedSimpArgs false
set_option linter.unusedVariables false
set_option maxRecDepth 100000
set_option maxHeartbeats 4000000
namespace Go.Proofs.YtldgcpdpebhndaaDoor
open Go.Abs Go

def escS (s : ByteArray) (i : Nat) : Int × Int × Int :=
  if s.size ≤ i + 1 then (0, 0, 5)
  else if at' s (i + 1) = 110 then (10, ((i + 2 : Nat) : Int), 0) else if at' s (i + 1) = 116 then (9, ((i + 2 : Nat) : Int), 0) else if at' s (i + 1) = 114 then (13, ((i + 2 : Nat) : Int), 0)
  else if at' s (i + 1) = 92 then (92, ((i + 2 : Nat) : Int), 0) else if at' s (i + 1) = 39 then (39, ((i + 2 : Nat) : Int), 0) else if at' s (i + 1) = 34 then (34, ((i + 2 : Nat) : Int), 0)
  else if at' s (i + 1) = 117 then codeS s (i + 2) else (0, 0, missS s (i + 1))
theorem esc29 (s : ByteArray) (i : Nat) (hs : s.size ≤ 1000000) (hi : i < s.size) : Gives Tryd.prog 29 [.c (eStr s), .c (eInt i)] (rTrip (escS s i)) := by
  have w1 : IntKind.i64.wrap ((i : Int) + 1) = ((i + 1 : Nat) : Int) := by rw [w64 (by omega) (by omega)]; omega
  have w2 : IntKind.i64.wrap (((i + 1 : Nat) : Int) + 1) = ((i + 2 : Nat) : Int) := by rw [w64 (by omega) (by omega)]; omega
  have hQ := escS.eq_1 s i
  refine Gives.intro Tryd.tyOk Tryd.func29 (by kernel_rfl) rfl (by simp [Tryd.ntmps29]) ?_
  simp only [go_sem, ↓reduceIte, Nat.reduceEqDiff, Nat.reduceAdd, Nat.reduceLeDiff, Nat.reduceMul, Nat.reducePow, Nat.reduceLT, Nat.reduceSub, Int.reduceEq, Int.reduceLT, Int.reduceLE, Int.reduceNeg, Int.reduceToNat, Int.cast_ofNat_Int]
  simp only [Tryd.ntmps29, Tryd.results29, eInt, eRune, eByte, eStr, rBool, rInt, rStr, rTwo, rTrip, List.map_cons, List.map_nil]
  generalize hBQ : retQ _ _ _ = BQ
  iterate 2 (refine wpL_region Tryd.tyOk (by decide) ?_; simp only [go_sem, ↓reduceIte, Nat.reduceEqDiff, Nat.reduceAdd, Nat.reduceLeDiff, Nat.reduceMul, Nat.reducePow, Nat.reduceLT, Nat.reduceSub, Int.reduceEq, Int.reduceLT, Int.reduceLE, Int.reduceNeg, Int.reduceToNat, Int.cast_ofNat_Int, w1])
  refine wpL_region Tryd.tyOk (by decide) ?_
  simp only [go_sem, ↓reduceIte, Nat.reduceEqDiff, Nat.reduceAdd, Nat.reduceLeDiff, Nat.reduceMul, Nat.reducePow, Nat.reduceLT, Nat.reduceSub, Int.reduceEq, Int.reduceLT, Int.reduceLE, Int.reduceNeg, Int.reduceToNat, Int.cast_ofNat_Int]
  by_cases c1 : s.size ≤ i + 1
  · rw [if_pos c1] at hQ
    have d1 : (((i + 1 : Nat) : Int) ≥ (s.size : Int)) = True := eq_true (by omega)
    refine wpL_cond (t := true) (by simp only [go_sem, ↓reduceIte, Nat.reduceEqDiff, d1, decide_true]) (fun _ => ?_) (fun h => Bool.noConfusion h)
    refine wpL_region Tryd.tyOk (by decide) ?_
    simp only [go_sem, ↓reduceIte, Nat.reduceEqDiff, Nat.reduceAdd, Nat.reduceLeDiff, Nat.reduceMul, Nat.reducePow, Nat.reduceLT, Nat.reduceSub, Int.reduceEq, Int.reduceLT, Int.reduceLE, Int.reduceNeg, Int.reduceToNat, Int.cast_ofNat_Int]
    refine wpL_ret ?_
    rw [← hBQ]
    try simp only [go_sem, ↓reduceIte, Nat.reduceEqDiff]
    rw [hQ]
    exact ⟨rfl, rfl, rfl⟩
  rw [if_neg c1] at hQ
  have d1 : (((i + 1 : Nat) : Int) ≥ (s.size : Int)) = False := eq_false (by omega)
  refine wpL_cond (t := false) (by simp only [go_sem, ↓reduceIte, Nat.reduceEqDiff, d1, decide_false]) (fun h => Bool.noConfusion h) (fun _ => ?_)
  refine wpL_skip ?_
  have b := byte_at (s := s) (i := i + 1) (by omega)
  have cl := at_lt s (i + 1)
  have hc : (s.get! (i + 1)).toNat = at' s (i + 1) := rfl
  have wc : IntKind.i32.wrap ((at' s (i + 1) : Nat) : Int) = ((at' s (i + 1) : Nat) : Int) := by simp only [IntKind.wrap_i32]; omega
  iterate 2 (refine wpL_region Tryd.tyOk (by decide) ?_; simp only [go_sem, ↓reduceIte, Nat.reduceEqDiff, Nat.reduceAdd, Nat.reduceLeDiff, Nat.reduceMul, Nat.reducePow, Nat.reduceLT, Nat.reduceSub, Int.reduceEq, Int.reduceLT, Int.reduceLE, Int.reduceNeg, Int.reduceToNat, Int.cast_ofNat_Int, b, hc, wc])
  refine wpL_weaken (s' := ⟨[(18, .c (.d (.sc (.int .i32 (at' s (i + 1) : Nat))))), (7, .c (.d (.sc (.int .i32 (at' s (i + 1) : Nat))))), (0, .c (.d (.sc (.string s)))), (1, sint .i64 ((i + 1 : Nat) : Int)), (4, .c (.d (.sc (.int .i32 0)))), (5, sint .i64 0), (6, sint .i64 0)], []⟩) ?_ ?_
  · refine le_mk ?_ ?_ ?_ <;> (simp only [go_sem, ↓reduceIte, Nat.reduceEqDiff]; try simp [eInt, eRune, eByte, eStr, rBool, rInt, rStr, rTwo, rTrip, eInt]; try simp (disch := omega) only [IntWalk.i64_in, and_self])
  generalize hcc : at' s (i + 1) = c at hQ cl ⊢

  by_cases k0 : c = 110
  · rw [if_pos k0] at hQ
    have e0 : ((c : Int) = 110) = True := eq_true (by omega)
    refine wpL_block ?_
    generalize hB0 : blockQ _ _ _ = B0
    simp only [go_sem, ↓reduceIte, Nat.reduceEqDiff]
    refine wpL_block ?_
    generalize hB8 : blockQ _ _ _ = B8
    simp only [go_sem, ↓reduceIte, Nat.reduceEqDiff]
    refine wpL_block ?_
    generalize hB7 : blockQ _ _ _ = B7
    simp only [go_sem, ↓reduceIte, Nat.reduceEqDiff]
    refine wpL_block ?_
    generalize hB6 : blockQ _ _ _ = B6
    simp only [go_sem, ↓reduceIte, Nat.reduceEqDiff]
    refine wpL_block ?_
    generalize hB5 : blockQ _ _ _ = B5
    simp only [go_sem, ↓reduceIte, Nat.reduceEqDiff]
    refine wpL_block ?_
    generalize hB4 : blockQ _ _ _ = B4
    simp only [go_sem, ↓reduceIte, Nat.reduceEqDiff]
    refine wpL_block ?_
    generalize hB3 : blockQ _ _ _ = B3
    simp only [go_sem, ↓reduceIte, Nat.reduceEqDiff]
    refine wpL_block ?_
    generalize hB2 : blockQ _ _ _ = B2
    simp only [go_sem, ↓reduceIte, Nat.reduceEqDiff]
    refine wpL_block ?_
    generalize hB1 : blockQ _ _ _ = B1
    simp only [go_sem, ↓reduceIte, Nat.reduceEqDiff]
    try (simp only [go_sem, ↓reduceIte, Nat.reduceEqDiff, Nat.reduceAdd, Nat.reduceLeDiff, Nat.reduceMul, Nat.reducePow, Nat.reduceLT, Nat.reduceSub, Int.reduceEq, Int.reduceLT, Int.reduceLE, Int.reduceNeg, Int.reduceToNat, Int.cast_ofNat_Int, e0, decide_true, decide_false])
    repeat ((first | refine wpL_region Tryd.tyOk (by decide) ?_ | refine wpL_skip ?_ | (refine wpL_cond (t := true) ?_ (fun _ => ?_) (fun h => Bool.noConfusion h); (solve | (simp only [go_sem, ↓reduceIte, Nat.reduceEqDiff, Nat.reduceAdd, Nat.reduceLeDiff, Nat.reduceMul, Nat.reducePow, Nat.reduceLT, Nat.reduceSub, Int.reduceEq, Int.reduceLT, Int.reduceLE, Int.reduceNeg, Int.reduceToNat, Int.cast_ofNat_Int, e0, decide_true, decide_false]))) | (refine wpL_cond (t := false) ?_ (fun h => Bool.noConfusion h) (fun _ => ?_); (solve | (simp only [go_sem, ↓reduceIte, Nat.reduceEqDiff, Nat.reduceAdd, Nat.reduceLeDiff, Nat.reduceMul, Nat.reducePow, Nat.reduceLT, Nat.reduceSub, Int.reduceEq, Int.reduceLT, Int.reduceLE, Int.reduceNeg, Int.reduceToNat, Int.cast_ofNat_Int, e0, decide_true, decide_false])))); try (simp only [go_sem, ↓reduceIte, Nat.reduceEqDiff, Nat.reduceAdd, Nat.reduceLeDiff, Nat.reduceMul, Nat.reducePow, Nat.reduceLT, Nat.reduceSub, Int.reduceEq, Int.reduceLT, Int.reduceLE, Int.reduceNeg, Int.reduceToNat, Int.cast_ofNat_Int, e0, decide_true, decide_false]))
    refine wpL_exit ?_
    rw [← hB1]
    try simp only [go_sem, ↓reduceIte, Nat.reduceEqDiff]
    refine wpL_region Tryd.tyOk (by decide) ?_
    simp only [go_sem, ↓reduceIte, Nat.reduceEqDiff, Nat.reduceAdd, Nat.reduceLeDiff, Nat.reduceMul, Nat.reducePow, Nat.reduceLT, Nat.reduceSub, Int.reduceEq, Int.reduceLT, Int.reduceLE, Int.reduceNeg, Int.reduceToNat, Int.cast_ofNat_Int]
    refine wpL_exit ?_
    rw [← hB2]
    try simp only [go_sem, ↓reduceIte, Nat.reduceEqDiff]
    rw [← hB3]
    try simp only [go_sem, ↓reduceIte, Nat.reduceEqDiff]
    rw [← hB4]
    try simp only [go_sem, ↓reduceIte, Nat.reduceEqDiff]
    rw [← hB5]
    try simp only [go_sem, ↓reduceIte, Nat.reduceEqDiff]
    rw [← hB6]
    try simp only [go_sem, ↓reduceIte, Nat.reduceEqDiff]
    rw [← hB7]
    try simp only [go_sem, ↓reduceIte, Nat.reduceEqDiff]
    rw [← hB8]
    try simp only [go_sem, ↓reduceIte, Nat.reduceEqDiff]
    rw [← hB0]
    try simp only [go_sem, ↓reduceIte, Nat.reduceEqDiff]
    refine wpL_region Tryd.tyOk (by decide) ?_
    simp only [go_sem, ↓reduceIte, Nat.reduceEqDiff, Nat.reduceAdd, Nat.reduceLeDiff, Nat.reduceMul, Nat.reducePow, Nat.reduceLT, Nat.reduceSub, Int.reduceEq, Int.reduceLT, Int.reduceLE, Int.reduceNeg, Int.reduceToNat, Int.cast_ofNat_Int, w2]
    refine wpL_ret ?_
    rw [← hBQ]
    try simp only [go_sem, ↓reduceIte, Nat.reduceEqDiff]
    rw [hQ]
    exact ⟨rfl, rfl, rfl⟩
  rw [if_neg k0] at hQ
  have e0 : ((c : Int) = 110) = False := eq_false (by omega)
  by_cases k1 : c = 116
  · rw [if_pos k1] at hQ
    have e1 : ((c : Int) = 116) = True := eq_true (by omega)
    refine wpL_block ?_
    generalize hB0 : blockQ _ _ _ = B0
    simp only [go_sem, ↓reduceIte, Nat.reduceEqDiff]
    refine wpL_block ?_
    generalize hB8 : blockQ _ _ _ = B8
    simp only [go_sem, ↓reduceIte, Nat.reduceEqDiff]
    refine wpL_block ?_
    generalize hB7 : blockQ _ _ _ = B7
    simp only [go_sem, ↓reduceIte, Nat.reduceEqDiff]
    refine wpL_block ?_
    generalize hB6 : blockQ _ _ _ = B6
    simp only [go_sem, ↓reduceIte, Nat.reduceEqDiff]
    refine wpL_block ?_
    generalize hB5 : blockQ _ _ _ = B5
    simp only [go_sem, ↓reduceIte, Nat.reduceEqDiff]
    refine wpL_block ?_
    generalize hB4 : blockQ _ _ _ = B4
    simp only [go_sem, ↓reduceIte, Nat.reduceEqDiff]
    refine wpL_block ?_
    generalize hB3 : blockQ _ _ _ = B3
    simp only [go_sem, ↓reduceIte, Nat.reduceEqDiff]
    refine wpL_block ?_
    generalize hB2 : blockQ _ _ _ = B2
    simp only [go_sem, ↓reduceIte, Nat.reduceEqDiff]
    refine wpL_block ?_
    generalize hB1 : blockQ _ _ _ = B1
    simp only [go_sem, ↓reduceIte, Nat.reduceEqDiff]
    try (simp only [go_sem, ↓reduceIte, Nat.reduceEqDiff, Nat.reduceAdd, Nat.reduceLeDiff, Nat.reduceMul, Nat.reducePow, Nat.reduceLT, Nat.reduceSub, Int.reduceEq, Int.reduceLT, Int.reduceLE, Int.reduceNeg, Int.reduceToNat, Int.cast_ofNat_Int, e0, e1, decide_true, decide_false])
    repeat ((first | refine wpL_region Tryd.tyOk (by decide) ?_ | refine wpL_skip ?_ | (refine wpL_cond (t := true) ?_ (fun _ => ?_) (fun h => Bool.noConfusion h); (solve | (simp only [go_sem, ↓reduceIte, Nat.reduceEqDiff, Nat.reduceAdd, Nat.reduceLeDiff, Nat.reduceMul, Nat.reducePow, Nat.reduceLT, Nat.reduceSub, Int.reduceEq, Int.reduceLT, Int.reduceLE, Int.reduceNeg, Int.reduceToNat, Int.cast_ofNat_Int, e0, e1, decide_true, decide_false]))) | (refine wpL_cond (t := false) ?_ (fun h => Bool.noConfusion h) (fun _ => ?_); (solve | (simp only [go_sem, ↓reduceIte, Nat.reduceEqDiff, Nat.reduceAdd, Nat.reduceLeDiff, Nat.reduceMul, Nat.reducePow, Nat.reduceLT, Nat.reduceSub, Int.reduceEq, Int.reduceLT, Int.reduceLE, Int.reduceNeg, Int.reduceToNat, Int.cast_ofNat_Int, e0, e1, decide_true, decide_false])))); try (simp only [go_sem, ↓reduceIte, Nat.reduceEqDiff, Nat.reduceAdd, Nat.reduceLeDiff, Nat.reduceMul, Nat.reducePow, Nat.reduceLT, Nat.reduceSub, Int.reduceEq, Int.reduceLT, Int.reduceLE, Int.reduceNeg, Int.reduceToNat, Int.cast_ofNat_Int, e0, e1, decide_true, decide_false]))
    refine wpL_exit ?_
    rw [← hB1]
    try simp only [go_sem, ↓reduceIte, Nat.reduceEqDiff]
    rw [← hB2]
    try simp only [go_sem, ↓reduceIte, Nat.reduceEqDiff]
    refine wpL_region Tryd.tyOk (by decide) ?_
    simp only [go_sem, ↓reduceIte, Nat.reduceEqDiff, Nat.reduceAdd, Nat.reduceLeDiff, Nat.reduceMul, Nat.reducePow, Nat.reduceLT, Nat.reduceSub, Int.reduceEq, Int.reduceLT, Int.reduceLE, Int.reduceNeg, Int.reduceToNat, Int.cast_ofNat_Int]
    refine wpL_exit ?_
    rw [← hB3]
    try simp only [go_sem, ↓reduceIte, Nat.reduceEqDiff]
    rw [← hB4]
    try simp only [go_sem, ↓reduceIte, Nat.reduceEqDiff]
    rw [← hB5]
    try simp only [go_sem, ↓reduceIte, Nat.reduceEqDiff]
    rw [← hB6]
    try simp only [go_sem, ↓reduceIte, Nat.reduceEqDiff]
    rw [← hB7]
    try simp only [go_sem, ↓reduceIte, Nat.reduceEqDiff]
    rw [← hB8]
    try simp only [go_sem, ↓reduceIte, Nat.reduceEqDiff]
    rw [← hB0]
    try simp only [go_sem, ↓reduceIte, Nat.reduceEqDiff]
    refine wpL_region Tryd.tyOk (by decide) ?_
    simp only [go_sem, ↓reduceIte, Nat.reduceEqDiff, Nat.reduceAdd, Nat.reduceLeDiff, Nat.reduceMul, Nat.reducePow, Nat.reduceLT, Nat.reduceSub, Int.reduceEq, Int.reduceLT, Int.reduceLE, Int.reduceNeg, Int.reduceToNat, Int.cast_ofNat_Int, w2]
    refine wpL_ret ?_
    rw [← hBQ]
    try simp only [go_sem, ↓reduceIte, Nat.reduceEqDiff]
    rw [hQ]
    exact ⟨rfl, rfl, rfl⟩
  rw [if_neg k1] at hQ
  have e1 : ((c : Int) = 116) = False := eq_false (by omega)
  by_cases k2 : c = 114
  · rw [if_pos k2] at hQ
    have e2 : ((c : Int) = 114) = True := eq_true (by omega)
    refine wpL_block ?_
    generalize hB0 : blockQ _ _ _ = B0
    simp only [go_sem, ↓reduceIte, Nat.reduceEqDiff]
    refine wpL_block ?_
    generalize hB8 : blockQ _ _ _ = B8
    simp only [go_sem, ↓reduceIte, Nat.reduceEqDiff]
    refine wpL_block ?_
    generalize hB7 : blockQ _ _ _ = B7
    simp only [go_sem, ↓reduceIte, Nat.reduceEqDiff]
    refine wpL_block ?_
    generalize hB6 : blockQ _ _ _ = B6
    simp only [go_sem, ↓reduceIte, Nat.reduceEqDiff]
    refine wpL_block ?_
    generalize hB5 : blockQ _ _ _ = B5
    simp only [go_sem, ↓reduceIte, Nat.reduceEqDiff]
    refine wpL_block ?_
    generalize hB4 : blockQ _ _ _ = B4
    simp only [go_sem, ↓reduceIte, Nat.reduceEqDiff]
    refine wpL_block ?_
    generalize hB3 : blockQ _ _ _ = B3
    simp only [go_sem, ↓reduceIte, Nat.reduceEqDiff]
    refine wpL_block ?_
    generalize hB2 : blockQ _ _ _ = B2
    simp only [go_sem, ↓reduceIte, Nat.reduceEqDiff]
    refine wpL_block ?_
    generalize hB1 : blockQ _ _ _ = B1
    simp only [go_sem, ↓reduceIte, Nat.reduceEqDiff]
    try (simp only [go_sem, ↓reduceIte, Nat.reduceEqDiff, Nat.reduceAdd, Nat.reduceLeDiff, Nat.reduceMul, Nat.reducePow, Nat.reduceLT, Nat.reduceSub, Int.reduceEq, Int.reduceLT, Int.reduceLE, Int.reduceNeg, Int.reduceToNat, Int.cast_ofNat_Int, e0, e1, e2, decide_true, decide_false])
    repeat ((first | refine wpL_region Tryd.tyOk (by decide) ?_ | refine wpL_skip ?_ | (refine wpL_cond (t := true) ?_ (fun _ => ?_) (fun h => Bool.noConfusion h); (solve | (simp only [go_sem, ↓reduceIte, Nat.reduceEqDiff, Nat.reduceAdd, Nat.reduceLeDiff, Nat.reduceMul, Nat.reducePow, Nat.reduceLT, Nat.reduceSub, Int.reduceEq, Int.reduceLT, Int.reduceLE, Int.reduceNeg, Int.reduceToNat, Int.cast_ofNat_Int, e0, e1, e2, decide_true, decide_false]))) | (refine wpL_cond (t := false) ?_ (fun h => Bool.noConfusion h) (fun _ => ?_); (solve | (simp only [go_sem, ↓reduceIte, Nat.reduceEqDiff, Nat.reduceAdd, Nat.reduceLeDiff, Nat.reduceMul, Nat.reducePow, Nat.reduceLT, Nat.reduceSub, Int.reduceEq, Int.reduceLT, Int.reduceLE, Int.reduceNeg, Int.reduceToNat, Int.cast_ofNat_Int, e0, e1, e2, decide_true, decide_false])))); try (simp only [go_sem, ↓reduceIte, Nat.reduceEqDiff, Nat.reduceAdd, Nat.reduceLeDiff, Nat.reduceMul, Nat.reducePow, Nat.reduceLT, Nat.reduceSub, Int.reduceEq, Int.reduceLT, Int.reduceLE, Int.reduceNeg, Int.reduceToNat, Int.cast_ofNat_Int, e0, e1, e2, decide_true, decide_false]))
    refine wpL_exit ?_
    rw [← hB1]
    try simp only [go_sem, ↓reduceIte, Nat.reduceEqDiff]
    rw [← hB2]
    try simp only [go_sem, ↓reduceIte, Nat.reduceEqDiff]
    rw [← hB3]
    try simp only [go_sem, ↓reduceIte, Nat.reduceEqDiff]
    refine wpL_region Tryd.tyOk (by decide) ?_
    simp only [go_sem, ↓reduceIte, Nat.reduceEqDiff, Nat.reduceAdd, Nat.reduceLeDiff, Nat.reduceMul, Nat.reducePow, Nat.reduceLT, Nat.reduceSub, Int.reduceEq, Int.reduceLT, Int.reduceLE, Int.reduceNeg, Int.reduceToNat, Int.cast_ofNat_Int]
    refine wpL_exit ?_
    rw [← hB4]
    try simp only [go_sem, ↓reduceIte, Nat.reduceEqDiff]
    rw [← hB5]
    try simp only [go_sem, ↓reduceIte, Nat.reduceEqDiff]
    rw [← hB6]
    try simp only [go_sem, ↓reduceIte, Nat.reduceEqDiff]
    rw [← hB7]
    try simp only [go_sem, ↓reduceIte, Nat.reduceEqDiff]
    rw [← hB8]
    try simp only [go_sem, ↓reduceIte, Nat.reduceEqDiff]
    rw [← hB0]
    try simp only [go_sem, ↓reduceIte, Nat.reduceEqDiff]
    refine wpL_region Tryd.tyOk (by decide) ?_
    simp only [go_sem, ↓reduceIte, Nat.reduceEqDiff, Nat.reduceAdd, Nat.reduceLeDiff, Nat.reduceMul, Nat.reducePow, Nat.reduceLT, Nat.reduceSub, Int.reduceEq, Int.reduceLT, Int.reduceLE, Int.reduceNeg, Int.reduceToNat, Int.cast_ofNat_Int, w2]
    refine wpL_ret ?_
    rw [← hBQ]
    try simp only [go_sem, ↓reduceIte, Nat.reduceEqDiff]
    rw [hQ]
    exact ⟨rfl, rfl, rfl⟩
  rw [if_neg k2] at hQ
  have e2 : ((c : Int) = 114) = False := eq_false (by omega)
  by_cases k3 : c = 92
  · rw [if_pos k3] at hQ
    have e3 : ((c : Int) = 92) = True := eq_true (by omega)
    refine wpL_block ?_
    generalize hB0 : blockQ _ _ _ = B0
    simp only [go_sem, ↓reduceIte, Nat.reduceEqDiff]
    refine wpL_block ?_
    generalize hB8 : blockQ _ _ _ = B8
    simp only [go_sem, ↓reduceIte, Nat.reduceEqDiff]
    refine wpL_block ?_
    generalize hB7 : blockQ _ _ _ = B7
    simp only [go_sem, ↓reduceIte, Nat.reduceEqDiff]
    refine wpL_block ?_
    generalize hB6 : blockQ _ _ _ = B6
    simp only [go_sem, ↓reduceIte, Nat.reduceEqDiff]
    refine wpL_block ?_
    generalize hB5 : blockQ _ _ _ = B5
    simp only [go_sem, ↓reduceIte, Nat.reduceEqDiff]
    refine wpL_block ?_
    generalize hB4 : blockQ _ _ _ = B4
    simp only [go_sem, ↓reduceIte, Nat.reduceEqDiff]
    refine wpL_block ?_
    generalize hB3 : blockQ _ _ _ = B3
    simp only [go_sem, ↓reduceIte, Nat.reduceEqDiff]
    refine wpL_block ?_
    generalize hB2 : blockQ _ _ _ = B2
    simp only [go_sem, ↓reduceIte, Nat.reduceEqDiff]
    refine wpL_block ?_
    generalize hB1 : blockQ _ _ _ = B1
    simp only [go_sem, ↓reduceIte, Nat.reduceEqDiff]
    try (simp only [go_sem, ↓reduceIte, Nat.reduceEqDiff, Nat.reduceAdd, Nat.reduceLeDiff, Nat.reduceMul, Nat.reducePow, Nat.reduceLT, Nat.reduceSub, Int.reduceEq, Int.reduceLT, Int.reduceLE, Int.reduceNeg, Int.reduceToNat, Int.cast_ofNat_Int, e0, e1, e2, e3, decide_true, decide_false])
    repeat ((first | refine wpL_region Tryd.tyOk (by decide) ?_ | refine wpL_skip ?_ | (refine wpL_cond (t := true) ?_ (fun _ => ?_) (fun h => Bool.noConfusion h); (solve | (simp only [go_sem, ↓reduceIte, Nat.reduceEqDiff, Nat.reduceAdd, Nat.reduceLeDiff, Nat.reduceMul, Nat.reducePow, Nat.reduceLT, Nat.reduceSub, Int.reduceEq, Int.reduceLT, Int.reduceLE, Int.reduceNeg, Int.reduceToNat, Int.cast_ofNat_Int, e0, e1, e2, e3, decide_true, decide_false]))) | (refine wpL_cond (t := false) ?_ (fun h => Bool.noConfusion h) (fun _ => ?_); (solve | (simp only [go_sem, ↓reduceIte, Nat.reduceEqDiff, Nat.reduceAdd, Nat.reduceLeDiff, Nat.reduceMul, Nat.reducePow, Nat.reduceLT, Nat.reduceSub, Int.reduceEq, Int.reduceLT, Int.reduceLE, Int.reduceNeg, Int.reduceToNat, Int.cast_ofNat_Int, e0, e1, e2, e3, decide_true, decide_false])))); try (simp only [go_sem, ↓reduceIte, Nat.reduceEqDiff, Nat.reduceAdd, Nat.reduceLeDiff, Nat.reduceMul, Nat.reducePow, Nat.reduceLT, Nat.reduceSub, Int.reduceEq, Int.reduceLT, Int.reduceLE, Int.reduceNeg, Int.reduceToNat, Int.cast_ofNat_Int, e0, e1, e2, e3, decide_true, decide_false]))
    refine wpL_exit ?_
    rw [← hB1]
    try simp only [go_sem, ↓reduceIte, Nat.reduceEqDiff]
    rw [← hB2]
    try simp only [go_sem, ↓reduceIte, Nat.reduceEqDiff]
    rw [← hB3]
    try simp only [go_sem, ↓reduceIte, Nat.reduceEqDiff]
    rw [← hB4]
    try simp only [go_sem, ↓reduceIte, Nat.reduceEqDiff]
    rw [← hB5]
    try simp only [go_sem, ↓reduceIte, Nat.reduceEqDiff]
    rw [← hB6]
    try simp only [go_sem, ↓reduceIte, Nat.reduceEqDiff]
    refine wpL_exit ?_
    rw [← hB7]
    try simp only [go_sem, ↓reduceIte, Nat.reduceEqDiff]
    rw [← hB8]
    try simp only [go_sem, ↓reduceIte, Nat.reduceEqDiff]
    rw [← hB0]
    try simp only [go_sem, ↓reduceIte, Nat.reduceEqDiff]
    refine wpL_region Tryd.tyOk (by decide) ?_
    simp only [go_sem, ↓reduceIte, Nat.reduceEqDiff, Nat.reduceAdd, Nat.reduceLeDiff, Nat.reduceMul, Nat.reducePow, Nat.reduceLT, Nat.reduceSub, Int.reduceEq, Int.reduceLT, Int.reduceLE, Int.reduceNeg, Int.reduceToNat, Int.cast_ofNat_Int, w2]
    refine wpL_ret ?_
    rw [← hBQ]
    try simp only [go_sem, ↓reduceIte, Nat.reduceEqDiff]
    rw [hQ]
    exact ⟨by rw [k3]; rfl, rfl, rfl⟩
  rw [if_neg k3] at hQ
  have e3 : ((c : Int) = 92) = False := eq_false (by omega)
  by_cases k4 : c = 39
  · rw [if_pos k4] at hQ
    have e4 : ((c : Int) = 39) = True := eq_true (by omega)
    refine wpL_block ?_
    generalize hB0 : blockQ _ _ _ = B0
    simp only [go_sem, ↓reduceIte, Nat.reduceEqDiff]
    refine wpL_block ?_
    generalize hB8 : blockQ _ _ _ = B8
    simp only [go_sem, ↓reduceIte, Nat.reduceEqDiff]
    refine wpL_block ?_
    generalize hB7 : blockQ _ _ _ = B7
    simp only [go_sem, ↓reduceIte, Nat.reduceEqDiff]
    refine wpL_block ?_
    generalize hB6 : blockQ _ _ _ = B6
    simp only [go_sem, ↓reduceIte, Nat.reduceEqDiff]
    refine wpL_block ?_
    generalize hB5 : blockQ _ _ _ = B5
    simp only [go_sem, ↓reduceIte, Nat.reduceEqDiff]
    refine wpL_block ?_
    generalize hB4 : blockQ _ _ _ = B4
    simp only [go_sem, ↓reduceIte, Nat.reduceEqDiff]
    refine wpL_block ?_
    generalize hB3 : blockQ _ _ _ = B3
    simp only [go_sem, ↓reduceIte, Nat.reduceEqDiff]
    refine wpL_block ?_
    generalize hB2 : blockQ _ _ _ = B2
    simp only [go_sem, ↓reduceIte, Nat.reduceEqDiff]
    refine wpL_block ?_
    generalize hB1 : blockQ _ _ _ = B1
    simp only [go_sem, ↓reduceIte, Nat.reduceEqDiff]
    try (simp only [go_sem, ↓reduceIte, Nat.reduceEqDiff, Nat.reduceAdd, Nat.reduceLeDiff, Nat.reduceMul, Nat.reducePow, Nat.reduceLT, Nat.reduceSub, Int.reduceEq, Int.reduceLT, Int.reduceLE, Int.reduceNeg, Int.reduceToNat, Int.cast_ofNat_Int, e0, e1, e2, e3, e4, decide_true, decide_false])
    repeat ((first | refine wpL_region Tryd.tyOk (by decide) ?_ | refine wpL_skip ?_ | (refine wpL_cond (t := true) ?_ (fun _ => ?_) (fun h => Bool.noConfusion h); (solve | (simp only [go_sem, ↓reduceIte, Nat.reduceEqDiff, Nat.reduceAdd, Nat.reduceLeDiff, Nat.reduceMul, Nat.reducePow, Nat.reduceLT, Nat.reduceSub, Int.reduceEq, Int.reduceLT, Int.reduceLE, Int.reduceNeg, Int.reduceToNat, Int.cast_ofNat_Int, e0, e1, e2, e3, e4, decide_true, decide_false]))) | (refine wpL_cond (t := false) ?_ (fun h => Bool.noConfusion h) (fun _ => ?_); (solve | (simp only [go_sem, ↓reduceIte, Nat.reduceEqDiff, Nat.reduceAdd, Nat.reduceLeDiff, Nat.reduceMul, Nat.reducePow, Nat.reduceLT, Nat.reduceSub, Int.reduceEq, Int.reduceLT, Int.reduceLE, Int.reduceNeg, Int.reduceToNat, Int.cast_ofNat_Int, e0, e1, e2, e3, e4, decide_true, decide_false])))); try (simp only [go_sem, ↓reduceIte, Nat.reduceEqDiff, Nat.reduceAdd, Nat.reduceLeDiff, Nat.reduceMul, Nat.reducePow, Nat.reduceLT, Nat.reduceSub, Int.reduceEq, Int.reduceLT, Int.reduceLE, Int.reduceNeg, Int.reduceToNat, Int.cast_ofNat_Int, e0, e1, e2, e3, e4, decide_true, decide_false]))
    refine wpL_exit ?_
    rw [← hB1]
    try simp only [go_sem, ↓reduceIte, Nat.reduceEqDiff]
    rw [← hB2]
    try simp only [go_sem, ↓reduceIte, Nat.reduceEqDiff]
    rw [← hB3]
    try simp only [go_sem, ↓reduceIte, Nat.reduceEqDiff]
    rw [← hB4]
    try simp only [go_sem, ↓reduceIte, Nat.reduceEqDiff]
    rw [← hB5]
    try simp only [go_sem, ↓reduceIte, Nat.reduceEqDiff]
    rw [← hB6]
    try simp only [go_sem, ↓reduceIte, Nat.reduceEqDiff]
    refine wpL_exit ?_
    rw [← hB7]
    try simp only [go_sem, ↓reduceIte, Nat.reduceEqDiff]
    rw [← hB8]
    try simp only [go_sem, ↓reduceIte, Nat.reduceEqDiff]
    rw [← hB0]
    try simp only [go_sem, ↓reduceIte, Nat.reduceEqDiff]
    refine wpL_region Tryd.tyOk (by decide) ?_
    simp only [go_sem, ↓reduceIte, Nat.reduceEqDiff, Nat.reduceAdd, Nat.reduceLeDiff, Nat.reduceMul, Nat.reducePow, Nat.reduceLT, Nat.reduceSub, Int.reduceEq, Int.reduceLT, Int.reduceLE, Int.reduceNeg, Int.reduceToNat, Int.cast_ofNat_Int, w2]
    refine wpL_ret ?_
    rw [← hBQ]
    try simp only [go_sem, ↓reduceIte, Nat.reduceEqDiff]
    rw [hQ]
    exact ⟨by rw [k4]; rfl, rfl, rfl⟩
  rw [if_neg k4] at hQ
  have e4 : ((c : Int) = 39) = False := eq_false (by omega)
  by_cases k5 : c = 34
  · rw [if_pos k5] at hQ
    have e5 : ((c : Int) = 34) = True := eq_true (by omega)
    refine wpL_block ?_
    generalize hB0 : blockQ _ _ _ = B0
    simp only [go_sem, ↓reduceIte, Nat.reduceEqDiff]
    refine wpL_block ?_
    generalize hB8 : blockQ _ _ _ = B8
    simp only [go_sem, ↓reduceIte, Nat.reduceEqDiff]
    refine wpL_block ?_
    generalize hB7 : blockQ _ _ _ = B7
    simp only [go_sem, ↓reduceIte, Nat.reduceEqDiff]
    refine wpL_block ?_
    generalize hB6 : blockQ _ _ _ = B6
    simp only [go_sem, ↓reduceIte, Nat.reduceEqDiff]
    refine wpL_block ?_
    generalize hB5 : blockQ _ _ _ = B5
    simp only [go_sem, ↓reduceIte, Nat.reduceEqDiff]
    refine wpL_block ?_
    generalize hB4 : blockQ _ _ _ = B4
    simp only [go_sem, ↓reduceIte, Nat.reduceEqDiff]
    refine wpL_block ?_
    generalize hB3 : blockQ _ _ _ = B3
    simp only [go_sem, ↓reduceIte, Nat.reduceEqDiff]
    refine wpL_block ?_
    generalize hB2 : blockQ _ _ _ = B2
    simp only [go_sem, ↓reduceIte, Nat.reduceEqDiff]
    refine wpL_block ?_
    generalize hB1 : blockQ _ _ _ = B1
    simp only [go_sem, ↓reduceIte, Nat.reduceEqDiff]
    try (simp only [go_sem, ↓reduceIte, Nat.reduceEqDiff, Nat.reduceAdd, Nat.reduceLeDiff, Nat.reduceMul, Nat.reducePow, Nat.reduceLT, Nat.reduceSub, Int.reduceEq, Int.reduceLT, Int.reduceLE, Int.reduceNeg, Int.reduceToNat, Int.cast_ofNat_Int, e0, e1, e2, e3, e4, e5, decide_true, decide_false])
    repeat ((first | refine wpL_region Tryd.tyOk (by decide) ?_ | refine wpL_skip ?_ | (refine wpL_cond (t := true) ?_ (fun _ => ?_) (fun h => Bool.noConfusion h); (solve | (simp only [go_sem, ↓reduceIte, Nat.reduceEqDiff, Nat.reduceAdd, Nat.reduceLeDiff, Nat.reduceMul, Nat.reducePow, Nat.reduceLT, Nat.reduceSub, Int.reduceEq, Int.reduceLT, Int.reduceLE, Int.reduceNeg, Int.reduceToNat, Int.cast_ofNat_Int, e0, e1, e2, e3, e4, e5, decide_true, decide_false]))) | (refine wpL_cond (t := false) ?_ (fun h => Bool.noConfusion h) (fun _ => ?_); (solve | (simp only [go_sem, ↓reduceIte, Nat.reduceEqDiff, Nat.reduceAdd, Nat.reduceLeDiff, Nat.reduceMul, Nat.reducePow, Nat.reduceLT, Nat.reduceSub, Int.reduceEq, Int.reduceLT, Int.reduceLE, Int.reduceNeg, Int.reduceToNat, Int.cast_ofNat_Int, e0, e1, e2, e3, e4, e5, decide_true, decide_false])))); try (simp only [go_sem, ↓reduceIte, Nat.reduceEqDiff, Nat.reduceAdd, Nat.reduceLeDiff, Nat.reduceMul, Nat.reducePow, Nat.reduceLT, Nat.reduceSub, Int.reduceEq, Int.reduceLT, Int.reduceLE, Int.reduceNeg, Int.reduceToNat, Int.cast_ofNat_Int, e0, e1, e2, e3, e4, e5, decide_true, decide_false]))
    refine wpL_exit ?_
    rw [← hB1]
    try simp only [go_sem, ↓reduceIte, Nat.reduceEqDiff]
    rw [← hB2]
    try simp only [go_sem, ↓reduceIte, Nat.reduceEqDiff]
    rw [← hB3]
    try simp only [go_sem, ↓reduceIte, Nat.reduceEqDiff]
    rw [← hB4]
    try simp only [go_sem, ↓reduceIte, Nat.reduceEqDiff]
    rw [← hB5]
    try simp only [go_sem, ↓reduceIte, Nat.reduceEqDiff]
    rw [← hB6]
    try simp only [go_sem, ↓reduceIte, Nat.reduceEqDiff]
    try simp only [go_sem, ↓reduceIte, Nat.reduceEqDiff]
    refine wpL_exit ?_
    rw [← hB7]
    try simp only [go_sem, ↓reduceIte, Nat.reduceEqDiff]
    rw [← hB8]
    try simp only [go_sem, ↓reduceIte, Nat.reduceEqDiff]
    rw [← hB0]
    try simp only [go_sem, ↓reduceIte, Nat.reduceEqDiff]
    refine wpL_region Tryd.tyOk (by decide) ?_
    simp only [go_sem, ↓reduceIte, Nat.reduceEqDiff, Nat.reduceAdd, Nat.reduceLeDiff, Nat.reduceMul, Nat.reducePow, Nat.reduceLT, Nat.reduceSub, Int.reduceEq, Int.reduceLT, Int.reduceLE, Int.reduceNeg, Int.reduceToNat, Int.cast_ofNat_Int, w2]
    refine wpL_ret ?_
    rw [← hBQ]
    try simp only [go_sem, ↓reduceIte, Nat.reduceEqDiff]
    rw [hQ]
    exact ⟨by rw [k5]; rfl, rfl, rfl⟩
  rw [if_neg k5] at hQ
  have e5 : ((c : Int) = 34) = False := eq_false (by omega)
  by_cases k6 : c = 117
  · rw [if_pos k6] at hQ
    have e6 : ((c : Int) = 117) = True := eq_true (by omega)
    refine wpL_block ?_
    generalize hB0 : blockQ _ _ _ = B0
    simp only [go_sem, ↓reduceIte, Nat.reduceEqDiff]
    refine wpL_block ?_
    generalize hB8 : blockQ _ _ _ = B8
    simp only [go_sem, ↓reduceIte, Nat.reduceEqDiff]
    refine wpL_block ?_
    generalize hB7 : blockQ _ _ _ = B7
    simp only [go_sem, ↓reduceIte, Nat.reduceEqDiff]
    refine wpL_block ?_
    generalize hB6 : blockQ _ _ _ = B6
    simp only [go_sem, ↓reduceIte, Nat.reduceEqDiff]
    refine wpL_block ?_
    generalize hB5 : blockQ _ _ _ = B5
    simp only [go_sem, ↓reduceIte, Nat.reduceEqDiff]
    refine wpL_block ?_
    generalize hB4 : blockQ _ _ _ = B4
    simp only [go_sem, ↓reduceIte, Nat.reduceEqDiff]
    refine wpL_block ?_
    generalize hB3 : blockQ _ _ _ = B3
    simp only [go_sem, ↓reduceIte, Nat.reduceEqDiff]
    refine wpL_block ?_
    generalize hB2 : blockQ _ _ _ = B2
    simp only [go_sem, ↓reduceIte, Nat.reduceEqDiff]
    refine wpL_block ?_
    generalize hB1 : blockQ _ _ _ = B1
    simp only [go_sem, ↓reduceIte, Nat.reduceEqDiff]
    try (simp only [go_sem, ↓reduceIte, Nat.reduceEqDiff, Nat.reduceAdd, Nat.reduceLeDiff, Nat.reduceMul, Nat.reducePow, Nat.reduceLT, Nat.reduceSub, Int.reduceEq, Int.reduceLT, Int.reduceLE, Int.reduceNeg, Int.reduceToNat, Int.cast_ofNat_Int, e0, e1, e2, e3, e4, e5, e6, decide_true, decide_false])
    repeat ((first | refine wpL_region Tryd.tyOk (by decide) ?_ | refine wpL_skip ?_ | (refine wpL_cond (t := true) ?_ (fun _ => ?_) (fun h => Bool.noConfusion h); (solve | (simp only [go_sem, ↓reduceIte, Nat.reduceEqDiff, Nat.reduceAdd, Nat.reduceLeDiff, Nat.reduceMul, Nat.reducePow, Nat.reduceLT, Nat.reduceSub, Int.reduceEq, Int.reduceLT, Int.reduceLE, Int.reduceNeg, Int.reduceToNat, Int.cast_ofNat_Int, e0, e1, e2, e3, e4, e5, e6, decide_true, decide_false]))) | (refine wpL_cond (t := false) ?_ (fun h => Bool.noConfusion h) (fun _ => ?_); (solve | (simp only [go_sem, ↓reduceIte, Nat.reduceEqDiff, Nat.reduceAdd, Nat.reduceLeDiff, Nat.reduceMul, Nat.reducePow, Nat.reduceLT, Nat.reduceSub, Int.reduceEq, Int.reduceLT, Int.reduceLE, Int.reduceNeg, Int.reduceToNat, Int.cast_ofNat_Int, e0, e1, e2, e3, e4, e5, e6, decide_true, decide_false])))); try (simp only [go_sem, ↓reduceIte, Nat.reduceEqDiff, Nat.reduceAdd, Nat.reduceLeDiff, Nat.reduceMul, Nat.reducePow, Nat.reduceLT, Nat.reduceSub, Int.reduceEq, Int.reduceLT, Int.reduceLE, Int.reduceNeg, Int.reduceToNat, Int.cast_ofNat_Int, e0, e1, e2, e3, e4, e5, e6, decide_true, decide_false]))
    refine wpL_exit ?_
    rw [← hB1]
    try simp only [go_sem, ↓reduceIte, Nat.reduceEqDiff]
    rw [← hB2]
    try simp only [go_sem, ↓reduceIte, Nat.reduceEqDiff]
    rw [← hB3]
    try simp only [go_sem, ↓reduceIte, Nat.reduceEqDiff]
    rw [← hB4]
    try simp only [go_sem, ↓reduceIte, Nat.reduceEqDiff]
    rw [← hB5]
    try simp only [go_sem, ↓reduceIte, Nat.reduceEqDiff]
    rw [← hB6]
    try simp only [go_sem, ↓reduceIte, Nat.reduceEqDiff]
    rw [← hB7]
    try simp only [go_sem, ↓reduceIte, Nat.reduceEqDiff]
    have ec := code34 s (i + 2) hs (by omega)
    refine wpL_region Tryd.tyOk (by decide) ?_
    simp only [go_sem, ↓reduceIte, Nat.reduceEqDiff, Nat.reduceAdd, Nat.reduceLeDiff, Nat.reduceMul, Nat.reducePow, Nat.reduceLT, Nat.reduceSub, Int.reduceEq, Int.reduceLT, Int.reduceLE, Int.reduceNeg, Int.reduceToNat, Int.cast_ofNat_Int, w2]
    refine ⟨_, ec, ?_⟩
    simp only [go_sem, ↓reduceIte, Nat.reduceEqDiff, Nat.reduceAdd, Nat.reduceLeDiff, Nat.reduceMul, Nat.reducePow, Nat.reduceLT, Nat.reduceSub, Int.reduceEq, Int.reduceLT, Int.reduceLE, Int.reduceNeg, Int.reduceToNat, Int.cast_ofNat_Int]
    refine wpL_ret ?_
    rw [← hB8]
    try simp only [go_sem, ↓reduceIte, Nat.reduceEqDiff]
    rw [← hB0]
    try simp only [go_sem, ↓reduceIte, Nat.reduceEqDiff]
    rw [← hBQ]
    try simp only [go_sem, ↓reduceIte, Nat.reduceEqDiff]
    rw [hQ]
    exact ⟨rfl, rfl, rfl⟩
  rw [if_neg k6] at hQ
  have e6 : ((c : Int) = 117) = False := eq_false (by omega)
  refine wpL_block ?_
  generalize hB0 : blockQ _ _ _ = B0
  simp only [go_sem, ↓reduceIte, Nat.reduceEqDiff]
  refine wpL_block ?_
  generalize hB8 : blockQ _ _ _ = B8
  simp only [go_sem, ↓reduceIte, Nat.reduceEqDiff]
  refine wpL_block ?_
  generalize hB7 : blockQ _ _ _ = B7
  simp only [go_sem, ↓reduceIte, Nat.reduceEqDiff]
  refine wpL_block ?_
  generalize hB6 : blockQ _ _ _ = B6
  simp only [go_sem, ↓reduceIte, Nat.reduceEqDiff]
  refine wpL_block ?_
  generalize hB5 : blockQ _ _ _ = B5
  simp only [go_sem, ↓reduceIte, Nat.reduceEqDiff]
  refine wpL_block ?_
  generalize hB4 : blockQ _ _ _ = B4
  simp only [go_sem, ↓reduceIte, Nat.reduceEqDiff]
  refine wpL_block ?_
  generalize hB3 : blockQ _ _ _ = B3
  simp only [go_sem, ↓reduceIte, Nat.reduceEqDiff]
  refine wpL_block ?_
  generalize hB2 : blockQ _ _ _ = B2
  simp only [go_sem, ↓reduceIte, Nat.reduceEqDiff]
  refine wpL_block ?_
  generalize hB1 : blockQ _ _ _ = B1
  simp only [go_sem, ↓reduceIte, Nat.reduceEqDiff]
  try (simp only [go_sem, ↓reduceIte, Nat.reduceEqDiff, Nat.reduceAdd, Nat.reduceLeDiff, Nat.reduceMul, Nat.reducePow, Nat.reduceLT, Nat.reduceSub, Int.reduceEq, Int.reduceLT, Int.reduceLE, Int.reduceNeg, Int.reduceToNat, Int.cast_ofNat_Int, e0, e1, e2, e3, e4, e5, e6, decide_true, decide_false])
  repeat ((first | refine wpL_region Tryd.tyOk (by decide) ?_ | refine wpL_skip ?_ | (refine wpL_cond (t := true) ?_ (fun _ => ?_) (fun h => Bool.noConfusion h); (solve | (simp only [go_sem, ↓reduceIte, Nat.reduceEqDiff, Nat.reduceAdd, Nat.reduceLeDiff, Nat.reduceMul, Nat.reducePow, Nat.reduceLT, Nat.reduceSub, Int.reduceEq, Int.reduceLT, Int.reduceLE, Int.reduceNeg, Int.reduceToNat, Int.cast_ofNat_Int, e0, e1, e2, e3, e4, e5, e6, decide_true, decide_false]))) | (refine wpL_cond (t := false) ?_ (fun h => Bool.noConfusion h) (fun _ => ?_); (solve | (simp only [go_sem, ↓reduceIte, Nat.reduceEqDiff, Nat.reduceAdd, Nat.reduceLeDiff, Nat.reduceMul, Nat.reducePow, Nat.reduceLT, Nat.reduceSub, Int.reduceEq, Int.reduceLT, Int.reduceLE, Int.reduceNeg, Int.reduceToNat, Int.cast_ofNat_Int, e0, e1, e2, e3, e4, e5, e6, decide_true, decide_false])))); try (simp only [go_sem, ↓reduceIte, Nat.reduceEqDiff, Nat.reduceAdd, Nat.reduceLeDiff, Nat.reduceMul, Nat.reducePow, Nat.reduceLT, Nat.reduceSub, Int.reduceEq, Int.reduceLT, Int.reduceLE, Int.reduceNeg, Int.reduceToNat, Int.cast_ofNat_Int, e0, e1, e2, e3, e4, e5, e6, decide_true, decide_false]))
  refine wpL_exit ?_
  rw [← hB1]
  try simp only [go_sem, ↓reduceIte, Nat.reduceEqDiff]
  rw [← hB2]
  try simp only [go_sem, ↓reduceIte, Nat.reduceEqDiff]
  rw [← hB3]
  try simp only [go_sem, ↓reduceIte, Nat.reduceEqDiff]
  rw [← hB4]
  try simp only [go_sem, ↓reduceIte, Nat.reduceEqDiff]
  rw [← hB5]
  try simp only [go_sem, ↓reduceIte, Nat.reduceEqDiff]
  rw [← hB6]
  try simp only [go_sem, ↓reduceIte, Nat.reduceEqDiff]
  rw [← hB7]
  try simp only [go_sem, ↓reduceIte, Nat.reduceEqDiff]
  rw [← hB8]
  try simp only [go_sem, ↓reduceIte, Nat.reduceEqDiff]
  have em := miss35 s (i + 1)
  refine wpL_region Tryd.tyOk (by decide) ?_
  simp only [go_sem, ↓reduceIte, Nat.reduceEqDiff, Nat.reduceAdd, Nat.reduceLeDiff, Nat.reduceMul, Nat.reducePow, Nat.reduceLT, Nat.reduceSub, Int.reduceEq, Int.reduceLT, Int.reduceLE, Int.reduceNeg, Int.reduceToNat, Int.cast_ofNat_Int]
  refine ⟨_, em, ?_⟩
  simp only [go_sem, ↓reduceIte, Nat.reduceEqDiff, Nat.reduceAdd, Nat.reduceLeDiff, Nat.reduceMul, Nat.reducePow, Nat.reduceLT, Nat.reduceSub, Int.reduceEq, Int.reduceLT, Int.reduceLE, Int.reduceNeg, Int.reduceToNat, Int.cast_ofNat_Int]
  refine wpL_ret ?_
  rw [← hB0]
  try simp only [go_sem, ↓reduceIte, Nat.reduceEqDiff]
  rw [← hBQ]
  try simp only [go_sem, ↓reduceIte, Nat.reduceEqDiff]
  rw [hQ]
  exact ⟨rfl, rfl, rfl⟩
end Go.Proofs.YtldgcpdpebhndaaDoor
