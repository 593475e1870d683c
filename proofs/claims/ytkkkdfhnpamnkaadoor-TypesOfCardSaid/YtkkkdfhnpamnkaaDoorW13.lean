/-
  Types: validity by the reference.
-/
import Derived.Test.YtkkkdfhnpamnkaaDoorW12
import Derived.Test.YtkkkdfhnpamnkaaDoorAbsZB
set_option linter.unusedSimpArgs false
set_option linter.unusedVariables false
set_option maxRecDepth 100000
set_option maxHeartbeats 4000000
namespace Go.Proofs.YtkkkdfhnpamnkaaDoor
open Go.Abs Go

def refHead (t : Ty) : Bool := decide (K7 t.kinds) && (decide (-1 ≤ t.rank) && (decide (t.rank ≤ 8) && (decide ((t.dims.length : Int) = max t.rank 0) && decide (t.known.length ≤ 1))))
theorem head_ref (t : Ty) : okHead t = (refHead t && dimsG 1 t.dims) := by
  unfold okHead refHead
  cases decide (K7 t.kinds) <;> cases decide (-1 ≤ t.rank) <;> cases decide (t.rank ≤ 8) <;> cases decide ((t.dims.length : Int) = max t.rank 0) <;> cases dimsG 1 t.dims <;> cases decide (t.known.length ≤ 1) <;> rfl
theorem k7_iff (k : Int) : K7 k ↔ ¬ k < 2 ∧ ¬ k > 14 ∧ Int.tmod k 2 = 0 := by
  unfold K7
  constructor
  · intro h
    rcases h with rfl | rfl | rfl | rfl | rfl | rfl | rfl <;> decide
  · rintro ⟨h1, h2, h3⟩
    rw [Int.tmod_eq_emod_of_nonneg (by omega)] at h3
    omega
theorem right19 (t : Ty) (hG : GoodT t) : Gives Tryd.prog 19 [.agg (eTy t)] (rBool (rightT t)) := by
  obtain ⟨g1, g2, g3, ⟨g4, g5⟩, g6, g7⟩ := hG
  have hk7 := k7_iff t.kinds
  refine Gives.intro Tryd.tyOk Tryd.func19 (by kernel_rfl) rfl (by simp [Tryd.ntmps19]) ?_
  simp only [go_sem, ↓reduceIte, Nat.reduceEqDiff, Nat.reduceAdd, Nat.reduceLeDiff, Nat.reduceMul, Nat.reducePow, Nat.reduceLT, Nat.reduceSub, Int.reduceEq, Int.reduceLT, Int.reduceLE, Int.reduceNeg, Int.reduceToNat, Int.cast_ofNat_Int]
  simp only [Tryd.ntmps19, Tryd.results19, eInt, eStr, rBool, rInt, rStr, rTwo, rThree, eTy, rTy, List.map_cons, List.map_nil]
  generalize hBQ : retQ _ _ _ = BQ
  refine wpL_region Tryd.tyOk (by decide) ?_
  simp only [go_sem, ↓reduceIte, Nat.reduceEqDiff, Nat.reduceAdd, Nat.reduceLeDiff, Nat.reduceMul, Nat.reducePow, Nat.reduceLT, Nat.reduceSub, Int.reduceEq, Int.reduceLT, Int.reduceLE, Int.reduceNeg, Int.reduceToNat, Int.cast_ofNat_Int]
  refine wpL_to ⟨[(44, .c (.d (.sc (.bool (!refHead t))))), (1, .c (.ptr 1 0))], [(1, .box 30 [.d (eInt t.kinds), .d (eInt t.rank), .d (.sl (eInts t.dims)), .d (.sl (t.known.map eArr))])]⟩ ?_ ?_
  · by_cases c1 : t.kinds < 2
    · have hs : refHead t = false := by
        have : ¬ K7 t.kinds := fun h => (hk7.1 h).1 c1
        simp [refHead, this]
      refine wpL_region Tryd.tyOk (by decide) ?_
      simp only [go_sem, ↓reduceIte, Nat.reduceEqDiff, Nat.reduceAdd, Nat.reduceLeDiff, Nat.reduceMul, Nat.reducePow, Nat.reduceLT, Nat.reduceSub, Int.reduceEq, Int.reduceLT, Int.reduceLE, Int.reduceNeg, Int.reduceToNat, Int.cast_ofNat_Int, c1, decide_false, decide_true, Ne, not_true_eq_false, not_false_eq_true, Bool.not_true, Bool.not_false]
      refine le_mk ?_ ?_ ?_ <;> (simp only [go_sem, ↓reduceIte, Nat.reduceEqDiff]; try simp [eInt, eStr, rBool, rInt, rStr, rTwo, rThree, eTy, rTy, eInts, hs]; try simp (disch := omega) only [IntWalk.i64_in, and_self])
    by_cases c2 : t.kinds > 14
    · have hs : refHead t = false := by
        have : ¬ K7 t.kinds := fun h => (hk7.1 h).2.1 c2
        simp [refHead, this]
      refine wpL_region Tryd.tyOk (by decide) ?_
      simp only [go_sem, ↓reduceIte, Nat.reduceEqDiff, Nat.reduceAdd, Nat.reduceLeDiff, Nat.reduceMul, Nat.reducePow, Nat.reduceLT, Nat.reduceSub, Int.reduceEq, Int.reduceLT, Int.reduceLE, Int.reduceNeg, Int.reduceToNat, Int.cast_ofNat_Int, c1, c2, decide_false, decide_true, Ne, not_true_eq_false, not_false_eq_true, Bool.not_true, Bool.not_false]
      refine le_mk ?_ ?_ ?_ <;> (simp only [go_sem, ↓reduceIte, Nat.reduceEqDiff]; try simp [eInt, eStr, rBool, rInt, rStr, rTwo, rThree, eTy, rTy, eInts, hs]; try simp (disch := omega) only [IntWalk.i64_in, and_self])
    by_cases c3 : Int.tmod t.kinds 2 = 0
    case neg =>
      have hs : refHead t = false := by
        have : ¬ K7 t.kinds := fun h => c3 (hk7.1 h).2.2
        simp [refHead, this]
      refine wpL_region Tryd.tyOk (by decide) ?_
      simp only [go_sem, ↓reduceIte, Nat.reduceEqDiff, Nat.reduceAdd, Nat.reduceLeDiff, Nat.reduceMul, Nat.reducePow, Nat.reduceLT, Nat.reduceSub, Int.reduceEq, Int.reduceLT, Int.reduceLE, Int.reduceNeg, Int.reduceToNat, Int.cast_ofNat_Int, c1, c2, c3, decide_false, decide_true, Ne, not_true_eq_false, not_false_eq_true, Bool.not_true, Bool.not_false]
      refine le_mk ?_ ?_ ?_ <;> (simp only [go_sem, ↓reduceIte, Nat.reduceEqDiff]; try simp [eInt, eStr, rBool, rInt, rStr, rTwo, rThree, eTy, rTy, eInts, hs]; try simp (disch := omega) only [IntWalk.i64_in, and_self])
    have ck : K7 t.kinds := hk7.2 ⟨c1, c2, c3⟩
    by_cases c4 : t.rank < -1
    · have hs : refHead t = false := by
        have : ¬ -1 ≤ t.rank := by omega
        simp [refHead, this]
      refine wpL_region Tryd.tyOk (by decide) ?_
      simp only [go_sem, ↓reduceIte, Nat.reduceEqDiff, Nat.reduceAdd, Nat.reduceLeDiff, Nat.reduceMul, Nat.reducePow, Nat.reduceLT, Nat.reduceSub, Int.reduceEq, Int.reduceLT, Int.reduceLE, Int.reduceNeg, Int.reduceToNat, Int.cast_ofNat_Int, c1, c2, c3, c4, decide_false, decide_true, Ne, not_true_eq_false, not_false_eq_true, Bool.not_true, Bool.not_false]
      refine le_mk ?_ ?_ ?_ <;> (simp only [go_sem, ↓reduceIte, Nat.reduceEqDiff]; try simp [eInt, eStr, rBool, rInt, rStr, rTwo, rThree, eTy, rTy, eInts, hs]; try simp (disch := omega) only [IntWalk.i64_in, and_self])
    by_cases c5 : t.rank > 8
    · have hs : refHead t = false := by
        have : ¬ t.rank ≤ 8 := by omega
        simp [refHead, this]
      refine wpL_region Tryd.tyOk (by decide) ?_
      simp only [go_sem, ↓reduceIte, Nat.reduceEqDiff, Nat.reduceAdd, Nat.reduceLeDiff, Nat.reduceMul, Nat.reducePow, Nat.reduceLT, Nat.reduceSub, Int.reduceEq, Int.reduceLT, Int.reduceLE, Int.reduceNeg, Int.reduceToNat, Int.cast_ofNat_Int, c1, c2, c3, c4, c5, decide_false, decide_true, Ne, not_true_eq_false, not_false_eq_true, Bool.not_true, Bool.not_false]
      refine le_mk ?_ ?_ ?_ <;> (simp only [go_sem, ↓reduceIte, Nat.reduceEqDiff]; try simp [eInt, eStr, rBool, rInt, rStr, rTwo, rThree, eTy, rTy, eInts, hs]; try simp (disch := omega) only [IntWalk.i64_in, and_self])
    by_cases c6 : (t.dims.length : Int) = max t.rank 0
    case neg =>
      have hs : refHead t = false := by simp [refHead, c6]
      refine wpL_region Tryd.tyOk (by decide) ?_
      simp only [go_sem, ↓reduceIte, Nat.reduceEqDiff, Nat.reduceAdd, Nat.reduceLeDiff, Nat.reduceMul, Nat.reducePow, Nat.reduceLT, Nat.reduceSub, Int.reduceEq, Int.reduceLT, Int.reduceLE, Int.reduceNeg, Int.reduceToNat, Int.cast_ofNat_Int, c1, c2, c3, c4, c5, c6, eInts_len, decide_false, decide_true, Ne, not_true_eq_false, not_false_eq_true, Bool.not_true, Bool.not_false]
      refine le_mk ?_ ?_ ?_ <;> (simp only [go_sem, ↓reduceIte, Nat.reduceEqDiff]; try simp [eInt, eStr, rBool, rInt, rStr, rTwo, rThree, eTy, rTy, eInts, hs]; try simp (disch := omega) only [IntWalk.i64_in, and_self])
    by_cases c7 : t.known.length ≤ 1
    · have c7' : ¬ (t.known.length : Int) > 1 := by omega
      have h3 : -1 ≤ t.rank := by omega
      have h4 : t.rank ≤ 8 := by omega
      have hs : refHead t = true := by simp [refHead, ck, h3, h4, c6, c7]
      refine wpL_region Tryd.tyOk (by decide) ?_
      simp only [go_sem, ↓reduceIte, Nat.reduceEqDiff, Nat.reduceAdd, Nat.reduceLeDiff, Nat.reduceMul, Nat.reducePow, Nat.reduceLT, Nat.reduceSub, Int.reduceEq, Int.reduceLT, Int.reduceLE, Int.reduceNeg, Int.reduceToNat, Int.cast_ofNat_Int, c1, c2, c3, c4, c5, eq_true c6, c7', eInts_len, List.length_map, decide_false, decide_true, Ne, not_true_eq_false, not_false_eq_true, Bool.not_true, Bool.not_false]
      refine le_mk ?_ ?_ ?_ <;> (simp only [go_sem, ↓reduceIte, Nat.reduceEqDiff]; try simp [eInt, eStr, rBool, rInt, rStr, rTwo, rThree, eTy, rTy, eInts, hs]; try simp (disch := omega) only [IntWalk.i64_in, and_self])
    · have c7' : (t.known.length : Int) > 1 := by omega
      have hs : refHead t = false := by simp [refHead, c7]
      refine wpL_region Tryd.tyOk (by decide) ?_
      simp only [go_sem, ↓reduceIte, Nat.reduceEqDiff, Nat.reduceAdd, Nat.reduceLeDiff, Nat.reduceMul, Nat.reducePow, Nat.reduceLT, Nat.reduceSub, Int.reduceEq, Int.reduceLT, Int.reduceLE, Int.reduceNeg, Int.reduceToNat, Int.cast_ofNat_Int, c1, c2, c3, c4, c5, eq_true c6, c7', eInts_len, List.length_map, decide_false, decide_true, Ne, not_true_eq_false, not_false_eq_true, Bool.not_true, Bool.not_false]
      refine le_mk ?_ ?_ ?_ <;> (simp only [go_sem, ↓reduceIte, Nat.reduceEqDiff]; try simp [eInt, eStr, rBool, rInt, rStr, rTwo, rThree, eTy, rTy, eInts, hs]; try simp (disch := omega) only [IntWalk.i64_in, and_self])
  try simp only [go_sem, ↓reduceIte, Nat.reduceEqDiff]
  have hspec0 := head_ref t
  rw [dimsG_iff] at hspec0
  cases hh : refHead t
  · refine wpL_cond (t := true) (by simp only [go_sem, ↓reduceIte, Nat.reduceEqDiff, hh, Bool.not_false]) (fun _ => ?_) (fun h => Bool.noConfusion h)
    try simp only [go_sem, ↓reduceIte, Nat.reduceEqDiff]
    refine wpL_region Tryd.tyOk (by decide) ?_
    simp only [go_sem, ↓reduceIte, Nat.reduceEqDiff, Nat.reduceAdd, Nat.reduceLeDiff, Nat.reduceMul, Nat.reducePow, Nat.reduceLT, Nat.reduceSub, Int.reduceEq, Int.reduceLT, Int.reduceLE, Int.reduceNeg, Int.reduceToNat, Int.cast_ofNat_Int]
    refine wpL_ret ?_
    rw [← hBQ]
    try simp only [go_sem, ↓reduceIte, Nat.reduceEqDiff, Nat.reduceAdd, Nat.reduceLeDiff, Nat.reduceMul, Nat.reducePow, Nat.reduceLT, Nat.reduceSub, Int.reduceEq, Int.reduceLT, Int.reduceLE, Int.reduceNeg, Int.reduceToNat, Int.cast_ofNat_Int]
    simp [rightT, hspec0, hh]
  rw [hh, Bool.true_and] at hspec0
  refine wpL_cond (t := false) (by simp only [go_sem, ↓reduceIte, Nat.reduceEqDiff, hh, Bool.not_true]) (fun h => Bool.noConfusion h) (fun _ => ?_)
  obtain ⟨hK, hr8, hlen⟩ : t.known.length ≤ 1 ∧ t.rank ≤ 8 ∧ (t.dims.length : Int) = max t.rank 0 := by
    simp [refHead] at hh; omega
  try simp only [go_sem, ↓reduceIte, Nat.reduceEqDiff]
  refine wpL_skip ?_
  iterate 2 (refine wpL_region Tryd.tyOk (by decide) ?_; simp only [go_sem, ↓reduceIte, Nat.reduceEqDiff, Nat.reduceAdd, Nat.reduceLeDiff, Nat.reduceMul, Nat.reducePow, Nat.reduceLT, Nat.reduceSub, Int.reduceEq, Int.reduceLT, Int.reduceLE, Int.reduceNeg, Int.reduceToNat, Int.cast_ofNat_Int])
  refine wpL_block ?_
  generalize hB0 : blockQ _ _ _ = B0
  simp only [go_sem, ↓reduceIte, Nat.reduceEqDiff]
  refine wpL_loop (fun n s => ∃ j : Nat, j ≤ t.dims.length ∧ n = t.dims.length - j ∧ t.dims.all (fun d => decide (-1 ≤ d)) = (t.dims.drop j).all (fun d => decide (-1 ≤ d)) ∧ s = ⟨[(4, sint .i64 j), (3, .c (.row 45)), (1, .c (.ptr 1 0))], [(1, .box 30 [.d (eInt t.kinds), .d (eInt t.rank), .d (.sl (eInts t.dims)), .d (.sl (t.known.map eArr))]), (45, .arr 3 1 (eInts ((t.dims.take j).filter fun d => decide (0 ≤ d))) false)]⟩) ?_ ?_
  · refine ⟨_, _, ⟨0, by omega, rfl, rfl, rfl⟩, ?_⟩
    refine le_mk ?_ ?_ ?_ <;> (simp only [go_sem, ↓reduceIte, Nat.reduceEqDiff]; try simp [eInt, eStr, rBool, rInt, rStr, rTwo, rThree, eTy, rTy, eInts]; try simp (disch := omega) only [IntWalk.i64_in, and_self])
  rintro n s ⟨j, hj, rfl, hpre, rfl⟩
  simp only [go_sem, ↓reduceIte, Nat.reduceEqDiff, Nat.reduceAdd, Nat.reduceLeDiff, Nat.reduceMul, Nat.reducePow, Nat.reduceLT, Nat.reduceSub, Int.reduceEq, Int.reduceLT, Int.reduceLE, Int.reduceNeg, Int.reduceToNat, Int.cast_ofNat_Int]
  refine wpL_region Tryd.tyOk (by decide) ?_
  simp only [go_sem, ↓reduceIte, Nat.reduceEqDiff, Nat.reduceAdd, Nat.reduceLeDiff, Nat.reduceMul, Nat.reducePow, Nat.reduceLT, Nat.reduceSub, Int.reduceEq, Int.reduceLT, Int.reduceLE, Int.reduceNeg, Int.reduceToNat, Int.cast_ofNat_Int, eInts_len]
  refine wpL_cond (t := decide ((j : Int) < t.dims.length)) (by simp only [go_sem, ↓reduceIte, Nat.reduceEqDiff]) (fun hlt => ?_) (fun hge => ?_)
  · have hlt := lt_of hlt
    obtain ⟨d, hd⟩ := get_ex (l := t.dims) (i := j) (by omega)
    rw [drop_get hd, List.all_cons] at hpre
    have hstep : (t.dims.take (j + 1)).filter (fun d => decide (0 ≤ d)) = (t.dims.take j).filter (fun d => decide (0 ≤ d)) ++ (if 0 ≤ d then [d] else []) := by
      rw [take_succ_get hd, List.filter_append]
      by_cases h : 0 ≤ d <;> simp [h]
    have hflen : ((t.dims.take j).filter fun d => decide (0 ≤ d)).length ≤ 8 := by
      have h1 := List.length_filter_le (fun d => decide (0 ≤ d)) (t.dims.take j)
      have h2 := List.length_take_le j t.dims
      omega
    simp only [go_sem, ↓reduceIte, Nat.reduceEqDiff, Nat.reduceAdd, Nat.reduceLeDiff, Nat.reduceMul, Nat.reducePow, Nat.reduceLT, Nat.reduceSub, Int.reduceEq, Int.reduceLT, Int.reduceLE, Int.reduceNeg, Int.reduceToNat, Int.cast_ofNat_Int]
    refine wpL_skip ?_
    refine wpL_block ?_
    generalize hB1 : blockQ _ _ _ = B1
    simp only [go_sem, ↓reduceIte, Nat.reduceEqDiff]
    refine wpL_region Tryd.tyOk (by decide) ?_
    simp only [go_sem, ↓reduceIte, Nat.reduceEqDiff, Nat.reduceAdd, Nat.reduceLeDiff, Nat.reduceMul, Nat.reducePow, Nat.reduceLT, Nat.reduceSub, Int.reduceEq, Int.reduceLT, Int.reduceLE, Int.reduceNeg, Int.reduceToNat, Int.cast_ofNat_Int, eInts_get hd]
    by_cases h1 : d < -1
    · have hm : ¬ -1 ≤ d := by omega
      rw [decide_eq_false hm, Bool.false_and] at hpre
      refine wpL_cond (t := true) (by simp only [go_sem, ↓reduceIte, Nat.reduceEqDiff, h1, decide_true]) (fun _ => ?_) (fun h => Bool.noConfusion h)
      try simp only [go_sem, ↓reduceIte, Nat.reduceEqDiff]
      refine wpL_region Tryd.tyOk (by decide) ?_
      simp only [go_sem, ↓reduceIte, Nat.reduceEqDiff, Nat.reduceAdd, Nat.reduceLeDiff, Nat.reduceMul, Nat.reducePow, Nat.reduceLT, Nat.reduceSub, Int.reduceEq, Int.reduceLT, Int.reduceLE, Int.reduceNeg, Int.reduceToNat, Int.cast_ofNat_Int]
      refine wpL_ret ?_
      rw [← hB1]
      try simp only [go_sem, ↓reduceIte, Nat.reduceEqDiff]
      rw [← hB0]
      try simp only [go_sem, ↓reduceIte, Nat.reduceEqDiff]
      rw [← hBQ]
      try simp only [go_sem, ↓reduceIte, Nat.reduceEqDiff, Nat.reduceAdd, Nat.reduceLeDiff, Nat.reduceMul, Nat.reducePow, Nat.reduceLT, Nat.reduceSub, Int.reduceEq, Int.reduceLT, Int.reduceLE, Int.reduceNeg, Int.reduceToNat, Int.cast_ofNat_Int]
      rw [hpre, Bool.false_and] at hspec0
      simp [rightT, hspec0]
    have hm : -1 ≤ d := by omega
    rw [decide_eq_true hm, Bool.true_and] at hpre
    refine wpL_cond (t := false) (by simp only [go_sem, ↓reduceIte, Nat.reduceEqDiff, h1, decide_false]) (fun h => Bool.noConfusion h) (fun _ => ?_)
    try simp only [go_sem, ↓reduceIte, Nat.reduceEqDiff]
    refine wpL_skip ?_
    refine wpL_region Tryd.tyOk (by decide) ?_
    simp only [go_sem, ↓reduceIte, Nat.reduceEqDiff, Nat.reduceAdd, Nat.reduceLeDiff, Nat.reduceMul, Nat.reducePow, Nat.reduceLT, Nat.reduceSub, Int.reduceEq, Int.reduceLT, Int.reduceLE, Int.reduceNeg, Int.reduceToNat, Int.cast_ofNat_Int, eInts_get hd]
    by_cases h2 : 0 ≤ d
    · have h2' : d ≥ 0 := h2
      rw [if_pos h2] at hstep
      refine wpL_cond (t := true) (by simp only [go_sem, ↓reduceIte, Nat.reduceEqDiff, h2', decide_true]) (fun _ => ?_) (fun h => Bool.noConfusion h)
      try simp only [go_sem, ↓reduceIte, Nat.reduceEqDiff]
      refine wpL_region Tryd.tyOk (by decide) ?_
      simp only [go_sem, ↓reduceIte, Nat.reduceEqDiff, Nat.reduceAdd, Nat.reduceLeDiff, Nat.reduceMul, Nat.reducePow, Nat.reduceLT, Nat.reduceSub, Int.reduceEq, Int.reduceLT, Int.reduceLE, Int.reduceNeg, Int.reduceToNat, Int.cast_ofNat_Int, eInts_get hd]
      refine ⟨⟨by omega, by simp⟩, ?_⟩
      rw [← hB1]
      try simp only [go_sem, ↓reduceIte, Nat.reduceEqDiff]
      refine wpL_region Tryd.tyOk (by decide) ?_
      simp only [go_sem, ↓reduceIte, Nat.reduceEqDiff, Nat.reduceAdd, Nat.reduceLeDiff, Nat.reduceMul, Nat.reducePow, Nat.reduceLT, Nat.reduceSub, Int.reduceEq, Int.reduceLT, Int.reduceLE, Int.reduceNeg, Int.reduceToNat, Int.cast_ofNat_Int]
      refine ⟨_, _, ?_, ⟨j + 1, by omega, rfl, hpre, rfl⟩, ?_⟩
      · omega
      · rw [hstep]
        refine le_mk ?_ ?_ ?_ <;> (simp only [go_sem, ↓reduceIte, Nat.reduceEqDiff]; try simp [eInt, eStr, rBool, rInt, rStr, rTwo, rThree, eTy, rTy, eInts]; try simp (disch := omega) only [IntWalk.i64_in, and_self])
    · have h2' : ¬ d ≥ 0 := h2
      rw [if_neg h2, List.append_nil] at hstep
      refine wpL_cond (t := false) (by simp only [go_sem, ↓reduceIte, Nat.reduceEqDiff, h2', decide_false]) (fun h => Bool.noConfusion h) (fun _ => ?_)
      try simp only [go_sem, ↓reduceIte, Nat.reduceEqDiff]
      refine wpL_skip ?_
      try simp only [go_sem, ↓reduceIte, Nat.reduceEqDiff]
      rw [← hB1]
      try simp only [go_sem, ↓reduceIte, Nat.reduceEqDiff]
      refine wpL_region Tryd.tyOk (by decide) ?_
      simp only [go_sem, ↓reduceIte, Nat.reduceEqDiff, Nat.reduceAdd, Nat.reduceLeDiff, Nat.reduceMul, Nat.reducePow, Nat.reduceLT, Nat.reduceSub, Int.reduceEq, Int.reduceLT, Int.reduceLE, Int.reduceNeg, Int.reduceToNat, Int.cast_ofNat_Int]
      refine ⟨_, _, ?_, ⟨j + 1, by omega, rfl, hpre, rfl⟩, ?_⟩
      · omega
      · rw [hstep]
        refine le_mk ?_ ?_ ?_ <;> (simp only [go_sem, ↓reduceIte, Nat.reduceEqDiff]; try simp [eInt, eStr, rBool, rInt, rStr, rTwo, rThree, eTy, rTy, eInts]; try simp (disch := omega) only [IntWalk.i64_in, and_self])
  have hge := ge_of hge
  rw [List.drop_of_length_le (by omega)] at hpre
  have hpre' : t.dims.all (fun d => decide (-1 ≤ d)) = true := hpre
  rw [hpre', Bool.true_and] at hspec0
  have htake : t.dims.take j = t.dims := List.take_of_length_le (by omega)
  rw [htake]
  generalize hfl : t.dims.filter (fun d => decide (0 ≤ d)) = fl at *
  have hfl8 : fl.length ≤ 8 := by
    rw [← hfl]
    have h1 := List.length_filter_le (fun d => decide (0 ≤ d)) t.dims
    omega
  have hrs : rightS fl = rightG 1 fl := by unfold rightS; rw [decide_eq_true hfl8]; rfl
  refine wpL_exit ?_
  rw [← hB0]
  try simp only [go_sem, ↓reduceIte, Nat.reduceEqDiff]
  refine wpL_region Tryd.tyOk (by decide) ?_
  simp only [go_sem, ↓reduceIte, Nat.reduceEqDiff, Nat.reduceAdd, Nat.reduceLeDiff, Nat.reduceMul, Nat.reducePow, Nat.reduceLT, Nat.reduceSub, Int.reduceEq, Int.reduceLT, Int.reduceLE, Int.reduceNeg, Int.reduceToNat, Int.cast_ofNat_Int]
  refine ⟨_, right16 fl (by omega), ?_⟩
  rw [hrs, ← hspec0]
  cases ho : okHead t
  · simp only [go_sem, ↓reduceIte, Nat.reduceEqDiff, Nat.reduceAdd, Nat.reduceLeDiff, Nat.reduceMul, Nat.reducePow, Nat.reduceLT, Nat.reduceSub, Int.reduceEq, Int.reduceLT, Int.reduceLE, Int.reduceNeg, Int.reduceToNat, Int.cast_ofNat_Int, decide_false, decide_true, Ne, not_true_eq_false, not_false_eq_true, Bool.not_true, Bool.not_false]
    refine wpL_cond (t := true) (by simp only [go_sem, ↓reduceIte, Nat.reduceEqDiff]) (fun _ => ?_) (fun h => Bool.noConfusion h)
    try simp only [go_sem, ↓reduceIte, Nat.reduceEqDiff]
    refine wpL_region Tryd.tyOk (by decide) ?_
    simp only [go_sem, ↓reduceIte, Nat.reduceEqDiff, Nat.reduceAdd, Nat.reduceLeDiff, Nat.reduceMul, Nat.reducePow, Nat.reduceLT, Nat.reduceSub, Int.reduceEq, Int.reduceLT, Int.reduceLE, Int.reduceNeg, Int.reduceToNat, Int.cast_ofNat_Int]
    refine wpL_ret ?_
    rw [← hBQ]
    try simp only [go_sem, ↓reduceIte, Nat.reduceEqDiff, Nat.reduceAdd, Nat.reduceLeDiff, Nat.reduceMul, Nat.reducePow, Nat.reduceLT, Nat.reduceSub, Int.reduceEq, Int.reduceLT, Int.reduceLE, Int.reduceNeg, Int.reduceToNat, Int.cast_ofNat_Int]
    simp [rightT, ho]
  simp only [go_sem, ↓reduceIte, Nat.reduceEqDiff, Nat.reduceAdd, Nat.reduceLeDiff, Nat.reduceMul, Nat.reducePow, Nat.reduceLT, Nat.reduceSub, Int.reduceEq, Int.reduceLT, Int.reduceLE, Int.reduceNeg, Int.reduceToNat, Int.cast_ofNat_Int, decide_false, decide_true, Ne, not_true_eq_false, not_false_eq_true, Bool.not_true, Bool.not_false]
  refine wpL_cond (t := false) (by simp only [go_sem, ↓reduceIte, Nat.reduceEqDiff]) (fun h => Bool.noConfusion h) (fun _ => ?_)
  have hspec : rightT t = t.known.all (okKnown t) := by unfold rightT; rw [ho]; rfl
  try simp only [go_sem, ↓reduceIte, Nat.reduceEqDiff]
  refine wpL_skip ?_
  refine wpL_region Tryd.tyOk (by decide) ?_
  simp only [go_sem, ↓reduceIte, Nat.reduceEqDiff, Nat.reduceAdd, Nat.reduceLeDiff, Nat.reduceMul, Nat.reducePow, Nat.reduceLT, Nat.reduceSub, Int.reduceEq, Int.reduceLT, Int.reduceLE, Int.reduceNeg, Int.reduceToNat, Int.cast_ofNat_Int, List.length_map]
  cases hkn : t.known with
  | nil =>
    refine wpL_cond (t := true) (by simp only [go_sem, ↓reduceIte, Nat.reduceEqDiff, hkn, List.length_nil, decide_true, Int.natCast_zero]) (fun _ => ?_) (fun h => Bool.noConfusion h)
    try simp only [go_sem, ↓reduceIte, Nat.reduceEqDiff]
    refine wpL_region Tryd.tyOk (by decide) ?_
    simp only [go_sem, ↓reduceIte, Nat.reduceEqDiff, Nat.reduceAdd, Nat.reduceLeDiff, Nat.reduceMul, Nat.reducePow, Nat.reduceLT, Nat.reduceSub, Int.reduceEq, Int.reduceLT, Int.reduceLE, Int.reduceNeg, Int.reduceToNat, Int.cast_ofNat_Int]
    refine wpL_ret ?_
    rw [← hBQ]
    try simp only [go_sem, ↓reduceIte, Nat.reduceEqDiff, Nat.reduceAdd, Nat.reduceLeDiff, Nat.reduceMul, Nat.reducePow, Nat.reduceLT, Nat.reduceSub, Int.reduceEq, Int.reduceLT, Int.reduceLE, Int.reduceNeg, Int.reduceToNat, Int.cast_ofNat_Int]
    rw [hspec, hkn]
    rfl
  | cons x rest =>
    have hrest : rest = [] := by rw [hkn] at hK; exact List.eq_nil_of_length_eq_zero (by simpa using hK)
    subst hrest
    have hF := g3 x (by rw [hkn]; simp)
    have e1 := Right17 x hF
    have e2 := weight80 _ x (Nat.le_refl _) hF
    rw [eArr_eq] at e1 e2
    obtain ⟨l1, l2, l3⟩ := hF.lens
    have hall : rightT t = okKnown t x := by rw [hspec, hkn]; simp
    have hrel : (t.rank = x.shape.length ∧ t.dims = x.shape) ↔ (0 ≤ t.rank ∧ t.dims = x.shape) := by
      constructor
      · rintro ⟨h1, h2⟩; exact ⟨by omega, h2⟩
      · rintro ⟨h1, h2⟩; rw [h2] at hlen; exact ⟨by omega, h2⟩
    refine wpL_cond (t := false) (by simp only [go_sem, ↓reduceIte, Nat.reduceEqDiff, Nat.reduceAdd, Nat.reduceLeDiff, Nat.reduceMul, Nat.reducePow, Nat.reduceLT, Nat.reduceSub, Int.reduceEq, Int.reduceLT, Int.reduceLE, Int.reduceNeg, Int.reduceToNat, Int.cast_ofNat_Int, hkn, List.length_cons, List.length_nil, decide_false]) (fun h => Bool.noConfusion h) (fun _ => ?_)
    try simp only [go_sem, ↓reduceIte, Nat.reduceEqDiff]
    refine wpL_skip ?_
    refine wpL_region Tryd.tyOk (by decide) ?_
    simp only [go_sem, ↓reduceIte, Nat.reduceEqDiff, Nat.reduceAdd, Nat.reduceLeDiff, Nat.reduceMul, Nat.reducePow, Nat.reduceLT, Nat.reduceSub, Int.reduceEq, Int.reduceLT, Int.reduceLE, Int.reduceNeg, Int.reduceToNat, Int.cast_ofNat_Int, eArr_eq x, Int.natCast_one, Int.reduceLT]
    refine wpL_draw Tryd.tyOk (by kernel_rfl) 28 (by decide) (by decide) ?_
    simp only [go_sem, ↓reduceIte, Nat.reduceEqDiff, Nat.reduceAdd, Nat.reduceLeDiff, Nat.reduceMul, Nat.reducePow, Nat.reduceLT, Nat.reduceSub, Int.reduceEq, Int.reduceLT, Int.reduceLE, Int.reduceNeg, Int.reduceToNat, Int.cast_ofNat_Int]
    refine ⟨_, e1, ?_⟩
    by_cases c1 : (chk x).1 = 0
    case neg =>
      have hs : okKnown t x = false := by simp [okKnown, c1]
      simp only [go_sem, ↓reduceIte, Nat.reduceEqDiff, Nat.reduceAdd, Nat.reduceLeDiff, Nat.reduceMul, Nat.reducePow, Nat.reduceLT, Nat.reduceSub, Int.reduceEq, Int.reduceLT, Int.reduceLE, Int.reduceNeg, Int.reduceToNat, Int.cast_ofNat_Int, c1, decide_false, decide_true, Ne, not_true_eq_false, not_false_eq_true, Bool.not_true, Bool.not_false]
      refine wpL_ret ?_
      rw [← hBQ]
      try simp only [go_sem, ↓reduceIte, Nat.reduceEqDiff, Nat.reduceAdd, Nat.reduceLeDiff, Nat.reduceMul, Nat.reducePow, Nat.reduceLT, Nat.reduceSub, Int.reduceEq, Int.reduceLT, Int.reduceLE, Int.reduceNeg, Int.reduceToNat, Int.cast_ofNat_Int]
      rw [hall, hs]
    simp only [go_sem, ↓reduceIte, Nat.reduceEqDiff, Nat.reduceAdd, Nat.reduceLeDiff, Nat.reduceMul, Nat.reducePow, Nat.reduceLT, Nat.reduceSub, Int.reduceEq, Int.reduceLT, Int.reduceLE, Int.reduceNeg, Int.reduceToNat, Int.cast_ofNat_Int, c1, decide_false, decide_true, Ne, not_true_eq_false, not_false_eq_true, Bool.not_true, Bool.not_false]
    refine ⟨_, e2, ?_⟩
    by_cases c2 : wt x ≤ 16
    case neg =>
      have c2' : ¬ (wt x : Int) ≤ 16 := by omega
      have hs : okKnown t x = false := by simp [okKnown, c2]
      simp only [go_sem, ↓reduceIte, Nat.reduceEqDiff, Nat.reduceAdd, Nat.reduceLeDiff, Nat.reduceMul, Nat.reducePow, Nat.reduceLT, Nat.reduceSub, Int.reduceEq, Int.reduceLT, Int.reduceLE, Int.reduceNeg, Int.reduceToNat, Int.cast_ofNat_Int, c2', decide_false, decide_true, Ne, not_true_eq_false, not_false_eq_true, Bool.not_true, Bool.not_false]
      refine wpL_ret ?_
      rw [← hBQ]
      try simp only [go_sem, ↓reduceIte, Nat.reduceEqDiff, Nat.reduceAdd, Nat.reduceLeDiff, Nat.reduceMul, Nat.reducePow, Nat.reduceLT, Nat.reduceSub, Int.reduceEq, Int.reduceLT, Int.reduceLE, Int.reduceNeg, Int.reduceToNat, Int.cast_ofNat_Int]
      rw [hall, hs]
    have c2' : (wt x : Int) ≤ 16 := by omega
    simp only [go_sem, ↓reduceIte, Nat.reduceEqDiff, Nat.reduceAdd, Nat.reduceLeDiff, Nat.reduceMul, Nat.reducePow, Nat.reduceLT, Nat.reduceSub, Int.reduceEq, Int.reduceLT, Int.reduceLE, Int.reduceNeg, Int.reduceToNat, Int.cast_ofNat_Int, c2', decide_false, decide_true, Ne, not_true_eq_false, not_false_eq_true, Bool.not_true, Bool.not_false]
    refine ⟨_, bit35 x.kind, ?_⟩
    by_cases c3 : t.kinds = bitS x.kind
    case neg =>
      have hs : okKnown t x = false := by simp [okKnown, c3]
      simp only [go_sem, ↓reduceIte, Nat.reduceEqDiff, Nat.reduceAdd, Nat.reduceLeDiff, Nat.reduceMul, Nat.reducePow, Nat.reduceLT, Nat.reduceSub, Int.reduceEq, Int.reduceLT, Int.reduceLE, Int.reduceNeg, Int.reduceToNat, Int.cast_ofNat_Int, c3, decide_false, decide_true, Ne, not_true_eq_false, not_false_eq_true, Bool.not_true, Bool.not_false]
      refine wpL_ret ?_
      rw [← hBQ]
      try simp only [go_sem, ↓reduceIte, Nat.reduceEqDiff, Nat.reduceAdd, Nat.reduceLeDiff, Nat.reduceMul, Nat.reducePow, Nat.reduceLT, Nat.reduceSub, Int.reduceEq, Int.reduceLT, Int.reduceLE, Int.reduceNeg, Int.reduceToNat, Int.cast_ofNat_Int]
      rw [hall, hs]
    simp only [go_sem, ↓reduceIte, Nat.reduceEqDiff, Nat.reduceAdd, Nat.reduceLeDiff, Nat.reduceMul, Nat.reducePow, Nat.reduceLT, Nat.reduceSub, Int.reduceEq, Int.reduceLT, Int.reduceLE, Int.reduceNeg, Int.reduceToNat, Int.cast_ofNat_Int, eq_true c3, decide_false, decide_true, Ne, not_true_eq_false, not_false_eq_true, Bool.not_true, Bool.not_false]
    by_cases c4 : 0 ≤ t.rank
    case neg =>
      have c4' : ¬ t.rank ≥ 0 := c4
      have hs : okKnown t x = false := by
        have : ¬ t.rank = x.shape.length := by omega
        simp [okKnown, this]
      simp only [go_sem, ↓reduceIte, Nat.reduceEqDiff, Nat.reduceAdd, Nat.reduceLeDiff, Nat.reduceMul, Nat.reducePow, Nat.reduceLT, Nat.reduceSub, Int.reduceEq, Int.reduceLT, Int.reduceLE, Int.reduceNeg, Int.reduceToNat, Int.cast_ofNat_Int, c4', decide_false, decide_true, Ne, not_true_eq_false, not_false_eq_true, Bool.not_true, Bool.not_false]
      refine wpL_ret ?_
      rw [← hBQ]
      try simp only [go_sem, ↓reduceIte, Nat.reduceEqDiff, Nat.reduceAdd, Nat.reduceLeDiff, Nat.reduceMul, Nat.reducePow, Nat.reduceLT, Nat.reduceSub, Int.reduceEq, Int.reduceLT, Int.reduceLE, Int.reduceNeg, Int.reduceToNat, Int.cast_ofNat_Int]
      rw [hall, hs]
    have c4' : t.rank ≥ 0 := c4
    simp only [go_sem, ↓reduceIte, Nat.reduceEqDiff, Nat.reduceAdd, Nat.reduceLeDiff, Nat.reduceMul, Nat.reducePow, Nat.reduceLT, Nat.reduceSub, Int.reduceEq, Int.reduceLT, Int.reduceLE, Int.reduceNeg, Int.reduceToNat, Int.cast_ofNat_Int, c4', decide_false, decide_true, Ne, not_true_eq_false, not_false_eq_true, Bool.not_true, Bool.not_false]
    refine ⟨_, same15 t.dims x.shape (by omega) (by omega), ?_⟩
    by_cases c5 : t.dims = x.shape
    · have c6 := (hrel.2 ⟨c4, c5⟩).1
      have hs : okKnown t x = true := by simp [okKnown, c1, c2, c3, ← c6, c5]
      simp only [go_sem, ↓reduceIte, Nat.reduceEqDiff, Nat.reduceAdd, Nat.reduceLeDiff, Nat.reduceMul, Nat.reducePow, Nat.reduceLT, Nat.reduceSub, Int.reduceEq, Int.reduceLT, Int.reduceLE, Int.reduceNeg, Int.reduceToNat, Int.cast_ofNat_Int, eq_true c5, decide_false, decide_true, Ne, not_true_eq_false, not_false_eq_true, Bool.not_true, Bool.not_false]
      refine wpL_ret ?_
      rw [← hBQ]
      try simp only [go_sem, ↓reduceIte, Nat.reduceEqDiff, Nat.reduceAdd, Nat.reduceLeDiff, Nat.reduceMul, Nat.reducePow, Nat.reduceLT, Nat.reduceSub, Int.reduceEq, Int.reduceLT, Int.reduceLE, Int.reduceNeg, Int.reduceToNat, Int.cast_ofNat_Int]
      rw [hall, hs]
    · have hs : okKnown t x = false := by simp [okKnown, c5]
      simp only [go_sem, ↓reduceIte, Nat.reduceEqDiff, Nat.reduceAdd, Nat.reduceLeDiff, Nat.reduceMul, Nat.reducePow, Nat.reduceLT, Nat.reduceSub, Int.reduceEq, Int.reduceLT, Int.reduceLE, Int.reduceNeg, Int.reduceToNat, Int.cast_ofNat_Int, c5, decide_false, decide_true, Ne, not_true_eq_false, not_false_eq_true, Bool.not_true, Bool.not_false]
      refine wpL_ret ?_
      rw [← hBQ]
      try simp only [go_sem, ↓reduceIte, Nat.reduceEqDiff, Nat.reduceAdd, Nat.reduceLeDiff, Nat.reduceMul, Nat.reducePow, Nat.reduceLT, Nat.reduceSub, Int.reduceEq, Int.reduceLT, Int.reduceLE, Int.reduceNeg, Int.reduceToNat, Int.cast_ofNat_Int]
      rw [hall, hs]
end Go.Proofs.YtkkkdfhnpamnkaaDoor
