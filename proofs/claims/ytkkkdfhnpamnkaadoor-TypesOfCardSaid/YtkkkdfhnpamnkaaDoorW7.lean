/-
  The reference's arrays: the check.
-/
import Derived.Test.YtkkkdfhnpamnkaaDoorW6
set_option linter.unusedSimpArgs false
set_option linter.unusedVariables false
set_option maxRecDepth 100000
set_option maxHeartbeats 4000000
namespace Go.Proofs.YtkkkdfhnpamnkaaDoor
open Go.Abs Go

theorem form_dims {k : Int} {s : List Int} {n m : Nat} (hK : k = 1 ∨ k = 2 ∨ k = 3) : formA k s n m = if dimsS s ≠ 0 then dimsS s else if (if k = 3 then (m : Int) else n) ≠ prodI s ∨ (if k = 3 then (n : Int) else m) ≠ 0 then 16 else 0 := by
  unfold formA dimsS
  rw [if_neg (fun hc => hc hK)]
  by_cases h1 : 8 < s.length
  · simp [h1]
  by_cases h2 : (s.any fun d => decide (d < 0)) = true
  · simp only [if_neg h1, if_pos h2]; exact (if_pos (by decide)).symm
  cases h3 : rightS s
  · simp only [if_neg h1, if_neg h2, if_true]; exact (if_pos (by decide)).symm
  · simp only [if_neg h1, if_neg h2]
    have : sizeS s = prodI s := by unfold sizeS; rw [if_pos h3]
    simp [this]
theorem dims_right {s : List Int} (h : dimsS s = 0) : rightS s = true := by
  unfold dimsS at h
  split at h
  · exact absurd h (by decide)
  split at h
  · exact absurd h (by decide)
  split at h
  · exact absurd h (by decide)
  · rename_i hr; simpa using hr
def two (p : Int × Nat × Nat) : Int × Int := (p.1, (p.2.1 : Int))

theorem check42 : ∀ (m : Nat) (a : Arr), sz a ≤ m → Fine a → Gives Tryd.prog 39 [.agg (eArr a)] (rTwo (two (chk a))) := by
  intro m
  induction m with
  | zero =>
    intro a h
    cases a with
    | mk k s n l => rw [sz] at h; omega
  | succ m ih =>
  intro a hm hF
  have hsize := size76 a hF.lens
  have hweigh := weight80 _ a (Nat.le_refl _) hF
  obtain ⟨hl1, hl2, hl3⟩ := hF.lens
  have hchk := chk_eq a
  rw [eArr_eq] at hsize hweigh ⊢
  refine Gives.intro Tryd.tyOk Tryd.func39 (by kernel_rfl) rfl (by simp [Tryd.ntmps39]) ?_
  simp only [go_sem, ↓reduceIte, Nat.reduceEqDiff, Nat.reduceAdd, Nat.reduceLeDiff, Nat.reduceLT, Int.reduceEq, Int.reduceLT, Int.reduceLE, Int.reduceNeg, Int.reduceToNat, Int.cast_ofNat_Int]
  simp only [Tryd.ntmps39, Tryd.results39, eInt, eStr, rBool, rInt, rStr, rTwo, rThree, List.map_cons, List.map_nil]
  generalize hBQ : retQ _ _ _ = BQ
  refine wpL_region Tryd.tyOk (by decide) ?_
  simp only [go_sem, ↓reduceIte, Nat.reduceEqDiff, Nat.reduceAdd, Nat.reduceLeDiff, Nat.reduceLT, Int.reduceEq, Int.reduceLT, Int.reduceLE, Int.reduceNeg, Int.reduceToNat, Int.cast_ofNat_Int]
  by_cases hK : a.kind = 1 ∨ a.kind = 2 ∨ a.kind = 3
  case neg =>
    refine wpL_to ⟨[(18, .c (.d (.sc (.bool true))))], []⟩ ?_ ?_
    · by_cases h1 : a.kind < 1
      · refine wpL_region Tryd.tyOk (by decide) ?_
        simp only [go_sem, ↓reduceIte, Nat.reduceEqDiff, Nat.reduceAdd, Nat.reduceLeDiff, Nat.reduceLT, Int.reduceEq, Int.reduceLT, Int.reduceLE, Int.reduceNeg, Int.reduceToNat, Int.cast_ofNat_Int, h1, decide_true]
        refine le_mk ?_ ?_ ?_ <;> (simp only [go_sem, ↓reduceIte, Nat.reduceEqDiff]; try simp [eInt, eStr, rBool, rInt, rStr, rTwo, rThree, eInts]; try simp (disch := omega) only [IntWalk.i64_in, and_self])
      · have h3 : a.kind > 3 := by omega
        refine wpL_region Tryd.tyOk (by decide) ?_
        simp only [go_sem, ↓reduceIte, Nat.reduceEqDiff, Nat.reduceAdd, Nat.reduceLeDiff, Nat.reduceLT, Int.reduceEq, Int.reduceLT, Int.reduceLE, Int.reduceNeg, Int.reduceToNat, Int.cast_ofNat_Int, h1, h3, decide_true, decide_false]
        refine le_mk ?_ ?_ ?_ <;> (simp only [go_sem, ↓reduceIte, Nat.reduceEqDiff]; try simp [eInt, eStr, rBool, rInt, rStr, rTwo, rThree, eInts]; try simp (disch := omega) only [IntWalk.i64_in, and_self])
    try simp only [go_sem, ↓reduceIte, Nat.reduceEqDiff]
    refine wpL_cond (t := true) (by simp only [go_sem, ↓reduceIte, Nat.reduceEqDiff]) (fun _ => ?_) (fun h => Bool.noConfusion h)
    try simp only [go_sem, ↓reduceIte, Nat.reduceEqDiff]
    refine wpL_region Tryd.tyOk (by decide) ?_
    simp only [go_sem, ↓reduceIte, Nat.reduceEqDiff, Nat.reduceAdd, Nat.reduceLeDiff, Nat.reduceLT, Int.reduceEq, Int.reduceLT, Int.reduceLE, Int.reduceNeg, Int.reduceToNat, Int.cast_ofNat_Int]
    refine wpL_ret ?_
    rw [← hBQ]
    try simp only [go_sem, ↓reduceIte, Nat.reduceEqDiff]
    have : formA a.kind a.shape a.nums.length a.items.length = 14 := by unfold formA; rw [if_pos hK]
    rw [hchk, this, if_pos (by decide)]
    simp [two]
  have k1 : ¬ a.kind < 1 := by omega
  have k3 : ¬ a.kind > 3 := by omega
  refine wpL_region Tryd.tyOk (by decide) ?_
  simp only [go_sem, ↓reduceIte, Nat.reduceEqDiff, Nat.reduceAdd, Nat.reduceLeDiff, Nat.reduceLT, Int.reduceEq, Int.reduceLT, Int.reduceLE, Int.reduceNeg, Int.reduceToNat, Int.cast_ofNat_Int, k1, k3, decide_false]
  refine wpL_cond (t := false) (by simp only [go_sem, ↓reduceIte, Nat.reduceEqDiff]) (fun h => Bool.noConfusion h) (fun _ => ?_)
  simp only [go_sem, ↓reduceIte, Nat.reduceEqDiff, Nat.reduceAdd, Nat.reduceLeDiff, Nat.reduceLT, Int.reduceEq, Int.reduceLT, Int.reduceLE, Int.reduceNeg, Int.reduceToNat, Int.cast_ofNat_Int]
  refine wpL_skip ?_
  refine wpL_region Tryd.tyOk (by decide) ?_
  simp only [go_sem, ↓reduceIte, Nat.reduceEqDiff, Nat.reduceAdd, Nat.reduceLeDiff, Nat.reduceLT, Int.reduceEq, Int.reduceLT, Int.reduceLE, Int.reduceNeg, Int.reduceToNat, Int.cast_ofNat_Int]
  refine ⟨_, dims75 a.shape (by unfold Len; omega), ?_⟩
  simp only [go_sem, ↓reduceIte, Nat.reduceEqDiff, Nat.reduceAdd, Nat.reduceLeDiff, Nat.reduceLT, Int.reduceEq, Int.reduceLT, Int.reduceLE, Int.reduceNeg, Int.reduceToNat, Int.cast_ofNat_Int]
  refine wpL_region Tryd.tyOk (by decide) ?_
  simp only [go_sem, ↓reduceIte, Nat.reduceEqDiff, Nat.reduceAdd, Nat.reduceLeDiff, Nat.reduceLT, Int.reduceEq, Int.reduceLT, Int.reduceLE, Int.reduceNeg, Int.reduceToNat, Int.cast_ofNat_Int]
  have hfd := form_dims (k := a.kind) (s := a.shape) (n := a.nums.length) (m := a.items.length) hK
  by_cases hd0 : dimsS a.shape = 0
  case neg =>
    refine wpL_cond (t := true) (by simp only [go_sem, ↓reduceIte, Nat.reduceEqDiff, hd0, Ne, not_false_eq_true, decide_true]) (fun _ => ?_) (fun h => Bool.noConfusion h)
    simp only [go_sem, ↓reduceIte, Nat.reduceEqDiff, Nat.reduceAdd, Nat.reduceLeDiff, Nat.reduceLT, Int.reduceEq, Int.reduceLT, Int.reduceLE, Int.reduceNeg, Int.reduceToNat, Int.cast_ofNat_Int]
    refine wpL_region Tryd.tyOk (by decide) ?_
    simp only [go_sem, ↓reduceIte, Nat.reduceEqDiff, Nat.reduceAdd, Nat.reduceLeDiff, Nat.reduceLT, Int.reduceEq, Int.reduceLT, Int.reduceLE, Int.reduceNeg, Int.reduceToNat, Int.cast_ofNat_Int]
    refine wpL_ret ?_
    rw [← hBQ]
    try simp only [go_sem, ↓reduceIte, Nat.reduceEqDiff]
    rw [if_pos hd0] at hfd
    rw [hchk, hfd, if_pos hd0]
    simp [two]
  have hr := dims_right hd0
  refine wpL_cond (t := false) (by simp only [go_sem, ↓reduceIte, Nat.reduceEqDiff, hd0, Ne, not_true_eq_false, decide_false]) (fun h => Bool.noConfusion h) (fun _ => ?_)
  simp only [go_sem, ↓reduceIte, Nat.reduceEqDiff, Nat.reduceAdd, Nat.reduceLeDiff, Nat.reduceLT, Int.reduceEq, Int.reduceLT, Int.reduceLE, Int.reduceNeg, Int.reduceToNat, Int.cast_ofNat_Int]
  refine wpL_skip ?_
  iterate 2 (refine wpL_region Tryd.tyOk (by decide) ?_; simp only [go_sem, ↓reduceIte, Nat.reduceEqDiff, Nat.reduceAdd, Nat.reduceLeDiff, Nat.reduceLT, Int.reduceEq, Int.reduceLT, Int.reduceLE, Int.reduceNeg, Int.reduceToNat, Int.cast_ofNat_Int])
  refine wpL_to ⟨[(5, sint .i64 (if a.kind = 3 then (a.nums.length : Int) else a.items.length)), (1, .c (.ptr 1 0))], [(1, .box 26 ([eInt a.kind, .sl (eInts a.shape), .sl (eInts a.nums), .sl (a.items.map eArr)].map .d))]⟩ ?_ ?_
  · refine wpL_cond (t := decide (a.kind = 3)) (by simp only [go_sem, ↓reduceIte, Nat.reduceEqDiff]) (fun h3 => ?_) (fun h3 => ?_)
    · have h3 : a.kind = 3 := by simpa using h3
      simp only [go_sem, ↓reduceIte, Nat.reduceEqDiff, Nat.reduceAdd, Nat.reduceLeDiff, Nat.reduceLT, Int.reduceEq, Int.reduceLT, Int.reduceLE, Int.reduceNeg, Int.reduceToNat, Int.cast_ofNat_Int]
      refine wpL_region Tryd.tyOk (by decide) ?_
      simp only [go_sem, ↓reduceIte, Nat.reduceEqDiff, Nat.reduceAdd, Nat.reduceLeDiff, Nat.reduceLT, Int.reduceEq, Int.reduceLT, Int.reduceLE, Int.reduceNeg, Int.reduceToNat, Int.cast_ofNat_Int]
      refine le_mk ?_ ?_ ?_ <;> (simp only [go_sem, ↓reduceIte, Nat.reduceEqDiff]; try simp [eInt, eStr, rBool, rInt, rStr, rTwo, rThree, eInts, h3]; try simp (disch := omega) only [IntWalk.i64_in, and_self])
    · have h3 : ¬ a.kind = 3 := by simpa using h3
      simp only [go_sem, ↓reduceIte, Nat.reduceEqDiff, Nat.reduceAdd, Nat.reduceLeDiff, Nat.reduceLT, Int.reduceEq, Int.reduceLT, Int.reduceLE, Int.reduceNeg, Int.reduceToNat, Int.cast_ofNat_Int]
      refine wpL_skip ?_
      try simp only [go_sem, ↓reduceIte, Nat.reduceEqDiff]
      refine le_mk ?_ ?_ ?_ <;> (simp only [go_sem, ↓reduceIte, Nat.reduceEqDiff]; try simp [eInt, eStr, rBool, rInt, rStr, rTwo, rThree, eInts, h3]; try simp (disch := omega) only [IntWalk.i64_in, and_self])
  try simp only [go_sem, ↓reduceIte, Nat.reduceEqDiff]
  rw [if_neg (fun hc => hc hd0)] at hfd
  have hsz : (sizeA a : Int) = if a.kind = 3 then (a.items.length : Int) else a.nums.length := by
    unfold sizeA
    rcases hK with h | h | h <;> simp [h]
  by_cases hbad : (if a.kind = 3 then (a.items.length : Int) else a.nums.length) ≠ prodI a.shape ∨ (if a.kind = 3 then (a.nums.length : Int) else a.items.length) ≠ 0
  case pos =>
    rw [if_pos hbad] at hfd
    refine wpL_to ⟨[(43, .c (.d (.sc (.bool true))))], []⟩ ?_ ?_
    · refine wpL_draw Tryd.tyOk (by kernel_rfl) 9 (by decide) (by decide) ?_
      simp only [go_sem, ↓reduceIte, Nat.reduceEqDiff, Nat.reduceAdd, Nat.reduceLeDiff, Nat.reduceLT, Int.reduceEq, Int.reduceLT, Int.reduceLE, Int.reduceNeg, Int.reduceToNat, Int.cast_ofNat_Int]
      refine ⟨_, hsize, ?_⟩
      simp only [go_sem, ↓reduceIte, Nat.reduceEqDiff, Nat.reduceAdd, Nat.reduceLeDiff, Nat.reduceLT, Int.reduceEq, Int.reduceLT, Int.reduceLE, Int.reduceNeg, Int.reduceToNat, Int.cast_ofNat_Int]
      refine ⟨_, count77 a.shape (by unfold Len; omega) hr, ?_⟩
      by_cases hb1 : (sizeA a : Int) = prodI a.shape
      · have hb2 : ¬ (if a.kind = 3 then (a.nums.length : Int) else a.items.length) = 0 := by
          rcases hbad with h | h
          · exact absurd (hsz ▸ hb1) h
          · exact h
        have hb3 : (if a.kind = 3 then (a.nums.length : Int) else a.items.length) > 0 := by split at hb2 <;> rename_i hq <;> simp only [hq] <;> simp <;> omega
        simp only [go_sem, ↓reduceIte, Nat.reduceEqDiff, Nat.reduceAdd, Nat.reduceLeDiff, Nat.reduceLT, Int.reduceEq, Int.reduceLT, Int.reduceLE, Int.reduceNeg, Int.reduceToNat, Int.cast_ofNat_Int, hb1, hb3, Ne, not_true_eq_false, decide_false, decide_true]
        refine le_mk ?_ ?_ ?_ <;> (simp only [go_sem, ↓reduceIte, Nat.reduceEqDiff]; try simp [eInt, eStr, rBool, rInt, rStr, rTwo, rThree, eInts]; try simp (disch := omega) only [IntWalk.i64_in, and_self])
      · simp only [go_sem, ↓reduceIte, Nat.reduceEqDiff, Nat.reduceAdd, Nat.reduceLeDiff, Nat.reduceLT, Int.reduceEq, Int.reduceLT, Int.reduceLE, Int.reduceNeg, Int.reduceToNat, Int.cast_ofNat_Int, hb1, Ne, not_false_eq_true, decide_true]
        refine le_mk ?_ ?_ ?_ <;> (simp only [go_sem, ↓reduceIte, Nat.reduceEqDiff]; try simp [eInt, eStr, rBool, rInt, rStr, rTwo, rThree, eInts]; try simp (disch := omega) only [IntWalk.i64_in, and_self])
    try simp only [go_sem, ↓reduceIte, Nat.reduceEqDiff]
    refine wpL_cond (t := true) (by simp only [go_sem, ↓reduceIte, Nat.reduceEqDiff]) (fun _ => ?_) (fun h => Bool.noConfusion h)
    try simp only [go_sem, ↓reduceIte, Nat.reduceEqDiff]
    refine wpL_region Tryd.tyOk (by decide) ?_
    simp only [go_sem, ↓reduceIte, Nat.reduceEqDiff, Nat.reduceAdd, Nat.reduceLeDiff, Nat.reduceLT, Int.reduceEq, Int.reduceLT, Int.reduceLE, Int.reduceNeg, Int.reduceToNat, Int.cast_ofNat_Int]
    refine wpL_ret ?_
    rw [← hBQ]
    try simp only [go_sem, ↓reduceIte, Nat.reduceEqDiff]
    rw [hchk, hfd, if_pos (by decide)]
    simp [two]
  rw [if_neg hbad] at hfd
  have hform := hfd
  rw [if_neg (fun hc => hc hfd)] at hchk
  have hb1 : (sizeA a : Int) = prodI a.shape := by rw [hsz]; exact Classical.not_not.1 fun h => hbad (Or.inl h)
  have hb2 : (if a.kind = 3 then (a.nums.length : Int) else a.items.length) = 0 := Classical.not_not.1 fun h => hbad (Or.inr h)
  have hb3 : ¬ (if a.kind = 3 then (a.nums.length : Int) else a.items.length) > 0 := by rw [hb2]; decide
  refine wpL_draw Tryd.tyOk (by kernel_rfl) 9 (by decide) (by decide) ?_
  simp only [go_sem, ↓reduceIte, Nat.reduceEqDiff, Nat.reduceAdd, Nat.reduceLeDiff, Nat.reduceLT, Int.reduceEq, Int.reduceLT, Int.reduceLE, Int.reduceNeg, Int.reduceToNat, Int.cast_ofNat_Int]
  refine ⟨_, hsize, ?_⟩
  simp only [go_sem, ↓reduceIte, Nat.reduceEqDiff, Nat.reduceAdd, Nat.reduceLeDiff, Nat.reduceLT, Int.reduceEq, Int.reduceLT, Int.reduceLE, Int.reduceNeg, Int.reduceToNat, Int.cast_ofNat_Int]
  refine ⟨_, count77 a.shape (by unfold Len; omega) hr, ?_⟩
  simp only [go_sem, ↓reduceIte, Nat.reduceEqDiff, Nat.reduceAdd, Nat.reduceLeDiff, Nat.reduceLT, Int.reduceEq, Int.reduceLT, Int.reduceLE, Int.reduceNeg, Int.reduceToNat, Int.cast_ofNat_Int, hb1, hb3, Ne, not_true_eq_false, decide_false]
  refine wpL_cond (t := false) (by simp only [go_sem, ↓reduceIte, Nat.reduceEqDiff]) (fun h => Bool.noConfusion h) (fun _ => ?_)
  try simp only [go_sem, ↓reduceIte, Nat.reduceEqDiff]
  refine wpL_skip ?_
  refine wpL_region Tryd.tyOk (by decide) ?_
  simp only [go_sem, ↓reduceIte, Nat.reduceEqDiff, Nat.reduceAdd, Nat.reduceLeDiff, Nat.reduceLT, Int.reduceEq, Int.reduceLT, Int.reduceLE, Int.reduceNeg, Int.reduceToNat, Int.cast_ofNat_Int]
  clear hsize hbad hfd hb1 hb2 hb3 hsz
  refine wpL_block ?_
  generalize hB0 : blockQ _ _ _ = B0
  simp only [go_sem, ↓reduceIte, Nat.reduceEqDiff]
  refine wpL_loop (fun n s => ∃ j : Nat, j ≤ a.nums.length ∧ n = a.nums.length - j ∧ a.nums.any (badN a.kind) = (a.nums.drop j).any (badN a.kind) ∧ s = ⟨[(6, sint .i64 j), (1, .c (.ptr 1 0))], [(1, .box 26 ([eInt a.kind, .sl (eInts a.shape), .sl (eInts a.nums), .sl (a.items.map eArr)].map .d))]⟩) ?_ ?_
  · refine ⟨_, _, ⟨0, by omega, rfl, rfl, rfl⟩, ?_⟩
    refine le_mk ?_ ?_ ?_ <;> (simp only [go_sem, ↓reduceIte, Nat.reduceEqDiff]; try simp [eInt, eStr, rBool, rInt, rStr, rTwo, rThree, eInts]; try simp (disch := omega) only [IntWalk.i64_in, and_self])
  rintro n s ⟨j, hj, rfl, hpre, rfl⟩
  simp only [go_sem, ↓reduceIte, Nat.reduceEqDiff, Nat.reduceAdd, Nat.reduceLeDiff, Nat.reduceLT, Int.reduceEq, Int.reduceLT, Int.reduceLE, Int.reduceNeg, Int.reduceToNat, Int.cast_ofNat_Int]
  refine wpL_region Tryd.tyOk (by decide) ?_
  simp only [go_sem, ↓reduceIte, Nat.reduceEqDiff, Nat.reduceAdd, Nat.reduceLeDiff, Nat.reduceLT, Int.reduceEq, Int.reduceLT, Int.reduceLE, Int.reduceNeg, Int.reduceToNat, Int.cast_ofNat_Int]
  refine wpL_cond (t := decide ((j : Int) < a.nums.length)) (by simp only [go_sem, ↓reduceIte, Nat.reduceEqDiff]) (fun hlt => ?_) (fun hge => ?_)
  · have hlt := lt_of hlt
    obtain ⟨x, hx⟩ := get_ex (l := a.nums) (i := j) (by omega)
    rw [any_drop a.kind hx] at hpre
    simp only [go_sem, ↓reduceIte, Nat.reduceEqDiff, Nat.reduceAdd, Nat.reduceLeDiff, Nat.reduceLT, Int.reduceEq, Int.reduceLT, Int.reduceLE, Int.reduceNeg, Int.reduceToNat, Int.cast_ofNat_Int]
    refine wpL_skip ?_
    refine wpL_block ?_
    generalize hB1 : blockQ _ _ _ = B1
    simp only [go_sem, ↓reduceIte, Nat.reduceEqDiff]
    refine wpL_to ⟨[(76, .c (.d (.sc (.bool (badN a.kind x))))), (6, sint .i64 j), (1, .c (.ptr 1 0))], [(1, .box 26 ([eInt a.kind, .sl (eInts a.shape), .sl (eInts a.nums), .sl (a.items.map eArr)].map .d))]⟩ ?_ ?_
    · by_cases k1 : a.kind = 1
      · refine wpL_region Tryd.tyOk (by decide) ?_
        simp only [go_sem, ↓reduceIte, Nat.reduceEqDiff, Nat.reduceAdd, Nat.reduceLeDiff, Nat.reduceLT, Int.reduceEq, Int.reduceLT, Int.reduceLE, Int.reduceNeg, Int.reduceToNat, Int.cast_ofNat_Int, k1, eInts_get hx, decide_true]
        refine ⟨_, Number78 x, ?_⟩
        cases hb : numB x
        · simp only [go_sem, ↓reduceIte, Nat.reduceEqDiff, Nat.reduceAdd, Nat.reduceLeDiff, Nat.reduceLT, Int.reduceEq, Int.reduceLT, Int.reduceLE, Int.reduceNeg, Int.reduceToNat, Int.cast_ofNat_Int, k1, eInts_get hx, Bool.not_false, decide_true]
          refine le_mk ?_ ?_ ?_ <;> (simp only [go_sem, ↓reduceIte, Nat.reduceEqDiff]; try simp [eInt, eStr, rBool, rInt, rStr, rTwo, rThree, eInts, badN, k1, hb]; try simp (disch := omega) only [IntWalk.i64_in, and_self])
        · simp only [go_sem, ↓reduceIte, Nat.reduceEqDiff, Nat.reduceAdd, Nat.reduceLeDiff, Nat.reduceLT, Int.reduceEq, Int.reduceLT, Int.reduceLE, Int.reduceNeg, Int.reduceToNat, Int.cast_ofNat_Int, k1, eInts_get hx, Bool.not_true, decide_false]
          refine le_mk ?_ ?_ ?_ <;> (simp only [go_sem, ↓reduceIte, Nat.reduceEqDiff]; try simp [eInt, eStr, rBool, rInt, rStr, rTwo, rThree, eInts, badN, k1, hb]; try simp (disch := omega) only [IntWalk.i64_in, and_self])
      · by_cases k2 : a.kind = 2
        · refine wpL_region Tryd.tyOk (by decide) ?_
          simp only [go_sem, ↓reduceIte, Nat.reduceEqDiff, Nat.reduceAdd, Nat.reduceLeDiff, Nat.reduceLT, Int.reduceEq, Int.reduceLT, Int.reduceLE, Int.reduceNeg, Int.reduceToNat, Int.cast_ofNat_Int, k1, k2, eInts_get hx, decide_false, decide_true]
          refine ⟨_, Rune79 x, ?_⟩
          cases hb : chrB x
          · simp only [go_sem, ↓reduceIte, Nat.reduceEqDiff, Nat.reduceAdd, Nat.reduceLeDiff, Nat.reduceLT, Int.reduceEq, Int.reduceLT, Int.reduceLE, Int.reduceNeg, Int.reduceToNat, Int.cast_ofNat_Int, k1, k2, eInts_get hx, Bool.not_false, decide_true]
            refine le_mk ?_ ?_ ?_ <;> (simp only [go_sem, ↓reduceIte, Nat.reduceEqDiff]; try simp [eInt, eStr, rBool, rInt, rStr, rTwo, rThree, eInts, badN, k1, k2, hb]; try simp (disch := omega) only [IntWalk.i64_in, and_self])
          · simp only [go_sem, ↓reduceIte, Nat.reduceEqDiff, Nat.reduceAdd, Nat.reduceLeDiff, Nat.reduceLT, Int.reduceEq, Int.reduceLT, Int.reduceLE, Int.reduceNeg, Int.reduceToNat, Int.cast_ofNat_Int, k1, k2, eInts_get hx, Bool.not_true, decide_false]
            refine le_mk ?_ ?_ ?_ <;> (simp only [go_sem, ↓reduceIte, Nat.reduceEqDiff]; try simp [eInt, eStr, rBool, rInt, rStr, rTwo, rThree, eInts, badN, k1, k2, hb]; try simp (disch := omega) only [IntWalk.i64_in, and_self])
        · refine wpL_region Tryd.tyOk (by decide) ?_
          simp only [go_sem, ↓reduceIte, Nat.reduceEqDiff, Nat.reduceAdd, Nat.reduceLeDiff, Nat.reduceLT, Int.reduceEq, Int.reduceLT, Int.reduceLE, Int.reduceNeg, Int.reduceToNat, Int.cast_ofNat_Int, k1, k2, eInts_get hx, decide_false]
          refine le_mk ?_ ?_ ?_ <;> (simp only [go_sem, ↓reduceIte, Nat.reduceEqDiff]; try simp [eInt, eStr, rBool, rInt, rStr, rTwo, rThree, eInts, badN, k1, k2]; try simp (disch := omega) only [IntWalk.i64_in, and_self])
    try simp only [go_sem, ↓reduceIte, Nat.reduceEqDiff]
    cases hb : badN a.kind x
    · refine wpL_cond (t := false) (by simp only [go_sem, ↓reduceIte, Nat.reduceEqDiff]) (fun h => Bool.noConfusion h) (fun _ => ?_)
      try simp only [go_sem, ↓reduceIte, Nat.reduceEqDiff]
      refine wpL_skip ?_
      try simp only [go_sem, ↓reduceIte, Nat.reduceEqDiff]
      rw [← hB1]
      try simp only [go_sem, ↓reduceIte, Nat.reduceEqDiff]
      refine wpL_region Tryd.tyOk (by decide) ?_
      simp only [go_sem, ↓reduceIte, Nat.reduceEqDiff, Nat.reduceAdd, Nat.reduceLeDiff, Nat.reduceLT, Int.reduceEq, Int.reduceLT, Int.reduceLE, Int.reduceNeg, Int.reduceToNat, Int.cast_ofNat_Int]
      rw [hb, Bool.false_or] at hpre
      refine ⟨_, _, ?_, ⟨j + 1, by omega, rfl, hpre, rfl⟩, ?_⟩
      · omega
      · refine le_mk ?_ ?_ ?_ <;> (simp only [go_sem, ↓reduceIte, Nat.reduceEqDiff]; try simp [eInt, eStr, rBool, rInt, rStr, rTwo, rThree, eInts]; try simp (disch := omega) only [IntWalk.i64_in, and_self])
    · refine wpL_cond (t := true) (by simp only [go_sem, ↓reduceIte, Nat.reduceEqDiff]) (fun _ => ?_) (fun h => Bool.noConfusion h)
      try simp only [go_sem, ↓reduceIte, Nat.reduceEqDiff]
      refine wpL_region Tryd.tyOk (by decide) ?_
      simp only [go_sem, ↓reduceIte, Nat.reduceEqDiff, Nat.reduceAdd, Nat.reduceLeDiff, Nat.reduceLT, Int.reduceEq, Int.reduceLT, Int.reduceLE, Int.reduceNeg, Int.reduceToNat, Int.cast_ofNat_Int]
      refine wpL_ret ?_
      rw [← hB1]
      try simp only [go_sem, ↓reduceIte, Nat.reduceEqDiff]
      rw [← hB0]
      try simp only [go_sem, ↓reduceIte, Nat.reduceEqDiff]
      rw [← hBQ]
      try simp only [go_sem, ↓reduceIte, Nat.reduceEqDiff]
      rw [hb, Bool.true_or] at hpre
      rw [hchk, if_pos hpre]
      simp [two]
  have hge := ge_of hge
  rw [List.drop_of_length_le (by omega)] at hpre
  rw [if_neg (by rw [hpre]; exact Bool.noConfusion)] at hchk
  have hsm := form_small hform
  refine wpL_exit ?_
  simp only [go_sem, ↓reduceIte, Nat.reduceEqDiff, Nat.reduceAdd, Nat.reduceLeDiff, Nat.reduceLT, Int.reduceEq, Int.reduceLT, Int.reduceLE, Int.reduceNeg, Int.reduceToNat, Int.cast_ofNat_Int]
  rw [← hB0]
  try simp only [go_sem, ↓reduceIte, Nat.reduceEqDiff]
  clear hpre
  iterate 2 (refine wpL_region Tryd.tyOk (by decide) ?_; simp only [go_sem, ↓reduceIte, Nat.reduceEqDiff, Nat.reduceAdd, Nat.reduceLeDiff, Nat.reduceLT, Int.reduceEq, Int.reduceLT, Int.reduceLE, Int.reduceNeg, Int.reduceToNat, Int.cast_ofNat_Int])
  refine wpL_block ?_
  generalize hB2 : blockQ _ _ _ = B2
  simp only [go_sem, ↓reduceIte, Nat.reduceEqDiff]
  refine wpL_loop (fun n s => ∃ j d w : Nat, j ≤ a.items.length ∧ n = a.items.length - j ∧ d ≤ 17 ∧ w ≤ 262145 ∧ chks a.items 0 (a.nums.length + a.items.length) = chks (a.items.drop j) d w ∧ s = ⟨[(8, sint .i64 j), (7, sint .i64 d), (1, .c (.ptr 1 0))], [(1, .box 26 ([eInt a.kind, .sl (eInts a.shape), .sl (eInts a.nums), .sl (a.items.map eArr)].map .d))]⟩) ?_ ?_
  · refine ⟨_, _, ⟨0, 0, a.nums.length + a.items.length, by omega, rfl, by omega, by omega, rfl, rfl⟩, ?_⟩
    refine le_mk ?_ ?_ ?_ <;> (simp only [go_sem, ↓reduceIte, Nat.reduceEqDiff]; try simp [eInt, eStr, rBool, rInt, rStr, rTwo, rThree, eInts]; try simp (disch := omega) only [IntWalk.i64_in, and_self])
  rintro n s ⟨j, d, w, hj, rfl, hd, hw, hpre, rfl⟩
  simp only [go_sem, ↓reduceIte, Nat.reduceEqDiff, Nat.reduceAdd, Nat.reduceLeDiff, Nat.reduceLT, Int.reduceEq, Int.reduceLT, Int.reduceLE, Int.reduceNeg, Int.reduceToNat, Int.cast_ofNat_Int]
  refine wpL_region Tryd.tyOk (by decide) ?_
  simp only [go_sem, ↓reduceIte, Nat.reduceEqDiff, Nat.reduceAdd, Nat.reduceLeDiff, Nat.reduceLT, Int.reduceEq, Int.reduceLT, Int.reduceLE, Int.reduceNeg, Int.reduceToNat, Int.cast_ofNat_Int]
  refine wpL_cond (t := decide ((j : Int) < a.items.length)) (by simp only [go_sem, ↓reduceIte, Nat.reduceEqDiff, List.length_map]) (fun hlt => ?_) (fun hge => ?_)
  · have hlt := lt_of hlt
    obtain ⟨x, hx⟩ := get_ex (l := a.items) (i := j) (by omega)
    have hmem : x ∈ a.items := List.mem_of_getElem? hx
    have hv := ih x (by have := sz_item hmem; omega) (hF.item hmem)
    have hbd := chk_bounds x
    rw [drop_get hx, chks] at hpre
    obtain ⟨e, dx, wx, hex⟩ : ∃ e dx wx, chk x = (e, dx, wx) := ⟨_, _, _, rfl⟩
    rw [eArr_eq, hex, two] at hv
    rw [hex] at hbd hpre
    simp only at hbd hpre
    simp only [go_sem, ↓reduceIte, Nat.reduceEqDiff, Nat.reduceAdd, Nat.reduceLeDiff, Nat.reduceLT, Int.reduceEq, Int.reduceLT, Int.reduceLE, Int.reduceNeg, Int.reduceToNat, Int.cast_ofNat_Int]
    refine wpL_skip ?_
    refine wpL_block ?_
    generalize hB3 : blockQ _ _ _ = B3
    simp only [go_sem, ↓reduceIte, Nat.reduceEqDiff]
    refine wpL_region Tryd.tyOk (by decide) ?_
    simp only [go_sem, ↓reduceIte, Nat.reduceEqDiff, Nat.reduceAdd, Nat.reduceLeDiff, Nat.reduceLT, Int.reduceEq, Int.reduceLT, Int.reduceLE, Int.reduceNeg, Int.reduceToNat, Int.cast_ofNat_Int, arrs_get hx, eArr_eq]
    refine ⟨_, hv, ?_⟩
    simp only [go_sem, ↓reduceIte, Nat.reduceEqDiff, Nat.reduceAdd, Nat.reduceLeDiff, Nat.reduceLT, Int.reduceEq, Int.reduceLT, Int.reduceLE, Int.reduceNeg, Int.reduceToNat, Int.cast_ofNat_Int]
    refine wpL_region Tryd.tyOk (by decide) ?_
    simp only [go_sem, ↓reduceIte, Nat.reduceEqDiff, Nat.reduceAdd, Nat.reduceLeDiff, Nat.reduceLT, Int.reduceEq, Int.reduceLT, Int.reduceLE, Int.reduceNeg, Int.reduceToNat, Int.cast_ofNat_Int]
    by_cases he : e = 0
    case neg =>
      refine wpL_cond (t := true) (by simp only [go_sem, ↓reduceIte, Nat.reduceEqDiff, he, Ne, not_false_eq_true, decide_true]) (fun _ => ?_) (fun h => Bool.noConfusion h)
      try simp only [go_sem, ↓reduceIte, Nat.reduceEqDiff]
      refine wpL_region Tryd.tyOk (by decide) ?_
      simp only [go_sem, ↓reduceIte, Nat.reduceEqDiff, Nat.reduceAdd, Nat.reduceLeDiff, Nat.reduceLT, Int.reduceEq, Int.reduceLT, Int.reduceLE, Int.reduceNeg, Int.reduceToNat, Int.cast_ofNat_Int]
      refine wpL_ret ?_
      rw [← hB3]
      try simp only [go_sem, ↓reduceIte, Nat.reduceEqDiff]
      rw [← hB2]
      try simp only [go_sem, ↓reduceIte, Nat.reduceEqDiff]
      rw [← hBQ]
      try simp only [go_sem, ↓reduceIte, Nat.reduceEqDiff]
      rw [if_pos he] at hpre
      rw [hchk, hpre]
      simp [two]
    obtain ⟨hb1, hb2⟩ := hbd he
    rw [if_neg (fun hc => hc he)] at hpre
    refine wpL_cond (t := false) (by simp only [go_sem, ↓reduceIte, Nat.reduceEqDiff, he, Ne, not_true_eq_false, decide_false]) (fun h => Bool.noConfusion h) (fun _ => ?_)
    try simp only [go_sem, ↓reduceIte, Nat.reduceEqDiff]
    refine wpL_skip ?_
    refine wpL_region Tryd.tyOk (by decide) ?_
    simp only [go_sem, ↓reduceIte, Nat.reduceEqDiff, Nat.reduceAdd, Nat.reduceLeDiff, Nat.reduceLT, Int.reduceEq, Int.reduceLT, Int.reduceLE, Int.reduceNeg, Int.reduceToNat, Int.cast_ofNat_Int]
    rw [← hB3]
    try simp only [go_sem, ↓reduceIte, Nat.reduceEqDiff]
    refine wpL_region Tryd.tyOk (by decide) ?_
    simp only [go_sem, ↓reduceIte, Nat.reduceEqDiff, Nat.reduceAdd, Nat.reduceLeDiff, Nat.reduceLT, Int.reduceEq, Int.reduceLT, Int.reduceLE, Int.reduceNeg, Int.reduceToNat, Int.cast_ofNat_Int]
    refine ⟨_, _, ?_, ⟨j + 1, max d (dx + 1), min (w + wx) 262145, by omega, rfl, by omega, by omega, hpre, rfl⟩, ?_⟩
    · omega
    · refine le_mk ?_ ?_ ?_ <;> (simp only [go_sem, ↓reduceIte, Nat.reduceEqDiff]; try simp [eInt, eStr, rBool, rInt, rStr, rTwo, rThree, eInts]; try simp (disch := omega) only [IntWalk.i64_in, and_self])
      refine ⟨trivial, ?_⟩
      omega
  have hge := ge_of hge
  rw [List.drop_of_length_le (by omega), chks] at hpre
  rw [hpre] at hchk
  simp only at hchk
  have hww := chks_weight hform hpre
  refine wpL_exit ?_
  simp only [go_sem, ↓reduceIte, Nat.reduceEqDiff, Nat.reduceAdd, Nat.reduceLeDiff, Nat.reduceLT, Int.reduceEq, Int.reduceLT, Int.reduceLE, Int.reduceNeg, Int.reduceToNat, Int.cast_ofNat_Int]
  rw [← hB2]
  try simp only [go_sem, ↓reduceIte, Nat.reduceEqDiff]
  by_cases h16 : 16 < d ∨ 262144 < w
  · rw [if_pos h16] at hchk
    refine wpL_to ⟨[(105, .c (.d (.sc (.bool true))))], []⟩ ?_ ?_
    · by_cases h1 : 16 < d
      · have hi : (d : Int) > 16 := by omega
        refine wpL_region Tryd.tyOk (by decide) ?_
        simp only [go_sem, ↓reduceIte, Nat.reduceEqDiff, Nat.reduceAdd, Nat.reduceLeDiff, Nat.reduceLT, Int.reduceEq, Int.reduceLT, Int.reduceLE, Int.reduceNeg, Int.reduceToNat, Int.cast_ofNat_Int, hi, decide_true]
        refine le_mk ?_ ?_ ?_ <;> (simp only [go_sem, ↓reduceIte, Nat.reduceEqDiff]; try simp [eInt, eStr, rBool, rInt, rStr, rTwo, rThree, eInts]; try simp (disch := omega) only [IntWalk.i64_in, and_self])
      · have hi : ¬ (d : Int) > 16 := by omega
        have hi2 : (wt a : Int) > 262144 := by
          have := hww.2 (by omega)
          omega
        refine wpL_region Tryd.tyOk (by decide) ?_
        simp only [go_sem, ↓reduceIte, Nat.reduceEqDiff, Nat.reduceAdd, Nat.reduceLeDiff, Nat.reduceLT, Int.reduceEq, Int.reduceLT, Int.reduceLE, Int.reduceNeg, Int.reduceToNat, Int.cast_ofNat_Int, hi, decide_false]
        refine ⟨_, hweigh, ?_⟩
        simp only [go_sem, ↓reduceIte, Nat.reduceEqDiff, Nat.reduceAdd, Nat.reduceLeDiff, Nat.reduceLT, Int.reduceEq, Int.reduceLT, Int.reduceLE, Int.reduceNeg, Int.reduceToNat, Int.cast_ofNat_Int, hi2, decide_true]
        refine le_mk ?_ ?_ ?_ <;> (simp only [go_sem, ↓reduceIte, Nat.reduceEqDiff]; try simp [eInt, eStr, rBool, rInt, rStr, rTwo, rThree, eInts]; try simp (disch := omega) only [IntWalk.i64_in, and_self])
    try simp only [go_sem, ↓reduceIte, Nat.reduceEqDiff]
    refine wpL_cond (t := true) (by simp only [go_sem, ↓reduceIte, Nat.reduceEqDiff]) (fun _ => ?_) (fun h => Bool.noConfusion h)
    try simp only [go_sem, ↓reduceIte, Nat.reduceEqDiff]
    refine wpL_region Tryd.tyOk (by decide) ?_
    simp only [go_sem, ↓reduceIte, Nat.reduceEqDiff, Nat.reduceAdd, Nat.reduceLeDiff, Nat.reduceLT, Int.reduceEq, Int.reduceLT, Int.reduceLE, Int.reduceNeg, Int.reduceToNat, Int.cast_ofNat_Int]
    refine wpL_ret ?_
    rw [← hBQ]
    try simp only [go_sem, ↓reduceIte, Nat.reduceEqDiff]
    rw [hchk]
    simp [two]
  · rw [if_neg h16] at hchk
    have hi : ¬ (d : Int) > 16 := by omega
    have hi2 : ¬ (wt a : Int) > 262144 := fun h => h16 (Or.inr (hww.1 (by omega)))
    refine wpL_region Tryd.tyOk (by decide) ?_
    simp only [go_sem, ↓reduceIte, Nat.reduceEqDiff, Nat.reduceAdd, Nat.reduceLeDiff, Nat.reduceLT, Int.reduceEq, Int.reduceLT, Int.reduceLE, Int.reduceNeg, Int.reduceToNat, Int.cast_ofNat_Int, hi, decide_false]
    refine ⟨_, hweigh, ?_⟩
    simp only [go_sem, ↓reduceIte, Nat.reduceEqDiff, Nat.reduceAdd, Nat.reduceLeDiff, Nat.reduceLT, Int.reduceEq, Int.reduceLT, Int.reduceLE, Int.reduceNeg, Int.reduceToNat, Int.cast_ofNat_Int, hi2, decide_false]
    refine wpL_cond (t := false) (by simp only [go_sem, ↓reduceIte, Nat.reduceEqDiff]) (fun h => Bool.noConfusion h) (fun _ => ?_)
    try simp only [go_sem, ↓reduceIte, Nat.reduceEqDiff]
    refine wpL_skip ?_
    refine wpL_region Tryd.tyOk (by decide) ?_
    simp only [go_sem, ↓reduceIte, Nat.reduceEqDiff, Nat.reduceAdd, Nat.reduceLeDiff, Nat.reduceLT, Int.reduceEq, Int.reduceLT, Int.reduceLE, Int.reduceNeg, Int.reduceToNat, Int.cast_ofNat_Int]
    refine wpL_ret ?_
    rw [← hBQ]
    try simp only [go_sem, ↓reduceIte, Nat.reduceEqDiff]
    rw [hchk]
    simp [two]
theorem Right17 (a : Arr) (hF : Fine a) : Gives Tryd.prog 16 [.agg (eArr a)] (rInt (chk a).1) := by
  have hv := check42 _ a (Nat.le_refl _) hF
  rw [eArr_eq] at hv ⊢
  refine Gives.intro Tryd.tyOk Tryd.func16 (by kernel_rfl) rfl (by simp [Tryd.ntmps16]) ?_
  simp only [go_sem, ↓reduceIte, Nat.reduceEqDiff, Nat.reduceAdd, Nat.reduceLeDiff, Nat.reduceLT, Int.reduceEq, Int.reduceLT, Int.reduceLE, Int.reduceNeg, Int.reduceToNat, Int.cast_ofNat_Int]
  simp only [Tryd.ntmps16, Tryd.results16, eInt, eStr, rBool, rInt, rStr, rTwo, rThree, List.map_cons, List.map_nil]
  generalize hBQ : retQ _ _ _ = BQ
  iterate 2 (refine wpL_region Tryd.tyOk (by decide) ?_; simp only [go_sem, ↓reduceIte, Nat.reduceEqDiff, Nat.reduceAdd, Nat.reduceLeDiff, Nat.reduceLT, Int.reduceEq, Int.reduceLT, Int.reduceLE, Int.reduceNeg, Int.reduceToNat, Int.cast_ofNat_Int])
  refine ⟨_, hv, ?_⟩
  simp only [go_sem, ↓reduceIte, Nat.reduceEqDiff, Nat.reduceAdd, Nat.reduceLeDiff, Nat.reduceLT, Int.reduceEq, Int.reduceLT, Int.reduceLE, Int.reduceNeg, Int.reduceToNat, Int.cast_ofNat_Int, two]
  refine wpL_region Tryd.tyOk (by decide) ?_
  simp only [go_sem, ↓reduceIte, Nat.reduceEqDiff, Nat.reduceAdd, Nat.reduceLeDiff, Nat.reduceLT, Int.reduceEq, Int.reduceLT, Int.reduceLE, Int.reduceNeg, Int.reduceToNat, Int.cast_ofNat_Int]
  refine wpL_ret ?_
  rw [← hBQ]
  try simp only [go_sem, ↓reduceIte, Nat.reduceEqDiff]
end Go.Proofs.YtkkkdfhnpamnkaaDoor
