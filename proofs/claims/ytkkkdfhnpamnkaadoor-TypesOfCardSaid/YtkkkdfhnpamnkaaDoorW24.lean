/-
  Types: the type of an array, by the reference; the law of types.Of, walked.
-/
import Derived.Test.YtkkkdfhnpamnkaaDoorW22
import Derived.Test.YtkkkdfhnpamnkaaDoorAbsZB
set_option linter.unusedSimpArgs false
set_option linter.unusedVariables false
set_option maxRecDepth 100000
set_option maxHeartbeats 4000000
namespace Go.Proofs.YtkkkdfhnpamnkaaDoor
open Go.Abs Go

theorem chk_form {x : Arr} (h : (chk x).1 = 0) : formA x.kind x.shape x.nums.length x.items.length = 0 := by
  rw [chk_eq] at h
  split at h
  · rename_i h1; exact absurd h h1
  · rename_i h1; simpa using h1
theorem has_of (x : Arr) : hasS (ofS x) x = decide ((chk x).1 = 0) := by
  by_cases h : (chk x).1 = 0
  case neg => unfold hasS; simp [h]
  obtain ⟨f1, f2, f3, f4, _, _⟩ := form_zero (chk_form h)
  have hk : K7 (bitS x.kind) := by unfold K7 bitS; rcases f1 with h | h | h <;> simp [h]
  have hd : dimsG 1 x.shape = true := by
    rw [dimsG_iff, Bool.and_eq_true]
    refine ⟨List.all_eq_true.2 fun d hd => by have := f3 d hd; simp; omega, ?_⟩
    rw [List.filter_eq_self.2 fun d hd => by have := f3 d hd; simpa using this]
    unfold rightS at f4
    rw [Bool.and_eq_true] at f4
    exact f4.2
  have e1 : rightT (ofS x) = true := by
    unfold rightT
    rw [Bool.and_eq_true]
    constructor
    · unfold okHead ofS
      rw [if_pos h]
      simp only [Bool.and_eq_true, decide_eq_true_eq]
      refine ⟨hk, by omega, by omega, by omega, hd, ?_⟩
      split <;> simp
    · refine List.all_eq_true.2 fun a ha => ?_
      unfold ofS at ha
      rw [if_pos h] at ha
      simp only at ha
      split at ha
      · rename_i hw
        simp only [List.mem_singleton] at ha
        subst ha
        unfold okKnown ofS
        simp [h, hw]
      · simp at ha
  have e2 : belowS (wholeT x) (ofS x) = true := by
    unfold belowS wholeT ofS
    rw [if_pos h]
    simp only [Bool.and_eq_true, Bool.or_eq_true, decide_eq_true_eq]
    refine ⟨kb_self _, by simp, (dB_iff _ _).2 fun i d e hd he => by rw [hd] at he; cases he; exact Or.inr rfl, ?_⟩
    split
    · rw [kB]; exact eqA_same x
    · rw [kB]
  unfold hasS
  simp [e1, e2, h]
theorem fewC3 (x : Arr) (n : Int) (hF : Fine x) : Gives Tryd.prog 8 [.agg [eInt x.kind, .sl (eInts x.shape), .sl (eInts x.nums), .sl (x.items.map eArr)], .c (eInt n)] (rBool (fewS x n)) := by
  have h := few8 x n hF
  rw [eArr_eq] at h
  exact h
theorem sameC (a : Ty) (hA : GoodT a) : Gives Tryd.prog 11 [.agg (eTy a), .agg (eTy a)] (rBool true) := by
  have h := same11 a a hA hA
  rw [sameT_self] at h
  exact h
theorem of12 (x : Arr) (hF : Fine x) : Gives Tryd.prog 12 [.agg (eArr x)] (rTy (ofS x)) := by
  have e1 := Right17 x hF
  have e2 := weight80 _ x (Nat.le_refl _) hF
  have e3 := clone37 _ x (Nat.le_refl _) hF
  rw [rArr, eArr_eq] at e3
  rw [eArr_eq] at e1 e2 ⊢
  obtain ⟨r, hr⟩ : ∃ r, ofS x = r := ⟨_, rfl⟩
  rw [hr]
  unfold ofS at hr
  refine Gives.intro Tryd.tyOk Tryd.func12 (by kernel_rfl) rfl (by simp [Tryd.ntmps12]) ?_
  simp only [go_sem, ↓reduceIte, Nat.reduceEqDiff, Nat.reduceAdd, Nat.reduceLeDiff, Nat.reduceLT, Int.reduceEq, Int.reduceLT, Int.reduceLE, Int.reduceNeg, Int.reduceToNat, Int.cast_ofNat_Int]
  simp only [Tryd.ntmps12, Tryd.results12, eInt, eStr, rBool, rInt, rStr, rTwo, rThree, eTy, rTy, List.map_cons, List.map_nil]
  generalize hBQ : retQ _ _ _ = BQ
  iterate 2 (refine wpL_region Tryd.tyOk (by decide) ?_; simp only [go_sem, ↓reduceIte, Nat.reduceEqDiff, Nat.reduceAdd, Nat.reduceLeDiff, Nat.reduceLT, Int.reduceEq, Int.reduceLT, Int.reduceLE, Int.reduceNeg, Int.reduceToNat, Int.cast_ofNat_Int])
  refine ⟨_, e1, ?_⟩
  by_cases c1 : (chk x).1 = 0
  case neg =>
    rw [if_neg c1] at hr
    subst hr
    simp only [go_sem, ↓reduceIte, Nat.reduceEqDiff, Nat.reduceAdd, Nat.reduceLeDiff, Nat.reduceLT, Int.reduceEq, Int.reduceLT, Int.reduceLE, Int.reduceNeg, Int.reduceToNat, Int.cast_ofNat_Int, c1, decide_false, decide_true, Ne, not_true_eq_false, not_false_eq_true, Bool.not_true, Bool.not_false]
    refine wpL_cond (t := true) (by simp only [go_sem, ↓reduceIte, Nat.reduceEqDiff]) (fun _ => ?_) (fun h => Bool.noConfusion h)
    try simp only [go_sem, ↓reduceIte, Nat.reduceEqDiff]
    refine wpL_region Tryd.tyOk (by decide) ?_
    simp only [go_sem, ↓reduceIte, Nat.reduceEqDiff, Nat.reduceAdd, Nat.reduceLeDiff, Nat.reduceLT, Int.reduceEq, Int.reduceLT, Int.reduceLE, Int.reduceNeg, Int.reduceToNat, Int.cast_ofNat_Int]
    refine wpL_ret ?_
    rw [← hBQ]
    try simp only [go_sem, ↓reduceIte, Nat.reduceEqDiff, Nat.reduceAdd, Nat.reduceLeDiff, Nat.reduceLT, Int.reduceEq, Int.reduceLT, Int.reduceLE, Int.reduceNeg, Int.reduceToNat, Int.cast_ofNat_Int]
    rfl
  rw [if_pos c1] at hr
  obtain ⟨l1, l2⟩ := chk_lens c1
  simp only [go_sem, ↓reduceIte, Nat.reduceEqDiff, Nat.reduceAdd, Nat.reduceLeDiff, Nat.reduceLT, Int.reduceEq, Int.reduceLT, Int.reduceLE, Int.reduceNeg, Int.reduceToNat, Int.cast_ofNat_Int, c1, decide_false, decide_true, Ne, not_true_eq_false, not_false_eq_true, Bool.not_true, Bool.not_false]
  refine wpL_cond (t := false) (by simp only [go_sem, ↓reduceIte, Nat.reduceEqDiff]) (fun h => Bool.noConfusion h) (fun _ => ?_)
  try simp only [go_sem, ↓reduceIte, Nat.reduceEqDiff]
  refine wpL_skip ?_
  refine wpL_draw Tryd.tyOk.fast (by kernel_rfl) 12 (by decide) (by decide) ?_
  simp only [go_sem, ↓reduceIte, Nat.reduceEqDiff, Nat.reduceAdd, Nat.reduceLeDiff, Nat.reduceLT, Int.reduceEq, Int.reduceLT, Int.reduceLE, Int.reduceNeg, Int.reduceToNat, Int.cast_ofNat_Int, eInts_len]
  refine ⟨_, bit35 x.kind, ?_⟩
  simp only [go_sem, ↓reduceIte, Nat.reduceEqDiff, Nat.reduceAdd, Nat.reduceLeDiff, Nat.reduceLT, Int.reduceEq, Int.reduceLT, Int.reduceLE, Int.reduceNeg, Int.reduceToNat, Int.cast_ofNat_Int, eInts_len]
  refine ⟨⟨by omega, eInts_one _⟩, ?_⟩
  try simp only [go_sem, ↓reduceIte, Nat.reduceEqDiff]
  refine wpL_region Tryd.tyOk (by decide) ?_
  simp only [go_sem, ↓reduceIte, Nat.reduceEqDiff, Nat.reduceAdd, Nat.reduceLeDiff, Nat.reduceLT, Int.reduceEq, Int.reduceLT, Int.reduceLE, Int.reduceNeg, Int.reduceToNat, Int.cast_ofNat_Int]
  refine ⟨_, e2, ?_⟩
  by_cases c2 : wt x ≤ 16
  · have c2' : (wt x : Int) ≤ 16 := by omega
    rw [if_pos c2] at hr
    subst hr
    simp only [go_sem, ↓reduceIte, Nat.reduceEqDiff, Nat.reduceAdd, Nat.reduceLeDiff, Nat.reduceLT, Int.reduceEq, Int.reduceLT, Int.reduceLE, Int.reduceNeg, Int.reduceToNat, Int.cast_ofNat_Int, c2', decide_false, decide_true, Ne, not_true_eq_false, not_false_eq_true, Bool.not_true, Bool.not_false]
    refine wpL_cond (t := true) (by simp only [go_sem, ↓reduceIte, Nat.reduceEqDiff]) (fun _ => ?_) (fun h => Bool.noConfusion h)
    try simp only [go_sem, ↓reduceIte, Nat.reduceEqDiff]
    refine wpL_region Tryd.tyOk (by decide) ?_
    simp only [go_sem, ↓reduceIte, Nat.reduceEqDiff, Nat.reduceAdd, Nat.reduceLeDiff, Nat.reduceLT, Int.reduceEq, Int.reduceLT, Int.reduceLE, Int.reduceNeg, Int.reduceToNat, Int.cast_ofNat_Int]
    refine ⟨_, e3 c1, ?_⟩
    simp only [go_sem, ↓reduceIte, Nat.reduceEqDiff, Nat.reduceAdd, Nat.reduceLeDiff, Nat.reduceLT, Int.reduceEq, Int.reduceLT, Int.reduceLE, Int.reduceNeg, Int.reduceToNat, Int.cast_ofNat_Int]
    refine ⟨by decide, ?_⟩
    refine wpL_region Tryd.tyOk (by decide) ?_
    simp only [go_sem, ↓reduceIte, Nat.reduceEqDiff, Nat.reduceAdd, Nat.reduceLeDiff, Nat.reduceLT, Int.reduceEq, Int.reduceLT, Int.reduceLE, Int.reduceNeg, Int.reduceToNat, Int.cast_ofNat_Int]
    refine wpL_ret ?_
    rw [← hBQ]
    try simp only [go_sem, ↓reduceIte, Nat.reduceEqDiff, Nat.reduceAdd, Nat.reduceLeDiff, Nat.reduceLT, Int.reduceEq, Int.reduceLT, Int.reduceLE, Int.reduceNeg, Int.reduceToNat, Int.cast_ofNat_Int]
    simp [eArr_eq]
    rfl
  · have c2' : ¬ (wt x : Int) ≤ 16 := by omega
    rw [if_neg c2] at hr
    subst hr
    simp only [go_sem, ↓reduceIte, Nat.reduceEqDiff, Nat.reduceAdd, Nat.reduceLeDiff, Nat.reduceLT, Int.reduceEq, Int.reduceLT, Int.reduceLE, Int.reduceNeg, Int.reduceToNat, Int.cast_ofNat_Int, c2', decide_false, decide_true, Ne, not_true_eq_false, not_false_eq_true, Bool.not_true, Bool.not_false]
    refine wpL_cond (t := false) (by simp only [go_sem, ↓reduceIte, Nat.reduceEqDiff]) (fun h => Bool.noConfusion h) (fun _ => ?_)
    try simp only [go_sem, ↓reduceIte, Nat.reduceEqDiff]
    refine wpL_skip ?_
    refine wpL_region Tryd.tyOk (by decide) ?_
    simp only [go_sem, ↓reduceIte, Nat.reduceEqDiff, Nat.reduceAdd, Nat.reduceLeDiff, Nat.reduceLT, Int.reduceEq, Int.reduceLT, Int.reduceLE, Int.reduceNeg, Int.reduceToNat, Int.cast_ofNat_Int]
    refine wpL_ret ?_
    rw [← hBQ]
    try simp only [go_sem, ↓reduceIte, Nat.reduceEqDiff, Nat.reduceAdd, Nat.reduceLeDiff, Nat.reduceLT, Int.reduceEq, Int.reduceLT, Int.reduceLE, Int.reduceNeg, Int.reduceToNat, Int.cast_ofNat_Int]
theorem of12C {x : Arr} (hF : Fine x) {A : Ty} (hA : ofS x = A) : Gives Tryd.prog 12 [.agg [eInt x.kind, .sl (eInts x.shape), .sl (eInts x.nums), .sl (x.items.map eArr)]] (rTy A) := by
  have h := of12 x hF
  rw [hA, eArr_eq] at h
  exact h
theorem law3 (x : Arr) (hF : Fine x) : Gives Tryd.prog 3 [.agg (eArr x)] (rBool true) := by
  have e1 := Right17 x hF
  have hv := has_of x
  rw [eArr_eq] at e1 ⊢
  obtain ⟨A, hA⟩ : ∃ A, ofS x = A := ⟨_, rfl⟩
  have gA : GoodT A := by rw [← hA]; exact good_of hF
  rw [hA] at hv
  refine Gives.intro Tryd.tyOk Tryd.func3 (by kernel_rfl) rfl (by simp [Tryd.ntmps3]) ?_
  simp only [go_sem, ↓reduceIte, Nat.reduceEqDiff, Nat.reduceAdd, Nat.reduceLeDiff, Nat.reduceLT, Int.reduceEq, Int.reduceLT, Int.reduceLE, Int.reduceNeg, Int.reduceToNat, Int.cast_ofNat_Int]
  simp only [Tryd.ntmps3, Tryd.results3, eInt, eStr, rBool, rInt, rStr, rTwo, rThree, eTy, rTy, List.map_cons, List.map_nil]
  generalize hBQ : retQ _ _ _ = BQ
  iterate 2 (refine wpL_region Tryd.tyOk (by decide) ?_; simp only [go_sem, ↓reduceIte, Nat.reduceEqDiff, Nat.reduceAdd, Nat.reduceLeDiff, Nat.reduceLT, Int.reduceEq, Int.reduceLT, Int.reduceLE, Int.reduceNeg, Int.reduceToNat, Int.cast_ofNat_Int])
  refine ⟨_, fewC3 x 300 hF, ?_⟩
  cases z0 : fewS x 300
  · simp only [go_sem, ↓reduceIte, Nat.reduceEqDiff, Nat.reduceAdd, Nat.reduceLeDiff, Nat.reduceLT, Int.reduceEq, Int.reduceLT, Int.reduceLE, Int.reduceNeg, Int.reduceToNat, Int.cast_ofNat_Int, decide_false, decide_true, Ne, not_true_eq_false, not_false_eq_true, Bool.not_true, Bool.not_false]
    refine wpL_cond (t := true) (by simp only [go_sem, ↓reduceIte, Nat.reduceEqDiff]) (fun _ => ?_) (fun h => Bool.noConfusion h)
    try simp only [go_sem, ↓reduceIte, Nat.reduceEqDiff]
    refine wpL_region Tryd.tyOk (by decide) ?_
    simp only [go_sem, ↓reduceIte, Nat.reduceEqDiff, Nat.reduceAdd, Nat.reduceLeDiff, Nat.reduceLT, Int.reduceEq, Int.reduceLT, Int.reduceLE, Int.reduceNeg, Int.reduceToNat, Int.cast_ofNat_Int]
    refine ⟨_, awake9, ?_⟩
    simp only [go_sem, ↓reduceIte, Nat.reduceEqDiff, Nat.reduceAdd, Nat.reduceLeDiff, Nat.reduceLT, Int.reduceEq, Int.reduceLT, Int.reduceLE, Int.reduceNeg, Int.reduceToNat, Int.cast_ofNat_Int]
    refine wpL_ret ?_
    rw [← hBQ]
    try simp only [go_sem, ↓reduceIte, Nat.reduceEqDiff, Nat.reduceAdd, Nat.reduceLeDiff, Nat.reduceLT, Int.reduceEq, Int.reduceLT, Int.reduceLE, Int.reduceNeg, Int.reduceToNat, Int.cast_ofNat_Int]
    try simp only [go_sem, ↓reduceIte, Nat.reduceEqDiff]
  simp only [go_sem, ↓reduceIte, Nat.reduceEqDiff, Nat.reduceAdd, Nat.reduceLeDiff, Nat.reduceLT, Int.reduceEq, Int.reduceLT, Int.reduceLE, Int.reduceNeg, Int.reduceToNat, Int.cast_ofNat_Int, decide_false, decide_true, Ne, not_true_eq_false, not_false_eq_true, Bool.not_true, Bool.not_false]
  refine wpL_cond (t := false) (by simp only [go_sem, ↓reduceIte, Nat.reduceEqDiff]) (fun h => Bool.noConfusion h) (fun _ => ?_)
  try simp only [go_sem, ↓reduceIte, Nat.reduceEqDiff]
  refine wpL_skip ?_
  refine wpL_region Tryd.tyOk (by decide) ?_
  simp only [go_sem, ↓reduceIte, Nat.reduceEqDiff, Nat.reduceAdd, Nat.reduceLeDiff, Nat.reduceLT, Int.reduceEq, Int.reduceLT, Int.reduceLE, Int.reduceNeg, Int.reduceToNat, Int.cast_ofNat_Int]
  refine ⟨_, ofC hF hA, ?_⟩
  simp only [go_sem, ↓reduceIte, Nat.reduceEqDiff, Nat.reduceAdd, Nat.reduceLeDiff, Nat.reduceLT, Int.reduceEq, Int.reduceLT, Int.reduceLE, Int.reduceNeg, Int.reduceToNat, Int.cast_ofNat_Int]
  refine wpL_draw Tryd.tyOk (by kernel_rfl) 22 (by decide) (by decide) ?_
  simp only [go_sem, ↓reduceIte, Nat.reduceEqDiff, Nat.reduceAdd, Nat.reduceLeDiff, Nat.reduceLT, Int.reduceEq, Int.reduceLT, Int.reduceLE, Int.reduceNeg, Int.reduceToNat, Int.cast_ofNat_Int]
  refine ⟨_, of12C hF hA, ?_⟩
  simp only [go_sem, ↓reduceIte, Nat.reduceEqDiff, Nat.reduceAdd, Nat.reduceLeDiff, Nat.reduceLT, Int.reduceEq, Int.reduceLT, Int.reduceLE, Int.reduceNeg, Int.reduceToNat, Int.cast_ofNat_Int]
  refine ⟨_, sameC A gA, ?_⟩
  simp only [go_sem, ↓reduceIte, Nat.reduceEqDiff, Nat.reduceAdd, Nat.reduceLeDiff, Nat.reduceLT, Int.reduceEq, Int.reduceLT, Int.reduceLE, Int.reduceNeg, Int.reduceToNat, Int.cast_ofNat_Int]
  refine ⟨_, any13, ?_⟩
  simp only [go_sem, ↓reduceIte, Nat.reduceEqDiff, Nat.reduceAdd, Nat.reduceLeDiff, Nat.reduceLT, Int.reduceEq, Int.reduceLT, Int.reduceLE, Int.reduceNeg, Int.reduceToNat, Int.cast_ofNat_Int]
  refine ⟨_, any14, ?_⟩
  simp only [go_sem, ↓reduceIte, Nat.reduceEqDiff, Nat.reduceAdd, Nat.reduceLeDiff, Nat.reduceLT, Int.reduceEq, Int.reduceLT, Int.reduceLE, Int.reduceNeg, Int.reduceToNat, Int.cast_ofNat_Int]
  refine ⟨_, sameC _ good_any, ?_⟩
  simp only [go_sem, ↓reduceIte, Nat.reduceEqDiff, Nat.reduceAdd, Nat.reduceLeDiff, Nat.reduceLT, Int.reduceEq, Int.reduceLT, Int.reduceLE, Int.reduceNeg, Int.reduceToNat, Int.cast_ofNat_Int]
  refine ⟨_, hasC A x gA hF hv, ?_⟩
  simp only [go_sem, ↓reduceIte, Nat.reduceEqDiff, Nat.reduceAdd, Nat.reduceLeDiff, Nat.reduceLT, Int.reduceEq, Int.reduceLT, Int.reduceLE, Int.reduceNeg, Int.reduceToNat, Int.cast_ofNat_Int]
  refine ⟨_, e1, ?_⟩
  simp only [go_sem, ↓reduceIte, Nat.reduceEqDiff, Nat.reduceAdd, Nat.reduceLeDiff, Nat.reduceLT, Int.reduceEq, Int.reduceLT, Int.reduceLE, Int.reduceNeg, Int.reduceToNat, Int.cast_ofNat_Int, beq_self_eq_true]
  refine ⟨_, awake9, ?_⟩
  simp only [go_sem, ↓reduceIte, Nat.reduceEqDiff, Nat.reduceAdd, Nat.reduceLeDiff, Nat.reduceLT, Int.reduceEq, Int.reduceLT, Int.reduceLE, Int.reduceNeg, Int.reduceToNat, Int.cast_ofNat_Int]
  refine wpL_ret ?_
  rw [← hBQ]
  try simp only [go_sem, ↓reduceIte, Nat.reduceEqDiff, Nat.reduceAdd, Nat.reduceLeDiff, Nat.reduceLT, Int.reduceEq, Int.reduceLT, Int.reduceLE, Int.reduceNeg, Int.reduceToNat, Int.cast_ofNat_Int]
  try simp only [go_sem, ↓reduceIte, Nat.reduceEqDiff]
end Go.Proofs.YtkkkdfhnpamnkaaDoor
