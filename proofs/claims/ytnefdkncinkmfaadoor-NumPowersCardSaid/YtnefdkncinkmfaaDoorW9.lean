/-
  The walks of layer 1, continued: the law NumRing.
-/
import Derived.Test.YtnefdkncinkmfaaDoorW7
set_option linter.unusedSimpArgs false
set_option linter.unusedVariables false
set_option maxRecDepth 100000
set_option maxHeartbeats 4000000
namespace Go.Proofs.YtnefdkncinkmfaaDoor
open Go.Abs Go

theorem bothS_comm (a b : Int) : bothS a b = bothS b a := by unfold bothS; rw [Bool.and_comm]
theorem addS_comm (a b : Int) : addS a b = addS b a := by unfold addS; rw [bothS_comm, Int.add_comm]
theorem mulS_comm (a b : Int) : mulS a b = mulS b a := by unfold mulS; rw [bothS_comm, Int.mul_comm]
theorem fitS_ok {n x e : Int} (h : fitS n = (x, e)) (he : e = 0) : fitsS n = true ∧ x = n := by
  unfold fitS at h
  split at h
  · rename_i hf; cases h; exact ⟨hf, rfl⟩
  · cases h; cases he
theorem addS_ok {a b x e : Int} (h : addS a b = (x, e)) (he : e = 0) : fitsS a = true ∧ fitsS b = true ∧ fitsS (a + b) = true ∧ x = a + b := by
  unfold addS at h
  split at h
  · rename_i hb
    unfold bothS at hb
    rw [Bool.and_eq_true] at hb
    obtain ⟨h1, h2⟩ := fitS_ok h he
    exact ⟨hb.1, hb.2, h1, h2⟩
  · cases h; cases he
theorem mulS_ok {a b x e : Int} (h : mulS a b = (x, e)) (he : e = 0) : fitsS a = true ∧ fitsS b = true ∧ fitsS (a * b) = true ∧ x = a * b := by
  unfold mulS at h
  split at h
  · rename_i hb
    unfold bothS at hb
    rw [Bool.and_eq_true] at hb
    obtain ⟨h1, h2⟩ := fitS_ok h he
    exact ⟨hb.1, hb.2, h1, h2⟩
  · cases h; cases he
theorem addS_fit {a b : Int} (h1 : fitsS a = true) (h2 : fitsS b = true) : addS a b = fitS (a + b) := by unfold addS bothS; rw [h1, h2]; rfl
theorem subS_fit {a b : Int} (h1 : fitsS a = true) (h2 : fitsS b = true) : subS a b = fitS (a - b) := by unfold subS bothS; rw [h1, h2]; rfl
theorem mulS_fit {a b : Int} (h1 : fitsS a = true) (h2 : fitsS b = true) : mulS a b = fitS (a * b) := by unfold mulS bothS; rw [h1, h2]; rfl

theorem law7 (a b c : Int) : Gives Tryd.prog 7 [.c (eInt a), .c (eInt b), .c (eInt c)] (rBool true) := by
  refine Gives.intro Tryd.tyOk Tryd.func7 (by kernel_rfl) rfl (by simp [Tryd.ntmps7]) ?_
  simp only [go_sem, ↓reduceIte, Nat.reduceEqDiff, Nat.reduceAdd, Nat.reduceLeDiff, Nat.reduceMul, Nat.reducePow, Nat.reduceLT, Nat.reduceSub, Int.reduceEq, Int.reduceLT, Int.reduceLE, Int.reduceNeg, Int.reduceToNat]
  simp only [Tryd.ntmps7, Tryd.results7, eInt, eStr, rBool, rInt, rStr, rTwo, rThree, List.map_cons, List.map_nil]
  generalize hBQ : retQ _ _ _ = BQ
  obtain ⟨x, e, hA⟩ : ∃ x e, addS a b = (x, e) := ⟨_, _, rfl⟩
  obtain ⟨p, g, hP⟩ : ∃ p g, mulS a b = (p, g) := ⟨_, _, rfl⟩
  obtain ⟨bk, i, hB⟩ : ∃ bk i, subS x b = (bk, i) := ⟨_, _, rfl⟩
  obtain ⟨yz, j, hY⟩ : ∃ yz j, addS b c = (yz, j) := ⟨_, _, rfl⟩
  obtain ⟨lf, k, hL⟩ : ∃ lf k, addS x c = (lf, k) := ⟨_, _, rfl⟩
  obtain ⟨rt, l, hR⟩ : ∃ rt l, addS a yz = (rt, l) := ⟨_, _, rfl⟩
  obtain ⟨ac, m, hC⟩ : ∃ ac m, mulS a c = (ac, m) := ⟨_, _, rfl⟩
  obtain ⟨on, n, hO⟩ : ∃ on n, mulS a yz = (on, n) := ⟨_, _, rfl⟩
  obtain ⟨tw, o, hT⟩ : ∃ tw o, addS p ac = (tw, o) := ⟨_, _, rfl⟩
  have f1 : e = 0 → bk = a ∧ i = 0 := by
    intro he
    obtain ⟨h1, h2, h3, h4⟩ := addS_ok hA he
    subst h4
    rw [subS_fit h3 h2, show a + b - b = a by omega] at hB
    unfold fitS at hB
    rw [h1] at hB
    cases hB; exact ⟨rfl, rfl⟩
  have f2 : e = 0 → j = 0 → k = l ∧ lf = rt := by
    intro he hj
    obtain ⟨h1, h2, h3, h4⟩ := addS_ok hA he
    obtain ⟨h5, h6, h7, h8⟩ := addS_ok hY hj
    subst h4; subst h8
    rw [addS_fit h3 h6] at hL
    rw [addS_fit h1 h7, ← Int.add_assoc, hL] at hR
    cases hR; exact ⟨rfl, rfl⟩
  have f3 : j = 0 → g = 0 → m = 0 → n = o ∧ on = tw := by
    intro hj hg hm
    obtain ⟨h1, h2, h3, h4⟩ := addS_ok hY hj
    obtain ⟨h5, h6, h7, h8⟩ := mulS_ok hP hg
    obtain ⟨h9, h10, h11, h12⟩ := mulS_ok hC hm
    subst h4; subst h8; subst h12
    rw [mulS_fit h5 h3, Int.mul_add] at hO
    rw [addS_fit h7 h11, hO] at hT
    cases hT; exact ⟨rfl, rfl⟩
  refine wpL_region Tryd.tyOk (by decide) ?_
  simp only [go_sem, ↓reduceIte, Nat.reduceEqDiff, Nat.reduceAdd, Nat.reduceLeDiff, Nat.reduceMul, Nat.reducePow, Nat.reduceLT, Nat.reduceSub, Int.reduceEq, Int.reduceLT, Int.reduceLE, Int.reduceNeg, Int.reduceToNat]
  refine wpL_region Tryd.tyOk (by decide) ?_
  simp only [go_sem, ↓reduceIte, Nat.reduceEqDiff, Nat.reduceAdd, Nat.reduceLeDiff, Nat.reduceMul, Nat.reducePow, Nat.reduceLT, Nat.reduceSub, Int.reduceEq, Int.reduceLT, Int.reduceLE, Int.reduceNeg, Int.reduceToNat]
  refine ⟨_, hA ▸ add21 a b, ?_⟩
  simp only [go_sem, ↓reduceIte, Nat.reduceEqDiff, Nat.reduceAdd, Nat.reduceLeDiff, Nat.reduceMul, Nat.reducePow, Nat.reduceLT, Nat.reduceSub, Int.reduceEq, Int.reduceLT, Int.reduceLE, Int.reduceNeg, Int.reduceToNat]
  refine wpL_region Tryd.tyOk (by decide) ?_
  simp only [go_sem, ↓reduceIte, Nat.reduceEqDiff, Nat.reduceAdd, Nat.reduceLeDiff, Nat.reduceMul, Nat.reducePow, Nat.reduceLT, Nat.reduceSub, Int.reduceEq, Int.reduceLT, Int.reduceLE, Int.reduceNeg, Int.reduceToNat]
  refine ⟨_, hA ▸ addS_comm b a ▸ add21 b a, ?_⟩
  simp only [go_sem, ↓reduceIte, Nat.reduceEqDiff, Nat.reduceAdd, Nat.reduceLeDiff, Nat.reduceMul, Nat.reducePow, Nat.reduceLT, Nat.reduceSub, Int.reduceEq, Int.reduceLT, Int.reduceLE, Int.reduceNeg, Int.reduceToNat]
  refine wpL_region Tryd.tyOk (by decide) ?_
  simp only [go_sem, ↓reduceIte, Nat.reduceEqDiff, Nat.reduceAdd, Nat.reduceLeDiff, Nat.reduceMul, Nat.reducePow, Nat.reduceLT, Nat.reduceSub, Int.reduceEq, Int.reduceLT, Int.reduceLE, Int.reduceNeg, Int.reduceToNat]
  refine ⟨_, hP ▸ mul20 a b, ?_⟩
  simp only [go_sem, ↓reduceIte, Nat.reduceEqDiff, Nat.reduceAdd, Nat.reduceLeDiff, Nat.reduceMul, Nat.reducePow, Nat.reduceLT, Nat.reduceSub, Int.reduceEq, Int.reduceLT, Int.reduceLE, Int.reduceNeg, Int.reduceToNat]
  refine wpL_region Tryd.tyOk (by decide) ?_
  simp only [go_sem, ↓reduceIte, Nat.reduceEqDiff, Nat.reduceAdd, Nat.reduceLeDiff, Nat.reduceMul, Nat.reducePow, Nat.reduceLT, Nat.reduceSub, Int.reduceEq, Int.reduceLT, Int.reduceLE, Int.reduceNeg, Int.reduceToNat]
  refine ⟨_, hP ▸ mulS_comm b a ▸ mul20 b a, ?_⟩
  simp only [go_sem, ↓reduceIte, Nat.reduceEqDiff, Nat.reduceAdd, Nat.reduceLeDiff, Nat.reduceMul, Nat.reducePow, Nat.reduceLT, Nat.reduceSub, Int.reduceEq, Int.reduceLT, Int.reduceLE, Int.reduceNeg, Int.reduceToNat]
  refine wpL_region Tryd.tyOk (by decide) ?_
  simp only [go_sem, ↓reduceIte, Nat.reduceEqDiff, Nat.reduceAdd, Nat.reduceLeDiff, Nat.reduceMul, Nat.reducePow, Nat.reduceLT, Nat.reduceSub, Int.reduceEq, Int.reduceLT, Int.reduceLE, Int.reduceNeg, Int.reduceToNat]
  refine wpL_cond (t := false) (by rfl) (fun h => by cases h) (fun _ => ?_)
  simp only [go_sem, ↓reduceIte, Nat.reduceEqDiff, Nat.reduceAdd, Nat.reduceLeDiff, Nat.reduceMul, Nat.reducePow, Nat.reduceLT, Nat.reduceSub, Int.reduceEq, Int.reduceLT, Int.reduceLE, Int.reduceNeg, Int.reduceToNat]
  refine wpL_skip ?_
  refine wpL_region Tryd.tyOk (by decide) ?_
  simp only [go_sem, ↓reduceIte, Nat.reduceEqDiff, Nat.reduceAdd, Nat.reduceLeDiff, Nat.reduceMul, Nat.reducePow, Nat.reduceLT, Nat.reduceSub, Int.reduceEq, Int.reduceLT, Int.reduceLE, Int.reduceNeg, Int.reduceToNat]
  refine ⟨_, hB ▸ sub22 x b, ?_⟩
  simp only [go_sem, ↓reduceIte, Nat.reduceEqDiff, Nat.reduceAdd, Nat.reduceLeDiff, Nat.reduceMul, Nat.reducePow, Nat.reduceLT, Nat.reduceSub, Int.reduceEq, Int.reduceLT, Int.reduceLE, Int.reduceNeg, Int.reduceToNat]
  refine wpL_to ⟨[(87, sbool false), (0, .c (.d (eInt a))), (1, .c (.d (eInt b))), (2, .c (.d (eInt c))), (7, sint .i64 x), (8, sint .i64 e), (11, sint .i64 p), (12, sint .i64 g)], []⟩ ?_ ?_
  · by_cases he : e = 0
    · obtain ⟨h1, h2⟩ := f1 he
      refine wpL_region Tryd.tyOk (by decide) ?_
      simp only [go_sem, ↓reduceIte, Nat.reduceEqDiff, Nat.reduceAdd, Nat.reduceLeDiff, Nat.reduceMul, Nat.reducePow, Nat.reduceLT, Nat.reduceSub, Int.reduceEq, Int.reduceLT, Int.reduceLE, Int.reduceNeg, Int.reduceToNat, he, h1, h2]
      refine le_mk ?_ ?_ ?_
      · simp only [go_sem, ↓reduceIte, Nat.reduceEqDiff, Nat.reduceAdd, Nat.reduceLeDiff, Nat.reduceMul, Nat.reducePow, Nat.reduceLT, Nat.reduceSub, Int.reduceEq, Int.reduceLT, Int.reduceLE, Int.reduceNeg, Int.reduceToNat]
        try simp [eInt, eStr, rBool, rInt, rStr, rTwo, rThree, eInt, eStr, he]
        try simp (disch := omega) only [IntWalk.i64_in, and_self]
      · simp only [go_sem, ↓reduceIte, Nat.reduceEqDiff, Nat.reduceAdd, Nat.reduceLeDiff, Nat.reduceMul, Nat.reducePow, Nat.reduceLT, Nat.reduceSub, Int.reduceEq, Int.reduceLT, Int.reduceLE, Int.reduceNeg, Int.reduceToNat]
        try simp [eInt, eStr, rBool, rInt, rStr, rTwo, rThree, eInt, eStr, he]
        try simp (disch := omega) only [IntWalk.i64_in, and_self]
      · simp only [go_sem, ↓reduceIte, Nat.reduceEqDiff, Nat.reduceAdd, Nat.reduceLeDiff, Nat.reduceMul, Nat.reducePow, Nat.reduceLT, Nat.reduceSub, Int.reduceEq, Int.reduceLT, Int.reduceLE, Int.reduceNeg, Int.reduceToNat]
        try simp [eInt, eStr, rBool, rInt, rStr, rTwo, rThree, eInt, eStr, he]
        try simp (disch := omega) only [IntWalk.i64_in, and_self]
    · refine wpL_region Tryd.tyOk (by decide) ?_
      simp only [go_sem, ↓reduceIte, Nat.reduceEqDiff, Nat.reduceAdd, Nat.reduceLeDiff, Nat.reduceMul, Nat.reducePow, Nat.reduceLT, Nat.reduceSub, Int.reduceEq, Int.reduceLT, Int.reduceLE, Int.reduceNeg, Int.reduceToNat, he]
      refine le_mk ?_ ?_ ?_
      · simp only [go_sem, ↓reduceIte, Nat.reduceEqDiff, Nat.reduceAdd, Nat.reduceLeDiff, Nat.reduceMul, Nat.reducePow, Nat.reduceLT, Nat.reduceSub, Int.reduceEq, Int.reduceLT, Int.reduceLE, Int.reduceNeg, Int.reduceToNat]
        try simp [eInt, eStr, rBool, rInt, rStr, rTwo, rThree, eInt, eStr]
        try simp (disch := omega) only [IntWalk.i64_in, and_self]
      · simp only [go_sem, ↓reduceIte, Nat.reduceEqDiff, Nat.reduceAdd, Nat.reduceLeDiff, Nat.reduceMul, Nat.reducePow, Nat.reduceLT, Nat.reduceSub, Int.reduceEq, Int.reduceLT, Int.reduceLE, Int.reduceNeg, Int.reduceToNat]
        try simp [eInt, eStr, rBool, rInt, rStr, rTwo, rThree, eInt, eStr]
        try simp (disch := omega) only [IntWalk.i64_in, and_self]
      · simp only [go_sem, ↓reduceIte, Nat.reduceEqDiff, Nat.reduceAdd, Nat.reduceLeDiff, Nat.reduceMul, Nat.reducePow, Nat.reduceLT, Nat.reduceSub, Int.reduceEq, Int.reduceLT, Int.reduceLE, Int.reduceNeg, Int.reduceToNat]
        try simp [eInt, eStr, rBool, rInt, rStr, rTwo, rThree, eInt, eStr]
        try simp (disch := omega) only [IntWalk.i64_in, and_self]
  refine wpL_cond (t := false) (by rfl) (fun h => by cases h) (fun _ => ?_)
  simp only [go_sem, ↓reduceIte, Nat.reduceEqDiff, Nat.reduceAdd, Nat.reduceLeDiff, Nat.reduceMul, Nat.reducePow, Nat.reduceLT, Nat.reduceSub, Int.reduceEq, Int.reduceLT, Int.reduceLE, Int.reduceNeg, Int.reduceToNat]
  refine wpL_skip ?_
  refine wpL_region Tryd.tyOk (by decide) ?_
  simp only [go_sem, ↓reduceIte, Nat.reduceEqDiff, Nat.reduceAdd, Nat.reduceLeDiff, Nat.reduceMul, Nat.reducePow, Nat.reduceLT, Nat.reduceSub, Int.reduceEq, Int.reduceLT, Int.reduceLE, Int.reduceNeg, Int.reduceToNat]
  refine ⟨_, hY ▸ add21 b c, ?_⟩
  simp only [go_sem, ↓reduceIte, Nat.reduceEqDiff, Nat.reduceAdd, Nat.reduceLeDiff, Nat.reduceMul, Nat.reducePow, Nat.reduceLT, Nat.reduceSub, Int.reduceEq, Int.reduceLT, Int.reduceLE, Int.reduceNeg, Int.reduceToNat]
  refine wpL_region Tryd.tyOk (by decide) ?_
  simp only [go_sem, ↓reduceIte, Nat.reduceEqDiff, Nat.reduceAdd, Nat.reduceLeDiff, Nat.reduceMul, Nat.reducePow, Nat.reduceLT, Nat.reduceSub, Int.reduceEq, Int.reduceLT, Int.reduceLE, Int.reduceNeg, Int.reduceToNat]
  refine ⟨_, hL ▸ add21 x c, ?_⟩
  simp only [go_sem, ↓reduceIte, Nat.reduceEqDiff, Nat.reduceAdd, Nat.reduceLeDiff, Nat.reduceMul, Nat.reducePow, Nat.reduceLT, Nat.reduceSub, Int.reduceEq, Int.reduceLT, Int.reduceLE, Int.reduceNeg, Int.reduceToNat]
  refine wpL_region Tryd.tyOk (by decide) ?_
  simp only [go_sem, ↓reduceIte, Nat.reduceEqDiff, Nat.reduceAdd, Nat.reduceLeDiff, Nat.reduceMul, Nat.reducePow, Nat.reduceLT, Nat.reduceSub, Int.reduceEq, Int.reduceLT, Int.reduceLE, Int.reduceNeg, Int.reduceToNat]
  refine ⟨_, hR ▸ add21 a yz, ?_⟩
  simp only [go_sem, ↓reduceIte, Nat.reduceEqDiff, Nat.reduceAdd, Nat.reduceLeDiff, Nat.reduceMul, Nat.reducePow, Nat.reduceLT, Nat.reduceSub, Int.reduceEq, Int.reduceLT, Int.reduceLE, Int.reduceNeg, Int.reduceToNat]
  refine wpL_to ⟨[(121, sbool false), (0, .c (.d (eInt a))), (2, .c (.d (eInt c))), (17, sint .i64 yz), (18, sint .i64 j), (11, sint .i64 p), (12, sint .i64 g)], []⟩ ?_ ?_
  · by_cases he : e = 0
    · by_cases hj : j = 0
      · obtain ⟨h1, h2⟩ := f2 he hj
        refine wpL_region Tryd.tyOk (by decide) ?_
        simp only [go_sem, ↓reduceIte, Nat.reduceEqDiff, Nat.reduceAdd, Nat.reduceLeDiff, Nat.reduceMul, Nat.reducePow, Nat.reduceLT, Nat.reduceSub, Int.reduceEq, Int.reduceLT, Int.reduceLE, Int.reduceNeg, Int.reduceToNat, he, hj, h1, h2]
        refine le_mk ?_ ?_ ?_
        · simp only [go_sem, ↓reduceIte, Nat.reduceEqDiff, Nat.reduceAdd, Nat.reduceLeDiff, Nat.reduceMul, Nat.reducePow, Nat.reduceLT, Nat.reduceSub, Int.reduceEq, Int.reduceLT, Int.reduceLE, Int.reduceNeg, Int.reduceToNat]
          try simp [eInt, eStr, rBool, rInt, rStr, rTwo, rThree, eInt, eStr, hj]
          try simp (disch := omega) only [IntWalk.i64_in, and_self]
        · simp only [go_sem, ↓reduceIte, Nat.reduceEqDiff, Nat.reduceAdd, Nat.reduceLeDiff, Nat.reduceMul, Nat.reducePow, Nat.reduceLT, Nat.reduceSub, Int.reduceEq, Int.reduceLT, Int.reduceLE, Int.reduceNeg, Int.reduceToNat]
          try simp [eInt, eStr, rBool, rInt, rStr, rTwo, rThree, eInt, eStr, hj]
          try simp (disch := omega) only [IntWalk.i64_in, and_self]
        · simp only [go_sem, ↓reduceIte, Nat.reduceEqDiff, Nat.reduceAdd, Nat.reduceLeDiff, Nat.reduceMul, Nat.reducePow, Nat.reduceLT, Nat.reduceSub, Int.reduceEq, Int.reduceLT, Int.reduceLE, Int.reduceNeg, Int.reduceToNat]
          try simp [eInt, eStr, rBool, rInt, rStr, rTwo, rThree, eInt, eStr, hj]
          try simp (disch := omega) only [IntWalk.i64_in, and_self]
      · refine wpL_region Tryd.tyOk (by decide) ?_
        simp only [go_sem, ↓reduceIte, Nat.reduceEqDiff, Nat.reduceAdd, Nat.reduceLeDiff, Nat.reduceMul, Nat.reducePow, Nat.reduceLT, Nat.reduceSub, Int.reduceEq, Int.reduceLT, Int.reduceLE, Int.reduceNeg, Int.reduceToNat, he, hj]
        refine le_mk ?_ ?_ ?_
        · simp only [go_sem, ↓reduceIte, Nat.reduceEqDiff, Nat.reduceAdd, Nat.reduceLeDiff, Nat.reduceMul, Nat.reducePow, Nat.reduceLT, Nat.reduceSub, Int.reduceEq, Int.reduceLT, Int.reduceLE, Int.reduceNeg, Int.reduceToNat]
          try simp [eInt, eStr, rBool, rInt, rStr, rTwo, rThree, eInt, eStr]
          try simp (disch := omega) only [IntWalk.i64_in, and_self]
        · simp only [go_sem, ↓reduceIte, Nat.reduceEqDiff, Nat.reduceAdd, Nat.reduceLeDiff, Nat.reduceMul, Nat.reducePow, Nat.reduceLT, Nat.reduceSub, Int.reduceEq, Int.reduceLT, Int.reduceLE, Int.reduceNeg, Int.reduceToNat]
          try simp [eInt, eStr, rBool, rInt, rStr, rTwo, rThree, eInt, eStr]
          try simp (disch := omega) only [IntWalk.i64_in, and_self]
        · simp only [go_sem, ↓reduceIte, Nat.reduceEqDiff, Nat.reduceAdd, Nat.reduceLeDiff, Nat.reduceMul, Nat.reducePow, Nat.reduceLT, Nat.reduceSub, Int.reduceEq, Int.reduceLT, Int.reduceLE, Int.reduceNeg, Int.reduceToNat]
          try simp [eInt, eStr, rBool, rInt, rStr, rTwo, rThree, eInt, eStr]
          try simp (disch := omega) only [IntWalk.i64_in, and_self]
    · refine wpL_region Tryd.tyOk (by decide) ?_
      simp only [go_sem, ↓reduceIte, Nat.reduceEqDiff, Nat.reduceAdd, Nat.reduceLeDiff, Nat.reduceMul, Nat.reducePow, Nat.reduceLT, Nat.reduceSub, Int.reduceEq, Int.reduceLT, Int.reduceLE, Int.reduceNeg, Int.reduceToNat, he]
      refine le_mk ?_ ?_ ?_
      · simp only [go_sem, ↓reduceIte, Nat.reduceEqDiff, Nat.reduceAdd, Nat.reduceLeDiff, Nat.reduceMul, Nat.reducePow, Nat.reduceLT, Nat.reduceSub, Int.reduceEq, Int.reduceLT, Int.reduceLE, Int.reduceNeg, Int.reduceToNat]
        try simp [eInt, eStr, rBool, rInt, rStr, rTwo, rThree, eInt, eStr]
        try simp (disch := omega) only [IntWalk.i64_in, and_self]
      · simp only [go_sem, ↓reduceIte, Nat.reduceEqDiff, Nat.reduceAdd, Nat.reduceLeDiff, Nat.reduceMul, Nat.reducePow, Nat.reduceLT, Nat.reduceSub, Int.reduceEq, Int.reduceLT, Int.reduceLE, Int.reduceNeg, Int.reduceToNat]
        try simp [eInt, eStr, rBool, rInt, rStr, rTwo, rThree, eInt, eStr]
        try simp (disch := omega) only [IntWalk.i64_in, and_self]
      · simp only [go_sem, ↓reduceIte, Nat.reduceEqDiff, Nat.reduceAdd, Nat.reduceLeDiff, Nat.reduceMul, Nat.reducePow, Nat.reduceLT, Nat.reduceSub, Int.reduceEq, Int.reduceLT, Int.reduceLE, Int.reduceNeg, Int.reduceToNat]
        try simp [eInt, eStr, rBool, rInt, rStr, rTwo, rThree, eInt, eStr]
        try simp (disch := omega) only [IntWalk.i64_in, and_self]
  refine wpL_cond (t := false) (by rfl) (fun h => by cases h) (fun _ => ?_)
  simp only [go_sem, ↓reduceIte, Nat.reduceEqDiff, Nat.reduceAdd, Nat.reduceLeDiff, Nat.reduceMul, Nat.reducePow, Nat.reduceLT, Nat.reduceSub, Int.reduceEq, Int.reduceLT, Int.reduceLE, Int.reduceNeg, Int.reduceToNat]
  refine wpL_skip ?_
  refine wpL_region Tryd.tyOk (by decide) ?_
  simp only [go_sem, ↓reduceIte, Nat.reduceEqDiff, Nat.reduceAdd, Nat.reduceLeDiff, Nat.reduceMul, Nat.reducePow, Nat.reduceLT, Nat.reduceSub, Int.reduceEq, Int.reduceLT, Int.reduceLE, Int.reduceNeg, Int.reduceToNat]
  refine ⟨_, hC ▸ mul20 a c, ?_⟩
  simp only [go_sem, ↓reduceIte, Nat.reduceEqDiff, Nat.reduceAdd, Nat.reduceLeDiff, Nat.reduceMul, Nat.reducePow, Nat.reduceLT, Nat.reduceSub, Int.reduceEq, Int.reduceLT, Int.reduceLE, Int.reduceNeg, Int.reduceToNat]
  refine wpL_region Tryd.tyOk (by decide) ?_
  simp only [go_sem, ↓reduceIte, Nat.reduceEqDiff, Nat.reduceAdd, Nat.reduceLeDiff, Nat.reduceMul, Nat.reducePow, Nat.reduceLT, Nat.reduceSub, Int.reduceEq, Int.reduceLT, Int.reduceLE, Int.reduceNeg, Int.reduceToNat]
  refine ⟨_, hO ▸ mul20 a yz, ?_⟩
  simp only [go_sem, ↓reduceIte, Nat.reduceEqDiff, Nat.reduceAdd, Nat.reduceLeDiff, Nat.reduceMul, Nat.reducePow, Nat.reduceLT, Nat.reduceSub, Int.reduceEq, Int.reduceLT, Int.reduceLE, Int.reduceNeg, Int.reduceToNat]
  refine wpL_region Tryd.tyOk (by decide) ?_
  simp only [go_sem, ↓reduceIte, Nat.reduceEqDiff, Nat.reduceAdd, Nat.reduceLeDiff, Nat.reduceMul, Nat.reducePow, Nat.reduceLT, Nat.reduceSub, Int.reduceEq, Int.reduceLT, Int.reduceLE, Int.reduceNeg, Int.reduceToNat]
  refine ⟨_, hT ▸ add21 p ac, ?_⟩
  simp only [go_sem, ↓reduceIte, Nat.reduceEqDiff, Nat.reduceAdd, Nat.reduceLeDiff, Nat.reduceMul, Nat.reducePow, Nat.reduceLT, Nat.reduceSub, Int.reduceEq, Int.reduceLT, Int.reduceLE, Int.reduceNeg, Int.reduceToNat]
  refine wpL_to ⟨[(159, sbool false)], []⟩ ?_ ?_
  · by_cases hj : j = 0
    · by_cases hg : g = 0
      · by_cases hm : m = 0
        · obtain ⟨h1, h2⟩ := f3 hj hg hm
          refine wpL_region Tryd.tyOk (by decide) ?_
          simp only [go_sem, ↓reduceIte, Nat.reduceEqDiff, Nat.reduceAdd, Nat.reduceLeDiff, Nat.reduceMul, Nat.reducePow, Nat.reduceLT, Nat.reduceSub, Int.reduceEq, Int.reduceLT, Int.reduceLE, Int.reduceNeg, Int.reduceToNat, hj, hg, hm, h1, h2]
          refine le_mk ?_ ?_ ?_
          · simp only [go_sem, ↓reduceIte, Nat.reduceEqDiff, Nat.reduceAdd, Nat.reduceLeDiff, Nat.reduceMul, Nat.reducePow, Nat.reduceLT, Nat.reduceSub, Int.reduceEq, Int.reduceLT, Int.reduceLE, Int.reduceNeg, Int.reduceToNat]
            try simp [eInt, eStr, rBool, rInt, rStr, rTwo, rThree, eInt, eStr]
            try simp (disch := omega) only [IntWalk.i64_in, and_self]
          · simp only [go_sem, ↓reduceIte, Nat.reduceEqDiff, Nat.reduceAdd, Nat.reduceLeDiff, Nat.reduceMul, Nat.reducePow, Nat.reduceLT, Nat.reduceSub, Int.reduceEq, Int.reduceLT, Int.reduceLE, Int.reduceNeg, Int.reduceToNat]
            try simp [eInt, eStr, rBool, rInt, rStr, rTwo, rThree, eInt, eStr]
            try simp (disch := omega) only [IntWalk.i64_in, and_self]
          · simp only [go_sem, ↓reduceIte, Nat.reduceEqDiff, Nat.reduceAdd, Nat.reduceLeDiff, Nat.reduceMul, Nat.reducePow, Nat.reduceLT, Nat.reduceSub, Int.reduceEq, Int.reduceLT, Int.reduceLE, Int.reduceNeg, Int.reduceToNat]
            try simp [eInt, eStr, rBool, rInt, rStr, rTwo, rThree, eInt, eStr]
            try simp (disch := omega) only [IntWalk.i64_in, and_self]
        · refine wpL_region Tryd.tyOk (by decide) ?_
          simp only [go_sem, ↓reduceIte, Nat.reduceEqDiff, Nat.reduceAdd, Nat.reduceLeDiff, Nat.reduceMul, Nat.reducePow, Nat.reduceLT, Nat.reduceSub, Int.reduceEq, Int.reduceLT, Int.reduceLE, Int.reduceNeg, Int.reduceToNat, hj, hg, hm]
          refine le_mk ?_ ?_ ?_
          · simp only [go_sem, ↓reduceIte, Nat.reduceEqDiff, Nat.reduceAdd, Nat.reduceLeDiff, Nat.reduceMul, Nat.reducePow, Nat.reduceLT, Nat.reduceSub, Int.reduceEq, Int.reduceLT, Int.reduceLE, Int.reduceNeg, Int.reduceToNat]
            try simp [eInt, eStr, rBool, rInt, rStr, rTwo, rThree, eInt, eStr]
            try simp (disch := omega) only [IntWalk.i64_in, and_self]
          · simp only [go_sem, ↓reduceIte, Nat.reduceEqDiff, Nat.reduceAdd, Nat.reduceLeDiff, Nat.reduceMul, Nat.reducePow, Nat.reduceLT, Nat.reduceSub, Int.reduceEq, Int.reduceLT, Int.reduceLE, Int.reduceNeg, Int.reduceToNat]
            try simp [eInt, eStr, rBool, rInt, rStr, rTwo, rThree, eInt, eStr]
            try simp (disch := omega) only [IntWalk.i64_in, and_self]
          · simp only [go_sem, ↓reduceIte, Nat.reduceEqDiff, Nat.reduceAdd, Nat.reduceLeDiff, Nat.reduceMul, Nat.reducePow, Nat.reduceLT, Nat.reduceSub, Int.reduceEq, Int.reduceLT, Int.reduceLE, Int.reduceNeg, Int.reduceToNat]
            try simp [eInt, eStr, rBool, rInt, rStr, rTwo, rThree, eInt, eStr]
            try simp (disch := omega) only [IntWalk.i64_in, and_self]
      · refine wpL_region Tryd.tyOk (by decide) ?_
        simp only [go_sem, ↓reduceIte, Nat.reduceEqDiff, Nat.reduceAdd, Nat.reduceLeDiff, Nat.reduceMul, Nat.reducePow, Nat.reduceLT, Nat.reduceSub, Int.reduceEq, Int.reduceLT, Int.reduceLE, Int.reduceNeg, Int.reduceToNat, hj, hg]
        refine le_mk ?_ ?_ ?_
        · simp only [go_sem, ↓reduceIte, Nat.reduceEqDiff, Nat.reduceAdd, Nat.reduceLeDiff, Nat.reduceMul, Nat.reducePow, Nat.reduceLT, Nat.reduceSub, Int.reduceEq, Int.reduceLT, Int.reduceLE, Int.reduceNeg, Int.reduceToNat]
          try simp [eInt, eStr, rBool, rInt, rStr, rTwo, rThree, eInt, eStr]
          try simp (disch := omega) only [IntWalk.i64_in, and_self]
        · simp only [go_sem, ↓reduceIte, Nat.reduceEqDiff, Nat.reduceAdd, Nat.reduceLeDiff, Nat.reduceMul, Nat.reducePow, Nat.reduceLT, Nat.reduceSub, Int.reduceEq, Int.reduceLT, Int.reduceLE, Int.reduceNeg, Int.reduceToNat]
          try simp [eInt, eStr, rBool, rInt, rStr, rTwo, rThree, eInt, eStr]
          try simp (disch := omega) only [IntWalk.i64_in, and_self]
        · simp only [go_sem, ↓reduceIte, Nat.reduceEqDiff, Nat.reduceAdd, Nat.reduceLeDiff, Nat.reduceMul, Nat.reducePow, Nat.reduceLT, Nat.reduceSub, Int.reduceEq, Int.reduceLT, Int.reduceLE, Int.reduceNeg, Int.reduceToNat]
          try simp [eInt, eStr, rBool, rInt, rStr, rTwo, rThree, eInt, eStr]
          try simp (disch := omega) only [IntWalk.i64_in, and_self]
    · refine wpL_region Tryd.tyOk (by decide) ?_
      simp only [go_sem, ↓reduceIte, Nat.reduceEqDiff, Nat.reduceAdd, Nat.reduceLeDiff, Nat.reduceMul, Nat.reducePow, Nat.reduceLT, Nat.reduceSub, Int.reduceEq, Int.reduceLT, Int.reduceLE, Int.reduceNeg, Int.reduceToNat, hj]
      refine le_mk ?_ ?_ ?_
      · simp only [go_sem, ↓reduceIte, Nat.reduceEqDiff, Nat.reduceAdd, Nat.reduceLeDiff, Nat.reduceMul, Nat.reducePow, Nat.reduceLT, Nat.reduceSub, Int.reduceEq, Int.reduceLT, Int.reduceLE, Int.reduceNeg, Int.reduceToNat]
        try simp [eInt, eStr, rBool, rInt, rStr, rTwo, rThree, eInt, eStr]
        try simp (disch := omega) only [IntWalk.i64_in, and_self]
      · simp only [go_sem, ↓reduceIte, Nat.reduceEqDiff, Nat.reduceAdd, Nat.reduceLeDiff, Nat.reduceMul, Nat.reducePow, Nat.reduceLT, Nat.reduceSub, Int.reduceEq, Int.reduceLT, Int.reduceLE, Int.reduceNeg, Int.reduceToNat]
        try simp [eInt, eStr, rBool, rInt, rStr, rTwo, rThree, eInt, eStr]
        try simp (disch := omega) only [IntWalk.i64_in, and_self]
      · simp only [go_sem, ↓reduceIte, Nat.reduceEqDiff, Nat.reduceAdd, Nat.reduceLeDiff, Nat.reduceMul, Nat.reducePow, Nat.reduceLT, Nat.reduceSub, Int.reduceEq, Int.reduceLT, Int.reduceLE, Int.reduceNeg, Int.reduceToNat]
        try simp [eInt, eStr, rBool, rInt, rStr, rTwo, rThree, eInt, eStr]
        try simp (disch := omega) only [IntWalk.i64_in, and_self]
  refine wpL_cond (t := false) (by rfl) (fun h => by cases h) (fun _ => ?_)
  simp only [go_sem, ↓reduceIte, Nat.reduceEqDiff, Nat.reduceAdd, Nat.reduceLeDiff, Nat.reduceMul, Nat.reducePow, Nat.reduceLT, Nat.reduceSub, Int.reduceEq, Int.reduceLT, Int.reduceLE, Int.reduceNeg, Int.reduceToNat]
  refine wpL_skip ?_
  refine wpL_region Tryd.tyOk (by decide) ?_
  simp only [go_sem, ↓reduceIte, Nat.reduceEqDiff, Nat.reduceAdd, Nat.reduceLeDiff, Nat.reduceMul, Nat.reducePow, Nat.reduceLT, Nat.reduceSub, Int.reduceEq, Int.reduceLT, Int.reduceLE, Int.reduceNeg, Int.reduceToNat]
  refine ⟨_, awake13, ?_⟩
  simp only [go_sem, ↓reduceIte, Nat.reduceEqDiff, Nat.reduceAdd, Nat.reduceLeDiff, Nat.reduceMul, Nat.reducePow, Nat.reduceLT, Nat.reduceSub, Int.reduceEq, Int.reduceLT, Int.reduceLE, Int.reduceNeg, Int.reduceToNat]
  refine wpL_ret ?_
  try simp only [go_sem, ↓reduceIte, Nat.reduceEqDiff, Nat.reduceAdd, Nat.reduceLeDiff, Nat.reduceMul, Nat.reducePow, Nat.reduceLT, Nat.reduceSub, Int.reduceEq, Int.reduceLT, Int.reduceLE, Int.reduceNeg, Int.reduceToNat]
  rw [← hBQ]
  try simp only [go_sem, ↓reduceIte, Nat.reduceEqDiff, Nat.reduceAdd, Nat.reduceLeDiff, Nat.reduceMul, Nat.reducePow, Nat.reduceLT, Nat.reduceSub, Int.reduceEq, Int.reduceLT, Int.reduceLE, Int.reduceNeg, Int.reduceToNat]

end Go.Proofs.YtnefdkncinkmfaaDoor
