/-
  Literals: Decode, by the reference.
-/
import Derived.Test.YtldgcpdpebhndaaDoorW7
import Derived.Test.YtldgcpdpebhndaaDoorP
import Derived.Test.YtldgcpdpebhndaaDoorAbsZB
set_option linter.unusedSimpArgs false
set_option linter.unusedVariables false
set_option maxRecDepth 100000
set_option maxHeartbeats 4000000
namespace Go.Proofs.YtldgcpdpebhndaaDoor
open Go.Abs Go

@[go_sem] def rPair (p : Nat × Nat) : Res := .tup [.c (.d (.sc (.int .i64 p.1))), .c (.d (.sc (.int .i64 p.2)))]
def cls (c : Nat) : Nat × Nat := if c ≥ 192 ∧ c < 224 then (2, c - 192) else if c ≥ 224 ∧ c < 240 then (3, c - 224) else if c ≥ 240 ∧ c < 248 then (4, c - 240) else (0, 0)
def finD (n many : Nat) : Nat × Nat := if isR (n : Int) = true ∧ (Utf8.encode (n : Int)).size = many then (n, many) else (0, 0)
def refTail (s : ByteArray) (i many : Nat) : Nat → Nat → Nat → Nat × Nat
  | 0, j, n => finD n many
  | f + 1, j, n => if at' s (i + j) < 128 ∨ 192 ≤ at' s (i + j) then (0, 0) else refTail s i many f (j + 1) (n * 64 + at' s (i + j) - 128)
def refD (s : ByteArray) (i : Nat) : Nat × Nat :=
  if at' s i < 128 then (at' s i, 1)
  else if (cls (at' s i)).1 = 0 ∨ s.size < i + (cls (at' s i)).1 then (0, 0)
  else refTail s i (cls (at' s i)).1 ((cls (at' s i)).1 - 1) 1 (cls (at' s i)).2
theorem cls_cases (c : Nat) : (192 ≤ c ∧ c < 224 ∧ cls c = (2, c - 192)) ∨ (224 ≤ c ∧ c < 240 ∧ cls c = (3, c - 224)) ∨ (240 ≤ c ∧ c < 248 ∧ cls c = (4, c - 240)) ∨ ((c < 192 ∨ 248 ≤ c) ∧ cls c = (0, 0)) := by
  unfold cls
  by_cases h1 : c ≥ 192 ∧ c < 224
  · rw [if_pos h1]; exact .inl ⟨h1.1, h1.2, rfl⟩
  rw [if_neg h1]
  by_cases h2 : c ≥ 224 ∧ c < 240
  · rw [if_pos h2]; exact .inr (.inl ⟨h2.1, h2.2, rfl⟩)
  rw [if_neg h2]
  by_cases h3 : c ≥ 240 ∧ c < 248
  · rw [if_pos h3]; exact .inr (.inr (.inl ⟨h3.1, h3.2, rfl⟩))
  rw [if_neg h3]
  exact .inr (.inr (.inr ⟨by omega, rfl⟩))
theorem cls_le (c : Nat) : ((cls c).1 ≤ 4 ∧ (cls c).2 < 32) ∧ ((cls c).1 = 0 ∨ 2 ≤ (cls c).1) := by
  rcases cls_cases c with ⟨h1, h2, h⟩ | ⟨h1, h2, h⟩ | ⟨h1, h2, h⟩ | ⟨h1, h⟩ <;> rw [h] <;> simp <;> omega
theorem pow_step64 {m d k : Nat} (hd : d < 64) (h : (m + 1) * 64 ^ (k + 1) ≤ 8388608) : (m * 64 + d + 1) * 64 ^ k ≤ 8388608 := by
  refine Nat.le_trans (Nat.mul_le_mul_right (64 ^ k) (show m * 64 + d + 1 ≤ (m + 1) * 64 by omega)) ?_
  rw [Nat.mul_assoc, Nat.mul_comm 64, ← Nat.pow_succ]
  exact h
theorem pow_bd64 {m k : Nat} (h : (m + 1) * 64 ^ k ≤ 8388608) : m < 8388608 := by
  have : 1 ≤ 64 ^ k := Nat.pow_pos (by omega)
  have := Nat.mul_le_mul_left (m + 1) this
  omega
theorem byte_eq' {s : ByteArray} {i : Nat} : ((s.get! i).toNat : Int) = (at' s i : Nat) := rfl
theorem dec19 (s : ByteArray) (i : Nat) (hs : s.size ≤ 1000000) (hi : i < s.size) : Gives Tryd.prog 19 [.c (eStr s), .c (eInt i)] (rPair (refD s i)) := by
  have hQ := refD.eq_1 s i
  have b := byte_at (s := s) (i := i) hi
  have kb := byte_eq' (s := s) (i := i)
  obtain ⟨hcl, hcl0⟩ := cls_le (at' s i)
  have h8 : at' s i < 256 := UInt8.toNat_lt _
  have wc : IntKind.i64.wrap ((at' s i : Nat) : Int) = (at' s i : Nat) := w64 (by omega) (by omega)
  refine Gives.intro Tryd.tyOk Tryd.func19 (by kernel_rfl) rfl (by simp [Tryd.ntmps19]) ?_
  simp only [go_sem, ↓reduceIte, Nat.reduceEqDiff, Nat.reduceAdd, Nat.reduceLeDiff, Nat.reduceMul, Nat.reducePow, Nat.reduceLT, Nat.reduceSub, Int.reduceEq, Int.reduceLT, Int.reduceLE, Int.reduceNeg, Int.reduceToNat, Int.cast_ofNat_Int]
  simp only [Tryd.ntmps19, Tryd.results19, eInt, eRune, eByte, eStr, rBool, rInt, rStr, rTwo, rPair, List.map_cons, List.map_nil]
  generalize hBQ : retQ _ _ _ = BQ
  iterate 2 (refine wpL_region Tryd.tyOk (by decide) ?_; simp only [go_sem, ↓reduceIte, Nat.reduceEqDiff, Nat.reduceAdd, Nat.reduceLeDiff, Nat.reduceMul, Nat.reducePow, Nat.reduceLT, Nat.reduceSub, Int.reduceEq, Int.reduceLT, Int.reduceLE, Int.reduceNeg, Int.reduceToNat, Int.cast_ofNat_Int, b, kb, wc])
  generalize at' s i = c at hQ hcl hcl0 h8 wc kb ⊢
  refine wpL_region Tryd.tyOk (by decide) ?_
  simp only [go_sem, ↓reduceIte, Nat.reduceEqDiff, Nat.reduceAdd, Nat.reduceLeDiff, Nat.reduceMul, Nat.reducePow, Nat.reduceLT, Nat.reduceSub, Int.reduceEq, Int.reduceLT, Int.reduceLE, Int.reduceNeg, Int.reduceToNat, Int.cast_ofNat_Int]
  by_cases c1 : c < 128
  · rw [if_pos c1] at hQ
    have c1' : ((c : Int) < 128) = True := eq_true (by omega)
    try (simp only [go_sem, ↓reduceIte, Nat.reduceEqDiff, Nat.reduceAdd, Nat.reduceLeDiff, Nat.reduceMul, Nat.reducePow, Nat.reduceLT, Nat.reduceSub, Int.reduceEq, Int.reduceLT, Int.reduceLE, Int.reduceNeg, Int.reduceToNat, Int.cast_ofNat_Int, c1', decide_true, decide_false])
    repeat ((first | refine wpL_region Tryd.tyOk (by decide) ?_ | refine wpL_skip ?_ | (refine wpL_cond (t := true) ?_ (fun _ => ?_) (fun h => Bool.noConfusion h); (solve | (simp only [go_sem, ↓reduceIte, Nat.reduceEqDiff, Nat.reduceAdd, Nat.reduceLeDiff, Nat.reduceMul, Nat.reducePow, Nat.reduceLT, Nat.reduceSub, Int.reduceEq, Int.reduceLT, Int.reduceLE, Int.reduceNeg, Int.reduceToNat, Int.cast_ofNat_Int, c1', decide_true, decide_false]))) | (refine wpL_cond (t := false) ?_ (fun h => Bool.noConfusion h) (fun _ => ?_); (solve | (simp only [go_sem, ↓reduceIte, Nat.reduceEqDiff, Nat.reduceAdd, Nat.reduceLeDiff, Nat.reduceMul, Nat.reducePow, Nat.reduceLT, Nat.reduceSub, Int.reduceEq, Int.reduceLT, Int.reduceLE, Int.reduceNeg, Int.reduceToNat, Int.cast_ofNat_Int, c1', decide_true, decide_false])))); try (simp only [go_sem, ↓reduceIte, Nat.reduceEqDiff, Nat.reduceAdd, Nat.reduceLeDiff, Nat.reduceMul, Nat.reducePow, Nat.reduceLT, Nat.reduceSub, Int.reduceEq, Int.reduceLT, Int.reduceLE, Int.reduceNeg, Int.reduceToNat, Int.cast_ofNat_Int, c1', decide_true, decide_false]))
    refine wpL_ret ?_
    rw [← hBQ]
    try simp only [go_sem, ↓reduceIte, Nat.reduceEqDiff]
    rw [hQ]
    exact ⟨rfl, rfl⟩
  rw [if_neg c1] at hQ
  have c1' : ((c : Int) < 128) = False := eq_false (by omega)
  refine wpL_cond (t := false) (by simp only [go_sem, ↓reduceIte, Nat.reduceEqDiff, c1', decide_false]) (fun h => Bool.noConfusion h) (fun _ => ?_)
  refine wpL_skip ?_
  iterate 2 (refine wpL_region Tryd.tyOk (by decide) ?_; simp only [go_sem, ↓reduceIte, Nat.reduceEqDiff, Nat.reduceAdd, Nat.reduceLeDiff, Nat.reduceMul, Nat.reducePow, Nat.reduceLT, Nat.reduceSub, Int.reduceEq, Int.reduceLT, Int.reduceLE, Int.reduceNeg, Int.reduceToNat, Int.cast_ofNat_Int])
  refine wpL_to ⟨[(23, .c (.d (.sc (.bool (decide (c ≥ 192) && decide (c < 224)))))), (6, sint .i64 (c : Nat)), (7, sint .i64 0), (8, sint .i64 0), (0, .c (.d (.sc (.string s)))), (1, sint .i64 (i : Nat))], []⟩ ?_ ?_
  · by_cases m1 : c ≥ 192
    · by_cases m2 : c < 224
      · refine wpL_region Tryd.tyOk (by decide) ?_
        simp only [go_sem, ↓reduceIte, Nat.reduceEqDiff, Nat.reduceAdd, Nat.reduceLeDiff, Nat.reduceMul, Nat.reducePow, Nat.reduceLT, Nat.reduceSub, Int.reduceEq, Int.reduceLT, Int.reduceLE, Int.reduceNeg, Int.reduceToNat, Int.cast_ofNat_Int, eq_true (show (c : Int) ≥ 192 by omega), eq_true (show (c : Int) < 224 by omega), decide_true, decide_false]
        refine le_mk ?_ ?_ ?_ <;> (simp only [go_sem, ↓reduceIte, Nat.reduceEqDiff]; try simp [eInt, eRune, eByte, eStr, rBool, rInt, rStr, rTwo, rPair, eInt, m1, m2]; try simp (disch := omega) only [IntWalk.i64_in, and_self])
      · refine wpL_region Tryd.tyOk (by decide) ?_
        simp only [go_sem, ↓reduceIte, Nat.reduceEqDiff, Nat.reduceAdd, Nat.reduceLeDiff, Nat.reduceMul, Nat.reducePow, Nat.reduceLT, Nat.reduceSub, Int.reduceEq, Int.reduceLT, Int.reduceLE, Int.reduceNeg, Int.reduceToNat, Int.cast_ofNat_Int, eq_true (show (c : Int) ≥ 192 by omega), eq_false (show ¬ (c : Int) < 224 by omega), decide_true, decide_false]
        refine le_mk ?_ ?_ ?_ <;> (simp only [go_sem, ↓reduceIte, Nat.reduceEqDiff]; try simp [eInt, eRune, eByte, eStr, rBool, rInt, rStr, rTwo, rPair, eInt, m1, m2]; try simp (disch := omega) only [IntWalk.i64_in, and_self])
    · refine wpL_region Tryd.tyOk (by decide) ?_
      simp only [go_sem, ↓reduceIte, Nat.reduceEqDiff, Nat.reduceAdd, Nat.reduceLeDiff, Nat.reduceMul, Nat.reducePow, Nat.reduceLT, Nat.reduceSub, Int.reduceEq, Int.reduceLT, Int.reduceLE, Int.reduceNeg, Int.reduceToNat, Int.cast_ofNat_Int, eq_false (show ¬ (c : Int) ≥ 192 by omega), decide_true, decide_false]
      refine le_mk ?_ ?_ ?_ <;> (simp only [go_sem, ↓reduceIte, Nat.reduceEqDiff]; try simp [eInt, eRune, eByte, eStr, rBool, rInt, rStr, rTwo, rPair, eInt, m1]; try simp (disch := omega) only [IntWalk.i64_in, and_self])
  refine wpL_to ⟨[(7, sint .i64 ((cls c).2 : Nat)), (8, sint .i64 ((cls c).1 : Nat)), (0, .c (.d (.sc (.string s)))), (1, sint .i64 (i : Nat))], []⟩ ?_ ?_
  · refine wpL_cond (t := decide (c ≥ 192) && decide (c < 224)) (by simp only [go_sem, ↓reduceIte, Nat.reduceEqDiff]) (fun hc => ?_) (fun hc => ?_)
    · simp only [Bool.and_eq_true, decide_eq_true_eq] at hc
      have : cls c = (2, c - 192) := by unfold cls; rw [if_pos hc]
      have w : IntKind.i64.wrap ((c : Int) - 192) = ((c - 192 : Nat) : Int) := by rw [w64 (by omega) (by omega)]; omega
      iterate 2 (refine wpL_region Tryd.tyOk (by decide) ?_; simp only [go_sem, ↓reduceIte, Nat.reduceEqDiff, Nat.reduceAdd, Nat.reduceLeDiff, Nat.reduceMul, Nat.reducePow, Nat.reduceLT, Nat.reduceSub, Int.reduceEq, Int.reduceLT, Int.reduceLE, Int.reduceNeg, Int.reduceToNat, Int.cast_ofNat_Int, w])
      rw [this]
      refine le_mk ?_ ?_ ?_ <;> (simp only [go_sem, ↓reduceIte, Nat.reduceEqDiff]; try simp [eInt, eRune, eByte, eStr, rBool, rInt, rStr, rTwo, rPair, eInt]; try simp (disch := omega) only [IntWalk.i64_in, and_self])
    · have n1 : ¬ (c ≥ 192 ∧ c < 224) := by
        simpa using hc
      simp only [go_sem, ↓reduceIte, Nat.reduceEqDiff, Nat.reduceAdd, Nat.reduceLeDiff, Nat.reduceMul, Nat.reducePow, Nat.reduceLT, Nat.reduceSub, Int.reduceEq, Int.reduceLT, Int.reduceLE, Int.reduceNeg, Int.reduceToNat, Int.cast_ofNat_Int]
      refine wpL_to ⟨[(31, .c (.d (.sc (.bool (decide (c ≥ 224) && decide (c < 240)))))), (6, sint .i64 (c : Nat)), (7, sint .i64 0), (8, sint .i64 0), (0, .c (.d (.sc (.string s)))), (1, sint .i64 (i : Nat))], []⟩ ?_ ?_
      · by_cases m1 : c ≥ 224
        · by_cases m2 : c < 240
          · refine wpL_region Tryd.tyOk (by decide) ?_
            simp only [go_sem, ↓reduceIte, Nat.reduceEqDiff, Nat.reduceAdd, Nat.reduceLeDiff, Nat.reduceMul, Nat.reducePow, Nat.reduceLT, Nat.reduceSub, Int.reduceEq, Int.reduceLT, Int.reduceLE, Int.reduceNeg, Int.reduceToNat, Int.cast_ofNat_Int, eq_true (show (c : Int) ≥ 224 by omega), eq_true (show (c : Int) < 240 by omega), decide_true, decide_false]
            refine le_mk ?_ ?_ ?_ <;> (simp only [go_sem, ↓reduceIte, Nat.reduceEqDiff]; try simp [eInt, eRune, eByte, eStr, rBool, rInt, rStr, rTwo, rPair, eInt, m1, m2]; try simp (disch := omega) only [IntWalk.i64_in, and_self])
          · refine wpL_region Tryd.tyOk (by decide) ?_
            simp only [go_sem, ↓reduceIte, Nat.reduceEqDiff, Nat.reduceAdd, Nat.reduceLeDiff, Nat.reduceMul, Nat.reducePow, Nat.reduceLT, Nat.reduceSub, Int.reduceEq, Int.reduceLT, Int.reduceLE, Int.reduceNeg, Int.reduceToNat, Int.cast_ofNat_Int, eq_true (show (c : Int) ≥ 224 by omega), eq_false (show ¬ (c : Int) < 240 by omega), decide_true, decide_false]
            refine le_mk ?_ ?_ ?_ <;> (simp only [go_sem, ↓reduceIte, Nat.reduceEqDiff]; try simp [eInt, eRune, eByte, eStr, rBool, rInt, rStr, rTwo, rPair, eInt, m1, m2]; try simp (disch := omega) only [IntWalk.i64_in, and_self])
        · refine wpL_region Tryd.tyOk (by decide) ?_
          simp only [go_sem, ↓reduceIte, Nat.reduceEqDiff, Nat.reduceAdd, Nat.reduceLeDiff, Nat.reduceMul, Nat.reducePow, Nat.reduceLT, Nat.reduceSub, Int.reduceEq, Int.reduceLT, Int.reduceLE, Int.reduceNeg, Int.reduceToNat, Int.cast_ofNat_Int, eq_false (show ¬ (c : Int) ≥ 224 by omega), decide_true, decide_false]
          refine le_mk ?_ ?_ ?_ <;> (simp only [go_sem, ↓reduceIte, Nat.reduceEqDiff]; try simp [eInt, eRune, eByte, eStr, rBool, rInt, rStr, rTwo, rPair, eInt, m1]; try simp (disch := omega) only [IntWalk.i64_in, and_self])
      refine wpL_cond (t := decide (c ≥ 224) && decide (c < 240)) (by simp only [go_sem, ↓reduceIte, Nat.reduceEqDiff]) (fun hc2 => ?_) (fun hc2 => ?_)
      · simp only [Bool.and_eq_true, decide_eq_true_eq] at hc2
        have : cls c = (3, c - 224) := by unfold cls; rw [if_neg n1, if_pos hc2]
        have w : IntKind.i64.wrap ((c : Int) - 224) = ((c - 224 : Nat) : Int) := by rw [w64 (by omega) (by omega)]; omega
        iterate 2 (refine wpL_region Tryd.tyOk (by decide) ?_; simp only [go_sem, ↓reduceIte, Nat.reduceEqDiff, Nat.reduceAdd, Nat.reduceLeDiff, Nat.reduceMul, Nat.reducePow, Nat.reduceLT, Nat.reduceSub, Int.reduceEq, Int.reduceLT, Int.reduceLE, Int.reduceNeg, Int.reduceToNat, Int.cast_ofNat_Int, w])
        rw [this]
        refine le_mk ?_ ?_ ?_ <;> (simp only [go_sem, ↓reduceIte, Nat.reduceEqDiff]; try simp [eInt, eRune, eByte, eStr, rBool, rInt, rStr, rTwo, rPair, eInt]; try simp (disch := omega) only [IntWalk.i64_in, and_self])
      have n2 : ¬ (c ≥ 224 ∧ c < 240) := by
        simpa using hc2
      simp only [go_sem, ↓reduceIte, Nat.reduceEqDiff, Nat.reduceAdd, Nat.reduceLeDiff, Nat.reduceMul, Nat.reducePow, Nat.reduceLT, Nat.reduceSub, Int.reduceEq, Int.reduceLT, Int.reduceLE, Int.reduceNeg, Int.reduceToNat, Int.cast_ofNat_Int]
      refine wpL_to ⟨[(39, .c (.d (.sc (.bool (decide (c ≥ 240) && decide (c < 248)))))), (6, sint .i64 (c : Nat)), (7, sint .i64 0), (8, sint .i64 0), (0, .c (.d (.sc (.string s)))), (1, sint .i64 (i : Nat))], []⟩ ?_ ?_
      · by_cases m1 : c ≥ 240
        · by_cases m2 : c < 248
          · refine wpL_region Tryd.tyOk (by decide) ?_
            simp only [go_sem, ↓reduceIte, Nat.reduceEqDiff, Nat.reduceAdd, Nat.reduceLeDiff, Nat.reduceMul, Nat.reducePow, Nat.reduceLT, Nat.reduceSub, Int.reduceEq, Int.reduceLT, Int.reduceLE, Int.reduceNeg, Int.reduceToNat, Int.cast_ofNat_Int, eq_true (show (c : Int) ≥ 240 by omega), eq_true (show (c : Int) < 248 by omega), decide_true, decide_false]
            refine le_mk ?_ ?_ ?_ <;> (simp only [go_sem, ↓reduceIte, Nat.reduceEqDiff]; try simp [eInt, eRune, eByte, eStr, rBool, rInt, rStr, rTwo, rPair, eInt, m1, m2]; try simp (disch := omega) only [IntWalk.i64_in, and_self])
          · refine wpL_region Tryd.tyOk (by decide) ?_
            simp only [go_sem, ↓reduceIte, Nat.reduceEqDiff, Nat.reduceAdd, Nat.reduceLeDiff, Nat.reduceMul, Nat.reducePow, Nat.reduceLT, Nat.reduceSub, Int.reduceEq, Int.reduceLT, Int.reduceLE, Int.reduceNeg, Int.reduceToNat, Int.cast_ofNat_Int, eq_true (show (c : Int) ≥ 240 by omega), eq_false (show ¬ (c : Int) < 248 by omega), decide_true, decide_false]
            refine le_mk ?_ ?_ ?_ <;> (simp only [go_sem, ↓reduceIte, Nat.reduceEqDiff]; try simp [eInt, eRune, eByte, eStr, rBool, rInt, rStr, rTwo, rPair, eInt, m1, m2]; try simp (disch := omega) only [IntWalk.i64_in, and_self])
        · refine wpL_region Tryd.tyOk (by decide) ?_
          simp only [go_sem, ↓reduceIte, Nat.reduceEqDiff, Nat.reduceAdd, Nat.reduceLeDiff, Nat.reduceMul, Nat.reducePow, Nat.reduceLT, Nat.reduceSub, Int.reduceEq, Int.reduceLT, Int.reduceLE, Int.reduceNeg, Int.reduceToNat, Int.cast_ofNat_Int, eq_false (show ¬ (c : Int) ≥ 240 by omega), decide_true, decide_false]
          refine le_mk ?_ ?_ ?_ <;> (simp only [go_sem, ↓reduceIte, Nat.reduceEqDiff]; try simp [eInt, eRune, eByte, eStr, rBool, rInt, rStr, rTwo, rPair, eInt, m1]; try simp (disch := omega) only [IntWalk.i64_in, and_self])
      refine wpL_cond (t := decide (c ≥ 240) && decide (c < 248)) (by simp only [go_sem, ↓reduceIte, Nat.reduceEqDiff]) (fun hc3 => ?_) (fun hc3 => ?_)
      · simp only [Bool.and_eq_true, decide_eq_true_eq] at hc3
        have : cls c = (4, c - 240) := by unfold cls; rw [if_neg n1, if_neg n2, if_pos hc3]
        have w : IntKind.i64.wrap ((c : Int) - 240) = ((c - 240 : Nat) : Int) := by rw [w64 (by omega) (by omega)]; omega
        iterate 2 (refine wpL_region Tryd.tyOk (by decide) ?_; simp only [go_sem, ↓reduceIte, Nat.reduceEqDiff, Nat.reduceAdd, Nat.reduceLeDiff, Nat.reduceMul, Nat.reducePow, Nat.reduceLT, Nat.reduceSub, Int.reduceEq, Int.reduceLT, Int.reduceLE, Int.reduceNeg, Int.reduceToNat, Int.cast_ofNat_Int, w])
        rw [this]
        refine le_mk ?_ ?_ ?_ <;> (simp only [go_sem, ↓reduceIte, Nat.reduceEqDiff]; try simp [eInt, eRune, eByte, eStr, rBool, rInt, rStr, rTwo, rPair, eInt]; try simp (disch := omega) only [IntWalk.i64_in, and_self])
      have n3 : ¬ (c ≥ 240 ∧ c < 248) := by
        simpa using hc3
      have : cls c = (0, 0) := by unfold cls; rw [if_neg n1, if_neg n2, if_neg n3]
      refine wpL_skip ?_
      rw [this]
      try simp only [go_sem, ↓reduceIte, Nat.reduceEqDiff]
      refine le_mk ?_ ?_ ?_ <;> (simp only [go_sem, ↓reduceIte, Nat.reduceEqDiff]; try simp [eInt, eRune, eByte, eStr, rBool, rInt, rStr, rTwo, rPair, eInt]; try simp (disch := omega) only [IntWalk.i64_in, and_self])
  generalize cls c = q at hQ hcl hcl0 ⊢
  obtain ⟨many, n0⟩ := q
  simp only at hQ hcl hcl0 ⊢
  refine wpL_to ⟨[(51, .c (.d (.sc (.bool (decide (many = 0) || decide (s.size < i + many)))))), (7, sint .i64 (n0 : Nat)), (8, sint .i64 (many : Nat)), (0, .c (.d (.sc (.string s)))), (1, sint .i64 (i : Nat))], []⟩ ?_ ?_
  · by_cases m1 : many = 0
    · refine wpL_region Tryd.tyOk (by decide) ?_
      simp only [go_sem, ↓reduceIte, Nat.reduceEqDiff, Nat.reduceAdd, Nat.reduceLeDiff, Nat.reduceMul, Nat.reducePow, Nat.reduceLT, Nat.reduceSub, Int.reduceEq, Int.reduceLT, Int.reduceLE, Int.reduceNeg, Int.reduceToNat, Int.cast_ofNat_Int, eq_true (show (many : Int) = 0 by omega), decide_true, decide_false]
      refine le_mk ?_ ?_ ?_ <;> (simp only [go_sem, ↓reduceIte, Nat.reduceEqDiff]; try simp [eInt, eRune, eByte, eStr, rBool, rInt, rStr, rTwo, rPair, eInt, m1]; try simp (disch := omega) only [IntWalk.i64_in, and_self])
    · have w : IntKind.i64.wrap ((s.size : Int) - (i : Int)) = ((s.size - i : Nat) : Int) := by rw [w64 (by omega) (by omega)]; omega
      by_cases m2 : s.size < i + many
      · refine wpL_region Tryd.tyOk (by decide) ?_
        simp only [go_sem, ↓reduceIte, Nat.reduceEqDiff, Nat.reduceAdd, Nat.reduceLeDiff, Nat.reduceMul, Nat.reducePow, Nat.reduceLT, Nat.reduceSub, Int.reduceEq, Int.reduceLT, Int.reduceLE, Int.reduceNeg, Int.reduceToNat, Int.cast_ofNat_Int, eq_false (show ¬ (many : Int) = 0 by omega), w, eq_true (show (many : Int) > ((s.size - i : Nat) : Int) by omega), decide_true, decide_false]
        refine le_mk ?_ ?_ ?_ <;> (simp only [go_sem, ↓reduceIte, Nat.reduceEqDiff]; try simp [eInt, eRune, eByte, eStr, rBool, rInt, rStr, rTwo, rPair, eInt, m1, m2]; try simp (disch := omega) only [IntWalk.i64_in, and_self])
      · refine wpL_region Tryd.tyOk (by decide) ?_
        simp only [go_sem, ↓reduceIte, Nat.reduceEqDiff, Nat.reduceAdd, Nat.reduceLeDiff, Nat.reduceMul, Nat.reducePow, Nat.reduceLT, Nat.reduceSub, Int.reduceEq, Int.reduceLT, Int.reduceLE, Int.reduceNeg, Int.reduceToNat, Int.cast_ofNat_Int, eq_false (show ¬ (many : Int) = 0 by omega), w, eq_false (show ¬ (many : Int) > ((s.size - i : Nat) : Int) by omega), decide_true, decide_false]
        refine le_mk ?_ ?_ ?_ <;> (simp only [go_sem, ↓reduceIte, Nat.reduceEqDiff]; try simp [eInt, eRune, eByte, eStr, rBool, rInt, rStr, rTwo, rPair, eInt, m1, m2]; try simp (disch := omega) only [IntWalk.i64_in, and_self])
  refine wpL_cond (t := decide (many = 0) || decide (s.size < i + many)) (by simp only [go_sem, ↓reduceIte, Nat.reduceEqDiff]) (fun hc => ?_) (fun hc => ?_)
  · rw [if_pos (by simpa using hc)] at hQ
    try simp only [go_sem, ↓reduceIte, Nat.reduceEqDiff]
    refine wpL_region Tryd.tyOk (by decide) ?_
    simp only [go_sem, ↓reduceIte, Nat.reduceEqDiff, Nat.reduceAdd, Nat.reduceLeDiff, Nat.reduceMul, Nat.reducePow, Nat.reduceLT, Nat.reduceSub, Int.reduceEq, Int.reduceLT, Int.reduceLE, Int.reduceNeg, Int.reduceToNat, Int.cast_ofNat_Int]
    refine wpL_ret ?_
    rw [← hBQ]
    try simp only [go_sem, ↓reduceIte, Nat.reduceEqDiff]
    rw [hQ]
    exact ⟨rfl, rfl⟩
  have hc : ¬ (many = 0 ∨ s.size < i + many) := by simpa using hc
  rw [if_neg hc] at hQ
  try simp only [go_sem, ↓reduceIte, Nat.reduceEqDiff]
  refine wpL_skip ?_
  refine wpL_region Tryd.tyOk (by decide) ?_
  simp only [go_sem, ↓reduceIte, Nat.reduceEqDiff, Nat.reduceAdd, Nat.reduceLeDiff, Nat.reduceMul, Nat.reducePow, Nat.reduceLT, Nat.reduceSub, Int.reduceEq, Int.reduceLT, Int.reduceLE, Int.reduceNeg, Int.reduceToNat, Int.cast_ofNat_Int]
  refine wpL_block ?_
  generalize hB0 : blockQ _ _ _ = B0
  simp only [go_sem, ↓reduceIte, Nat.reduceEqDiff]
  refine wpL_loop (fun n st => ∃ j m : Nat, st = ⟨[(9, sint .i64 (j : Nat)), (7, sint .i64 (m : Nat)), (8, sint .i64 (many : Nat)), (0, .c (.d (.sc (.string s)))), (1, sint .i64 (i : Nat))], []⟩ ∧ refTail s i many n j m = refTail s i many (many - 1) 1 n0 ∧ j + n = many ∧ 1 ≤ j ∧ (m + 1) * 64 ^ n ≤ 8388608) ?_ ?_
  · refine ⟨many - 1, _, ⟨1, n0, rfl, rfl, by omega, by omega, ?_⟩, ?_⟩
    · refine Nat.le_trans (Nat.mul_le_mul (show n0 + 1 ≤ 32 by omega) (Nat.pow_le_pow_right (show 0 < 64 by omega) (show many - 1 ≤ 3 by omega))) (by decide)
    refine le_mk ?_ ?_ ?_ <;> (simp only [go_sem, ↓reduceIte, Nat.reduceEqDiff]; try simp [eInt, eRune, eByte, eStr, rBool, rInt, rStr, rTwo, rPair, eInt]; try simp (disch := omega) only [IntWalk.i64_in, and_self])
  rintro n st ⟨j, m, rfl, hrt, hjn, hj, hpw⟩
  have hm := pow_bd64 hpw
  simp only [go_sem, ↓reduceIte, Nat.reduceEqDiff, Nat.reduceAdd, Nat.reduceLeDiff, Nat.reduceMul, Nat.reducePow, Nat.reduceLT, Nat.reduceSub, Int.reduceEq, Int.reduceLT, Int.reduceLE, Int.reduceNeg, Int.reduceToNat, Int.cast_ofNat_Int]
  cases n with
  | zero =>
    refine wpL_region Tryd.tyOk (by decide) ?_
    simp only [go_sem, ↓reduceIte, Nat.reduceEqDiff, Nat.reduceAdd, Nat.reduceLeDiff, Nat.reduceMul, Nat.reducePow, Nat.reduceLT, Nat.reduceSub, Int.reduceEq, Int.reduceLT, Int.reduceLE, Int.reduceNeg, Int.reduceToNat, Int.cast_ofNat_Int, eq_false (show ¬ (j : Int) < (many : Int) by omega), decide_true, decide_false]
    refine wpL_cond (t := false) (by simp only [go_sem, ↓reduceIte, Nat.reduceEqDiff]) (fun h => Bool.noConfusion h) (fun _ => ?_)
    try simp only [go_sem, ↓reduceIte, Nat.reduceEqDiff]
    refine wpL_exit ?_
    rw [← hB0]
    try simp only [go_sem, ↓reduceIte, Nat.reduceEqDiff]
    rw [refTail] at hrt
    rw [← hrt, finD] at hQ
    have er := is11 m
    refine wpL_region Tryd.tyOk (by decide) ?_
    simp only [go_sem, ↓reduceIte, Nat.reduceEqDiff, Nat.reduceAdd, Nat.reduceLeDiff, Nat.reduceMul, Nat.reducePow, Nat.reduceLT, Nat.reduceSub, Int.reduceEq, Int.reduceLT, Int.reduceLE, Int.reduceNeg, Int.reduceToNat, Int.cast_ofNat_Int]
    refine ⟨_, er, ?_⟩
    cases hr : isR (m : Int) with
    | false =>
      simp only [go_sem, ↓reduceIte, Nat.reduceEqDiff, Nat.reduceAdd, Nat.reduceLeDiff, Nat.reduceMul, Nat.reducePow, Nat.reduceLT, Nat.reduceSub, Int.reduceEq, Int.reduceLT, Int.reduceLE, Int.reduceNeg, Int.reduceToNat, Int.cast_ofNat_Int, hr]
      refine wpL_cond (t := true) (by simp only [go_sem, ↓reduceIte, Nat.reduceEqDiff]) (fun _ => ?_) (fun h => Bool.noConfusion h)
      rw [if_neg (by rw [hr]; rintro ⟨h, _⟩; cases h)] at hQ
      try simp only [go_sem, ↓reduceIte, Nat.reduceEqDiff]
      refine wpL_region Tryd.tyOk (by decide) ?_
      simp only [go_sem, ↓reduceIte, Nat.reduceEqDiff, Nat.reduceAdd, Nat.reduceLeDiff, Nat.reduceMul, Nat.reducePow, Nat.reduceLT, Nat.reduceSub, Int.reduceEq, Int.reduceLT, Int.reduceLE, Int.reduceNeg, Int.reduceToNat, Int.cast_ofNat_Int]
      refine wpL_ret ?_
      rw [← hBQ]
      try simp only [go_sem, ↓reduceIte, Nat.reduceEqDiff]
      rw [hQ]
      exact ⟨rfl, rfl⟩
    | true =>
      have ee := enc13 m hr
      simp only [go_sem, ↓reduceIte, Nat.reduceEqDiff, Nat.reduceAdd, Nat.reduceLeDiff, Nat.reduceMul, Nat.reducePow, Nat.reduceLT, Nat.reduceSub, Int.reduceEq, Int.reduceLT, Int.reduceLE, Int.reduceNeg, Int.reduceToNat, Int.cast_ofNat_Int, hr]
      refine ⟨_, ee, ?_⟩
      by_cases hz : (Utf8.encode (m : Int)).size = many
      · rw [if_pos ⟨hr, hz⟩] at hQ
        simp only [go_sem, ↓reduceIte, Nat.reduceEqDiff, Nat.reduceAdd, Nat.reduceLeDiff, Nat.reduceMul, Nat.reducePow, Nat.reduceLT, Nat.reduceSub, Int.reduceEq, Int.reduceLT, Int.reduceLE, Int.reduceNeg, Int.reduceToNat, Int.cast_ofNat_Int, eq_true (show ((Utf8.encode (m : Int)).size : Int) = (many : Int) by omega), decide_true]
        refine wpL_cond (t := false) (by simp only [go_sem, ↓reduceIte, Nat.reduceEqDiff]) (fun h => Bool.noConfusion h) (fun _ => ?_)
        try simp only [go_sem, ↓reduceIte, Nat.reduceEqDiff]
        refine wpL_skip ?_
        refine wpL_region Tryd.tyOk (by decide) ?_
        simp only [go_sem, ↓reduceIte, Nat.reduceEqDiff, Nat.reduceAdd, Nat.reduceLeDiff, Nat.reduceMul, Nat.reducePow, Nat.reduceLT, Nat.reduceSub, Int.reduceEq, Int.reduceLT, Int.reduceLE, Int.reduceNeg, Int.reduceToNat, Int.cast_ofNat_Int]
        refine wpL_ret ?_
        rw [← hBQ]
        try simp only [go_sem, ↓reduceIte, Nat.reduceEqDiff]
        rw [hQ]
        exact ⟨rfl, rfl⟩
      · rw [if_neg (fun h => hz h.2)] at hQ
        simp only [go_sem, ↓reduceIte, Nat.reduceEqDiff, Nat.reduceAdd, Nat.reduceLeDiff, Nat.reduceMul, Nat.reducePow, Nat.reduceLT, Nat.reduceSub, Int.reduceEq, Int.reduceLT, Int.reduceLE, Int.reduceNeg, Int.reduceToNat, Int.cast_ofNat_Int, eq_false (show ¬ ((Utf8.encode (m : Int)).size : Int) = (many : Int) by omega), decide_false]
        refine wpL_cond (t := true) (by simp only [go_sem, ↓reduceIte, Nat.reduceEqDiff]) (fun _ => ?_) (fun h => Bool.noConfusion h)
        try simp only [go_sem, ↓reduceIte, Nat.reduceEqDiff]
        refine wpL_region Tryd.tyOk (by decide) ?_
        simp only [go_sem, ↓reduceIte, Nat.reduceEqDiff, Nat.reduceAdd, Nat.reduceLeDiff, Nat.reduceMul, Nat.reducePow, Nat.reduceLT, Nat.reduceSub, Int.reduceEq, Int.reduceLT, Int.reduceLE, Int.reduceNeg, Int.reduceToNat, Int.cast_ofNat_Int]
        refine wpL_ret ?_
        rw [← hBQ]
        try simp only [go_sem, ↓reduceIte, Nat.reduceEqDiff]
        rw [hQ]
        exact ⟨rfl, rfl⟩
  | succ n =>
    refine wpL_region Tryd.tyOk (by decide) ?_
    simp only [go_sem, ↓reduceIte, Nat.reduceEqDiff, Nat.reduceAdd, Nat.reduceLeDiff, Nat.reduceMul, Nat.reducePow, Nat.reduceLT, Nat.reduceSub, Int.reduceEq, Int.reduceLT, Int.reduceLE, Int.reduceNeg, Int.reduceToNat, Int.cast_ofNat_Int, eq_true (show (j : Int) < (many : Int) by omega), decide_true, decide_false]
    refine wpL_cond (t := true) (by simp only [go_sem, ↓reduceIte, Nat.reduceEqDiff]) (fun _ => ?_) (fun h => Bool.noConfusion h)
    try simp only [go_sem, ↓reduceIte, Nat.reduceEqDiff]
    refine wpL_skip ?_
    have b2 := byte_at (s := s) (i := i + j) (by omega)
    have kb2 := byte_eq' (s := s) (i := i + j)
    have hd8 : at' s (i + j) < 256 := UInt8.toNat_lt _
    have wj : IntKind.i64.wrap ((i : Int) + (j : Int)) = ((i + j : Nat) : Int) := by rw [w64 (by omega) (by omega)]; omega
    have wd : IntKind.i64.wrap ((at' s (i + j) : Nat) : Int) = (at' s (i + j) : Nat) := w64 (by omega) (by omega)
    rw [refTail] at hrt
    refine wpL_block ?_
    generalize hB1 : blockQ _ _ _ = B1
    simp only [go_sem, ↓reduceIte, Nat.reduceEqDiff]
    refine wpL_region Tryd.tyOk (by decide) ?_
    simp only [go_sem, ↓reduceIte, Nat.reduceEqDiff, Nat.reduceAdd, Nat.reduceLeDiff, Nat.reduceMul, Nat.reducePow, Nat.reduceLT, Nat.reduceSub, Int.reduceEq, Int.reduceLT, Int.reduceLE, Int.reduceNeg, Int.reduceToNat, Int.cast_ofNat_Int, wj, b2, kb2, wd]
    generalize at' s (i + j) = d at hrt hd8 wd kb2 ⊢
    by_cases d1 : d < 128
    · rw [if_pos (.inl d1)] at hrt
      rw [← hrt] at hQ
      refine wpL_region Tryd.tyOk (by decide) ?_
      simp only [go_sem, ↓reduceIte, Nat.reduceEqDiff, Nat.reduceAdd, Nat.reduceLeDiff, Nat.reduceMul, Nat.reducePow, Nat.reduceLT, Nat.reduceSub, Int.reduceEq, Int.reduceLT, Int.reduceLE, Int.reduceNeg, Int.reduceToNat, Int.cast_ofNat_Int, eq_true (show (d : Int) < 128 by omega), decide_true, decide_false]
      refine wpL_cond (t := true) (by simp only [go_sem, ↓reduceIte, Nat.reduceEqDiff]) (fun _ => ?_) (fun h => Bool.noConfusion h)
      try simp only [go_sem, ↓reduceIte, Nat.reduceEqDiff]
      refine wpL_region Tryd.tyOk (by decide) ?_
      simp only [go_sem, ↓reduceIte, Nat.reduceEqDiff, Nat.reduceAdd, Nat.reduceLeDiff, Nat.reduceMul, Nat.reducePow, Nat.reduceLT, Nat.reduceSub, Int.reduceEq, Int.reduceLT, Int.reduceLE, Int.reduceNeg, Int.reduceToNat, Int.cast_ofNat_Int]
      refine wpL_ret ?_
      rw [← hB1]
      try simp only [go_sem, ↓reduceIte, Nat.reduceEqDiff]
      rw [← hB0]
      try simp only [go_sem, ↓reduceIte, Nat.reduceEqDiff]
      rw [← hBQ]
      try simp only [go_sem, ↓reduceIte, Nat.reduceEqDiff]
      rw [hQ]
      exact ⟨rfl, rfl⟩
    by_cases d2 : 192 ≤ d
    · rw [if_pos (.inr d2)] at hrt
      rw [← hrt] at hQ
      refine wpL_region Tryd.tyOk (by decide) ?_
      simp only [go_sem, ↓reduceIte, Nat.reduceEqDiff, Nat.reduceAdd, Nat.reduceLeDiff, Nat.reduceMul, Nat.reducePow, Nat.reduceLT, Nat.reduceSub, Int.reduceEq, Int.reduceLT, Int.reduceLE, Int.reduceNeg, Int.reduceToNat, Int.cast_ofNat_Int, eq_false (show ¬ (d : Int) < 128 by omega), eq_true (show (d : Int) ≥ 192 by omega), decide_true, decide_false]
      refine wpL_cond (t := true) (by simp only [go_sem, ↓reduceIte, Nat.reduceEqDiff]) (fun _ => ?_) (fun h => Bool.noConfusion h)
      try simp only [go_sem, ↓reduceIte, Nat.reduceEqDiff]
      refine wpL_region Tryd.tyOk (by decide) ?_
      simp only [go_sem, ↓reduceIte, Nat.reduceEqDiff, Nat.reduceAdd, Nat.reduceLeDiff, Nat.reduceMul, Nat.reducePow, Nat.reduceLT, Nat.reduceSub, Int.reduceEq, Int.reduceLT, Int.reduceLE, Int.reduceNeg, Int.reduceToNat, Int.cast_ofNat_Int]
      refine wpL_ret ?_
      rw [← hB1]
      try simp only [go_sem, ↓reduceIte, Nat.reduceEqDiff]
      rw [← hB0]
      try simp only [go_sem, ↓reduceIte, Nat.reduceEqDiff]
      rw [← hBQ]
      try simp only [go_sem, ↓reduceIte, Nat.reduceEqDiff]
      rw [hQ]
      exact ⟨rfl, rfl⟩
    rw [if_neg (by omega)] at hrt
    have w1 : IntKind.i64.wrap ((m : Int) * 64) = ((m * 64 : Nat) : Int) := by rw [w64 (by omega) (by omega)]; omega
    have w2 : IntKind.i64.wrap (((m * 64 : Nat) : Int) + (d : Int)) = ((m * 64 + d : Nat) : Int) := by rw [w64 (by omega) (by omega)]; omega
    have w3 : IntKind.i64.wrap (((m * 64 + d : Nat) : Int) - 128) = ((m * 64 + d - 128 : Nat) : Int) := by rw [w64 (by omega) (by omega)]; omega
    have w4 : IntKind.i64.wrap ((j : Int) + 1) = ((j + 1 : Nat) : Int) := by rw [w64 (by omega) (by omega)]; omega
    refine wpL_region Tryd.tyOk (by decide) ?_
    simp only [go_sem, ↓reduceIte, Nat.reduceEqDiff, Nat.reduceAdd, Nat.reduceLeDiff, Nat.reduceMul, Nat.reducePow, Nat.reduceLT, Nat.reduceSub, Int.reduceEq, Int.reduceLT, Int.reduceLE, Int.reduceNeg, Int.reduceToNat, Int.cast_ofNat_Int, eq_false (show ¬ (d : Int) < 128 by omega), eq_false (show ¬ (d : Int) ≥ 192 by omega), decide_true, decide_false]
    refine wpL_cond (t := false) (by simp only [go_sem, ↓reduceIte, Nat.reduceEqDiff]) (fun h => Bool.noConfusion h) (fun _ => ?_)
    try simp only [go_sem, ↓reduceIte, Nat.reduceEqDiff]
    refine wpL_skip ?_
    refine wpL_region Tryd.tyOk (by decide) ?_
    simp only [go_sem, ↓reduceIte, Nat.reduceEqDiff, Nat.reduceAdd, Nat.reduceLeDiff, Nat.reduceMul, Nat.reducePow, Nat.reduceLT, Nat.reduceSub, Int.reduceEq, Int.reduceLT, Int.reduceLE, Int.reduceNeg, Int.reduceToNat, Int.cast_ofNat_Int, w1, w2, w3]
    rw [← hB1]
    try simp only [go_sem, ↓reduceIte, Nat.reduceEqDiff]
    refine wpL_region Tryd.tyOk (by decide) ?_
    simp only [go_sem, ↓reduceIte, Nat.reduceEqDiff, Nat.reduceAdd, Nat.reduceLeDiff, Nat.reduceMul, Nat.reducePow, Nat.reduceLT, Nat.reduceSub, Int.reduceEq, Int.reduceLT, Int.reduceLE, Int.reduceNeg, Int.reduceToNat, Int.cast_ofNat_Int, w4]
    refine ⟨n, _, by omega, ⟨j + 1, m * 64 + d - 128, rfl, hrt, by omega, by omega, ?_⟩, ?_⟩
    · rw [show m * 64 + d - 128 + 1 = m * 64 + (d - 128) + 1 by omega]
      exact pow_step64 (by omega) hpw
    refine le_mk ?_ ?_ ?_ <;> (simp only [go_sem, ↓reduceIte, Nat.reduceEqDiff]; try simp [eInt, eRune, eByte, eStr, rBool, rInt, rStr, rTwo, rPair, eInt]; try simp (disch := omega) only [IntWalk.i64_in, and_self])
end Go.Proofs.YtldgcpdpebhndaaDoor
