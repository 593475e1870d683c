/-
  Literals: the three laws, walked.
-/
import Derived.Test.YtldgcpdpebhndaaDoorW22
import Derived.Test.YtldgcpdpebhndaaDoorW19
set_option linter.unusedSimpArgs false
set_option linter.unusedVariables false
set_option maxRecDepth 100000
set_option maxHeartbeats 4000000
namespace Go.Proofs.YtldgcpdpebhndaaDoor
open Go.Abs Go

def eRunes (l : List Int) : List (List DC) := l.map fun n => [.sc (.int .i32 n)]
theorem eRunes_get {l : List Int} {i : Nat} {x : Int} (h : l[i]? = some x) : (eRunes l)[i]? = some [.sc (.int .i32 x)] := by simp [eRunes, h]
theorem eRunes_len (l : List Int) : (eRunes l).length = l.length := by simp [eRunes]
theorem eRunes_one (l : List Int) : ∀ z, z ∈ eRunes l → z.length = 1 := by intro z hz; obtain ⟨y, _, rfl⟩ := List.mem_map.1 hz; rfl
attribute [go_sem] eRunes_len

theorem law3 (s : ByteArray) : Gives Tryd.prog 3 [.c (eStr s)] (rBool true) := by
  refine Gives.intro Tryd.tyOk Tryd.func3 (by kernel_rfl) rfl (by simp [Tryd.ntmps3]) ?_
  simp only [go_sem, ↓reduceIte, Nat.reduceEqDiff, Nat.reduceAdd, Nat.reduceLeDiff, Nat.reduceMul, Nat.reducePow, Nat.reduceLT, Nat.reduceSub, Int.reduceEq, Int.reduceLT, Int.reduceLE, Int.reduceNeg, Int.reduceToNat, Int.cast_ofNat_Int]
  simp only [Tryd.ntmps3, Tryd.results3, eInt, eRune, eByte, eStr, rBool, rInt, rStr, rTwo, rTrip, rUnq, List.map_cons, List.map_nil]
  generalize hBQ : retQ _ _ _ = BQ
  by_cases c1 : s.size > 2000
  · iterate 2 (refine wpL_region Tryd.tyOk (by decide) ?_; simp only [go_sem, ↓reduceIte, Nat.reduceEqDiff, Nat.reduceAdd, Nat.reduceLeDiff, Nat.reduceMul, Nat.reducePow, Nat.reduceLT, Nat.reduceSub, Int.reduceEq, Int.reduceLT, Int.reduceLE, Int.reduceNeg, Int.reduceToNat, Int.cast_ofNat_Int, eq_true (show (s.size : Int) > 2000 by omega), decide_true])
    refine wpL_cond (t := true) (by simp only [go_sem, ↓reduceIte, Nat.reduceEqDiff]) (fun _ => ?_) (fun h => Bool.noConfusion h)
    try simp only [go_sem, ↓reduceIte, Nat.reduceEqDiff]
    refine wpL_region Tryd.tyOk (by decide) ?_
    simp only [go_sem, ↓reduceIte, Nat.reduceEqDiff, Nat.reduceAdd, Nat.reduceLeDiff, Nat.reduceMul, Nat.reducePow, Nat.reduceLT, Nat.reduceSub, Int.reduceEq, Int.reduceLT, Int.reduceLE, Int.reduceNeg, Int.reduceToNat, Int.cast_ofNat_Int]
    refine ⟨_, lives6, ?_⟩
    simp only [go_sem, ↓reduceIte, Nat.reduceEqDiff, Nat.reduceAdd, Nat.reduceLeDiff, Nat.reduceMul, Nat.reducePow, Nat.reduceLT, Nat.reduceSub, Int.reduceEq, Int.reduceLT, Int.reduceLE, Int.reduceNeg, Int.reduceToNat, Int.cast_ofNat_Int]
    refine wpL_ret ?_
    rw [← hBQ]
    try simp only [go_sem, ↓reduceIte, Nat.reduceEqDiff]
  have e1 := quote7 s (by omega)
  have e2 := quote8 s (by omega)
  iterate 2 (refine wpL_region Tryd.tyOk (by decide) ?_; simp only [go_sem, ↓reduceIte, Nat.reduceEqDiff, Nat.reduceAdd, Nat.reduceLeDiff, Nat.reduceMul, Nat.reducePow, Nat.reduceLT, Nat.reduceSub, Int.reduceEq, Int.reduceLT, Int.reduceLE, Int.reduceNeg, Int.reduceToNat, Int.cast_ofNat_Int, eq_false (show ¬ (s.size : Int) > 2000 by omega), decide_false])
  refine wpL_cond (t := false) (by simp only [go_sem, ↓reduceIte, Nat.reduceEqDiff]) (fun h => Bool.noConfusion h) (fun _ => ?_)
  try simp only [go_sem, ↓reduceIte, Nat.reduceEqDiff]
  refine wpL_skip ?_
  refine wpL_region Tryd.tyOk (by decide) ?_
  simp only [go_sem, ↓reduceIte, Nat.reduceEqDiff, Nat.reduceAdd, Nat.reduceLeDiff, Nat.reduceMul, Nat.reducePow, Nat.reduceLT, Nat.reduceSub, Int.reduceEq, Int.reduceLT, Int.reduceLE, Int.reduceNeg, Int.reduceToNat, Int.cast_ofNat_Int]
  refine ⟨_, e1, ?_⟩
  simp only [go_sem, ↓reduceIte, Nat.reduceEqDiff, Nat.reduceAdd, Nat.reduceLeDiff, Nat.reduceMul, Nat.reducePow, Nat.reduceLT, Nat.reduceSub, Int.reduceEq, Int.reduceLT, Int.reduceLE, Int.reduceNeg, Int.reduceToNat, Int.cast_ofNat_Int]
  refine ⟨_, e2, ?_⟩
  have q1 : ((quoteS s).toList == (quoteS s).toList) = true := by simp
  simp only [go_sem, ↓reduceIte, Nat.reduceEqDiff, Nat.reduceAdd, Nat.reduceLeDiff, Nat.reduceMul, Nat.reducePow, Nat.reduceLT, Nat.reduceSub, Int.reduceEq, Int.reduceLT, Int.reduceLE, Int.reduceNeg, Int.reduceToNat, Int.cast_ofNat_Int, q1]
  refine ⟨_, lives6, ?_⟩
  simp only [go_sem, ↓reduceIte, Nat.reduceEqDiff, Nat.reduceAdd, Nat.reduceLeDiff, Nat.reduceMul, Nat.reducePow, Nat.reduceLT, Nat.reduceSub, Int.reduceEq, Int.reduceLT, Int.reduceLE, Int.reduceNeg, Int.reduceToNat, Int.cast_ofNat_Int]
  refine wpL_ret ?_
  rw [← hBQ]
  try simp only [go_sem, ↓reduceIte, Nat.reduceEqDiff]
theorem show_size (r : Int) : (showS r).size ≤ 50 := by
  unfold showS
  split
  · have := short_size r.toNat 39
    rw [ByteArray.size_append, ByteArray.size_append]
    show 1 + _ + 1 ≤ 50
    omega
  · show 0 ≤ 50
    omega
theorem law4 (r : Int) (t : ByteArray) (h0 : -2147483648 ≤ r) (h1 : r ≤ 2147483647) : Gives Tryd.prog 4 [.c (eRune r), .c (eStr t)] (rBool true) := by
  refine Gives.intro Tryd.tyOk Tryd.func4 (by kernel_rfl) rfl (by simp [Tryd.ntmps4]) ?_
  simp only [go_sem, ↓reduceIte, Nat.reduceEqDiff, Nat.reduceAdd, Nat.reduceLeDiff, Nat.reduceMul, Nat.reducePow, Nat.reduceLT, Nat.reduceSub, Int.reduceEq, Int.reduceLT, Int.reduceLE, Int.reduceNeg, Int.reduceToNat, Int.cast_ofNat_Int]
  simp only [Tryd.ntmps4, Tryd.results4, eInt, eRune, eByte, eStr, rBool, rInt, rStr, rTwo, rTrip, rUnq, List.map_cons, List.map_nil]
  generalize hBQ : retQ _ _ _ = BQ
  by_cases c1 : t.size > 2000
  · iterate 2 (refine wpL_region Tryd.tyOk (by decide) ?_; simp only [go_sem, ↓reduceIte, Nat.reduceEqDiff, Nat.reduceAdd, Nat.reduceLeDiff, Nat.reduceMul, Nat.reducePow, Nat.reduceLT, Nat.reduceSub, Int.reduceEq, Int.reduceLT, Int.reduceLE, Int.reduceNeg, Int.reduceToNat, Int.cast_ofNat_Int, eq_true (show (t.size : Int) > 2000 by omega), decide_true])
    refine wpL_cond (t := true) (by simp only [go_sem, ↓reduceIte, Nat.reduceEqDiff]) (fun _ => ?_) (fun h => Bool.noConfusion h)
    try simp only [go_sem, ↓reduceIte, Nat.reduceEqDiff]
    refine wpL_region Tryd.tyOk (by decide) ?_
    simp only [go_sem, ↓reduceIte, Nat.reduceEqDiff, Nat.reduceAdd, Nat.reduceLeDiff, Nat.reduceMul, Nat.reducePow, Nat.reduceLT, Nat.reduceSub, Int.reduceEq, Int.reduceLT, Int.reduceLE, Int.reduceNeg, Int.reduceToNat, Int.cast_ofNat_Int]
    refine ⟨_, lives6, ?_⟩
    simp only [go_sem, ↓reduceIte, Nat.reduceEqDiff, Nat.reduceAdd, Nat.reduceLeDiff, Nat.reduceMul, Nat.reducePow, Nat.reduceLT, Nat.reduceSub, Int.reduceEq, Int.reduceLT, Int.reduceLE, Int.reduceNeg, Int.reduceToNat, Int.cast_ofNat_Int]
    refine wpL_ret ?_
    rw [← hBQ]
    try simp only [go_sem, ↓reduceIte, Nat.reduceEqDiff]
  have e1 := show9 r h0 h1
  have e2 := show10 r h0 h1
  have e3 := is11 r
  have w1 : IntKind.i64.wrap r = r := by simp (disch := omega) only [IntWalk.i64_in]
  iterate 2 (refine wpL_region Tryd.tyOk (by decide) ?_; simp only [go_sem, ↓reduceIte, Nat.reduceEqDiff, Nat.reduceAdd, Nat.reduceLeDiff, Nat.reduceMul, Nat.reducePow, Nat.reduceLT, Nat.reduceSub, Int.reduceEq, Int.reduceLT, Int.reduceLE, Int.reduceNeg, Int.reduceToNat, Int.cast_ofNat_Int, eq_false (show ¬ (t.size : Int) > 2000 by omega), decide_false])
  refine wpL_cond (t := false) (by simp only [go_sem, ↓reduceIte, Nat.reduceEqDiff]) (fun h => Bool.noConfusion h) (fun _ => ?_)
  try simp only [go_sem, ↓reduceIte, Nat.reduceEqDiff]
  refine wpL_skip ?_
  refine wpL_region Tryd.tyOk (by decide) ?_
  simp only [go_sem, ↓reduceIte, Nat.reduceEqDiff, Nat.reduceAdd, Nat.reduceLeDiff, Nat.reduceMul, Nat.reducePow, Nat.reduceLT, Nat.reduceSub, Int.reduceEq, Int.reduceLT, Int.reduceLE, Int.reduceNeg, Int.reduceToNat, Int.cast_ofNat_Int]
  refine ⟨_, e1, ?_⟩
  simp only [go_sem, ↓reduceIte, Nat.reduceEqDiff, Nat.reduceAdd, Nat.reduceLeDiff, Nat.reduceMul, Nat.reducePow, Nat.reduceLT, Nat.reduceSub, Int.reduceEq, Int.reduceLT, Int.reduceLE, Int.reduceNeg, Int.reduceToNat, Int.cast_ofNat_Int]
  have q1 : ((showS r).toList == (showS r).toList) = true := by simp
  refine wpL_region Tryd.tyOk (by decide) ?_
  simp only [go_sem, ↓reduceIte, Nat.reduceEqDiff, Nat.reduceAdd, Nat.reduceLeDiff, Nat.reduceMul, Nat.reducePow, Nat.reduceLT, Nat.reduceSub, Int.reduceEq, Int.reduceLT, Int.reduceLE, Int.reduceNeg, Int.reduceToNat, Int.cast_ofNat_Int]
  refine ⟨_, e2, ?_⟩
  simp only [go_sem, ↓reduceIte, Nat.reduceEqDiff, Nat.reduceAdd, Nat.reduceLeDiff, Nat.reduceMul, Nat.reducePow, Nat.reduceLT, Nat.reduceSub, Int.reduceEq, Int.reduceLT, Int.reduceLE, Int.reduceNeg, Int.reduceToNat, Int.cast_ofNat_Int, q1]
  refine wpL_cond (t := false) (by simp only [go_sem, ↓reduceIte, Nat.reduceEqDiff]) (fun h => Bool.noConfusion h) (fun _ => ?_)
  try simp only [go_sem, ↓reduceIte, Nat.reduceEqDiff]
  refine wpL_skip ?_
  refine wpL_region Tryd.tyOk (by decide) ?_
  simp only [go_sem, ↓reduceIte, Nat.reduceEqDiff, Nat.reduceAdd, Nat.reduceLeDiff, Nat.reduceMul, Nat.reducePow, Nat.reduceLT, Nat.reduceSub, Int.reduceEq, Int.reduceLT, Int.reduceLE, Int.reduceNeg, Int.reduceToNat, Int.cast_ofNat_Int, w1]
  refine ⟨_, e3, ?_⟩
  simp only [go_sem, ↓reduceIte, Nat.reduceEqDiff, Nat.reduceAdd, Nat.reduceLeDiff, Nat.reduceMul, Nat.reducePow, Nat.reduceLT, Nat.reduceSub, Int.reduceEq, Int.reduceLT, Int.reduceLE, Int.reduceNeg, Int.reduceToNat, Int.cast_ofNat_Int]
  cases hr : isR r with
  | false =>
    have hs : showS r = ⟨#[]⟩ := by unfold showS; rw [hr]; rfl
    have q2 : ((showS r).toList == ByteArray.toList ⟨#[]⟩) = true := by rw [hs]; simp
    refine wpL_cond (t := true) (by simp only [go_sem, ↓reduceIte, Nat.reduceEqDiff, hr]) (fun _ => ?_) (fun h => Bool.noConfusion h)
    try simp only [go_sem, ↓reduceIte, Nat.reduceEqDiff]
    refine wpL_region Tryd.tyOk (by decide) ?_
    simp only [go_sem, ↓reduceIte, Nat.reduceEqDiff, Nat.reduceAdd, Nat.reduceLeDiff, Nat.reduceMul, Nat.reducePow, Nat.reduceLT, Nat.reduceSub, Int.reduceEq, Int.reduceLT, Int.reduceLE, Int.reduceNeg, Int.reduceToNat, Int.cast_ofNat_Int, q2]
    refine ⟨_, lives6, ?_⟩
    simp only [go_sem, ↓reduceIte, Nat.reduceEqDiff, Nat.reduceAdd, Nat.reduceLeDiff, Nat.reduceMul, Nat.reducePow, Nat.reduceLT, Nat.reduceSub, Int.reduceEq, Int.reduceLT, Int.reduceLE, Int.reduceNeg, Int.reduceToNat, Int.cast_ofNat_Int]
    refine wpL_ret ?_
    rw [← hBQ]
    try simp only [go_sem, ↓reduceIte, Nat.reduceEqDiff]
  | true =>
    have hr' := isR_iff.1 hr
    obtain ⟨n, rfl⟩ : ∃ n : Nat, r = n := ⟨r.toNat, by omega⟩
    have hsz := show_size n
    have hmax := max_le'
    have e4 := rune12 (showS n ++ t) (by rw [ByteArray.size_append]; omega)
    rw [rune_show n t hr] at e4
    refine wpL_cond (t := false) (by simp only [go_sem, ↓reduceIte, Nat.reduceEqDiff, hr]) (fun h => Bool.noConfusion h) (fun _ => ?_)
    try simp only [go_sem, ↓reduceIte, Nat.reduceEqDiff]
    refine wpL_skip ?_
    refine wpL_region Tryd.tyOk (by decide) ?_
    simp only [go_sem, ↓reduceIte, Nat.reduceEqDiff, Nat.reduceAdd, Nat.reduceLeDiff, Nat.reduceMul, Nat.reducePow, Nat.reduceLT, Nat.reduceSub, Int.reduceEq, Int.reduceLT, Int.reduceLE, Int.reduceNeg, Int.reduceToNat, Int.cast_ofNat_Int, ByteArray.size_append]
    refine ⟨by omega, ?_⟩
    refine ⟨_, e4, ?_⟩
    simp only [go_sem, ↓reduceIte, Nat.reduceEqDiff, Nat.reduceAdd, Nat.reduceLeDiff, Nat.reduceMul, Nat.reducePow, Nat.reduceLT, Nat.reduceSub, Int.reduceEq, Int.reduceLT, Int.reduceLE, Int.reduceNeg, Int.reduceToNat, Int.cast_ofNat_Int]
    refine wpL_region Tryd.tyOk (by decide) ?_
    simp only [go_sem, ↓reduceIte, Nat.reduceEqDiff, Nat.reduceAdd, Nat.reduceLeDiff, Nat.reduceMul, Nat.reducePow, Nat.reduceLT, Nat.reduceSub, Int.reduceEq, Int.reduceLT, Int.reduceLE, Int.reduceNeg, Int.reduceToNat, Int.cast_ofNat_Int, decide_true]
    refine ⟨_, lives6, ?_⟩
    simp only [go_sem, ↓reduceIte, Nat.reduceEqDiff, Nat.reduceAdd, Nat.reduceLeDiff, Nat.reduceMul, Nat.reducePow, Nat.reduceLT, Nat.reduceSub, Int.reduceEq, Int.reduceLT, Int.reduceLE, Int.reduceNeg, Int.reduceToNat, Int.cast_ofNat_Int]
    refine wpL_ret ?_
    rw [← hBQ]
    try simp only [go_sem, ↓reduceIte, Nat.reduceEqDiff]
theorem get_ex' {l : List Int} {i : Nat} (h : i < l.length) : ∃ x, l[i]? = some x := ⟨l[i], by simp⟩
theorem encs_snoc : ∀ (l : List Nat) (n : Nat), encs (l ++ [n]) = encs l ++ eb n
  | [], n => by simp [encs]
  | m :: l, n => by rw [List.cons_append, encs, encs, encs_snoc l n, List.append_assoc]
theorem eb_len (n : Nat) : (eb n).length ≤ 4 := by
  have h := enc_size n
  rw [← ba_len] at h
  unfold eb
  exact h
theorem encs_len : ∀ l : List Nat, (encs l).length ≤ 4 * l.length
  | [] => by simp [encs]
  | n :: l => by
    have := encs_len l
    have := eb_len n
    rw [encs, List.length_append, List.length_cons]
    omega
theorem shorts_len : ∀ l : List Nat, (shorts l).length ≤ 40 * l.length
  | [] => by simp [shorts]
  | n :: l => by
    have := shorts_len l
    have := short_size n 34
    rw [shorts, List.length_append, List.length_cons, sb_len]
    omega
theorem law5 (l : List Int) (t : ByteArray) (hr : ∀ n, n ∈ l → -2147483648 ≤ n ∧ n ≤ 2147483647) : Gives Tryd.prog 5 [.c (.sl (eRunes l)), .c (eStr t)] (rBool true) := by
  have hmax := max_le'
  refine Gives.intro Tryd.tyOk Tryd.func5 (by kernel_rfl) rfl (by simp [Tryd.ntmps5]) ?_
  simp only [go_sem, ↓reduceIte, Nat.reduceEqDiff, Nat.reduceAdd, Nat.reduceLeDiff, Nat.reduceMul, Nat.reducePow, Nat.reduceLT, Nat.reduceSub, Int.reduceEq, Int.reduceLT, Int.reduceLE, Int.reduceNeg, Int.reduceToNat, Int.cast_ofNat_Int]
  simp only [Tryd.ntmps5, Tryd.results5, eInt, eRune, eByte, eStr, rBool, rInt, rStr, rTwo, rTrip, rUnq, List.map_cons, List.map_nil]
  generalize hBQ : retQ _ _ _ = BQ
  refine wpL_region Tryd.tyOk (by decide) ?_
  simp only [go_sem, ↓reduceIte, Nat.reduceEqDiff, Nat.reduceAdd, Nat.reduceLeDiff, Nat.reduceMul, Nat.reducePow, Nat.reduceLT, Nat.reduceSub, Int.reduceEq, Int.reduceLT, Int.reduceLE, Int.reduceNeg, Int.reduceToNat, Int.cast_ofNat_Int]
  refine wpL_to ⟨[(18, .c (.d (.sc (.bool (decide (l.length > 500) || decide (t.size > 2000)))))), (0, .c (.d (.sl (eRunes l)))), (1, .c (.d (.sc (.string t))))], []⟩ ?_ ?_
  · by_cases c1 : l.length > 500
    · refine wpL_region Tryd.tyOk (by decide) ?_
      simp only [go_sem, ↓reduceIte, Nat.reduceEqDiff, Nat.reduceAdd, Nat.reduceLeDiff, Nat.reduceMul, Nat.reducePow, Nat.reduceLT, Nat.reduceSub, Int.reduceEq, Int.reduceLT, Int.reduceLE, Int.reduceNeg, Int.reduceToNat, Int.cast_ofNat_Int, eq_true (show (l.length : Int) > 500 by omega), decide_true]
      refine le_mk ?_ ?_ ?_ <;> (simp only [go_sem, ↓reduceIte, Nat.reduceEqDiff]; try simp [eInt, eRune, eByte, eStr, rBool, rInt, rStr, rTwo, rTrip, rUnq, eInt, c1]; try simp (disch := omega) only [IntWalk.i64_in, and_self])
    · by_cases c2 : t.size > 2000
      · refine wpL_region Tryd.tyOk (by decide) ?_
        simp only [go_sem, ↓reduceIte, Nat.reduceEqDiff, Nat.reduceAdd, Nat.reduceLeDiff, Nat.reduceMul, Nat.reducePow, Nat.reduceLT, Nat.reduceSub, Int.reduceEq, Int.reduceLT, Int.reduceLE, Int.reduceNeg, Int.reduceToNat, Int.cast_ofNat_Int, eq_false (show ¬ (l.length : Int) > 500 by omega), eq_true (show (t.size : Int) > 2000 by omega), decide_true, decide_false]
        refine le_mk ?_ ?_ ?_ <;> (simp only [go_sem, ↓reduceIte, Nat.reduceEqDiff]; try simp [eInt, eRune, eByte, eStr, rBool, rInt, rStr, rTwo, rTrip, rUnq, eInt, c1, c2]; try simp (disch := omega) only [IntWalk.i64_in, and_self])
      · refine wpL_region Tryd.tyOk (by decide) ?_
        simp only [go_sem, ↓reduceIte, Nat.reduceEqDiff, Nat.reduceAdd, Nat.reduceLeDiff, Nat.reduceMul, Nat.reducePow, Nat.reduceLT, Nat.reduceSub, Int.reduceEq, Int.reduceLT, Int.reduceLE, Int.reduceNeg, Int.reduceToNat, Int.cast_ofNat_Int, eq_false (show ¬ (l.length : Int) > 500 by omega), eq_false (show ¬ (t.size : Int) > 2000 by omega), decide_true, decide_false]
        refine le_mk ?_ ?_ ?_ <;> (simp only [go_sem, ↓reduceIte, Nat.reduceEqDiff]; try simp [eInt, eRune, eByte, eStr, rBool, rInt, rStr, rTwo, rTrip, rUnq, eInt, c1, c2]; try simp (disch := omega) only [IntWalk.i64_in, and_self])
  refine wpL_cond (t := decide (l.length > 500) || decide (t.size > 2000)) (by simp only [go_sem, ↓reduceIte, Nat.reduceEqDiff]) (fun hc => ?_) (fun hc => ?_)
  · try simp only [go_sem, ↓reduceIte, Nat.reduceEqDiff]
    refine wpL_region Tryd.tyOk (by decide) ?_
    simp only [go_sem, ↓reduceIte, Nat.reduceEqDiff, Nat.reduceAdd, Nat.reduceLeDiff, Nat.reduceMul, Nat.reducePow, Nat.reduceLT, Nat.reduceSub, Int.reduceEq, Int.reduceLT, Int.reduceLE, Int.reduceNeg, Int.reduceToNat, Int.cast_ofNat_Int]
    refine ⟨_, lives6, ?_⟩
    simp only [go_sem, ↓reduceIte, Nat.reduceEqDiff, Nat.reduceAdd, Nat.reduceLeDiff, Nat.reduceMul, Nat.reducePow, Nat.reduceLT, Nat.reduceSub, Int.reduceEq, Int.reduceLT, Int.reduceLE, Int.reduceNeg, Int.reduceToNat, Int.cast_ofNat_Int]
    refine wpL_ret ?_
    rw [← hBQ]
    try simp only [go_sem, ↓reduceIte, Nat.reduceEqDiff]
  have hc : ¬ (l.length > 500 ∨ t.size > 2000) := by simpa using hc
  try simp only [go_sem, ↓reduceIte, Nat.reduceEqDiff]
  refine wpL_skip ?_
  iterate 2 (refine wpL_region Tryd.tyOk (by decide) ?_; simp only [go_sem, ↓reduceIte, Nat.reduceEqDiff, Nat.reduceAdd, Nat.reduceLeDiff, Nat.reduceMul, Nat.reducePow, Nat.reduceLT, Nat.reduceSub, Int.reduceEq, Int.reduceLT, Int.reduceLE, Int.reduceNeg, Int.reduceToNat, Int.cast_ofNat_Int])
  refine wpL_block ?_
  generalize hB0 : blockQ _ _ _ = B0
  simp only [go_sem, ↓reduceIte, Nat.reduceEqDiff]
  refine wpL_loop (fun n st => ∃ (i : Nat) (m : List Nat), st = ⟨[(6, sint .i64 (i : Nat)), (5, .c (.d (.sc (.string (bA (encs m)))))), (0, .c (.d (.sl (eRunes l)))), (1, .c (.d (.sc (.string t))))], []⟩ ∧ i + n = l.length ∧ m.length = i ∧ ∀ x, x ∈ m → isR (x : Int) = true) ?_ ?_
  · refine ⟨l.length, _, ⟨0, [], rfl, by omega, rfl, fun x hx => by cases hx⟩, ?_⟩
    refine le_mk ?_ ?_ ?_ <;> (simp only [go_sem, ↓reduceIte, Nat.reduceEqDiff]; try simp [eInt, eRune, eByte, eStr, rBool, rInt, rStr, rTwo, rTrip, rUnq, eInt, encs, bA]; try simp (disch := omega) only [IntWalk.i64_in, and_self])
  rintro n st ⟨i, m, rfl, hin, hmi, hm⟩
  simp only [go_sem, ↓reduceIte, Nat.reduceEqDiff, Nat.reduceAdd, Nat.reduceLeDiff, Nat.reduceMul, Nat.reducePow, Nat.reduceLT, Nat.reduceSub, Int.reduceEq, Int.reduceLT, Int.reduceLE, Int.reduceNeg, Int.reduceToNat, Int.cast_ofNat_Int]
  refine wpL_region Tryd.tyOk (by decide) ?_
  simp only [go_sem, ↓reduceIte, Nat.reduceEqDiff, Nat.reduceAdd, Nat.reduceLeDiff, Nat.reduceMul, Nat.reducePow, Nat.reduceLT, Nat.reduceSub, Int.reduceEq, Int.reduceLT, Int.reduceLE, Int.reduceNeg, Int.reduceToNat, Int.cast_ofNat_Int]
  have hel := encs_len m
  by_cases hlt : i < l.length
  · refine wpL_cond (t := true) (by simp only [go_sem, ↓reduceIte, Nat.reduceEqDiff, eq_true (show (i : Int) < (l.length : Int) by omega), decide_true]) (fun _ => ?_) (fun h => Bool.noConfusion h)
    try simp only [go_sem, ↓reduceIte, Nat.reduceEqDiff]
    refine wpL_skip ?_
    obtain ⟨x, hx⟩ := get_ex' hlt
    have hxr := hr x (List.mem_of_getElem? hx)
    have w1 : IntKind.i64.wrap x = x := by simp (disch := omega) only [IntWalk.i64_in]
    have e1 := is11 x
    refine wpL_block ?_
    generalize hB1 : blockQ _ _ _ = B1
    simp only [go_sem, ↓reduceIte, Nat.reduceEqDiff]
    refine wpL_region Tryd.tyOk (by decide) ?_
    simp only [go_sem, ↓reduceIte, Nat.reduceEqDiff, Nat.reduceAdd, Nat.reduceLeDiff, Nat.reduceMul, Nat.reducePow, Nat.reduceLT, Nat.reduceSub, Int.reduceEq, Int.reduceLT, Int.reduceLE, Int.reduceNeg, Int.reduceToNat, Int.cast_ofNat_Int, eRunes_get hx, w1]
    refine ⟨_, e1, ?_⟩
    simp only [go_sem, ↓reduceIte, Nat.reduceEqDiff, Nat.reduceAdd, Nat.reduceLeDiff, Nat.reduceMul, Nat.reducePow, Nat.reduceLT, Nat.reduceSub, Int.reduceEq, Int.reduceLT, Int.reduceLE, Int.reduceNeg, Int.reduceToNat, Int.cast_ofNat_Int]
    cases hxx : isR x with
    | false =>
      refine wpL_cond (t := true) (by simp only [go_sem, ↓reduceIte, Nat.reduceEqDiff, hxx]) (fun _ => ?_) (fun h => Bool.noConfusion h)
      try simp only [go_sem, ↓reduceIte, Nat.reduceEqDiff]
      refine wpL_region Tryd.tyOk (by decide) ?_
      simp only [go_sem, ↓reduceIte, Nat.reduceEqDiff, Nat.reduceAdd, Nat.reduceLeDiff, Nat.reduceMul, Nat.reducePow, Nat.reduceLT, Nat.reduceSub, Int.reduceEq, Int.reduceLT, Int.reduceLE, Int.reduceNeg, Int.reduceToNat, Int.cast_ofNat_Int]
      refine ⟨_, lives6, ?_⟩
      simp only [go_sem, ↓reduceIte, Nat.reduceEqDiff, Nat.reduceAdd, Nat.reduceLeDiff, Nat.reduceMul, Nat.reducePow, Nat.reduceLT, Nat.reduceSub, Int.reduceEq, Int.reduceLT, Int.reduceLE, Int.reduceNeg, Int.reduceToNat, Int.cast_ofNat_Int]
      refine wpL_ret ?_
      rw [← hB1]
      try simp only [go_sem, ↓reduceIte, Nat.reduceEqDiff]
      rw [← hB0]
      try simp only [go_sem, ↓reduceIte, Nat.reduceEqDiff]
      rw [← hBQ]
      try simp only [go_sem, ↓reduceIte, Nat.reduceEqDiff]
    | true =>
      have e2 := enc13 x hxx
      have hx' := isR_iff.1 hxx
      obtain ⟨k, rfl⟩ : ∃ k : Nat, x = k := ⟨x.toNat, by omega⟩
      have hes := enc_size k
      have wi : IntKind.i64.wrap ((i : Int) + 1) = ((i + 1 : Nat) : Int) := by rw [w64 (by omega) (by omega)]; omega
      refine wpL_cond (t := false) (by simp only [go_sem, ↓reduceIte, Nat.reduceEqDiff, hxx]) (fun h => Bool.noConfusion h) (fun _ => ?_)
      try simp only [go_sem, ↓reduceIte, Nat.reduceEqDiff]
      refine wpL_skip ?_
      refine wpL_region Tryd.tyOk (by decide) ?_
      simp only [go_sem, ↓reduceIte, Nat.reduceEqDiff, Nat.reduceAdd, Nat.reduceLeDiff, Nat.reduceMul, Nat.reducePow, Nat.reduceLT, Nat.reduceSub, Int.reduceEq, Int.reduceLT, Int.reduceLE, Int.reduceNeg, Int.reduceToNat, Int.cast_ofNat_Int, eRunes_get hx, w1]
      refine ⟨_, e2, ?_⟩
      simp only [go_sem, ↓reduceIte, Nat.reduceEqDiff, Nat.reduceAdd, Nat.reduceLeDiff, Nat.reduceMul, Nat.reducePow, Nat.reduceLT, Nat.reduceSub, Int.reduceEq, Int.reduceLT, Int.reduceLE, Int.reduceNeg, Int.reduceToNat, Int.cast_ofNat_Int, ByteArray.size_append, bA_size]
      refine ⟨by omega, ?_⟩
      rw [← hB1]
      try simp only [go_sem, ↓reduceIte, Nat.reduceEqDiff]
      refine wpL_region Tryd.tyOk (by decide) ?_
      simp only [go_sem, ↓reduceIte, Nat.reduceEqDiff, Nat.reduceAdd, Nat.reduceLeDiff, Nat.reduceMul, Nat.reducePow, Nat.reduceLT, Nat.reduceSub, Int.reduceEq, Int.reduceLT, Int.reduceLE, Int.reduceNeg, Int.reduceToNat, Int.cast_ofNat_Int, wi]
      refine ⟨n - 1, _, by omega, ⟨i + 1, m ++ [k], rfl, by omega, by simp [hmi], fun y hy => ?_⟩, ?_⟩
      · rcases List.mem_append.1 hy with h | h
        · exact hm y h
        · rw [List.mem_singleton.1 h]; exact hxx
      have hap : bA (encs m) ++ Utf8.encode (k : Int) = bA (encs (m ++ [k])) := by rw [bA_app, encs_snoc]; rfl
      refine le_mk ?_ ?_ ?_ <;> (simp only [go_sem, ↓reduceIte, Nat.reduceEqDiff]; try simp [eInt, eRune, eByte, eStr, rBool, rInt, rStr, rTwo, rTrip, rUnq, eInt, hap]; try simp (disch := omega) only [IntWalk.i64_in, and_self])
  · refine wpL_cond (t := false) (by simp only [go_sem, ↓reduceIte, Nat.reduceEqDiff, eq_false (show ¬ (i : Int) < (l.length : Int) by omega), decide_false]) (fun h => Bool.noConfusion h) (fun _ => ?_)
    try simp only [go_sem, ↓reduceIte, Nat.reduceEqDiff]
    refine wpL_exit ?_
    rw [← hB0]
    try simp only [go_sem, ↓reduceIte, Nat.reduceEqDiff]
    have hsl := shorts_len m
    have hqs : (quoteS (bA (encs m))).size = (shorts m).length + 2 := by rw [quote_encs m hm, bA_size]; simp
    have e7 := quote7 (bA (encs m)) (by rw [bA_size]; omega)
    have e14 := unq14 (quoteS (bA (encs m)) ++ t) (by rw [ByteArray.size_append]; omega)
    rw [unq_quote m t hm] at e14
    have q1 : ((bA (encs m)).toList == (bA (encs m)).toList) = true := by simp
    refine wpL_region Tryd.tyOk (by decide) ?_
    simp only [go_sem, ↓reduceIte, Nat.reduceEqDiff, Nat.reduceAdd, Nat.reduceLeDiff, Nat.reduceMul, Nat.reducePow, Nat.reduceLT, Nat.reduceSub, Int.reduceEq, Int.reduceLT, Int.reduceLE, Int.reduceNeg, Int.reduceToNat, Int.cast_ofNat_Int]
    refine ⟨_, e7, ?_⟩
    simp only [go_sem, ↓reduceIte, Nat.reduceEqDiff, Nat.reduceAdd, Nat.reduceLeDiff, Nat.reduceMul, Nat.reducePow, Nat.reduceLT, Nat.reduceSub, Int.reduceEq, Int.reduceLT, Int.reduceLE, Int.reduceNeg, Int.reduceToNat, Int.cast_ofNat_Int]
    refine wpL_region Tryd.tyOk (by decide) ?_
    simp only [go_sem, ↓reduceIte, Nat.reduceEqDiff, Nat.reduceAdd, Nat.reduceLeDiff, Nat.reduceMul, Nat.reducePow, Nat.reduceLT, Nat.reduceSub, Int.reduceEq, Int.reduceLT, Int.reduceLE, Int.reduceNeg, Int.reduceToNat, Int.cast_ofNat_Int, ByteArray.size_append]
    refine ⟨by omega, ?_⟩
    refine ⟨_, e14, ?_⟩
    simp only [go_sem, ↓reduceIte, Nat.reduceEqDiff, Nat.reduceAdd, Nat.reduceLeDiff, Nat.reduceMul, Nat.reducePow, Nat.reduceLT, Nat.reduceSub, Int.reduceEq, Int.reduceLT, Int.reduceLE, Int.reduceNeg, Int.reduceToNat, Int.cast_ofNat_Int]
    refine wpL_region Tryd.tyOk (by decide) ?_
    simp only [go_sem, ↓reduceIte, Nat.reduceEqDiff, Nat.reduceAdd, Nat.reduceLeDiff, Nat.reduceMul, Nat.reducePow, Nat.reduceLT, Nat.reduceSub, Int.reduceEq, Int.reduceLT, Int.reduceLE, Int.reduceNeg, Int.reduceToNat, Int.cast_ofNat_Int, q1, decide_true]
    refine ⟨_, lives6, ?_⟩
    simp only [go_sem, ↓reduceIte, Nat.reduceEqDiff, Nat.reduceAdd, Nat.reduceLeDiff, Nat.reduceMul, Nat.reducePow, Nat.reduceLT, Nat.reduceSub, Int.reduceEq, Int.reduceLT, Int.reduceLE, Int.reduceNeg, Int.reduceToNat, Int.cast_ofNat_Int]
    refine wpL_ret ?_
    rw [← hBQ]
    try simp only [go_sem, ↓reduceIte, Nat.reduceEqDiff]
end Go.Proofs.YtldgcpdpebhndaaDoor
