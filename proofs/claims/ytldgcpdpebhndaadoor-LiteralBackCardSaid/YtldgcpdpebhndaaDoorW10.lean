/-
  Literals: the part of an escape behind its letter u.
-/
import Derived.Test.YtldgcpdpebhndaaDoorW9
import Derived.Test.YtldgcpdpebhndaaDoorAbsZB
set_option linter.unusedSimpArgs false
set_option linter.unusedVariables false
set_option maxRecDepth 100000
set_option maxHeartbeats 4000000
namespace Go.Proofs.YtldgcpdpebhndaaDoor
open Go.Abs Go

@[go_sem] def rTrip (p : Int × Int × Int) : Res := .tup [.c (.d (.sc (.int .i32 p.1))), .c (.d (.sc (.int .i64 p.2.1))), .c (.d (.sc (.int .i64 p.2.2)))]
/-- At most k digits from a place on: their number, and the place behind them. -/
def scanS (s : ByteArray) : Nat → Nat → Nat → Nat × Nat
  | 0, at_, n => (n, at_)
  | k + 1, at_, n => if at_ < s.size ∧ 0 ≤ digS (at' s at_) then scanS s k (at_ + 1) (16 * n + (digS (at' s at_)).toNat) else (n, at_)
def codeS (s : ByteArray) (i : Nat) : Int × Int × Int :=
  if s.size ≤ i ∨ at' s i ≠ 123 then (0, 0, missS s i)
  else if (scanS s 6 (i + 1) 0).2 = i + 1 ∨ s.size ≤ (scanS s 6 (i + 1) 0).2 ∨ at' s (scanS s 6 (i + 1) 0).2 ≠ 125 then (0, 0, missS s (scanS s 6 (i + 1) 0).2)
  else if isR ((scanS s 6 (i + 1) 0).1 : Int) = true then (((scanS s 6 (i + 1) 0).1 : Int), (((scanS s 6 (i + 1) 0).2 + 1 : Nat) : Int), 0) else (0, 0, 3)
theorem at_lt (s : ByteArray) (i : Nat) : at' s i < 256 := UInt8.toNat_lt _
theorem dig_lt (c : Nat) : digS c < 16 := by
  unfold digS
  repeat' split
  all_goals omega
def goB (s : ByteArray) (k a : Nat) : Bool := decide (a < s.size) && decide (0 < k) && decide (0 ≤ digS (at' s a))
def endB (s : ByteArray) (i a : Nat) : Bool := decide (a = i + 1) || decide (s.size ≤ a) || !decide (at' s a = 125)
theorem scan_stop {s : ByteArray} {k a m : Nat} (h : goB s k a = false) : scanS s k a m = (m, a) := by
  cases k with
  | zero => rfl
  | succ k =>
    rw [scanS, if_neg]
    rintro ⟨h1, h2⟩
    simp [goB, h1, h2] at h
theorem scan_go {s : ByteArray} {k a m : Nat} (h : goB s (k + 1) a = true) : scanS s (k + 1) a m = scanS s k (a + 1) (16 * m + (digS (at' s a)).toNat) := by
  simp only [goB, Bool.and_eq_true, decide_eq_true_eq] at h
  rw [scanS, if_pos ⟨h.1.1, h.2⟩]
theorem pow_step {m d k : Nat} (hd : d < 16) (h : (m + 1) * 16 ^ (k + 1) ≤ 16777216) : (16 * m + d + 1) * 16 ^ k ≤ 16777216 := by
  refine Nat.le_trans (Nat.mul_le_mul_right (16 ^ k) (show 16 * m + d + 1 ≤ (m + 1) * 16 by omega)) ?_
  rw [Nat.mul_assoc, Nat.mul_comm 16, ← Nat.pow_succ]
  exact h
theorem pow_bd {m k : Nat} (h : (m + 1) * 16 ^ k ≤ 16777216) : m < 16777216 := by
  have : 1 ≤ 16 ^ k := Nat.pow_pos (by omega)
  have := Nat.mul_le_mul_left (m + 1) this
  omega
theorem code34 (s : ByteArray) (i : Nat) (hs : s.size ≤ 1000000) (hi : i ≤ s.size + 2) : Gives Tryd.prog 34 [.c (eStr s), .c (eInt i)] (rTrip (codeS s i)) := by
  refine Gives.intro Tryd.tyOk Tryd.func34 (by kernel_rfl) rfl (by simp [Tryd.ntmps34]) ?_
  simp only [go_sem, ↓reduceIte, Nat.reduceEqDiff, Nat.reduceAdd, Nat.reduceLeDiff, Nat.reduceMul, Nat.reducePow, Nat.reduceLT, Nat.reduceSub, Int.reduceEq, Int.reduceLT, Int.reduceLE, Int.reduceNeg, Int.reduceToNat, Int.cast_ofNat_Int]
  simp only [Tryd.ntmps34, Tryd.results34, eInt, eRune, eByte, eStr, rBool, rInt, rStr, rTwo, rTrip, List.map_cons, List.map_nil]
  generalize hBQ : retQ _ _ _ = BQ
  by_cases c1 : s.size ≤ i
  · have e := miss35 s i
    have d1 : ((i : Int) ≥ (s.size : Int)) = True := eq_true (by omega)
    try (simp only [go_sem, ↓reduceIte, Nat.reduceEqDiff, Nat.reduceAdd, Nat.reduceLeDiff, Nat.reduceMul, Nat.reducePow, Nat.reduceLT, Nat.reduceSub, Int.reduceEq, Int.reduceLT, Int.reduceLE, Int.reduceNeg, Int.reduceToNat, Int.cast_ofNat_Int, d1, decide_true, decide_false])
    repeat ((first | refine wpL_region Tryd.tyOk (by decide) ?_ | refine wpL_skip ?_ | (refine wpL_cond (t := true) ?_ (fun _ => ?_) (fun h => Bool.noConfusion h); (solve | (simp only [go_sem, ↓reduceIte, Nat.reduceEqDiff, Nat.reduceAdd, Nat.reduceLeDiff, Nat.reduceMul, Nat.reducePow, Nat.reduceLT, Nat.reduceSub, Int.reduceEq, Int.reduceLT, Int.reduceLE, Int.reduceNeg, Int.reduceToNat, Int.cast_ofNat_Int, d1, decide_true, decide_false]))) | (refine wpL_cond (t := false) ?_ (fun h => Bool.noConfusion h) (fun _ => ?_); (solve | (simp only [go_sem, ↓reduceIte, Nat.reduceEqDiff, Nat.reduceAdd, Nat.reduceLeDiff, Nat.reduceMul, Nat.reducePow, Nat.reduceLT, Nat.reduceSub, Int.reduceEq, Int.reduceLT, Int.reduceLE, Int.reduceNeg, Int.reduceToNat, Int.cast_ofNat_Int, d1, decide_true, decide_false])))); try (simp only [go_sem, ↓reduceIte, Nat.reduceEqDiff, Nat.reduceAdd, Nat.reduceLeDiff, Nat.reduceMul, Nat.reducePow, Nat.reduceLT, Nat.reduceSub, Int.reduceEq, Int.reduceLT, Int.reduceLE, Int.reduceNeg, Int.reduceToNat, Int.cast_ofNat_Int, d1, decide_true, decide_false]))
    refine ⟨_, e, ?_⟩
    simp only [go_sem, ↓reduceIte, Nat.reduceEqDiff, Nat.reduceAdd, Nat.reduceLeDiff, Nat.reduceMul, Nat.reducePow, Nat.reduceLT, Nat.reduceSub, Int.reduceEq, Int.reduceLT, Int.reduceLE, Int.reduceNeg, Int.reduceToNat, Int.cast_ofNat_Int]
    refine wpL_ret ?_
    rw [← hBQ]
    try simp only [go_sem, ↓reduceIte, Nat.reduceEqDiff]
    simp [codeS, c1]
    done
  have d1 : ((i : Int) ≥ (s.size : Int)) = False := eq_false (by omega)
  have b := byte_at (s := s) (i := i) (by omega)
  by_cases c2 : at' s i ≠ 123
  · have e := miss35 s i
    have d2 : (((s.get! i).toNat : Int) = 123) = False := eq_false (by have : (s.get! i).toNat ≠ 123 := c2; omega)
    try (simp only [go_sem, ↓reduceIte, Nat.reduceEqDiff, Nat.reduceAdd, Nat.reduceLeDiff, Nat.reduceMul, Nat.reducePow, Nat.reduceLT, Nat.reduceSub, Int.reduceEq, Int.reduceLT, Int.reduceLE, Int.reduceNeg, Int.reduceToNat, Int.cast_ofNat_Int, d1, d2, b, decide_true, decide_false])
    repeat ((first | refine wpL_region Tryd.tyOk (by decide) ?_ | refine wpL_skip ?_ | (refine wpL_cond (t := true) ?_ (fun _ => ?_) (fun h => Bool.noConfusion h); (solve | (simp only [go_sem, ↓reduceIte, Nat.reduceEqDiff, Nat.reduceAdd, Nat.reduceLeDiff, Nat.reduceMul, Nat.reducePow, Nat.reduceLT, Nat.reduceSub, Int.reduceEq, Int.reduceLT, Int.reduceLE, Int.reduceNeg, Int.reduceToNat, Int.cast_ofNat_Int, d1, d2, b, decide_true, decide_false]))) | (refine wpL_cond (t := false) ?_ (fun h => Bool.noConfusion h) (fun _ => ?_); (solve | (simp only [go_sem, ↓reduceIte, Nat.reduceEqDiff, Nat.reduceAdd, Nat.reduceLeDiff, Nat.reduceMul, Nat.reducePow, Nat.reduceLT, Nat.reduceSub, Int.reduceEq, Int.reduceLT, Int.reduceLE, Int.reduceNeg, Int.reduceToNat, Int.cast_ofNat_Int, d1, d2, b, decide_true, decide_false])))); try (simp only [go_sem, ↓reduceIte, Nat.reduceEqDiff, Nat.reduceAdd, Nat.reduceLeDiff, Nat.reduceMul, Nat.reducePow, Nat.reduceLT, Nat.reduceSub, Int.reduceEq, Int.reduceLT, Int.reduceLE, Int.reduceNeg, Int.reduceToNat, Int.cast_ofNat_Int, d1, d2, b, decide_true, decide_false]))
    refine ⟨_, e, ?_⟩
    simp only [go_sem, ↓reduceIte, Nat.reduceEqDiff, Nat.reduceAdd, Nat.reduceLeDiff, Nat.reduceMul, Nat.reducePow, Nat.reduceLT, Nat.reduceSub, Int.reduceEq, Int.reduceLT, Int.reduceLE, Int.reduceNeg, Int.reduceToNat, Int.cast_ofNat_Int]
    refine wpL_ret ?_
    rw [← hBQ]
    try simp only [go_sem, ↓reduceIte, Nat.reduceEqDiff]
    simp [codeS, c2]
    done
  have d2 : (((s.get! i).toNat : Int) = 123) = True := eq_true (by have : (s.get! i).toNat = 123 := by unfold at' at c2; omega
                                                                   omega)
  have w1 : IntKind.i64.wrap ((i : Int) + 1) = ((i + 1 : Nat) : Int) := by rw [w64 (by omega) (by omega)]; omega
  try (simp only [go_sem, ↓reduceIte, Nat.reduceEqDiff, Nat.reduceAdd, Nat.reduceLeDiff, Nat.reduceMul, Nat.reducePow, Nat.reduceLT, Nat.reduceSub, Int.reduceEq, Int.reduceLT, Int.reduceLE, Int.reduceNeg, Int.reduceToNat, Int.cast_ofNat_Int, d1, d2, b, w1, decide_true, decide_false])
  repeat ((first | refine wpL_region Tryd.tyOk (by decide) ?_ | refine wpL_skip ?_ | (refine wpL_cond (t := true) ?_ (fun _ => ?_) (fun h => Bool.noConfusion h); (solve | (simp only [go_sem, ↓reduceIte, Nat.reduceEqDiff, Nat.reduceAdd, Nat.reduceLeDiff, Nat.reduceMul, Nat.reducePow, Nat.reduceLT, Nat.reduceSub, Int.reduceEq, Int.reduceLT, Int.reduceLE, Int.reduceNeg, Int.reduceToNat, Int.cast_ofNat_Int, d1, d2, b, w1, decide_true, decide_false]))) | (refine wpL_cond (t := false) ?_ (fun h => Bool.noConfusion h) (fun _ => ?_); (solve | (simp only [go_sem, ↓reduceIte, Nat.reduceEqDiff, Nat.reduceAdd, Nat.reduceLeDiff, Nat.reduceMul, Nat.reducePow, Nat.reduceLT, Nat.reduceSub, Int.reduceEq, Int.reduceLT, Int.reduceLE, Int.reduceNeg, Int.reduceToNat, Int.cast_ofNat_Int, d1, d2, b, w1, decide_true, decide_false])))); try (simp only [go_sem, ↓reduceIte, Nat.reduceEqDiff, Nat.reduceAdd, Nat.reduceLeDiff, Nat.reduceMul, Nat.reducePow, Nat.reduceLT, Nat.reduceSub, Int.reduceEq, Int.reduceLT, Int.reduceLE, Int.reduceNeg, Int.reduceToNat, Int.cast_ofNat_Int, d1, d2, b, w1, decide_true, decide_false]))
  have w6 : IntKind.i64.wrap (((i + 1 : Nat) : Int) + 6) = ((i + 7 : Nat) : Int) := by rw [w64 (by omega) (by omega)]; omega
  refine wpL_block ?_
  generalize hB0 : blockQ _ _ _ = B0
  simp only [go_sem, ↓reduceIte, Nat.reduceEqDiff]
  refine wpL_loop (fun n st => ∃ a m, st = ⟨[(0, .c (.d (.sc (.string s)))), (1, sint .i64 (a : Nat)), (7, sint .i64 (m : Nat)), (8, sint .i64 ((i + 1 : Nat) : Int))], []⟩ ∧ scanS s n a m = scanS s 6 (i + 1) 0 ∧ a + n = i + 7 ∧ i + 1 ≤ a ∧ a ≤ s.size ∧ (m + 1) * 16 ^ n ≤ 16777216) ?_ ?_
  · refine ⟨6, _, ⟨i + 1, 0, rfl, rfl, by omega, by omega, by omega, by decide⟩, ?_⟩
    refine le_mk ?_ ?_ ?_ <;> (simp only [go_sem, ↓reduceIte, Nat.reduceEqDiff]; try simp [eInt, eRune, eByte, eStr, rBool, rInt, rStr, rTwo, rTrip, eInt]; try simp (disch := omega) only [IntWalk.i64_in, and_self])
  rintro n st ⟨a, m, rfl, hsc, han, hia, has, hpw⟩
  have hm := pow_bd hpw
  simp only [go_sem, ↓reduceIte, Nat.reduceEqDiff, Nat.reduceAdd, Nat.reduceLeDiff, Nat.reduceMul, Nat.reducePow, Nat.reduceLT, Nat.reduceSub, Int.reduceEq, Int.reduceLT, Int.reduceLE, Int.reduceNeg, Int.reduceToNat, Int.cast_ofNat_Int]
  refine wpL_to ⟨[(41, .c (.d (.sc (.bool (goB s n a))))), (0, .c (.d (.sc (.string s)))), (1, sint .i64 (a : Nat)), (7, sint .i64 (m : Nat)), (8, sint .i64 ((i + 1 : Nat) : Int))], []⟩ ?_ ?_
  · by_cases k1 : a < s.size
    · have k1' : ((a : Int) < (s.size : Int)) = True := eq_true (by omega)
      by_cases k2 : 0 < n
      · have k2' : ((a : Int) < ((i + 7 : Nat) : Int)) = True := eq_true (by omega)
        have b := byte_at (s := s) (i := a) (by omega)
        have e := digit42 (at' s a) (at_lt s a)
        refine wpL_region Tryd.tyOk (by decide) ?_
        simp only [go_sem, ↓reduceIte, Nat.reduceEqDiff, Nat.reduceAdd, Nat.reduceLeDiff, Nat.reduceMul, Nat.reducePow, Nat.reduceLT, Nat.reduceSub, Int.reduceEq, Int.reduceLT, Int.reduceLE, Int.reduceNeg, Int.reduceToNat, Int.cast_ofNat_Int, k1', k2', b, w6, decide_true, decide_false]
        refine ⟨_, e, ?_⟩
        simp only [go_sem, ↓reduceIte, Nat.reduceEqDiff, Nat.reduceAdd, Nat.reduceLeDiff, Nat.reduceMul, Nat.reducePow, Nat.reduceLT, Nat.reduceSub, Int.reduceEq, Int.reduceLT, Int.reduceLE, Int.reduceNeg, Int.reduceToNat, Int.cast_ofNat_Int]
        refine le_mk ?_ ?_ ?_ <;> (simp only [go_sem, ↓reduceIte, Nat.reduceEqDiff]; try simp [eInt, eRune, eByte, eStr, rBool, rInt, rStr, rTwo, rTrip, eInt, goB, k1, k2]; try simp (disch := omega) only [IntWalk.i64_in, and_self])
        done
      · have k2' : ((a : Int) < ((i + 7 : Nat) : Int)) = False := eq_false (by omega)
        refine wpL_region Tryd.tyOk (by decide) ?_
        simp only [go_sem, ↓reduceIte, Nat.reduceEqDiff, Nat.reduceAdd, Nat.reduceLeDiff, Nat.reduceMul, Nat.reducePow, Nat.reduceLT, Nat.reduceSub, Int.reduceEq, Int.reduceLT, Int.reduceLE, Int.reduceNeg, Int.reduceToNat, Int.cast_ofNat_Int, k1', k2', w6, decide_true, decide_false]
        refine le_mk ?_ ?_ ?_ <;> (simp only [go_sem, ↓reduceIte, Nat.reduceEqDiff]; try simp [eInt, eRune, eByte, eStr, rBool, rInt, rStr, rTwo, rTrip, eInt, goB, k1, k2]; try simp (disch := omega) only [IntWalk.i64_in, and_self])
    · have k1' : ((a : Int) < (s.size : Int)) = False := eq_false (by omega)
      refine wpL_region Tryd.tyOk (by decide) ?_
      simp only [go_sem, ↓reduceIte, Nat.reduceEqDiff, Nat.reduceAdd, Nat.reduceLeDiff, Nat.reduceMul, Nat.reducePow, Nat.reduceLT, Nat.reduceSub, Int.reduceEq, Int.reduceLT, Int.reduceLE, Int.reduceNeg, Int.reduceToNat, Int.cast_ofNat_Int, k1', decide_true, decide_false]
      refine le_mk ?_ ?_ ?_ <;> (simp only [go_sem, ↓reduceIte, Nat.reduceEqDiff]; try simp [eInt, eRune, eByte, eStr, rBool, rInt, rStr, rTwo, rTrip, eInt, goB, k1]; try simp (disch := omega) only [IntWalk.i64_in, and_self])
  refine wpL_cond (t := goB s n a) (by simp only [go_sem, ↓reduceIte, Nat.reduceEqDiff]) (fun hb => ?_) (fun hb => ?_)
  · try simp only [go_sem, ↓reduceIte, Nat.reduceEqDiff]
    refine wpL_skip ?_
    obtain ⟨k, rfl⟩ : ∃ k, n = k + 1 := ⟨n - 1, by simp [goB] at hb; omega⟩
    have hb' := hb
    simp only [goB, Bool.and_eq_true, decide_eq_true_eq] at hb'
    have b := byte_at (s := s) (i := a) (by omega)
    have e := digit42 (at' s a) (at_lt s a)
    have dl := dig_lt (at' s a)
    have wm : IntKind.i64.wrap (16 * (m : Int)) = ((16 * m : Nat) : Int) := by rw [w64 (by omega) (by omega)]; omega
    have wn : IntKind.i64.wrap (((16 * m : Nat) : Int) + digS (at' s a)) = ((16 * m + (digS (at' s a)).toNat : Nat) : Int) := by rw [w64 (by omega) (by omega)]; omega
    have wa : IntKind.i64.wrap ((a : Int) + 1) = ((a + 1 : Nat) : Int) := by rw [w64 (by omega) (by omega)]; omega
    refine wpL_block ?_
    generalize hB1 : blockQ _ _ _ = B1
    simp only [go_sem, ↓reduceIte, Nat.reduceEqDiff]
    refine wpL_region Tryd.tyOk (by decide) ?_
    simp only [go_sem, ↓reduceIte, Nat.reduceEqDiff, Nat.reduceAdd, Nat.reduceLeDiff, Nat.reduceMul, Nat.reducePow, Nat.reduceLT, Nat.reduceSub, Int.reduceEq, Int.reduceLT, Int.reduceLE, Int.reduceNeg, Int.reduceToNat, Int.cast_ofNat_Int, b, wm]
    refine ⟨_, e, ?_⟩
    simp only [go_sem, ↓reduceIte, Nat.reduceEqDiff, Nat.reduceAdd, Nat.reduceLeDiff, Nat.reduceMul, Nat.reducePow, Nat.reduceLT, Nat.reduceSub, Int.reduceEq, Int.reduceLT, Int.reduceLE, Int.reduceNeg, Int.reduceToNat, Int.cast_ofNat_Int, wn]
    refine wpL_region Tryd.tyOk (by decide) ?_
    simp only [go_sem, ↓reduceIte, Nat.reduceEqDiff, Nat.reduceAdd, Nat.reduceLeDiff, Nat.reduceMul, Nat.reducePow, Nat.reduceLT, Nat.reduceSub, Int.reduceEq, Int.reduceLT, Int.reduceLE, Int.reduceNeg, Int.reduceToNat, Int.cast_ofNat_Int, wa]
    rw [← hB1]
    try simp only [go_sem, ↓reduceIte, Nat.reduceEqDiff]
    refine ⟨k, _, by omega, ⟨a + 1, 16 * m + (digS (at' s a)).toNat, rfl, ?_, by omega, by omega, by omega, pow_step (by omega) hpw⟩, ?_⟩
    · rw [← hsc, scan_go hb]
    refine le_mk ?_ ?_ ?_ <;> (simp only [go_sem, ↓reduceIte, Nat.reduceEqDiff]; try simp [eInt, eRune, eByte, eStr, rBool, rInt, rStr, rTwo, rTrip, eInt]; try simp (disch := omega) only [IntWalk.i64_in, and_self])
  · try simp only [go_sem, ↓reduceIte, Nat.reduceEqDiff]
    refine wpL_exit ?_
    rw [← hB0]
    try simp only [go_sem, ↓reduceIte, Nat.reduceEqDiff]
    have hsc' := (scan_stop (m := m) hb).symm.trans hsc
    have p1 : (scanS s 6 (i + 1) 0).1 = m := by rw [← hsc']
    have p2 : (scanS s 6 (i + 1) 0).2 = a := by rw [← hsc']
    have hQ := codeS.eq_1 s i
    rw [p1, p2, if_neg (by omega)] at hQ
    refine wpL_to ⟨[(65, .c (.d (.sc (.bool (endB s i a))))), (0, .c (.d (.sc (.string s)))), (1, sint .i64 (a : Nat)), (7, sint .i64 (m : Nat))], []⟩ ?_ ?_
    · by_cases k1 : a = i + 1
      · have k1' : ((a : Int) = ((i + 1 : Nat) : Int)) = True := eq_true (by omega)
        refine wpL_region Tryd.tyOk (by decide) ?_
        simp only [go_sem, ↓reduceIte, Nat.reduceEqDiff, Nat.reduceAdd, Nat.reduceLeDiff, Nat.reduceMul, Nat.reducePow, Nat.reduceLT, Nat.reduceSub, Int.reduceEq, Int.reduceLT, Int.reduceLE, Int.reduceNeg, Int.reduceToNat, Int.cast_ofNat_Int, k1', decide_true, decide_false]
        refine le_mk ?_ ?_ ?_ <;> (simp only [go_sem, ↓reduceIte, Nat.reduceEqDiff]; try simp [eInt, eRune, eByte, eStr, rBool, rInt, rStr, rTwo, rTrip, eInt, endB, k1]; try simp (disch := omega) only [IntWalk.i64_in, and_self])
      have k1' : ((a : Int) = ((i + 1 : Nat) : Int)) = False := eq_false (by omega)
      by_cases k2 : s.size ≤ a
      · have k2' : ((a : Int) ≥ (s.size : Int)) = True := eq_true (by omega)
        refine wpL_region Tryd.tyOk (by decide) ?_
        simp only [go_sem, ↓reduceIte, Nat.reduceEqDiff, Nat.reduceAdd, Nat.reduceLeDiff, Nat.reduceMul, Nat.reducePow, Nat.reduceLT, Nat.reduceSub, Int.reduceEq, Int.reduceLT, Int.reduceLE, Int.reduceNeg, Int.reduceToNat, Int.cast_ofNat_Int, k1', k2', decide_true, decide_false]
        refine le_mk ?_ ?_ ?_ <;> (simp only [go_sem, ↓reduceIte, Nat.reduceEqDiff]; try simp [eInt, eRune, eByte, eStr, rBool, rInt, rStr, rTwo, rTrip, eInt, endB, k1, k2]; try simp (disch := omega) only [IntWalk.i64_in, and_self])
      have k2' : ((a : Int) ≥ (s.size : Int)) = False := eq_false (by omega)
      have b := byte_at (s := s) (i := a) (by omega)
      have k3 : (((s.get! a).toNat : Int) = 125) = (at' s a = 125) := propext ⟨fun h => by show (s.get! a).toNat = 125; omega, fun h => by have : (s.get! a).toNat = 125 := h; omega⟩
      refine wpL_region Tryd.tyOk (by decide) ?_
      simp only [go_sem, ↓reduceIte, Nat.reduceEqDiff, Nat.reduceAdd, Nat.reduceLeDiff, Nat.reduceMul, Nat.reducePow, Nat.reduceLT, Nat.reduceSub, Int.reduceEq, Int.reduceLT, Int.reduceLE, Int.reduceNeg, Int.reduceToNat, Int.cast_ofNat_Int, k1', k2', b, k3, decide_true, decide_false]
      refine le_mk ?_ ?_ ?_ <;> (simp only [go_sem, ↓reduceIte, Nat.reduceEqDiff]; try simp [eInt, eRune, eByte, eStr, rBool, rInt, rStr, rTwo, rTrip, eInt, endB, k1, k2]; try simp (disch := omega) only [IntWalk.i64_in, and_self])
    refine wpL_cond (t := endB s i a) (by simp only [go_sem, ↓reduceIte, Nat.reduceEqDiff]) (fun he => ?_) (fun he => ?_)
    · have hh : a = i + 1 ∨ s.size ≤ a ∨ at' s a ≠ 125 := by
        simp only [endB, Bool.or_eq_true, decide_eq_true_eq, Bool.not_eq_true', decide_eq_false_iff_not] at he
        omega
      rw [if_pos hh] at hQ
      have e := miss35 s a
      try simp only [go_sem, ↓reduceIte, Nat.reduceEqDiff]
      refine wpL_region Tryd.tyOk (by decide) ?_
      simp only [go_sem, ↓reduceIte, Nat.reduceEqDiff, Nat.reduceAdd, Nat.reduceLeDiff, Nat.reduceMul, Nat.reducePow, Nat.reduceLT, Nat.reduceSub, Int.reduceEq, Int.reduceLT, Int.reduceLE, Int.reduceNeg, Int.reduceToNat, Int.cast_ofNat_Int]
      refine ⟨_, e, ?_⟩
      simp only [go_sem, ↓reduceIte, Nat.reduceEqDiff, Nat.reduceAdd, Nat.reduceLeDiff, Nat.reduceMul, Nat.reducePow, Nat.reduceLT, Nat.reduceSub, Int.reduceEq, Int.reduceLT, Int.reduceLE, Int.reduceNeg, Int.reduceToNat, Int.cast_ofNat_Int]
      refine wpL_ret ?_
      rw [← hBQ]
      try simp only [go_sem, ↓reduceIte, Nat.reduceEqDiff]
      rw [hQ]
      exact ⟨rfl, rfl, rfl⟩
    have hh : ¬ (a = i + 1 ∨ s.size ≤ a ∨ at' s a ≠ 125) := by
      simp only [endB, Bool.or_eq_false_iff, decide_eq_false_iff_not, Bool.not_eq_false', decide_eq_true_eq] at he
      omega
    rw [if_neg hh] at hQ
    have er := is21 m
    try simp only [go_sem, ↓reduceIte, Nat.reduceEqDiff]
    refine wpL_skip ?_
    refine wpL_region Tryd.tyOk (by decide) ?_
    simp only [go_sem, ↓reduceIte, Nat.reduceEqDiff, Nat.reduceAdd, Nat.reduceLeDiff, Nat.reduceMul, Nat.reducePow, Nat.reduceLT, Nat.reduceSub, Int.reduceEq, Int.reduceLT, Int.reduceLE, Int.reduceNeg, Int.reduceToNat, Int.cast_ofNat_Int]
    refine ⟨_, er, ?_⟩
    simp only [go_sem, ↓reduceIte, Nat.reduceEqDiff, Nat.reduceAdd, Nat.reduceLeDiff, Nat.reduceMul, Nat.reducePow, Nat.reduceLT, Nat.reduceSub, Int.reduceEq, Int.reduceLT, Int.reduceLE, Int.reduceNeg, Int.reduceToNat, Int.cast_ofNat_Int]
    have wa : IntKind.i64.wrap ((a : Int) + 1) = ((a + 1 : Nat) : Int) := by rw [w64 (by omega) (by omega)]; omega
    have wm : IntKind.i32.wrap (m : Int) = (m : Int) := by simp (disch := omega) only [IntKind.wrap_i32]; omega
    cases hr : isR (m : Int) with
    | false =>
      refine wpL_cond (t := true) (by simp only [go_sem, ↓reduceIte, Nat.reduceEqDiff, hr]) (fun _ => ?_) (fun h => Bool.noConfusion h)
      rw [hr, if_neg (by simp)] at hQ
      try simp only [go_sem, ↓reduceIte, Nat.reduceEqDiff]
      refine wpL_region Tryd.tyOk (by decide) ?_
      simp only [go_sem, ↓reduceIte, Nat.reduceEqDiff, Nat.reduceAdd, Nat.reduceLeDiff, Nat.reduceMul, Nat.reducePow, Nat.reduceLT, Nat.reduceSub, Int.reduceEq, Int.reduceLT, Int.reduceLE, Int.reduceNeg, Int.reduceToNat, Int.cast_ofNat_Int]
      refine wpL_ret ?_
      rw [← hBQ]
      try simp only [go_sem, ↓reduceIte, Nat.reduceEqDiff]
      rw [hQ]
      exact ⟨rfl, rfl, rfl⟩
    | true =>
      refine wpL_cond (t := false) (by simp only [go_sem, ↓reduceIte, Nat.reduceEqDiff, hr]) (fun h => Bool.noConfusion h) (fun _ => ?_)
      rw [hr, if_pos rfl] at hQ
      try simp only [go_sem, ↓reduceIte, Nat.reduceEqDiff]
      refine wpL_skip ?_
      refine wpL_region Tryd.tyOk (by decide) ?_
      simp only [go_sem, ↓reduceIte, Nat.reduceEqDiff, Nat.reduceAdd, Nat.reduceLeDiff, Nat.reduceMul, Nat.reducePow, Nat.reduceLT, Nat.reduceSub, Int.reduceEq, Int.reduceLT, Int.reduceLE, Int.reduceNeg, Int.reduceToNat, Int.cast_ofNat_Int, wm, wa]
      refine wpL_ret ?_
      rw [← hBQ]
      try simp only [go_sem, ↓reduceIte, Nat.reduceEqDiff]
      rw [hQ]
      exact ⟨rfl, rfl, rfl⟩
end Go.Proofs.YtldgcpdpebhndaaDoor
