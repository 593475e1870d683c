/-
  Types: membership; the type of an array; equality.  (printed by gen16.py)
-/
import Derived.Test.YtkkkdfhnpamnkaaDoorW15
import Derived.Test.YtkkkdfhnpamnkaaDoorAbsZB
set_option linter.unusedSimpArgs false
set_option linter.unusedVariables false
set_option maxRecDepth 100000
set_option maxHeartbeats 4000000
namespace Go.Proofs.YtkkkdfhnpamnkaaDoor
open Go.Abs Go

def wholeT (x : Arr) : Ty := ⟨bitS x.kind, x.shape.length, x.shape, [x]⟩
theorem bit_small (k : Int) : 2 ≤ bitS k ∧ bitS k ≤ 8 := by unfold bitS; split; · omega
                                                            split <;> omega
theorem good_whole {x : Arr} (hF : Fine x) : GoodT (wholeT x) := by
  have h := bit_small x.kind
  have hl := hF.lens.1
  refine ⟨hl, by simp [wholeT], fun a ha => ?_, ⟨?_, ?_⟩, ⟨?_, ?_⟩⟩
  · simp only [wholeT, List.mem_singleton] at ha; rw [ha]; exact hF
  · show -9223372036854775808 ≤ bitS x.kind; omega
  · show bitS x.kind ≤ 9223372036854775807; omega
  · show -9223372036854775808 ≤ (x.shape.length : Int); omega
  · show (x.shape.length : Int) ≤ 9223372036854775807; omega
theorem whole45 (x : Arr) : Gives Tryd.prog 45 [.agg (eArr x)] (rTy (wholeT x)) := by
  rw [eArr_eq x]
  refine Gives.intro Tryd.tyOk Tryd.func45 (by kernel_rfl) rfl (by simp [Tryd.ntmps45]) ?_
  simp only [go_sem, ↓reduceIte, Nat.reduceEqDiff, Nat.reduceAdd, Nat.reduceLeDiff, Nat.reduceMul, Nat.reducePow, Nat.reduceLT, Nat.reduceSub, Int.reduceEq, Int.reduceLT, Int.reduceLE, Int.reduceNeg, Int.reduceToNat, Int.cast_ofNat_Int]
  simp only [Tryd.ntmps45, Tryd.results45, eInt, eStr, rBool, rInt, rStr, rTwo, rThree, eTy, rTy, List.map_cons, List.map_nil]
  generalize hBQ : retQ _ _ _ = BQ
  refine wpL_region Tryd.tyOk (by decide) ?_
  simp only [go_sem, ↓reduceIte, Nat.reduceEqDiff, Nat.reduceAdd, Nat.reduceLeDiff, Nat.reduceMul, Nat.reducePow, Nat.reduceLT, Nat.reduceSub, Int.reduceEq, Int.reduceLT, Int.reduceLE, Int.reduceNeg, Int.reduceToNat, Int.cast_ofNat_Int]
  refine wpL_draw Tryd.tyOk (by kernel_rfl) 11 (by decide) (by decide) ?_
  simp only [go_sem, ↓reduceIte, Nat.reduceEqDiff, Nat.reduceAdd, Nat.reduceLeDiff, Nat.reduceMul, Nat.reducePow, Nat.reduceLT, Nat.reduceSub, Int.reduceEq, Int.reduceLT, Int.reduceLE, Int.reduceNeg, Int.reduceToNat, Int.cast_ofNat_Int, eInts_len]
  refine ⟨_, bit35 x.kind, ?_⟩
  simp only [go_sem, ↓reduceIte, Nat.reduceEqDiff, Nat.reduceAdd, Nat.reduceLeDiff, Nat.reduceMul, Nat.reducePow, Nat.reduceLT, Nat.reduceSub, Int.reduceEq, Int.reduceLT, Int.reduceLE, Int.reduceNeg, Int.reduceToNat, Int.cast_ofNat_Int, eInts_len]
  refine wpL_ret ?_
  rw [← hBQ]
  try simp only [go_sem, ↓reduceIte, Nat.reduceEqDiff, Nat.reduceAdd, Nat.reduceLeDiff, Nat.reduceMul, Nat.reducePow, Nat.reduceLT, Nat.reduceSub, Int.reduceEq, Int.reduceLT, Int.reduceLE, Int.reduceNeg, Int.reduceToNat, Int.cast_ofNat_Int]
  simp [wholeT, eArr_eq x]
  rfl
def hasS (t : Ty) (x : Arr) : Bool := rightT t && (decide ((chk x).1 = 0) && belowS (wholeT x) t)
theorem has20 (t : Ty) (x : Arr) (hT : GoodT t) (hF : Fine x) : Gives Tryd.prog 20 [.agg (eTy t), .agg (eArr x)] (rBool (hasS t x)) := by
  have e1 := right19 t hT
  have e2 := Right17 x hF
  have e3 := whole45 x
  have hw := good_whole hF
  have hb := bit_small x.kind
  rw [eArr_eq] at e2 e3 ⊢
  refine Gives.intro Tryd.tyOk Tryd.func20 (by kernel_rfl) rfl (by simp [Tryd.ntmps20]) ?_
  simp only [go_sem, ↓reduceIte, Nat.reduceEqDiff, Nat.reduceAdd, Nat.reduceLeDiff, Nat.reduceMul, Nat.reducePow, Nat.reduceLT, Nat.reduceSub, Int.reduceEq, Int.reduceLT, Int.reduceLE, Int.reduceNeg, Int.reduceToNat, Int.cast_ofNat_Int]
  simp only [Tryd.ntmps20, Tryd.results20, eInt, eStr, rBool, rInt, rStr, rTwo, rThree, eTy, rTy, List.map_cons, List.map_nil]
  generalize hBQ : retQ _ _ _ = BQ
  refine wpL_region Tryd.tyOk (by decide) ?_
  simp only [go_sem, ↓reduceIte, Nat.reduceEqDiff, Nat.reduceAdd, Nat.reduceLeDiff, Nat.reduceMul, Nat.reducePow, Nat.reduceLT, Nat.reduceSub, Int.reduceEq, Int.reduceLT, Int.reduceLE, Int.reduceNeg, Int.reduceToNat, Int.cast_ofNat_Int]
  refine wpL_draw Tryd.tyOk (by kernel_rfl) 13 (by decide) (by decide) ?_
  simp only [go_sem, ↓reduceIte, Nat.reduceEqDiff, Nat.reduceAdd, Nat.reduceLeDiff, Nat.reduceMul, Nat.reducePow, Nat.reduceLT, Nat.reduceSub, Int.reduceEq, Int.reduceLT, Int.reduceLE, Int.reduceNeg, Int.reduceToNat, Int.cast_ofNat_Int]
  refine ⟨_, e1, ?_⟩
  cases c1 : rightT t
  · simp only [go_sem, ↓reduceIte, Nat.reduceEqDiff, Nat.reduceAdd, Nat.reduceLeDiff, Nat.reduceMul, Nat.reducePow, Nat.reduceLT, Nat.reduceSub, Int.reduceEq, Int.reduceLT, Int.reduceLE, Int.reduceNeg, Int.reduceToNat, Int.cast_ofNat_Int]
    refine wpL_ret ?_
    rw [← hBQ]
    try simp only [go_sem, ↓reduceIte, Nat.reduceEqDiff, Nat.reduceAdd, Nat.reduceLeDiff, Nat.reduceMul, Nat.reducePow, Nat.reduceLT, Nat.reduceSub, Int.reduceEq, Int.reduceLT, Int.reduceLE, Int.reduceNeg, Int.reduceToNat, Int.cast_ofNat_Int]
    simp [hasS, c1]
  simp only [go_sem, ↓reduceIte, Nat.reduceEqDiff, Nat.reduceAdd, Nat.reduceLeDiff, Nat.reduceMul, Nat.reducePow, Nat.reduceLT, Nat.reduceSub, Int.reduceEq, Int.reduceLT, Int.reduceLE, Int.reduceNeg, Int.reduceToNat, Int.cast_ofNat_Int]
  refine ⟨_, e2, ?_⟩
  by_cases c2 : (chk x).1 = 0
  case neg =>
    simp only [go_sem, ↓reduceIte, Nat.reduceEqDiff, Nat.reduceAdd, Nat.reduceLeDiff, Nat.reduceMul, Nat.reducePow, Nat.reduceLT, Nat.reduceSub, Int.reduceEq, Int.reduceLT, Int.reduceLE, Int.reduceNeg, Int.reduceToNat, Int.cast_ofNat_Int, c2, decide_false, decide_true, Ne, not_true_eq_false, not_false_eq_true, Bool.not_true, Bool.not_false]
    refine wpL_ret ?_
    rw [← hBQ]
    try simp only [go_sem, ↓reduceIte, Nat.reduceEqDiff, Nat.reduceAdd, Nat.reduceLeDiff, Nat.reduceMul, Nat.reducePow, Nat.reduceLT, Nat.reduceSub, Int.reduceEq, Int.reduceLT, Int.reduceLE, Int.reduceNeg, Int.reduceToNat, Int.cast_ofNat_Int]
    simp [hasS, c1, c2]
  simp only [go_sem, ↓reduceIte, Nat.reduceEqDiff, Nat.reduceAdd, Nat.reduceLeDiff, Nat.reduceMul, Nat.reducePow, Nat.reduceLT, Nat.reduceSub, Int.reduceEq, Int.reduceLT, Int.reduceLE, Int.reduceNeg, Int.reduceToNat, Int.cast_ofNat_Int, c2, decide_false, decide_true, Ne, not_true_eq_false, not_false_eq_true, Bool.not_true, Bool.not_false]
  refine ⟨_, e3, ?_⟩
  simp only [go_sem, ↓reduceIte, Nat.reduceEqDiff, Nat.reduceAdd, Nat.reduceLeDiff, Nat.reduceMul, Nat.reducePow, Nat.reduceLT, Nat.reduceSub, Int.reduceEq, Int.reduceLT, Int.reduceLE, Int.reduceNeg, Int.reduceToNat, Int.cast_ofNat_Int]
  obtain ⟨q1, q2, q3, q4, _⟩ := right_parts c1
  refine ⟨_, below44 (wholeT x) t hw hT (by show 0 ≤ bitS x.kind; omega) (k7_pos q1) (by show (x.shape.length : Int) = max (x.shape.length : Int) 0; omega) q4 q2, ?_⟩
  simp only [go_sem, ↓reduceIte, Nat.reduceEqDiff, Nat.reduceAdd, Nat.reduceLeDiff, Nat.reduceMul, Nat.reducePow, Nat.reduceLT, Nat.reduceSub, Int.reduceEq, Int.reduceLT, Int.reduceLE, Int.reduceNeg, Int.reduceToNat, Int.cast_ofNat_Int]
  refine wpL_ret ?_
  rw [← hBQ]
  try simp only [go_sem, ↓reduceIte, Nat.reduceEqDiff, Nat.reduceAdd, Nat.reduceLeDiff, Nat.reduceMul, Nat.reducePow, Nat.reduceLT, Nat.reduceSub, Int.reduceEq, Int.reduceLT, Int.reduceLE, Int.reduceNeg, Int.reduceToNat, Int.cast_ofNat_Int]
  simp [hasS, c1, c2]
theorem and_bit {a k : Int} (ha : K7 a) (hk : k = 1 ∨ k = 2 ∨ k = 3) : IntKind.i64.wrap ((BitVec.ofInt IntKind.i64.bits a &&& BitVec.ofInt IntKind.i64.bits (bitS k)).toNat : Int) = 0 ↔ kb (bitS k) a = false := by
  unfold K7 at ha
  rcases ha with rfl | rfl | rfl | rfl | rfl | rfl | rfl <;> rcases hk with rfl | rfl | rfl <;> decide
theorem chk_kind {x : Arr} (h : (chk x).1 = 0) : x.kind = 1 ∨ x.kind = 2 ∨ x.kind = 3 := by
  rw [chk_eq] at h
  split at h
  · rename_i h1; exact absurd h h1
  · rename_i h1; exact (form_zero (by simpa using h1)).1
theorem has15 (t : Ty) (x : Arr) (hT : GoodT t) (hF : Fine x) : Gives Tryd.prog 15 [.agg (eTy t), .agg (eArr x)] (rBool (hasS t x)) := by
  have e1 := right18 t hT
  have e2 := right30 x hF
  obtain ⟨a1, a2, a3, ⟨a4, a5⟩, a6, a7⟩ := hT
  obtain ⟨b1, b2, b3⟩ := hF.lens
  rw [eArr_eq] at e2 ⊢
  refine Gives.intro Tryd.tyOk Tryd.func15 (by kernel_rfl) rfl (by simp [Tryd.ntmps15]) ?_
  simp only [go_sem, ↓reduceIte, Nat.reduceEqDiff, Nat.reduceAdd, Nat.reduceLeDiff, Nat.reduceMul, Nat.reducePow, Nat.reduceLT, Nat.reduceSub, Int.reduceEq, Int.reduceLT, Int.reduceLE, Int.reduceNeg, Int.reduceToNat, Int.cast_ofNat_Int]
  simp only [Tryd.ntmps15, Tryd.results15, eInt, eStr, rBool, rInt, rStr, rTwo, rThree, eTy, rTy, List.map_cons, List.map_nil]
  generalize hBQ : retQ _ _ _ = BQ
  refine wpL_region Tryd.tyOk (by decide) ?_
  simp only [go_sem, ↓reduceIte, Nat.reduceEqDiff, Nat.reduceAdd, Nat.reduceLeDiff, Nat.reduceMul, Nat.reducePow, Nat.reduceLT, Nat.reduceSub, Int.reduceEq, Int.reduceLT, Int.reduceLE, Int.reduceNeg, Int.reduceToNat, Int.cast_ofNat_Int]
  refine wpL_to ⟨[(36, .c (.d (.sc (.bool (!(rightT t && (decide ((chk x).1 = 0) && (kb (bitS x.kind) t.kinds && (decide (t.rank = -1) || decide ((x.shape.length : Int) = t.rank))))))))) ), (2, .c (.ptr 2 0)), (3, .c (.ptr 3 0))], [(2, .box 30 [.d (eInt t.kinds), .d (eInt t.rank), .d (.sl (eInts t.dims)), .d (.sl (t.known.map eArr))]), (3, .box 26 [.d (eInt x.kind), .d (.sl (eInts x.shape)), .d (.sl (eInts x.nums)), .d (.sl (x.items.map eArr))])]⟩ ?_ ?_
  · refine wpL_draw Tryd.tyOk (by kernel_rfl) 30 (by decide) (by decide) ?_
    simp only [go_sem, ↓reduceIte, Nat.reduceEqDiff, Nat.reduceAdd, Nat.reduceLeDiff, Nat.reduceMul, Nat.reducePow, Nat.reduceLT, Nat.reduceSub, Int.reduceEq, Int.reduceLT, Int.reduceLE, Int.reduceNeg, Int.reduceToNat, Int.cast_ofNat_Int]
    refine ⟨_, e1, ?_⟩
    cases c1 : rightT t
    · simp only [go_sem, ↓reduceIte, Nat.reduceEqDiff, Nat.reduceAdd, Nat.reduceLeDiff, Nat.reduceMul, Nat.reducePow, Nat.reduceLT, Nat.reduceSub, Int.reduceEq, Int.reduceLT, Int.reduceLE, Int.reduceNeg, Int.reduceToNat, Int.cast_ofNat_Int, decide_false, decide_true, Ne, not_true_eq_false, not_false_eq_true, Bool.not_true, Bool.not_false]
      refine le_mk ?_ ?_ ?_ <;> (simp only [go_sem, ↓reduceIte, Nat.reduceEqDiff]; try simp [eInt, eStr, rBool, rInt, rStr, rTwo, rThree, eTy, rTy, eInts, c1]; try simp (disch := omega) only [IntWalk.i64_in, and_self])
    simp only [go_sem, ↓reduceIte, Nat.reduceEqDiff, Nat.reduceAdd, Nat.reduceLeDiff, Nat.reduceMul, Nat.reducePow, Nat.reduceLT, Nat.reduceSub, Int.reduceEq, Int.reduceLT, Int.reduceLE, Int.reduceNeg, Int.reduceToNat, Int.cast_ofNat_Int, decide_false, decide_true, Ne, not_true_eq_false, not_false_eq_true, Bool.not_true, Bool.not_false]
    obtain ⟨q1, q2, q3, q4, _⟩ := right_parts c1
    refine ⟨_, e2, ?_⟩
    by_cases c2 : (chk x).1 = 0
    case neg =>
      simp only [go_sem, ↓reduceIte, Nat.reduceEqDiff, Nat.reduceAdd, Nat.reduceLeDiff, Nat.reduceMul, Nat.reducePow, Nat.reduceLT, Nat.reduceSub, Int.reduceEq, Int.reduceLT, Int.reduceLE, Int.reduceNeg, Int.reduceToNat, Int.cast_ofNat_Int, c2, decide_false, decide_true, Ne, not_true_eq_false, not_false_eq_true, Bool.not_true, Bool.not_false]
      refine le_mk ?_ ?_ ?_ <;> (simp only [go_sem, ↓reduceIte, Nat.reduceEqDiff]; try simp [eInt, eStr, rBool, rInt, rStr, rTwo, rThree, eTy, rTy, eInts, c1, c2]; try simp (disch := omega) only [IntWalk.i64_in, and_self])
    have hkind := (chk_kind c2)
    have hr := and_bit (a := t.kinds) (k := x.kind) q1 hkind
    simp only [go_sem] at hr
    simp only [go_sem, ↓reduceIte, Nat.reduceEqDiff, Nat.reduceAdd, Nat.reduceLeDiff, Nat.reduceMul, Nat.reducePow, Nat.reduceLT, Nat.reduceSub, Int.reduceEq, Int.reduceLT, Int.reduceLE, Int.reduceNeg, Int.reduceToNat, Int.cast_ofNat_Int, c2, decide_false, decide_true, Ne, not_true_eq_false, not_false_eq_true, Bool.not_true, Bool.not_false]
    refine ⟨_, bit30 x.kind hkind, ?_⟩
    cases c3 : kb (bitS x.kind) t.kinds
    · have hr' := hr.2 c3
      simp only [go_sem, ↓reduceIte, Nat.reduceEqDiff, Nat.reduceAdd, Nat.reduceLeDiff, Nat.reduceMul, Nat.reducePow, Nat.reduceLT, Nat.reduceSub, Int.reduceEq, Int.reduceLT, Int.reduceLE, Int.reduceNeg, Int.reduceToNat, Int.cast_ofNat_Int, hr', decide_false, decide_true, Ne, not_true_eq_false, not_false_eq_true, Bool.not_true, Bool.not_false]
      refine le_mk ?_ ?_ ?_ <;> (simp only [go_sem, ↓reduceIte, Nat.reduceEqDiff]; try simp [eInt, eStr, rBool, rInt, rStr, rTwo, rThree, eTy, rTy, eInts, c1, c2, c3]; try simp (disch := omega) only [IntWalk.i64_in, and_self])
    have hr' := mt hr.1 (by rw [c3]; exact Bool.noConfusion)
    by_cases c4 : t.rank ≥ 0
    case neg =>
      have h4 : t.rank = -1 := by omega
      simp only [go_sem, ↓reduceIte, Nat.reduceEqDiff, Nat.reduceAdd, Nat.reduceLeDiff, Nat.reduceMul, Nat.reducePow, Nat.reduceLT, Nat.reduceSub, Int.reduceEq, Int.reduceLT, Int.reduceLE, Int.reduceNeg, Int.reduceToNat, Int.cast_ofNat_Int, hr', c4, decide_false, decide_true, Ne, not_true_eq_false, not_false_eq_true, Bool.not_true, Bool.not_false]
      refine le_mk ?_ ?_ ?_ <;> (simp only [go_sem, ↓reduceIte, Nat.reduceEqDiff]; try simp [eInt, eStr, rBool, rInt, rStr, rTwo, rThree, eTy, rTy, eInts, c1, c2, c3, h4]; try simp (disch := omega) only [IntWalk.i64_in, and_self])
    have h4 : ¬ t.rank = -1 := by omega
    by_cases c5 : t.rank = x.shape.length
    · have c5' : (x.shape.length : Int) = t.rank := c5.symm
      simp only [go_sem, ↓reduceIte, Nat.reduceEqDiff, Nat.reduceAdd, Nat.reduceLeDiff, Nat.reduceMul, Nat.reducePow, Nat.reduceLT, Nat.reduceSub, Int.reduceEq, Int.reduceLT, Int.reduceLE, Int.reduceNeg, Int.reduceToNat, Int.cast_ofNat_Int, hr', c4, eInts_len, eq_true c5, decide_false, decide_true, Ne, not_true_eq_false, not_false_eq_true, Bool.not_true, Bool.not_false]
      refine le_mk ?_ ?_ ?_ <;> (simp only [go_sem, ↓reduceIte, Nat.reduceEqDiff]; try simp [eInt, eStr, rBool, rInt, rStr, rTwo, rThree, eTy, rTy, eInts, c1, c2, c3, h4, eq_true c5']; try simp (disch := omega) only [IntWalk.i64_in, and_self])
    · have c5' : ¬ (x.shape.length : Int) = t.rank := fun h => c5 h.symm
      simp only [go_sem, ↓reduceIte, Nat.reduceEqDiff, Nat.reduceAdd, Nat.reduceLeDiff, Nat.reduceMul, Nat.reducePow, Nat.reduceLT, Nat.reduceSub, Int.reduceEq, Int.reduceLT, Int.reduceLE, Int.reduceNeg, Int.reduceToNat, Int.cast_ofNat_Int, hr', c4, eInts_len, c5, decide_false, decide_true, Ne, not_true_eq_false, not_false_eq_true, Bool.not_true, Bool.not_false]
      refine le_mk ?_ ?_ ?_ <;> (simp only [go_sem, ↓reduceIte, Nat.reduceEqDiff]; try simp [eInt, eStr, rBool, rInt, rStr, rTwo, rThree, eTy, rTy, eInts, c1, c2, c3, h4, c5']; try simp (disch := omega) only [IntWalk.i64_in, and_self])
  try simp only [go_sem, ↓reduceIte, Nat.reduceEqDiff]
  cases hh : (rightT t && (decide ((chk x).1 = 0) && (kb (bitS x.kind) t.kinds && (decide (t.rank = -1) || decide ((x.shape.length : Int) = t.rank)))))
  · refine wpL_cond (t := true) (by simp only [go_sem, ↓reduceIte, Nat.reduceEqDiff, hh, Bool.not_false]) (fun _ => ?_) (fun h => Bool.noConfusion h)
    try simp only [go_sem, ↓reduceIte, Nat.reduceEqDiff]
    refine wpL_region Tryd.tyOk (by decide) ?_
    simp only [go_sem, ↓reduceIte, Nat.reduceEqDiff, Nat.reduceAdd, Nat.reduceLeDiff, Nat.reduceMul, Nat.reducePow, Nat.reduceLT, Nat.reduceSub, Int.reduceEq, Int.reduceLT, Int.reduceLE, Int.reduceNeg, Int.reduceToNat, Int.cast_ofNat_Int]
    refine wpL_ret ?_
    rw [← hBQ]
    try simp only [go_sem, ↓reduceIte, Nat.reduceEqDiff, Nat.reduceAdd, Nat.reduceLeDiff, Nat.reduceMul, Nat.reducePow, Nat.reduceLT, Nat.reduceSub, Int.reduceEq, Int.reduceLT, Int.reduceLE, Int.reduceNeg, Int.reduceToNat, Int.cast_ofNat_Int]
    have hs : hasS t x = false := by
      unfold hasS belowS wholeT
      revert hh
      simp only
      cases rightT t <;> cases decide ((chk x).1 = 0) <;> cases kb (bitS x.kind) t.kinds <;> cases (decide (t.rank = -1) || decide ((x.shape.length : Int) = t.rank)) <;> simp
    rw [hs]
  refine wpL_cond (t := false) (by simp only [go_sem, ↓reduceIte, Nat.reduceEqDiff, hh, Bool.not_true]) (fun h => Bool.noConfusion h) (fun _ => ?_)
  simp only [Bool.and_eq_true] at hh
  obtain ⟨c1, c2, c3, hr⟩ := hh
  obtain ⟨q1, q2, q3, q4, q5, q6, _⟩ := right_parts c1
  have hspec : hasS t x = (dB x.shape t.dims && kB [x] t.known) := by
    unfold hasS belowS wholeT; simp only; rw [c1, c2, c3, hr]; rfl
  have hlen : t.dims.length ≤ x.shape.length := by
    simp only [Bool.or_eq_true, decide_eq_true_eq] at hr
    rcases hr with h | h <;> omega
  try simp only [go_sem, ↓reduceIte, Nat.reduceEqDiff]
  refine wpL_skip ?_
  refine wpL_region Tryd.tyOk (by decide) ?_
  simp only [go_sem, ↓reduceIte, Nat.reduceEqDiff, Nat.reduceAdd, Nat.reduceLeDiff, Nat.reduceMul, Nat.reducePow, Nat.reduceLT, Nat.reduceSub, Int.reduceEq, Int.reduceLT, Int.reduceLE, Int.reduceNeg, Int.reduceToNat, Int.cast_ofNat_Int, eInts_len]
  refine wpL_block ?_
  generalize hB0 : blockQ _ _ _ = B0
  simp only [go_sem, ↓reduceIte, Nat.reduceEqDiff]
  refine wpL_loop (fun n s => ∃ j : Nat, j ≤ t.dims.length ∧ n = t.dims.length - j ∧ dB x.shape t.dims = dB (x.shape.drop j) (t.dims.drop j) ∧ s = ⟨[(40, sint .i64 j), (39, sint .i64 t.dims.length), (38, .c (.d (.sl (eInts t.dims)))), (2, .c (.ptr 2 0)), (3, .c (.ptr 3 0))], [(2, .box 30 [.d (eInt t.kinds), .d (eInt t.rank), .d (.sl (eInts t.dims)), .d (.sl (t.known.map eArr))]), (3, .box 26 [.d (eInt x.kind), .d (.sl (eInts x.shape)), .d (.sl (eInts x.nums)), .d (.sl (x.items.map eArr))])]⟩) ?_ ?_
  · refine ⟨_, _, ⟨0, by omega, rfl, rfl, rfl⟩, ?_⟩
    refine le_mk ?_ ?_ ?_ <;> (simp only [go_sem, ↓reduceIte, Nat.reduceEqDiff]; try simp [eInt, eStr, rBool, rInt, rStr, rTwo, rThree, eTy, rTy, eInts]; try simp (disch := omega) only [IntWalk.i64_in, and_self])
  rintro n s ⟨j, hj, rfl, hpre, rfl⟩
  simp only [go_sem, ↓reduceIte, Nat.reduceEqDiff, Nat.reduceAdd, Nat.reduceLeDiff, Nat.reduceMul, Nat.reducePow, Nat.reduceLT, Nat.reduceSub, Int.reduceEq, Int.reduceLT, Int.reduceLE, Int.reduceNeg, Int.reduceToNat, Int.cast_ofNat_Int]
  refine wpL_region Tryd.tyOk (by decide) ?_
  simp only [go_sem, ↓reduceIte, Nat.reduceEqDiff, Nat.reduceAdd, Nat.reduceLeDiff, Nat.reduceMul, Nat.reducePow, Nat.reduceLT, Nat.reduceSub, Int.reduceEq, Int.reduceLT, Int.reduceLE, Int.reduceNeg, Int.reduceToNat, Int.cast_ofNat_Int]
  refine wpL_cond (t := decide ((j : Int) < t.dims.length)) (by simp only [go_sem, ↓reduceIte, Nat.reduceEqDiff]) (fun hlt => ?_) (fun hge => ?_)
  · have hlt := lt_of hlt
    obtain ⟨d, hd⟩ := get_ex (l := t.dims) (i := j) (by omega)
    obtain ⟨c, hc⟩ := get_ex (l := x.shape) (i := j) (by omega)
    have hdm := q6 d (List.mem_of_getElem? hd)
    rw [drop_get hd, drop_get hc] at hpre
    have hpre2 : dB x.shape t.dims = ((decide (d = -1) || decide (c = d)) && dB (x.shape.drop (j + 1)) (t.dims.drop (j + 1))) := hpre
    simp only [go_sem, ↓reduceIte, Nat.reduceEqDiff, Nat.reduceAdd, Nat.reduceLeDiff, Nat.reduceMul, Nat.reducePow, Nat.reduceLT, Nat.reduceSub, Int.reduceEq, Int.reduceLT, Int.reduceLE, Int.reduceNeg, Int.reduceToNat, Int.cast_ofNat_Int]
    refine wpL_skip ?_
    refine wpL_block ?_
    generalize hB1 : blockQ _ _ _ = B1
    simp only [go_sem, ↓reduceIte, Nat.reduceEqDiff]
    refine wpL_region Tryd.tyOk (by decide) ?_
    simp only [go_sem, ↓reduceIte, Nat.reduceEqDiff, Nat.reduceAdd, Nat.reduceLeDiff, Nat.reduceMul, Nat.reducePow, Nat.reduceLT, Nat.reduceSub, Int.reduceEq, Int.reduceLT, Int.reduceLE, Int.reduceNeg, Int.reduceToNat, Int.cast_ofNat_Int, eInts_get hd]
    refine wpL_to ⟨[(55, .c (.d (.sc (.bool (!(decide (d = -1) || decide (c = d))))))), (40, sint .i64 j), (39, sint .i64 t.dims.length), (38, .c (.d (.sl (eInts t.dims)))), (2, .c (.ptr 2 0)), (3, .c (.ptr 3 0))], [(2, .box 30 [.d (eInt t.kinds), .d (eInt t.rank), .d (.sl (eInts t.dims)), .d (.sl (t.known.map eArr))]), (3, .box 26 [.d (eInt x.kind), .d (.sl (eInts x.shape)), .d (.sl (eInts x.nums)), .d (.sl (x.items.map eArr))])]⟩ ?_ ?_
    · by_cases c1 : d ≥ 0
      case neg =>
        have h1 : d = -1 := by omega
        refine wpL_region Tryd.tyOk (by decide) ?_
        simp only [go_sem, ↓reduceIte, Nat.reduceEqDiff, Nat.reduceAdd, Nat.reduceLeDiff, Nat.reduceMul, Nat.reducePow, Nat.reduceLT, Nat.reduceSub, Int.reduceEq, Int.reduceLT, Int.reduceLE, Int.reduceNeg, Int.reduceToNat, Int.cast_ofNat_Int, c1, decide_false, decide_true, Ne, not_true_eq_false, not_false_eq_true, Bool.not_true, Bool.not_false]
        refine le_mk ?_ ?_ ?_ <;> (simp only [go_sem, ↓reduceIte, Nat.reduceEqDiff]; try simp [eInt, eStr, rBool, rInt, rStr, rTwo, rThree, eTy, rTy, eInts, h1]; try simp (disch := omega) only [IntWalk.i64_in, and_self])
      have h1 : ¬ d = -1 := by omega
      by_cases c2 : d = c
      · refine wpL_region Tryd.tyOk (by decide) ?_
        simp only [go_sem, ↓reduceIte, Nat.reduceEqDiff, Nat.reduceAdd, Nat.reduceLeDiff, Nat.reduceMul, Nat.reducePow, Nat.reduceLT, Nat.reduceSub, Int.reduceEq, Int.reduceLT, Int.reduceLE, Int.reduceNeg, Int.reduceToNat, Int.cast_ofNat_Int, c1, eInts_get hc, eq_true c2, decide_false, decide_true, Ne, not_true_eq_false, not_false_eq_true, Bool.not_true, Bool.not_false]
        refine le_mk ?_ ?_ ?_ <;> (simp only [go_sem, ↓reduceIte, Nat.reduceEqDiff]; try simp [eInt, eStr, rBool, rInt, rStr, rTwo, rThree, eTy, rTy, eInts, h1, c2]; try simp (disch := omega) only [IntWalk.i64_in, and_self])
      · have c2' : ¬ c = d := fun h => c2 h.symm
        refine wpL_region Tryd.tyOk (by decide) ?_
        simp only [go_sem, ↓reduceIte, Nat.reduceEqDiff, Nat.reduceAdd, Nat.reduceLeDiff, Nat.reduceMul, Nat.reducePow, Nat.reduceLT, Nat.reduceSub, Int.reduceEq, Int.reduceLT, Int.reduceLE, Int.reduceNeg, Int.reduceToNat, Int.cast_ofNat_Int, c1, eInts_get hc, c2, decide_false, decide_true, Ne, not_true_eq_false, not_false_eq_true, Bool.not_true, Bool.not_false]
        refine le_mk ?_ ?_ ?_ <;> (simp only [go_sem, ↓reduceIte, Nat.reduceEqDiff]; try simp [eInt, eStr, rBool, rInt, rStr, rTwo, rThree, eTy, rTy, eInts, h1, c2']; try simp (disch := omega) only [IntWalk.i64_in, and_self])
    try simp only [go_sem, ↓reduceIte, Nat.reduceEqDiff]
    cases ho : (decide (d = -1) || decide (c = d))
    · rw [ho, Bool.false_and] at hpre2
      refine wpL_cond (t := true) (by simp only [go_sem, ↓reduceIte, Nat.reduceEqDiff, ho, Bool.not_false]) (fun _ => ?_) (fun h => Bool.noConfusion h)
      try simp only [go_sem, ↓reduceIte, Nat.reduceEqDiff]
      refine wpL_region Tryd.tyOk (by decide) ?_
      simp only [go_sem, ↓reduceIte, Nat.reduceEqDiff, Nat.reduceAdd, Nat.reduceLeDiff, Nat.reduceMul, Nat.reducePow, Nat.reduceLT, Nat.reduceSub, Int.reduceEq, Int.reduceLT, Int.reduceLE, Int.reduceNeg, Int.reduceToNat, Int.cast_ofNat_Int]
      refine wpL_ret ?_
      rw [← hB1]
      try simp only [go_sem, ↓reduceIte, Nat.reduceEqDiff]
      rw [← hB0]
      try simp only [go_sem, ↓reduceIte, Nat.reduceEqDiff]
      rw [← hBQ]
      try simp only [go_sem, ↓reduceIte, Nat.reduceEqDiff, Nat.reduceAdd, Nat.reduceLeDiff, Nat.reduceMul, Nat.reducePow, Nat.reduceLT, Nat.reduceSub, Int.reduceEq, Int.reduceLT, Int.reduceLE, Int.reduceNeg, Int.reduceToNat, Int.cast_ofNat_Int]
      rw [hspec, hpre2, Bool.false_and]
    · rw [ho, Bool.true_and] at hpre2
      refine wpL_cond (t := false) (by simp only [go_sem, ↓reduceIte, Nat.reduceEqDiff, ho, Bool.not_true]) (fun h => Bool.noConfusion h) (fun _ => ?_)
      try simp only [go_sem, ↓reduceIte, Nat.reduceEqDiff]
      refine wpL_skip ?_
      try simp only [go_sem, ↓reduceIte, Nat.reduceEqDiff]
      rw [← hB1]
      try simp only [go_sem, ↓reduceIte, Nat.reduceEqDiff]
      refine wpL_region Tryd.tyOk (by decide) ?_
      simp only [go_sem, ↓reduceIte, Nat.reduceEqDiff, Nat.reduceAdd, Nat.reduceLeDiff, Nat.reduceMul, Nat.reducePow, Nat.reduceLT, Nat.reduceSub, Int.reduceEq, Int.reduceLT, Int.reduceLE, Int.reduceNeg, Int.reduceToNat, Int.cast_ofNat_Int]
      refine ⟨_, _, ?_, ⟨j + 1, by omega, rfl, hpre2, rfl⟩, ?_⟩
      · omega
      · refine le_mk ?_ ?_ ?_ <;> (simp only [go_sem, ↓reduceIte, Nat.reduceEqDiff]; try simp [eInt, eStr, rBool, rInt, rStr, rTwo, rThree, eTy, rTy, eInts]; try simp (disch := omega) only [IntWalk.i64_in, and_self])
  have hge := ge_of hge
  have hend : dB x.shape t.dims = true := by
    rw [hpre, List.drop_of_length_le (l := t.dims) (by omega)]
    simp [dB]
  rw [hend, Bool.true_and] at hspec
  refine wpL_exit ?_
  rw [← hB0]
  try simp only [go_sem, ↓reduceIte, Nat.reduceEqDiff]
  rcases list_two t.known with hkn | ⟨y, ys, hkn⟩
  · have c7' : (t.known.length : Int) = 0 := by rw [hkn]; rfl
    refine wpL_draw Tryd.tyOk (by kernel_rfl) 12 (by decide) (by decide) ?_
    simp only [go_sem, ↓reduceIte, Nat.reduceEqDiff, Nat.reduceAdd, Nat.reduceLeDiff, Nat.reduceMul, Nat.reducePow, Nat.reduceLT, Nat.reduceSub, Int.reduceEq, Int.reduceLT, Int.reduceLE, Int.reduceNeg, Int.reduceToNat, Int.cast_ofNat_Int, List.length_map, eq_true c7', decide_false, decide_true, Ne, not_true_eq_false, not_false_eq_true, Bool.not_true, Bool.not_false]
    refine wpL_ret ?_
    rw [← hBQ]
    try simp only [go_sem, ↓reduceIte, Nat.reduceEqDiff, Nat.reduceAdd, Nat.reduceLeDiff, Nat.reduceMul, Nat.reducePow, Nat.reduceLT, Nat.reduceSub, Int.reduceEq, Int.reduceLT, Int.reduceLE, Int.reduceNeg, Int.reduceToNat, Int.cast_ofNat_Int]
    rw [hspec, hkn]
    rfl
  · have c7' : ¬ (t.known.length : Int) = 0 := by rw [hkn]; simp <;> omega
    have hl0 : (0 : Int) < (t.known.length : Int) := by rw [hkn]; simp <;> omega
    have hy0 : (t.known.map eArr)[0]? = some (eArr y) := by rw [hkn]; rfl
    have e := same38 _ y x (Nat.le_refl _) (a3 y (by rw [hkn]; simp)) hF
    rw [eArr_eq x, eArr_eq y] at e
    rw [eArr_eq y] at hy0
    refine wpL_draw Tryd.tyOk (by kernel_rfl) 12 (by decide) (by decide) ?_
    simp only [go_sem, ↓reduceIte, Nat.reduceEqDiff, Nat.reduceAdd, Nat.reduceLeDiff, Nat.reduceMul, Nat.reducePow, Nat.reduceLT, Nat.reduceSub, Int.reduceEq, Int.reduceLT, Int.reduceLE, Int.reduceNeg, Int.reduceToNat, Int.cast_ofNat_Int, List.length_map, c7', hl0, hy0, Int.toNat_zero, decide_false, decide_true, Ne, not_true_eq_false, not_false_eq_true, Bool.not_true, Bool.not_false]
    refine ⟨_, e, ?_⟩
    simp only [go_sem, ↓reduceIte, Nat.reduceEqDiff, Nat.reduceAdd, Nat.reduceLeDiff, Nat.reduceMul, Nat.reducePow, Nat.reduceLT, Nat.reduceSub, Int.reduceEq, Int.reduceLT, Int.reduceLE, Int.reduceNeg, Int.reduceToNat, Int.cast_ofNat_Int]
    refine wpL_ret ?_
    rw [← hBQ]
    try simp only [go_sem, ↓reduceIte, Nat.reduceEqDiff, Nat.reduceAdd, Nat.reduceLeDiff, Nat.reduceMul, Nat.reducePow, Nat.reduceLT, Nat.reduceSub, Int.reduceEq, Int.reduceLT, Int.reduceLE, Int.reduceNeg, Int.reduceToNat, Int.cast_ofNat_Int]
    rw [hspec, hkn, eqA_comm]
    rfl
theorem any13 : Gives Tryd.prog 13 [] (rTy ⟨14, -1, [], []⟩) := by
  refine Gives.intro Tryd.tyOk Tryd.func13 (by kernel_rfl) rfl (by simp [Tryd.ntmps13]) ?_
  simp only [go_sem, ↓reduceIte, Nat.reduceEqDiff, Nat.reduceAdd, Nat.reduceLeDiff, Nat.reduceMul, Nat.reducePow, Nat.reduceLT, Nat.reduceSub, Int.reduceEq, Int.reduceLT, Int.reduceLE, Int.reduceNeg, Int.reduceToNat, Int.cast_ofNat_Int]
  simp only [Tryd.ntmps13, Tryd.results13, eInt, eStr, rBool, rInt, rStr, rTwo, rThree, eTy, rTy, List.map_cons, List.map_nil]
  generalize hBQ : retQ _ _ _ = BQ
  iterate 2 (refine wpL_region Tryd.tyOk (by decide) ?_; simp only [go_sem, ↓reduceIte, Nat.reduceEqDiff, Nat.reduceAdd, Nat.reduceLeDiff, Nat.reduceMul, Nat.reducePow, Nat.reduceLT, Nat.reduceSub, Int.reduceEq, Int.reduceLT, Int.reduceLE, Int.reduceNeg, Int.reduceToNat, Int.cast_ofNat_Int])
  refine wpL_ret ?_
  rw [← hBQ]
  try simp only [go_sem, ↓reduceIte, Nat.reduceEqDiff, Nat.reduceAdd, Nat.reduceLeDiff, Nat.reduceMul, Nat.reducePow, Nat.reduceLT, Nat.reduceSub, Int.reduceEq, Int.reduceLT, Int.reduceLE, Int.reduceNeg, Int.reduceToNat, Int.cast_ofNat_Int]
  rfl
theorem any14 : Gives Tryd.prog 14 [] (rTy ⟨14, -1, [], []⟩) := by
  refine Gives.intro Tryd.tyOk Tryd.func14 (by kernel_rfl) rfl (by simp [Tryd.ntmps14]) ?_
  simp only [go_sem, ↓reduceIte, Nat.reduceEqDiff, Nat.reduceAdd, Nat.reduceLeDiff, Nat.reduceMul, Nat.reducePow, Nat.reduceLT, Nat.reduceSub, Int.reduceEq, Int.reduceLT, Int.reduceLE, Int.reduceNeg, Int.reduceToNat, Int.cast_ofNat_Int]
  simp only [Tryd.ntmps14, Tryd.results14, eInt, eStr, rBool, rInt, rStr, rTwo, rThree, eTy, rTy, List.map_cons, List.map_nil]
  generalize hBQ : retQ _ _ _ = BQ
  iterate 2 (refine wpL_region Tryd.tyOk (by decide) ?_; simp only [go_sem, ↓reduceIte, Nat.reduceEqDiff, Nat.reduceAdd, Nat.reduceLeDiff, Nat.reduceMul, Nat.reducePow, Nat.reduceLT, Nat.reduceSub, Int.reduceEq, Int.reduceLT, Int.reduceLE, Int.reduceNeg, Int.reduceToNat, Int.cast_ofNat_Int])
  refine wpL_ret ?_
  rw [← hBQ]
  try simp only [go_sem, ↓reduceIte, Nat.reduceEqDiff, Nat.reduceAdd, Nat.reduceLeDiff, Nat.reduceMul, Nat.reducePow, Nat.reduceLT, Nat.reduceSub, Int.reduceEq, Int.reduceLT, Int.reduceLE, Int.reduceNeg, Int.reduceToNat, Int.cast_ofNat_Int]
  rfl
def sameT (a b : Ty) : Bool := decide (a.kinds = b.kinds) && (decide (a.rank = b.rank) && (decide (a.dims = b.dims) && eqAs a.known b.known))
theorem sameT_iff (a b : Ty) : sameT a b = true ↔ a = b := by
  unfold sameT
  cases a; cases b
  simp only [Bool.and_eq_true, decide_eq_true_eq, eqAs_iff, Ty.mk.injEq]
theorem sameT_self (a : Ty) : sameT a a = true := (sameT_iff a a).2 rfl
end Go.Proofs.YtkkkdfhnpamnkaaDoor
