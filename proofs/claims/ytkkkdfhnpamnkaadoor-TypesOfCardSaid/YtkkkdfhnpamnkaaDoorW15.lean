/-
  Types: membership and order.  (printed by gen15.py)
-/
import Derived.Test.YtkkkdfhnpamnkaaDoorW14
import Derived.Test.YtkkkdfhnpamnkaaDoorAbsZB
set_option linter.unusedSimpArgs false
set_option linter.unusedVariables false
set_option maxRecDepth 100000
set_option maxHeartbeats 4000000
namespace Go.Proofs.YtkkkdfhnpamnkaaDoor
open Go.Abs Go

def knownS (a b : List Arr) : Bool := match a, b with
  | [x], [y] => eqA x y
  | _, _ => false
theorem known49 (a b : Ty) (hA : GoodT a) (hB : GoodT b) : Gives Tryd.prog 49 [.agg (eTy a), .agg (eTy b)] (rBool (knownS a.known b.known)) := by
  obtain ⟨a1, a2, a3, ⟨a4, a5⟩, a6, a7⟩ := hA
  obtain ⟨b1, b2, b3, ⟨b4, b5⟩, b6, b7⟩ := hB
  refine Gives.intro Tryd.tyOk Tryd.func49 (by kernel_rfl) rfl (by simp [Tryd.ntmps49]) ?_
  simp only [go_sem, ↓reduceIte, Nat.reduceEqDiff, Nat.reduceAdd, Nat.reduceLeDiff, Nat.reduceLT, Int.reduceEq, Int.reduceLT, Int.reduceLE, Int.reduceNeg, Int.reduceToNat, Int.cast_ofNat_Int]
  simp only [Tryd.ntmps49, Tryd.results49, eInt, eStr, rBool, rInt, rStr, rTwo, rThree, eTy, rTy, List.map_cons, List.map_nil]
  generalize hBQ : retQ _ _ _ = BQ
  refine wpL_region Tryd.tyOk (by decide) ?_
  simp only [go_sem, ↓reduceIte, Nat.reduceEqDiff, Nat.reduceAdd, Nat.reduceLeDiff, Nat.reduceLT, Int.reduceEq, Int.reduceLT, Int.reduceLE, Int.reduceNeg, Int.reduceToNat, Int.cast_ofNat_Int]
  by_cases c1 : a.known.length = 1
  case neg =>
    have c1' : ¬ (a.known.length : Int) = 1 := by omega
    have hs : knownS a.known b.known = false := by
      unfold knownS; split
      · rename_i h1 h2; rw [h1] at c1; exact absurd rfl c1
      · rfl
    refine wpL_draw Tryd.tyOk (by kernel_rfl) 21 (by decide) (by decide) ?_
    simp only [go_sem, ↓reduceIte, Nat.reduceEqDiff, Nat.reduceAdd, Nat.reduceLeDiff, Nat.reduceLT, Int.reduceEq, Int.reduceLT, Int.reduceLE, Int.reduceNeg, Int.reduceToNat, Int.cast_ofNat_Int, List.length_map, c1', decide_false, decide_true, Ne, not_true_eq_false, not_false_eq_true, Bool.not_true, Bool.not_false]
    refine wpL_ret ?_
    rw [← hBQ]
    try simp only [go_sem, ↓reduceIte, Nat.reduceEqDiff, Nat.reduceAdd, Nat.reduceLeDiff, Nat.reduceLT, Int.reduceEq, Int.reduceLT, Int.reduceLE, Int.reduceNeg, Int.reduceToNat, Int.cast_ofNat_Int]
    rw [hs]
  have c1' : (a.known.length : Int) = 1 := by omega
  by_cases c2 : b.known.length = 1
  case neg =>
    have c2' : ¬ (b.known.length : Int) = 1 := by omega
    have hs : knownS a.known b.known = false := by
      unfold knownS; split
      · rename_i h1 h2; rw [h2] at c2; exact absurd rfl c2
      · rfl
    refine wpL_draw Tryd.tyOk (by kernel_rfl) 21 (by decide) (by decide) ?_
    simp only [go_sem, ↓reduceIte, Nat.reduceEqDiff, Nat.reduceAdd, Nat.reduceLeDiff, Nat.reduceLT, Int.reduceEq, Int.reduceLT, Int.reduceLE, Int.reduceNeg, Int.reduceToNat, Int.cast_ofNat_Int, List.length_map, eq_true c1', c2', decide_false, decide_true, Ne, not_true_eq_false, not_false_eq_true, Bool.not_true, Bool.not_false]
    refine wpL_ret ?_
    rw [← hBQ]
    try simp only [go_sem, ↓reduceIte, Nat.reduceEqDiff, Nat.reduceAdd, Nat.reduceLeDiff, Nat.reduceLT, Int.reduceEq, Int.reduceLT, Int.reduceLE, Int.reduceNeg, Int.reduceToNat, Int.cast_ofNat_Int]
    rw [hs]
  have c2' : (b.known.length : Int) = 1 := by omega
  obtain ⟨x, hx⟩ : ∃ x, a.known = [x] := by
    rcases list_two a.known with h | ⟨x, xs, h⟩
    · rw [h] at c1; cases c1
    · rw [h] at c1; have e0 : xs = [] := List.eq_nil_of_length_eq_zero (by simpa using c1); subst e0; exact ⟨x, h⟩
  obtain ⟨y, hy⟩ : ∃ y, b.known = [y] := by
    rcases list_two b.known with h | ⟨y, ys, h⟩
    · rw [h] at c2; cases c2
    · rw [h] at c2; have e0 : ys = [] := List.eq_nil_of_length_eq_zero (by simpa using c2); subst e0; exact ⟨y, h⟩
  have e := same38 _ x y (Nat.le_refl _) (a3 x (by rw [hx]; simp)) (b3 y (by rw [hy]; simp))
  have hx0 : (a.known.map eArr)[0]? = some (eArr x) := by rw [hx]; rfl
  have hy0 : (b.known.map eArr)[0]? = some (eArr y) := by rw [hy]; rfl
  have hl0 : (0 : Int) < (a.known.length : Int) := by omega
  have hm0 : (0 : Int) < (b.known.length : Int) := by omega
  rw [eArr_eq x, eArr_eq y] at e
  rw [eArr_eq x] at hx0
  rw [eArr_eq y] at hy0
  refine wpL_draw Tryd.tyOk (by kernel_rfl) 21 (by decide) (by decide) ?_
  simp only [go_sem, ↓reduceIte, Nat.reduceEqDiff, Nat.reduceAdd, Nat.reduceLeDiff, Nat.reduceLT, Int.reduceEq, Int.reduceLT, Int.reduceLE, Int.reduceNeg, Int.reduceToNat, Int.cast_ofNat_Int, List.length_map, eq_true c1', eq_true c2', hl0, hm0, hx0, hy0, Int.toNat_zero, decide_false, decide_true, Ne, not_true_eq_false, not_false_eq_true, Bool.not_true, Bool.not_false]
  refine ⟨_, e, ?_⟩
  simp only [go_sem, ↓reduceIte, Nat.reduceEqDiff, Nat.reduceAdd, Nat.reduceLeDiff, Nat.reduceLT, Int.reduceEq, Int.reduceLT, Int.reduceLE, Int.reduceNeg, Int.reduceToNat, Int.cast_ofNat_Int]
  refine wpL_ret ?_
  rw [← hBQ]
  try simp only [go_sem, ↓reduceIte, Nat.reduceEqDiff, Nat.reduceAdd, Nat.reduceLeDiff, Nat.reduceLT, Int.reduceEq, Int.reduceLT, Int.reduceLE, Int.reduceNeg, Int.reduceToNat, Int.cast_ofNat_Int]
  rw [hx, hy]
  rfl
/-- What a valid type's parts say. -/
theorem right_parts {t : Ty} (h : rightT t = true) : K7 t.kinds ∧ -1 ≤ t.rank ∧ t.rank ≤ 8 ∧ (t.dims.length : Int) = max t.rank 0 ∧ t.known.length ≤ 1 ∧ (∀ d, d ∈ t.dims → -1 ≤ d) ∧ dimsG 1 t.dims = true ∧ ∀ x, x ∈ t.known → okKnown t x = true := by
  unfold rightT at h
  rw [Bool.and_eq_true, head_ref, Bool.and_eq_true] at h
  obtain ⟨⟨h1, h2⟩, h3⟩ := h
  have h4 := h2
  rw [dimsG_iff, Bool.and_eq_true, List.all_eq_true] at h4
  simp [refHead] at h1
  refine ⟨h1.1, h1.2.1, h1.2.2.1, h1.2.2.2.1, h1.2.2.2.2, fun d hd => by simpa using h4.1 d hd, h2, fun x hx => List.all_eq_true.1 h3 x hx⟩
theorem k7_pos {k : Int} (h : K7 k) : 0 ≤ k := by unfold K7 at h; omega
def BelowS (a b : Ty) : Bool := rightT a && (rightT b && belowS a b)
theorem below26 (a b : Ty) (hA : GoodT a) (hB : GoodT b) : Gives Tryd.prog 26 [.agg (eTy a), .agg (eTy b)] (rBool (BelowS a b)) := by
  have ea := right19 a hA
  have eb := right19 b hB
  have el := below44 a b hA hB
  refine Gives.intro Tryd.tyOk Tryd.func26 (by kernel_rfl) rfl (by simp [Tryd.ntmps26]) ?_
  simp only [go_sem, ↓reduceIte, Nat.reduceEqDiff, Nat.reduceAdd, Nat.reduceLeDiff, Nat.reduceLT, Int.reduceEq, Int.reduceLT, Int.reduceLE, Int.reduceNeg, Int.reduceToNat, Int.cast_ofNat_Int]
  simp only [Tryd.ntmps26, Tryd.results26, eInt, eStr, rBool, rInt, rStr, rTwo, rThree, eTy, rTy, List.map_cons, List.map_nil]
  generalize hBQ : retQ _ _ _ = BQ
  iterate 2 (refine wpL_region Tryd.tyOk (by decide) ?_; simp only [go_sem, ↓reduceIte, Nat.reduceEqDiff, Nat.reduceAdd, Nat.reduceLeDiff, Nat.reduceLT, Int.reduceEq, Int.reduceLT, Int.reduceLE, Int.reduceNeg, Int.reduceToNat, Int.cast_ofNat_Int])
  refine ⟨_, ea, ?_⟩
  cases c1 : rightT a
  · simp only [go_sem, ↓reduceIte, Nat.reduceEqDiff, Nat.reduceAdd, Nat.reduceLeDiff, Nat.reduceLT, Int.reduceEq, Int.reduceLT, Int.reduceLE, Int.reduceNeg, Int.reduceToNat, Int.cast_ofNat_Int]
    refine wpL_ret ?_
    rw [← hBQ]
    try simp only [go_sem, ↓reduceIte, Nat.reduceEqDiff, Nat.reduceAdd, Nat.reduceLeDiff, Nat.reduceLT, Int.reduceEq, Int.reduceLT, Int.reduceLE, Int.reduceNeg, Int.reduceToNat, Int.cast_ofNat_Int]
    simp [BelowS, c1]
  simp only [go_sem, ↓reduceIte, Nat.reduceEqDiff, Nat.reduceAdd, Nat.reduceLeDiff, Nat.reduceLT, Int.reduceEq, Int.reduceLT, Int.reduceLE, Int.reduceNeg, Int.reduceToNat, Int.cast_ofNat_Int]
  refine ⟨_, eb, ?_⟩
  cases c2 : rightT b
  · simp only [go_sem, ↓reduceIte, Nat.reduceEqDiff, Nat.reduceAdd, Nat.reduceLeDiff, Nat.reduceLT, Int.reduceEq, Int.reduceLT, Int.reduceLE, Int.reduceNeg, Int.reduceToNat, Int.cast_ofNat_Int]
    refine wpL_ret ?_
    rw [← hBQ]
    try simp only [go_sem, ↓reduceIte, Nat.reduceEqDiff, Nat.reduceAdd, Nat.reduceLeDiff, Nat.reduceLT, Int.reduceEq, Int.reduceLT, Int.reduceLE, Int.reduceNeg, Int.reduceToNat, Int.cast_ofNat_Int]
    simp [BelowS, c1, c2]
  simp only [go_sem, ↓reduceIte, Nat.reduceEqDiff, Nat.reduceAdd, Nat.reduceLeDiff, Nat.reduceLT, Int.reduceEq, Int.reduceLT, Int.reduceLE, Int.reduceNeg, Int.reduceToNat, Int.cast_ofNat_Int]
  obtain ⟨p1, p2, p3, p4, _⟩ := right_parts c1
  obtain ⟨q1, q2, q3, q4, _⟩ := right_parts c2
  refine ⟨_, el (k7_pos p1) (k7_pos q1) p4 q4 q2, ?_⟩
  simp only [go_sem, ↓reduceIte, Nat.reduceEqDiff, Nat.reduceAdd, Nat.reduceLeDiff, Nat.reduceLT, Int.reduceEq, Int.reduceLT, Int.reduceLE, Int.reduceNeg, Int.reduceToNat, Int.cast_ofNat_Int]
  refine wpL_ret ?_
  rw [← hBQ]
  try simp only [go_sem, ↓reduceIte, Nat.reduceEqDiff, Nat.reduceAdd, Nat.reduceLeDiff, Nat.reduceLT, Int.reduceEq, Int.reduceLT, Int.reduceLE, Int.reduceNeg, Int.reduceToNat, Int.cast_ofNat_Int]
  simp [BelowS, c1, c2]
/-- The bits of a that b lacks. -/
theorem rest_kb {a b : Int} (ha : K7 a) (hb : K7 b) : IntKind.i64.wrap ((BitVec.ofInt IntKind.i64.bits a &&& ~~~BitVec.ofInt IntKind.i64.bits b).toNat : Int) = 0 ↔ kb a b = true := by
  unfold K7 at ha hb
  rcases ha with rfl | rfl | rfl | rfl | rfl | rfl | rfl <;> rcases hb with rfl | rfl | rfl | rfl | rfl | rfl | rfl <;> decide
theorem below25 (a b : Ty) (hA : GoodT a) (hB : GoodT b) : Gives Tryd.prog 25 [.agg (eTy a), .agg (eTy b)] (rBool (BelowS a b)) := by
  have ea := right18 a hA
  have eb := right18 b hB
  have ek := known49 a b hA hB
  obtain ⟨a1, a2, a3, ⟨a4, a5⟩, a6, a7⟩ := hA
  obtain ⟨b1, b2, b3, ⟨b4, b5⟩, b6, b7⟩ := hB
  refine Gives.intro Tryd.tyOk Tryd.func25 (by kernel_rfl) rfl (by simp [Tryd.ntmps25]) ?_
  simp only [go_sem, ↓reduceIte, Nat.reduceEqDiff, Nat.reduceAdd, Nat.reduceLeDiff, Nat.reduceLT, Int.reduceEq, Int.reduceLT, Int.reduceLE, Int.reduceNeg, Int.reduceToNat, Int.cast_ofNat_Int]
  simp only [Tryd.ntmps25, Tryd.results25, eInt, eStr, rBool, rInt, rStr, rTwo, rThree, eTy, rTy, List.map_cons, List.map_nil]
  generalize hBQ : retQ _ _ _ = BQ
  refine wpL_region Tryd.tyOk (by decide) ?_
  simp only [go_sem, ↓reduceIte, Nat.reduceEqDiff, Nat.reduceAdd, Nat.reduceLeDiff, Nat.reduceLT, Int.reduceEq, Int.reduceLT, Int.reduceLE, Int.reduceNeg, Int.reduceToNat, Int.cast_ofNat_Int]
  refine wpL_to ⟨[(34, .c (.d (.sc (.bool (!(rightT a && (rightT b && (kb a.kinds b.kinds && (decide (b.rank = -1) || decide (a.rank = b.rank))))))))) ), (2, .c (.ptr 2 0)), (3, .c (.ptr 3 0))], [(2, .box 30 [.d (eInt a.kinds), .d (eInt a.rank), .d (.sl (eInts a.dims)), .d (.sl (a.known.map eArr))]), (3, .box 30 [.d (eInt b.kinds), .d (eInt b.rank), .d (.sl (eInts b.dims)), .d (.sl (b.known.map eArr))])]⟩ ?_ ?_
  · refine wpL_region Tryd.tyOk (by decide) ?_
    simp only [go_sem, ↓reduceIte, Nat.reduceEqDiff, Nat.reduceAdd, Nat.reduceLeDiff, Nat.reduceLT, Int.reduceEq, Int.reduceLT, Int.reduceLE, Int.reduceNeg, Int.reduceToNat, Int.cast_ofNat_Int]
    refine ⟨_, ea, ?_⟩
    cases c1 : rightT a
    · simp only [go_sem, ↓reduceIte, Nat.reduceEqDiff, Nat.reduceAdd, Nat.reduceLeDiff, Nat.reduceLT, Int.reduceEq, Int.reduceLT, Int.reduceLE, Int.reduceNeg, Int.reduceToNat, Int.cast_ofNat_Int, decide_false, decide_true, Ne, not_true_eq_false, not_false_eq_true, Bool.not_true, Bool.not_false]
      refine le_mk ?_ ?_ ?_ <;> (simp only [go_sem, ↓reduceIte, Nat.reduceEqDiff]; try simp [eInt, eStr, rBool, rInt, rStr, rTwo, rThree, eTy, rTy, eInts, c1]; try simp (disch := omega) only [IntWalk.i64_in, and_self])
    simp only [go_sem, ↓reduceIte, Nat.reduceEqDiff, Nat.reduceAdd, Nat.reduceLeDiff, Nat.reduceLT, Int.reduceEq, Int.reduceLT, Int.reduceLE, Int.reduceNeg, Int.reduceToNat, Int.cast_ofNat_Int, decide_false, decide_true, Ne, not_true_eq_false, not_false_eq_true, Bool.not_true, Bool.not_false]
    refine ⟨_, eb, ?_⟩
    cases c2 : rightT b
    · simp only [go_sem, ↓reduceIte, Nat.reduceEqDiff, Nat.reduceAdd, Nat.reduceLeDiff, Nat.reduceLT, Int.reduceEq, Int.reduceLT, Int.reduceLE, Int.reduceNeg, Int.reduceToNat, Int.cast_ofNat_Int, decide_false, decide_true, Ne, not_true_eq_false, not_false_eq_true, Bool.not_true, Bool.not_false]
      refine le_mk ?_ ?_ ?_ <;> (simp only [go_sem, ↓reduceIte, Nat.reduceEqDiff]; try simp [eInt, eStr, rBool, rInt, rStr, rTwo, rThree, eTy, rTy, eInts, c1, c2]; try simp (disch := omega) only [IntWalk.i64_in, and_self])
    obtain ⟨p1, p2, p3, p4, _⟩ := right_parts c1
    obtain ⟨q1, q2, q3, q4, _⟩ := right_parts c2
    have hr := rest_kb p1 q1
    simp only [go_sem] at hr
    cases c3 : kb a.kinds b.kinds
    · have hr' := mt hr.1 (by rw [c3]; exact Bool.noConfusion)
      simp only [go_sem, ↓reduceIte, Nat.reduceEqDiff, Nat.reduceAdd, Nat.reduceLeDiff, Nat.reduceLT, Int.reduceEq, Int.reduceLT, Int.reduceLE, Int.reduceNeg, Int.reduceToNat, Int.cast_ofNat_Int, hr', decide_false, decide_true, Ne, not_true_eq_false, not_false_eq_true, Bool.not_true, Bool.not_false]
      refine le_mk ?_ ?_ ?_ <;> (simp only [go_sem, ↓reduceIte, Nat.reduceEqDiff]; try simp [eInt, eStr, rBool, rInt, rStr, rTwo, rThree, eTy, rTy, eInts, c1, c2, c3]; try simp (disch := omega) only [IntWalk.i64_in, and_self])
    have hr' := hr.2 c3
    by_cases c4 : b.rank ≥ 0
    case neg =>
      have h4 : b.rank = -1 := by omega
      simp only [go_sem, ↓reduceIte, Nat.reduceEqDiff, Nat.reduceAdd, Nat.reduceLeDiff, Nat.reduceLT, Int.reduceEq, Int.reduceLT, Int.reduceLE, Int.reduceNeg, Int.reduceToNat, Int.cast_ofNat_Int, hr', c4, decide_false, decide_true, Ne, not_true_eq_false, not_false_eq_true, Bool.not_true, Bool.not_false]
      refine le_mk ?_ ?_ ?_ <;> (simp only [go_sem, ↓reduceIte, Nat.reduceEqDiff]; try simp [eInt, eStr, rBool, rInt, rStr, rTwo, rThree, eTy, rTy, eInts, c1, c2, c3, h4]; try simp (disch := omega) only [IntWalk.i64_in, and_self])
    have h4 : ¬ b.rank = -1 := by omega
    by_cases c5 : a.rank = b.rank
    · simp only [go_sem, ↓reduceIte, Nat.reduceEqDiff, Nat.reduceAdd, Nat.reduceLeDiff, Nat.reduceLT, Int.reduceEq, Int.reduceLT, Int.reduceLE, Int.reduceNeg, Int.reduceToNat, Int.cast_ofNat_Int, hr', c4, eq_true c5, decide_false, decide_true, Ne, not_true_eq_false, not_false_eq_true, Bool.not_true, Bool.not_false]
      refine le_mk ?_ ?_ ?_ <;> (simp only [go_sem, ↓reduceIte, Nat.reduceEqDiff]; try simp [eInt, eStr, rBool, rInt, rStr, rTwo, rThree, eTy, rTy, eInts, c1, c2, c3, h4, c5]; try simp (disch := omega) only [IntWalk.i64_in, and_self])
    · simp only [go_sem, ↓reduceIte, Nat.reduceEqDiff, Nat.reduceAdd, Nat.reduceLeDiff, Nat.reduceLT, Int.reduceEq, Int.reduceLT, Int.reduceLE, Int.reduceNeg, Int.reduceToNat, Int.cast_ofNat_Int, hr', c4, c5, decide_false, decide_true, Ne, not_true_eq_false, not_false_eq_true, Bool.not_true, Bool.not_false]
      refine le_mk ?_ ?_ ?_ <;> (simp only [go_sem, ↓reduceIte, Nat.reduceEqDiff]; try simp [eInt, eStr, rBool, rInt, rStr, rTwo, rThree, eTy, rTy, eInts, c1, c2, c3, h4, c5]; try simp (disch := omega) only [IntWalk.i64_in, and_self])
  try simp only [go_sem, ↓reduceIte, Nat.reduceEqDiff]
  cases hh : (rightT a && (rightT b && (kb a.kinds b.kinds && (decide (b.rank = -1) || decide (a.rank = b.rank)))))
  · refine wpL_cond (t := true) (by simp only [go_sem, ↓reduceIte, Nat.reduceEqDiff, hh, Bool.not_false]) (fun _ => ?_) (fun h => Bool.noConfusion h)
    try simp only [go_sem, ↓reduceIte, Nat.reduceEqDiff]
    refine wpL_region Tryd.tyOk (by decide) ?_
    simp only [go_sem, ↓reduceIte, Nat.reduceEqDiff, Nat.reduceAdd, Nat.reduceLeDiff, Nat.reduceLT, Int.reduceEq, Int.reduceLT, Int.reduceLE, Int.reduceNeg, Int.reduceToNat, Int.cast_ofNat_Int]
    refine wpL_ret ?_
    rw [← hBQ]
    try simp only [go_sem, ↓reduceIte, Nat.reduceEqDiff, Nat.reduceAdd, Nat.reduceLeDiff, Nat.reduceLT, Int.reduceEq, Int.reduceLT, Int.reduceLE, Int.reduceNeg, Int.reduceToNat, Int.cast_ofNat_Int]
    have hs : BelowS a b = false := by
      unfold BelowS belowS
      revert hh
      cases rightT a <;> cases rightT b <;> cases kb a.kinds b.kinds <;> cases (decide (b.rank = -1) || decide (a.rank = b.rank)) <;> simp
    rw [hs]
  refine wpL_cond (t := false) (by simp only [go_sem, ↓reduceIte, Nat.reduceEqDiff, hh, Bool.not_true]) (fun h => Bool.noConfusion h) (fun _ => ?_)
  simp only [Bool.and_eq_true] at hh
  obtain ⟨c1, c2, c3, hr⟩ := hh
  obtain ⟨p1, p2, p3, p4, p5, p6, _⟩ := right_parts c1
  obtain ⟨q1, q2, q3, q4, q5, q6, _⟩ := right_parts c2
  have hspec : BelowS a b = (dB a.dims b.dims && kB a.known b.known) := by
    unfold BelowS belowS; rw [c1, c2, c3, hr]; rfl
  have hlen : b.dims.length ≤ a.dims.length := by
    simp only [Bool.or_eq_true, decide_eq_true_eq] at hr
    rcases hr with h | h <;> omega
  try simp only [go_sem, ↓reduceIte, Nat.reduceEqDiff]
  refine wpL_skip ?_
  refine wpL_region Tryd.tyOk (by decide) ?_
  simp only [go_sem, ↓reduceIte, Nat.reduceEqDiff, Nat.reduceAdd, Nat.reduceLeDiff, Nat.reduceLT, Int.reduceEq, Int.reduceLT, Int.reduceLE, Int.reduceNeg, Int.reduceToNat, Int.cast_ofNat_Int, eInts_len]
  refine wpL_block ?_
  generalize hB0 : blockQ _ _ _ = B0
  simp only [go_sem, ↓reduceIte, Nat.reduceEqDiff]
  refine wpL_loop (fun n s => ∃ j : Nat, j ≤ b.dims.length ∧ n = b.dims.length - j ∧ dB a.dims b.dims = dB (a.dims.drop j) (b.dims.drop j) ∧ s = ⟨[(38, sint .i64 j), (37, sint .i64 b.dims.length), (36, .c (.d (.sl (eInts b.dims)))), (2, .c (.ptr 2 0)), (3, .c (.ptr 3 0))], [(2, .box 30 [.d (eInt a.kinds), .d (eInt a.rank), .d (.sl (eInts a.dims)), .d (.sl (a.known.map eArr))]), (3, .box 30 [.d (eInt b.kinds), .d (eInt b.rank), .d (.sl (eInts b.dims)), .d (.sl (b.known.map eArr))])]⟩) ?_ ?_
  · refine ⟨_, _, ⟨0, by omega, rfl, rfl, rfl⟩, ?_⟩
    refine le_mk ?_ ?_ ?_ <;> (simp only [go_sem, ↓reduceIte, Nat.reduceEqDiff]; try simp [eInt, eStr, rBool, rInt, rStr, rTwo, rThree, eTy, rTy, eInts]; try simp (disch := omega) only [IntWalk.i64_in, and_self])
  rintro n s ⟨j, hj, rfl, hpre, rfl⟩
  simp only [go_sem, ↓reduceIte, Nat.reduceEqDiff, Nat.reduceAdd, Nat.reduceLeDiff, Nat.reduceLT, Int.reduceEq, Int.reduceLT, Int.reduceLE, Int.reduceNeg, Int.reduceToNat, Int.cast_ofNat_Int]
  refine wpL_region Tryd.tyOk (by decide) ?_
  simp only [go_sem, ↓reduceIte, Nat.reduceEqDiff, Nat.reduceAdd, Nat.reduceLeDiff, Nat.reduceLT, Int.reduceEq, Int.reduceLT, Int.reduceLE, Int.reduceNeg, Int.reduceToNat, Int.cast_ofNat_Int]
  refine wpL_cond (t := decide ((j : Int) < b.dims.length)) (by simp only [go_sem, ↓reduceIte, Nat.reduceEqDiff]) (fun hlt => ?_) (fun hge => ?_)
  · have hlt := lt_of hlt
    obtain ⟨d, hd⟩ := get_ex (l := b.dims) (i := j) (by omega)
    obtain ⟨c, hc⟩ := get_ex (l := a.dims) (i := j) (by omega)
    have hdm := q6 d (List.mem_of_getElem? hd)
    rw [drop_get hd, drop_get hc] at hpre
    have hpre2 : dB a.dims b.dims = ((decide (d = -1) || decide (c = d)) && dB (a.dims.drop (j + 1)) (b.dims.drop (j + 1))) := hpre
    simp only [go_sem, ↓reduceIte, Nat.reduceEqDiff, Nat.reduceAdd, Nat.reduceLeDiff, Nat.reduceLT, Int.reduceEq, Int.reduceLT, Int.reduceLE, Int.reduceNeg, Int.reduceToNat, Int.cast_ofNat_Int]
    refine wpL_skip ?_
    refine wpL_block ?_
    generalize hB1 : blockQ _ _ _ = B1
    simp only [go_sem, ↓reduceIte, Nat.reduceEqDiff]
    refine wpL_region Tryd.tyOk (by decide) ?_
    simp only [go_sem, ↓reduceIte, Nat.reduceEqDiff, Nat.reduceAdd, Nat.reduceLeDiff, Nat.reduceLT, Int.reduceEq, Int.reduceLT, Int.reduceLE, Int.reduceNeg, Int.reduceToNat, Int.cast_ofNat_Int, eInts_get hd]
    refine wpL_to ⟨[(53, .c (.d (.sc (.bool (!(decide (d = -1) || decide (c = d))))))), (38, sint .i64 j), (37, sint .i64 b.dims.length), (36, .c (.d (.sl (eInts b.dims)))), (2, .c (.ptr 2 0)), (3, .c (.ptr 3 0))], [(2, .box 30 [.d (eInt a.kinds), .d (eInt a.rank), .d (.sl (eInts a.dims)), .d (.sl (a.known.map eArr))]), (3, .box 30 [.d (eInt b.kinds), .d (eInt b.rank), .d (.sl (eInts b.dims)), .d (.sl (b.known.map eArr))])]⟩ ?_ ?_
    · by_cases c1 : d ≥ 0
      case neg =>
        have h1 : d = -1 := by omega
        refine wpL_region Tryd.tyOk (by decide) ?_
        simp only [go_sem, ↓reduceIte, Nat.reduceEqDiff, Nat.reduceAdd, Nat.reduceLeDiff, Nat.reduceLT, Int.reduceEq, Int.reduceLT, Int.reduceLE, Int.reduceNeg, Int.reduceToNat, Int.cast_ofNat_Int, c1, decide_false, decide_true, Ne, not_true_eq_false, not_false_eq_true, Bool.not_true, Bool.not_false]
        refine le_mk ?_ ?_ ?_ <;> (simp only [go_sem, ↓reduceIte, Nat.reduceEqDiff]; try simp [eInt, eStr, rBool, rInt, rStr, rTwo, rThree, eTy, rTy, eInts, h1]; try simp (disch := omega) only [IntWalk.i64_in, and_self])
      have h1 : ¬ d = -1 := by omega
      by_cases c2 : d = c
      · refine wpL_region Tryd.tyOk (by decide) ?_
        simp only [go_sem, ↓reduceIte, Nat.reduceEqDiff, Nat.reduceAdd, Nat.reduceLeDiff, Nat.reduceLT, Int.reduceEq, Int.reduceLT, Int.reduceLE, Int.reduceNeg, Int.reduceToNat, Int.cast_ofNat_Int, c1, eInts_get hc, eq_true c2, decide_false, decide_true, Ne, not_true_eq_false, not_false_eq_true, Bool.not_true, Bool.not_false]
        refine le_mk ?_ ?_ ?_ <;> (simp only [go_sem, ↓reduceIte, Nat.reduceEqDiff]; try simp [eInt, eStr, rBool, rInt, rStr, rTwo, rThree, eTy, rTy, eInts, h1, c2]; try simp (disch := omega) only [IntWalk.i64_in, and_self])
      · have c2' : ¬ c = d := fun h => c2 h.symm
        refine wpL_region Tryd.tyOk (by decide) ?_
        simp only [go_sem, ↓reduceIte, Nat.reduceEqDiff, Nat.reduceAdd, Nat.reduceLeDiff, Nat.reduceLT, Int.reduceEq, Int.reduceLT, Int.reduceLE, Int.reduceNeg, Int.reduceToNat, Int.cast_ofNat_Int, c1, eInts_get hc, c2, decide_false, decide_true, Ne, not_true_eq_false, not_false_eq_true, Bool.not_true, Bool.not_false]
        refine le_mk ?_ ?_ ?_ <;> (simp only [go_sem, ↓reduceIte, Nat.reduceEqDiff]; try simp [eInt, eStr, rBool, rInt, rStr, rTwo, rThree, eTy, rTy, eInts, h1, c2']; try simp (disch := omega) only [IntWalk.i64_in, and_self])
    try simp only [go_sem, ↓reduceIte, Nat.reduceEqDiff]
    cases ho : (decide (d = -1) || decide (c = d))
    · rw [ho, Bool.false_and] at hpre2
      refine wpL_cond (t := true) (by simp only [go_sem, ↓reduceIte, Nat.reduceEqDiff, ho, Bool.not_false]) (fun _ => ?_) (fun h => Bool.noConfusion h)
      try simp only [go_sem, ↓reduceIte, Nat.reduceEqDiff]
      refine wpL_region Tryd.tyOk (by decide) ?_
      simp only [go_sem, ↓reduceIte, Nat.reduceEqDiff, Nat.reduceAdd, Nat.reduceLeDiff, Nat.reduceLT, Int.reduceEq, Int.reduceLT, Int.reduceLE, Int.reduceNeg, Int.reduceToNat, Int.cast_ofNat_Int]
      refine wpL_ret ?_
      rw [← hB1]
      try simp only [go_sem, ↓reduceIte, Nat.reduceEqDiff]
      rw [← hB0]
      try simp only [go_sem, ↓reduceIte, Nat.reduceEqDiff]
      rw [← hBQ]
      try simp only [go_sem, ↓reduceIte, Nat.reduceEqDiff, Nat.reduceAdd, Nat.reduceLeDiff, Nat.reduceLT, Int.reduceEq, Int.reduceLT, Int.reduceLE, Int.reduceNeg, Int.reduceToNat, Int.cast_ofNat_Int]
      rw [hspec, hpre2, Bool.false_and]
    · rw [ho, Bool.true_and] at hpre2
      refine wpL_cond (t := false) (by simp only [go_sem, ↓reduceIte, Nat.reduceEqDiff, ho, Bool.not_true]) (fun h => Bool.noConfusion h) (fun _ => ?_)
      try simp only [go_sem, ↓reduceIte, Nat.reduceEqDiff]
      refine wpL_skip ?_
      try simp only [go_sem, ↓reduceIte, Nat.reduceEqDiff]
      rw [← hB1]
      try simp only [go_sem, ↓reduceIte, Nat.reduceEqDiff]
      refine wpL_region Tryd.tyOk (by decide) ?_
      simp only [go_sem, ↓reduceIte, Nat.reduceEqDiff, Nat.reduceAdd, Nat.reduceLeDiff, Nat.reduceLT, Int.reduceEq, Int.reduceLT, Int.reduceLE, Int.reduceNeg, Int.reduceToNat, Int.cast_ofNat_Int]
      refine ⟨_, _, ?_, ⟨j + 1, by omega, rfl, hpre2, rfl⟩, ?_⟩
      · omega
      · refine le_mk ?_ ?_ ?_ <;> (simp only [go_sem, ↓reduceIte, Nat.reduceEqDiff]; try simp [eInt, eStr, rBool, rInt, rStr, rTwo, rThree, eTy, rTy, eInts]; try simp (disch := omega) only [IntWalk.i64_in, and_self])
  have hge := ge_of hge
  have hend : dB a.dims b.dims = true := by
    rw [hpre, List.drop_of_length_le (l := b.dims) (by omega)]
    simp [dB]
  rw [hend, Bool.true_and] at hspec
  have hkk : kB a.known b.known = (decide (b.known.length = 0) || knownS a.known b.known) := by
    rcases list_two b.known with h | ⟨y, ys, h⟩
    · rw [h]; cases a.known <;> rfl
    · rw [h] at q5 ⊢
      have : ys = [] := List.eq_nil_of_length_eq_zero (by simpa using q5)
      subst this
      rcases list_two a.known with h2 | ⟨x, xs, h2⟩
      · rw [h2]; rfl
      · rw [h2] at p5 ⊢
        have : xs = [] := List.eq_nil_of_length_eq_zero (by simpa using p5)
        subst this
        rfl
  refine wpL_exit ?_
  rw [← hB0]
  try simp only [go_sem, ↓reduceIte, Nat.reduceEqDiff]
  by_cases c7 : b.known.length = 0
  · have c7' : (b.known.length : Int) = 0 := by omega
    refine wpL_region Tryd.tyOk (by decide) ?_
    simp only [go_sem, ↓reduceIte, Nat.reduceEqDiff, Nat.reduceAdd, Nat.reduceLeDiff, Nat.reduceLT, Int.reduceEq, Int.reduceLT, Int.reduceLE, Int.reduceNeg, Int.reduceToNat, Int.cast_ofNat_Int, List.length_map, eq_true c7', decide_false, decide_true, Ne, not_true_eq_false, not_false_eq_true, Bool.not_true, Bool.not_false]
    refine wpL_ret ?_
    rw [← hBQ]
    try simp only [go_sem, ↓reduceIte, Nat.reduceEqDiff, Nat.reduceAdd, Nat.reduceLeDiff, Nat.reduceLT, Int.reduceEq, Int.reduceLT, Int.reduceLE, Int.reduceNeg, Int.reduceToNat, Int.cast_ofNat_Int]
    rw [hspec, hkk, c7]
    rfl
  · have c7' : ¬ (b.known.length : Int) = 0 := by omega
    refine wpL_region Tryd.tyOk (by decide) ?_
    simp only [go_sem, ↓reduceIte, Nat.reduceEqDiff, Nat.reduceAdd, Nat.reduceLeDiff, Nat.reduceLT, Int.reduceEq, Int.reduceLT, Int.reduceLE, Int.reduceNeg, Int.reduceToNat, Int.cast_ofNat_Int, List.length_map, c7', decide_false, decide_true, Ne, not_true_eq_false, not_false_eq_true, Bool.not_true, Bool.not_false]
    refine ⟨_, ek, ?_⟩
    simp only [go_sem, ↓reduceIte, Nat.reduceEqDiff, Nat.reduceAdd, Nat.reduceLeDiff, Nat.reduceLT, Int.reduceEq, Int.reduceLT, Int.reduceLE, Int.reduceNeg, Int.reduceToNat, Int.cast_ofNat_Int]
    refine wpL_ret ?_
    rw [← hBQ]
    try simp only [go_sem, ↓reduceIte, Nat.reduceEqDiff, Nat.reduceAdd, Nat.reduceLeDiff, Nat.reduceLT, Int.reduceEq, Int.reduceLT, Int.reduceLE, Int.reduceNeg, Int.reduceToNat, Int.cast_ofNat_Int]
    rw [hspec, hkk, decide_eq_false c7]
    rfl
end Go.Proofs.YtkkkdfhnpamnkaaDoor
