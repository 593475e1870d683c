/-
  Types: joins.  (printed by gen18.py)
-/
import Derived.Test.YtkkkdfhnpamnkaaDoorW17
import Derived.Test.YtkkkdfhnpamnkaaDoorAbsZB
set_option linter.unusedSimpArgs false
set_option linter.unusedVariables false
set_option maxRecDepth 100000
set_option maxHeartbeats 4000000
namespace Go.Proofs.YtkkkdfhnpamnkaaDoor
open Go.Abs Go

def orK (a b : Int) : Int := (if bitAt a 2 || bitAt b 2 then 2 else 0) + (if bitAt a 4 || bitAt b 4 then 4 else 0) + (if bitAt a 8 || bitAt b 8 then 8 else 0)
def jD (ds es : List Int) : List Int := List.zipWith (fun d e => if d = e then d else -1) ds es
def rankJ (a b : Ty) : Int := if a.rank = b.rank ∧ 0 ≤ a.rank then a.rank else -1
def dimsJ (a b : Ty) : List Int := if a.rank = b.rank ∧ 0 ≤ a.rank then jD a.dims b.dims else []
def knownJ (a b : Ty) : List Arr := if knownS a.known b.known then a.known else []
def joinS (a b : Ty) : Ty := if rightT a && rightT b then ⟨orK a.kinds b.kinds, rankJ a b, dimsJ a b, knownJ a b⟩ else ⟨0, 0, [], []⟩
theorem or_kb {a b : Int} (ha : K7 a) (hb : K7 b) : IntKind.i64.wrap ((BitVec.ofInt IntKind.i64.bits a ||| BitVec.ofInt IntKind.i64.bits b).toNat : Int) = orK a b := by
  unfold K7 at ha hb
  rcases ha with rfl | rfl | rfl | rfl | rfl | rfl | rfl <;> rcases hb with rfl | rfl | rfl | rfl | rfl | rfl | rfl <;> decide
theorem jD_len (ds es : List Int) (h : ds.length = es.length) : (jD ds es).length = ds.length := by simp [jD, h]
theorem jD_take {ds es : List Int} {j : Nat} {d e : Int} (hd : ds[j]? = some d) (he : es[j]? = some e) : (jD ds es).take (j + 1) = (jD ds es).take j ++ [if d = e then d else -1] := by
  have : (jD ds es)[j]? = some (if d = e then d else -1) := by simp [jD, List.getElem?_zipWith, hd, he]
  exact take_succ_get this
theorem known_one {a b : List Arr} (h : knownS a b = true) : ∃ x, a = [x] ∧ b = [x] := by
  unfold knownS at h
  split at h
  · rename_i x y
    rw [eqA_iff] at h
    subst h
    exact ⟨x, rfl, rfl⟩
  · cases h
theorem join23 (a b : Ty) (hA : GoodT a) (hB : GoodT b) : Gives Tryd.prog 23 [.agg (eTy a), .agg (eTy b)] (rTy (joinS a b)) := by
  have ea := right18 a hA
  have eb := right18 b hB
  have ek := known49 a b hA hB
  obtain ⟨a1, a2, a3, ⟨a4, a5⟩, a6, a7⟩ := hA
  obtain ⟨b1, b2, b3, ⟨b4, b5⟩, b6, b7⟩ := hB
  obtain ⟨r, hr⟩ : ∃ r, joinS a b = r := ⟨_, rfl⟩
  rw [hr]
  unfold joinS at hr
  refine Gives.intro Tryd.tyOk Tryd.func23 (by kernel_rfl) rfl (by simp [Tryd.ntmps23]) ?_
  simp only [go_sem, ↓reduceIte, Nat.reduceEqDiff, Nat.reduceAdd, Nat.reduceLeDiff, Nat.reduceMul, Nat.reducePow, Nat.reduceLT, Nat.reduceSub, Int.reduceEq, Int.reduceLT, Int.reduceLE, Int.reduceNeg, Int.reduceToNat, Int.cast_ofNat_Int]
  simp only [Tryd.ntmps23, Tryd.results23, eInt, eStr, rBool, rInt, rStr, rTwo, rThree, eTy, rTy, List.map_cons, List.map_nil]
  generalize hBQ : retQ _ _ _ = BQ
  refine wpL_region Tryd.tyOk (by decide) ?_
  simp only [go_sem, ↓reduceIte, Nat.reduceEqDiff, Nat.reduceAdd, Nat.reduceLeDiff, Nat.reduceMul, Nat.reducePow, Nat.reduceLT, Nat.reduceSub, Int.reduceEq, Int.reduceLT, Int.reduceLE, Int.reduceNeg, Int.reduceToNat, Int.cast_ofNat_Int]
  refine wpL_to ⟨[(15, .c (.d (.sc (.bool (!(rightT a && rightT b)))))), (2, .c (.ptr 2 0)), (3, .c (.ptr 3 0)), (4, .c (.ptr 4 0))], [(2, .box 30 [.d (eInt a.kinds), .d (eInt a.rank), .d (.sl (eInts a.dims)), .d (.sl (a.known.map eArr))]), (3, .box 30 [.d (eInt b.kinds), .d (eInt b.rank), .d (.sl (eInts b.dims)), .d (.sl (b.known.map eArr))]), (4, .box 30 [.d (eInt 0), .d (eInt 0), .nil, .nil])]⟩ ?_ ?_
  · refine wpL_region Tryd.tyOk (by decide) ?_
    simp only [go_sem, ↓reduceIte, Nat.reduceEqDiff, Nat.reduceAdd, Nat.reduceLeDiff, Nat.reduceMul, Nat.reducePow, Nat.reduceLT, Nat.reduceSub, Int.reduceEq, Int.reduceLT, Int.reduceLE, Int.reduceNeg, Int.reduceToNat, Int.cast_ofNat_Int]
    refine ⟨_, ea, ?_⟩
    cases c1 : rightT a
    · simp only [go_sem, ↓reduceIte, Nat.reduceEqDiff, Nat.reduceAdd, Nat.reduceLeDiff, Nat.reduceMul, Nat.reducePow, Nat.reduceLT, Nat.reduceSub, Int.reduceEq, Int.reduceLT, Int.reduceLE, Int.reduceNeg, Int.reduceToNat, Int.cast_ofNat_Int, decide_false, decide_true, Ne, not_true_eq_false, not_false_eq_true, Bool.not_true, Bool.not_false]
      refine le_mk ?_ ?_ ?_ <;> (simp only [go_sem, ↓reduceIte, Nat.reduceEqDiff]; try simp [eInt, eStr, rBool, rInt, rStr, rTwo, rThree, eTy, rTy, eInts, c1]; try simp (disch := omega) only [IntWalk.i64_in, and_self])
    simp only [go_sem, ↓reduceIte, Nat.reduceEqDiff, Nat.reduceAdd, Nat.reduceLeDiff, Nat.reduceMul, Nat.reducePow, Nat.reduceLT, Nat.reduceSub, Int.reduceEq, Int.reduceLT, Int.reduceLE, Int.reduceNeg, Int.reduceToNat, Int.cast_ofNat_Int, decide_false, decide_true, Ne, not_true_eq_false, not_false_eq_true, Bool.not_true, Bool.not_false]
    refine ⟨_, eb, ?_⟩
    cases c2 : rightT b
    · simp only [go_sem, ↓reduceIte, Nat.reduceEqDiff, Nat.reduceAdd, Nat.reduceLeDiff, Nat.reduceMul, Nat.reducePow, Nat.reduceLT, Nat.reduceSub, Int.reduceEq, Int.reduceLT, Int.reduceLE, Int.reduceNeg, Int.reduceToNat, Int.cast_ofNat_Int, decide_false, decide_true, Ne, not_true_eq_false, not_false_eq_true, Bool.not_true, Bool.not_false]
      refine le_mk ?_ ?_ ?_ <;> (simp only [go_sem, ↓reduceIte, Nat.reduceEqDiff]; try simp [eInt, eStr, rBool, rInt, rStr, rTwo, rThree, eTy, rTy, eInts, c1, c2]; try simp (disch := omega) only [IntWalk.i64_in, and_self])
    · simp only [go_sem, ↓reduceIte, Nat.reduceEqDiff, Nat.reduceAdd, Nat.reduceLeDiff, Nat.reduceMul, Nat.reducePow, Nat.reduceLT, Nat.reduceSub, Int.reduceEq, Int.reduceLT, Int.reduceLE, Int.reduceNeg, Int.reduceToNat, Int.cast_ofNat_Int, decide_false, decide_true, Ne, not_true_eq_false, not_false_eq_true, Bool.not_true, Bool.not_false]
      refine le_mk ?_ ?_ ?_ <;> (simp only [go_sem, ↓reduceIte, Nat.reduceEqDiff]; try simp [eInt, eStr, rBool, rInt, rStr, rTwo, rThree, eTy, rTy, eInts, c1, c2]; try simp (disch := omega) only [IntWalk.i64_in, and_self])
  try simp only [go_sem, ↓reduceIte, Nat.reduceEqDiff]
  cases hh : (rightT a && rightT b)
  · rw [hh, if_neg Bool.noConfusion] at hr
    subst hr
    refine wpL_cond (t := true) (by simp only [go_sem, ↓reduceIte, Nat.reduceEqDiff, hh, Bool.not_false]) (fun _ => ?_) (fun h => Bool.noConfusion h)
    try simp only [go_sem, ↓reduceIte, Nat.reduceEqDiff]
    refine wpL_region Tryd.tyOk (by decide) ?_
    simp only [go_sem, ↓reduceIte, Nat.reduceEqDiff, Nat.reduceAdd, Nat.reduceLeDiff, Nat.reduceMul, Nat.reducePow, Nat.reduceLT, Nat.reduceSub, Int.reduceEq, Int.reduceLT, Int.reduceLE, Int.reduceNeg, Int.reduceToNat, Int.cast_ofNat_Int]
    refine wpL_ret ?_
    rw [← hBQ]
    try simp only [go_sem, ↓reduceIte, Nat.reduceEqDiff, Nat.reduceAdd, Nat.reduceLeDiff, Nat.reduceMul, Nat.reducePow, Nat.reduceLT, Nat.reduceSub, Int.reduceEq, Int.reduceLT, Int.reduceLE, Int.reduceNeg, Int.reduceToNat, Int.cast_ofNat_Int]
    rfl
  rw [hh, if_pos rfl] at hr
  refine wpL_cond (t := false) (by simp only [go_sem, ↓reduceIte, Nat.reduceEqDiff, hh, Bool.not_true]) (fun h => Bool.noConfusion h) (fun _ => ?_)
  rw [Bool.and_eq_true] at hh
  obtain ⟨c1, c2⟩ := hh
  obtain ⟨p1, p2, p3, p4, p5, p6, p7, p8⟩ := right_parts c1
  obtain ⟨q1, q2, q3, q4, q5, q6, q7, q8⟩ := right_parts c2
  try simp only [go_sem, ↓reduceIte, Nat.reduceEqDiff]
  refine wpL_skip ?_
  have hor := or_kb p1 q1
  simp only [go_sem] at hor
  refine wpL_region Tryd.tyOk (by decide) ?_
  simp only [go_sem, ↓reduceIte, Nat.reduceEqDiff, Nat.reduceAdd, Nat.reduceLeDiff, Nat.reduceMul, Nat.reducePow, Nat.reduceLT, Nat.reduceSub, Int.reduceEq, Int.reduceLT, Int.reduceLE, Int.reduceNeg, Int.reduceToNat, Int.cast_ofNat_Int, hor]
  refine wpL_nilCell 5 2 500 3 1 (by rfl) (by rfl) (by decide) (by simp only [go_sem, ↓reduceIte, Nat.reduceEqDiff, Nat.reduceAdd, Nat.reduceLeDiff, Nat.reduceMul, Nat.reducePow, Nat.reduceLT, Nat.reduceSub, Int.reduceEq, Int.reduceLT, Int.reduceLE, Int.reduceNeg, Int.reduceToNat, Int.cast_ofNat_Int]) ?_
  try simp only [go_sem, ↓reduceIte, Nat.reduceEqDiff]
  have hlen : a.rank = b.rank → a.dims.length = b.dims.length := by omega
  refine wpL_to ⟨[(32, .c (.d (.sc (.bool (decide (a.rank = b.rank) && decide (0 ≤ a.rank)))))), (5, .c (.ptr 5 0)), (2, .c (.ptr 2 0)), (3, .c (.ptr 3 0)), (4, .c (.ptr 4 0))], [(5, .box 30 [.d (eInt (orK a.kinds b.kinds)), .d (eInt (-1)), .row 500, .nil]), (500, .arr 3 1 (eInts []) false), (2, .box 30 [.d (eInt a.kinds), .d (eInt a.rank), .d (.sl (eInts a.dims)), .d (.sl (a.known.map eArr))]), (3, .box 30 [.d (eInt b.kinds), .d (eInt b.rank), .d (.sl (eInts b.dims)), .d (.sl (b.known.map eArr))]), (4, .box 30 [.d (eInt 0), .d (eInt 0), .nil, .nil])]⟩ ?_ ?_
  · by_cases d1 : a.rank = b.rank
    · by_cases d2 : a.rank ≥ 0
      · have d2' : 0 ≤ a.rank := d2
        refine wpL_region Tryd.tyOk (by decide) ?_
        simp only [go_sem, ↓reduceIte, Nat.reduceEqDiff, Nat.reduceAdd, Nat.reduceLeDiff, Nat.reduceMul, Nat.reducePow, Nat.reduceLT, Nat.reduceSub, Int.reduceEq, Int.reduceLT, Int.reduceLE, Int.reduceNeg, Int.reduceToNat, Int.cast_ofNat_Int, eq_true d1, d2, decide_false, decide_true, Ne, not_true_eq_false, not_false_eq_true, Bool.not_true, Bool.not_false]
        refine le_mk ?_ ?_ ?_ <;> (simp only [go_sem, ↓reduceIte, Nat.reduceEqDiff]; try simp [eInt, eStr, rBool, rInt, rStr, rTwo, rThree, eTy, rTy, eInts, eq_true d1, d2']; try simp (disch := omega) only [IntWalk.i64_in, and_self])
      · have d2' : ¬ 0 ≤ a.rank := d2
        refine wpL_region Tryd.tyOk (by decide) ?_
        simp only [go_sem, ↓reduceIte, Nat.reduceEqDiff, Nat.reduceAdd, Nat.reduceLeDiff, Nat.reduceMul, Nat.reducePow, Nat.reduceLT, Nat.reduceSub, Int.reduceEq, Int.reduceLT, Int.reduceLE, Int.reduceNeg, Int.reduceToNat, Int.cast_ofNat_Int, eq_true d1, d2, decide_false, decide_true, Ne, not_true_eq_false, not_false_eq_true, Bool.not_true, Bool.not_false]
        refine le_mk ?_ ?_ ?_ <;> (simp only [go_sem, ↓reduceIte, Nat.reduceEqDiff]; try simp [eInt, eStr, rBool, rInt, rStr, rTwo, rThree, eTy, rTy, eInts, eq_true d1, d2']; try simp (disch := omega) only [IntWalk.i64_in, and_self])
    · refine wpL_region Tryd.tyOk (by decide) ?_
      simp only [go_sem, ↓reduceIte, Nat.reduceEqDiff, Nat.reduceAdd, Nat.reduceLeDiff, Nat.reduceMul, Nat.reducePow, Nat.reduceLT, Nat.reduceSub, Int.reduceEq, Int.reduceLT, Int.reduceLE, Int.reduceNeg, Int.reduceToNat, Int.cast_ofNat_Int, d1, decide_false, decide_true, Ne, not_true_eq_false, not_false_eq_true, Bool.not_true, Bool.not_false]
      refine le_mk ?_ ?_ ?_ <;> (simp only [go_sem, ↓reduceIte, Nat.reduceEqDiff]; try simp [eInt, eStr, rBool, rInt, rStr, rTwo, rThree, eTy, rTy, eInts, d1]; try simp (disch := omega) only [IntWalk.i64_in, and_self])
  try simp only [go_sem, ↓reduceIte, Nat.reduceEqDiff]
  refine wpL_to ⟨[(5, .c (.ptr 5 0)), (2, .c (.ptr 2 0)), (3, .c (.ptr 3 0)), (4, .c (.ptr 4 0))], [(5, .box 30 [.d (eInt (orK a.kinds b.kinds)), .d (eInt (rankJ a b)), .row 500, .nil]), (500, .arr 3 1 (eInts (dimsJ a b)) false), (2, .box 30 [.d (eInt a.kinds), .d (eInt a.rank), .d (.sl (eInts a.dims)), .d (.sl (a.known.map eArr))]), (3, .box 30 [.d (eInt b.kinds), .d (eInt b.rank), .d (.sl (eInts b.dims)), .d (.sl (b.known.map eArr))]), (4, .box 30 [.d (eInt 0), .d (eInt 0), .nil, .nil])]⟩ ?_ ?_
  · cases hc : (decide (a.rank = b.rank) && decide (0 ≤ a.rank))
    · have hj : ¬ (a.rank = b.rank ∧ 0 ≤ a.rank) := by simpa using hc
      have hj1 : rankJ a b = -1 := by unfold rankJ; rw [if_neg hj]
      have hj2 : dimsJ a b = [] := by unfold dimsJ; rw [if_neg hj]
      refine wpL_cond (t := false) (by simp only [go_sem, ↓reduceIte, Nat.reduceEqDiff, hc]) (fun h => Bool.noConfusion h) (fun _ => ?_)
      try simp only [go_sem, ↓reduceIte, Nat.reduceEqDiff]
      refine wpL_skip ?_
      try simp only [go_sem, ↓reduceIte, Nat.reduceEqDiff]
      rw [hj1, hj2]
      refine le_mk ?_ ?_ ?_ <;> (simp only [go_sem, ↓reduceIte, Nat.reduceEqDiff]; try simp [eInt, eStr, rBool, rInt, rStr, rTwo, rThree, eTy, rTy, eInts]; try simp (disch := omega) only [IntWalk.i64_in, and_self])
    · have hj : a.rank = b.rank ∧ 0 ≤ a.rank := by simpa using hc
      have hj1 : rankJ a b = a.rank := by unfold rankJ; rw [if_pos hj]
      have hj2 : dimsJ a b = jD a.dims b.dims := by unfold dimsJ; rw [if_pos hj]
      have hll := hlen hj.1
      have hjl := jD_len a.dims b.dims hll
      have har : a.rank = a.dims.length := by omega
      refine wpL_cond (t := true) (by simp only [go_sem, ↓reduceIte, Nat.reduceEqDiff, hc]) (fun _ => ?_) (fun h => Bool.noConfusion h)
      try simp only [go_sem, ↓reduceIte, Nat.reduceEqDiff]
      rw [hj1, hj2]
      iterate 2 (refine wpL_region Tryd.tyOk (by decide) ?_; simp only [go_sem, ↓reduceIte, Nat.reduceEqDiff, Nat.reduceAdd, Nat.reduceLeDiff, Nat.reduceMul, Nat.reducePow, Nat.reduceLT, Nat.reduceSub, Int.reduceEq, Int.reduceLT, Int.reduceLE, Int.reduceNeg, Int.reduceToNat, Int.cast_ofNat_Int, eInts_len])
      refine wpL_block ?_
      generalize hB0 : blockQ _ _ _ = B0
      simp only [go_sem, ↓reduceIte, Nat.reduceEqDiff]
      refine wpL_loop (fun n s => ∃ j : Nat, j ≤ a.dims.length ∧ n = a.dims.length - j ∧ s = ⟨[(39, sint .i64 j), (38, sint .i64 a.dims.length), (37, .c (.d (.sl (eInts a.dims)))), (5, .c (.ptr 5 0)), (2, .c (.ptr 2 0)), (3, .c (.ptr 3 0)), (4, .c (.ptr 4 0))], [(5, .box 30 [.d (eInt (orK a.kinds b.kinds)), .d (eInt a.rank), .row 500, .nil]), (500, .arr 3 1 (eInts ((jD a.dims b.dims).take j)) false), (2, .box 30 [.d (eInt a.kinds), .d (eInt a.rank), .d (.sl (eInts a.dims)), .d (.sl (a.known.map eArr))]), (3, .box 30 [.d (eInt b.kinds), .d (eInt b.rank), .d (.sl (eInts b.dims)), .d (.sl (b.known.map eArr))]), (4, .box 30 [.d (eInt 0), .d (eInt 0), .nil, .nil])]⟩) ?_ ?_
      · refine ⟨_, _, ⟨0, by omega, rfl, rfl⟩, ?_⟩
        refine le_mk ?_ ?_ ?_ <;> (simp only [go_sem, ↓reduceIte, Nat.reduceEqDiff]; try simp [eInt, eStr, rBool, rInt, rStr, rTwo, rThree, eTy, rTy, eInts]; try simp (disch := omega) only [IntWalk.i64_in, and_self])
      rintro n s ⟨j, hj, rfl, rfl⟩
      simp only [go_sem, ↓reduceIte, Nat.reduceEqDiff, Nat.reduceAdd, Nat.reduceLeDiff, Nat.reduceMul, Nat.reducePow, Nat.reduceLT, Nat.reduceSub, Int.reduceEq, Int.reduceLT, Int.reduceLE, Int.reduceNeg, Int.reduceToNat, Int.cast_ofNat_Int]
      refine wpL_region Tryd.tyOk (by decide) ?_
      simp only [go_sem, ↓reduceIte, Nat.reduceEqDiff, Nat.reduceAdd, Nat.reduceLeDiff, Nat.reduceMul, Nat.reducePow, Nat.reduceLT, Nat.reduceSub, Int.reduceEq, Int.reduceLT, Int.reduceLE, Int.reduceNeg, Int.reduceToNat, Int.cast_ofNat_Int]
      refine wpL_cond (t := decide ((j : Int) < a.dims.length)) (by simp only [go_sem, ↓reduceIte, Nat.reduceEqDiff]) (fun hlt => ?_) (fun hge => ?_)
      · have hlt := of_decide_eq_true hlt
        obtain ⟨d, hd⟩ := get_ex (l := a.dims) (i := j) (by omega)
        obtain ⟨e, he⟩ := get_ex (l := b.dims) (i := j) (by omega)
        have hjt := jD_take hd he
        simp only [go_sem, ↓reduceIte, Nat.reduceEqDiff, Nat.reduceAdd, Nat.reduceLeDiff, Nat.reduceMul, Nat.reducePow, Nat.reduceLT, Nat.reduceSub, Int.reduceEq, Int.reduceLT, Int.reduceLE, Int.reduceNeg, Int.reduceToNat, Int.cast_ofNat_Int]
        refine wpL_skip ?_
        refine wpL_block ?_
        generalize hB1 : blockQ _ _ _ = B1
        simp only [go_sem, ↓reduceIte, Nat.reduceEqDiff]
        iterate 2 (refine wpL_region Tryd.tyOk (by decide) ?_; simp only [go_sem, ↓reduceIte, Nat.reduceEqDiff, Nat.reduceAdd, Nat.reduceLeDiff, Nat.reduceMul, Nat.reducePow, Nat.reduceLT, Nat.reduceSub, Int.reduceEq, Int.reduceLT, Int.reduceLE, Int.reduceNeg, Int.reduceToNat, Int.cast_ofNat_Int, eInts_get hd, eInts_get he])
        refine wpL_to ⟨[(7, sint .i64 (if d = e then d else -1)), (6, sint .i64 j), (39, sint .i64 j), (38, sint .i64 a.dims.length), (37, .c (.d (.sl (eInts a.dims)))), (5, .c (.ptr 5 0)), (2, .c (.ptr 2 0)), (3, .c (.ptr 3 0)), (4, .c (.ptr 4 0))], [(5, .box 30 [.d (eInt (orK a.kinds b.kinds)), .d (eInt a.rank), .row 500, .nil]), (500, .arr 3 1 (eInts ((jD a.dims b.dims).take j)) false), (2, .box 30 [.d (eInt a.kinds), .d (eInt a.rank), .d (.sl (eInts a.dims)), .d (.sl (a.known.map eArr))]), (3, .box 30 [.d (eInt b.kinds), .d (eInt b.rank), .d (.sl (eInts b.dims)), .d (.sl (b.known.map eArr))]), (4, .box 30 [.d (eInt 0), .d (eInt 0), .nil, .nil])]⟩ ?_ ?_
        · by_cases hde : d = e
          · refine wpL_cond (t := false) (by simp only [go_sem, ↓reduceIte, Nat.reduceEqDiff, eq_true hde, decide_false, decide_true, Ne, not_true_eq_false, not_false_eq_true, Bool.not_true, Bool.not_false]) (fun h => Bool.noConfusion h) (fun _ => ?_)
            try simp only [go_sem, ↓reduceIte, Nat.reduceEqDiff]
            refine wpL_skip ?_
            try simp only [go_sem, ↓reduceIte, Nat.reduceEqDiff]
            refine le_mk ?_ ?_ ?_ <;> (simp only [go_sem, ↓reduceIte, Nat.reduceEqDiff]; try simp [eInt, eStr, rBool, rInt, rStr, rTwo, rThree, eTy, rTy, eInts, hde]; try simp (disch := omega) only [IntWalk.i64_in, and_self])
          · refine wpL_cond (t := true) (by simp only [go_sem, ↓reduceIte, Nat.reduceEqDiff, hde, decide_false, decide_true, Ne, not_true_eq_false, not_false_eq_true, Bool.not_true, Bool.not_false]) (fun _ => ?_) (fun h => Bool.noConfusion h)
            try simp only [go_sem, ↓reduceIte, Nat.reduceEqDiff]
            refine wpL_region Tryd.tyOk (by decide) ?_
            simp only [go_sem, ↓reduceIte, Nat.reduceEqDiff, Nat.reduceAdd, Nat.reduceLeDiff, Nat.reduceMul, Nat.reducePow, Nat.reduceLT, Nat.reduceSub, Int.reduceEq, Int.reduceLT, Int.reduceLE, Int.reduceNeg, Int.reduceToNat, Int.cast_ofNat_Int]
            refine le_mk ?_ ?_ ?_ <;> (simp only [go_sem, ↓reduceIte, Nat.reduceEqDiff]; try simp [eInt, eStr, rBool, rInt, rStr, rTwo, rThree, eTy, rTy, eInts, hde]; try simp (disch := omega) only [IntWalk.i64_in, and_self])
        generalize (if d = e then d else -1) = v at *
        try simp only [go_sem, ↓reduceIte, Nat.reduceEqDiff]
        refine wpL_region Tryd.tyOk (by decide) ?_
        simp only [go_sem, ↓reduceIte, Nat.reduceEqDiff, Nat.reduceAdd, Nat.reduceLeDiff, Nat.reduceMul, Nat.reducePow, Nat.reduceLT, Nat.reduceSub, Int.reduceEq, Int.reduceLT, Int.reduceLE, Int.reduceNeg, Int.reduceToNat, Int.cast_ofNat_Int]
        refine ⟨⟨by simp only [List.length_take]; omega, by simp⟩, ?_⟩
        rw [← hB1]
        try simp only [go_sem, ↓reduceIte, Nat.reduceEqDiff]
        refine wpL_region Tryd.tyOk (by decide) ?_
        simp only [go_sem, ↓reduceIte, Nat.reduceEqDiff, Nat.reduceAdd, Nat.reduceLeDiff, Nat.reduceMul, Nat.reducePow, Nat.reduceLT, Nat.reduceSub, Int.reduceEq, Int.reduceLT, Int.reduceLE, Int.reduceNeg, Int.reduceToNat, Int.cast_ofNat_Int]
        refine ⟨_, _, ?_, ⟨j + 1, by omega, rfl, rfl⟩, ?_⟩
        · omega
        · rw [hjt]
          refine le_mk ?_ ?_ ?_ <;> (simp only [go_sem, ↓reduceIte, Nat.reduceEqDiff]; try simp [eInt, eStr, rBool, rInt, rStr, rTwo, rThree, eTy, rTy, eInts]; try simp (disch := omega) only [IntWalk.i64_in, and_self])
      have hge : ¬ (j : Int) < a.dims.length := by simpa using hge
      refine wpL_exit ?_
      rw [← hB0]
      try simp only [go_sem, ↓reduceIte, Nat.reduceEqDiff]
      rw [List.take_of_length_le (by omega)]
      refine le_mk ?_ ?_ ?_ <;> (simp only [go_sem, ↓reduceIte, Nat.reduceEqDiff]; try simp [eInt, eStr, rBool, rInt, rStr, rTwo, rThree, eTy, rTy, eInts]; try simp (disch := omega) only [IntWalk.i64_in, and_self])
  try simp only [go_sem, ↓reduceIte, Nat.reduceEqDiff]
  refine wpL_region Tryd.tyOk (by decide) ?_
  simp only [go_sem, ↓reduceIte, Nat.reduceEqDiff, Nat.reduceAdd, Nat.reduceLeDiff, Nat.reduceMul, Nat.reducePow, Nat.reduceLT, Nat.reduceSub, Int.reduceEq, Int.reduceLT, Int.reduceLE, Int.reduceNeg, Int.reduceToNat, Int.cast_ofNat_Int]
  refine ⟨_, ek, ?_⟩
  cases hkn : knownS a.known b.known
  · have hj3 : knownJ a b = [] := by unfold knownJ; rw [hkn]; rfl
    simp only [go_sem, ↓reduceIte, Nat.reduceEqDiff, Nat.reduceAdd, Nat.reduceLeDiff, Nat.reduceMul, Nat.reducePow, Nat.reduceLT, Nat.reduceSub, Int.reduceEq, Int.reduceLT, Int.reduceLE, Int.reduceNeg, Int.reduceToNat, Int.cast_ofNat_Int]
    refine wpL_cond (t := false) (by simp only [go_sem, ↓reduceIte, Nat.reduceEqDiff]) (fun h => Bool.noConfusion h) (fun _ => ?_)
    try simp only [go_sem, ↓reduceIte, Nat.reduceEqDiff]
    refine wpL_skip ?_
    refine wpL_fast 500 (by rfl) ?_
    try simp only [go_sem, ↓reduceIte, Nat.reduceEqDiff]
    refine wpL_region Tryd.tyOk (by decide) ?_
    simp only [go_sem, ↓reduceIte, Nat.reduceEqDiff, Nat.reduceAdd, Nat.reduceLeDiff, Nat.reduceMul, Nat.reducePow, Nat.reduceLT, Nat.reduceSub, Int.reduceEq, Int.reduceLT, Int.reduceLE, Int.reduceNeg, Int.reduceToNat, Int.cast_ofNat_Int]
    refine wpL_ret ?_
    rw [← hBQ]
    try simp only [go_sem, ↓reduceIte, Nat.reduceEqDiff, Nat.reduceAdd, Nat.reduceLeDiff, Nat.reduceMul, Nat.reducePow, Nat.reduceLT, Nat.reduceSub, Int.reduceEq, Int.reduceLT, Int.reduceLE, Int.reduceNeg, Int.reduceToNat, Int.cast_ofNat_Int]
    subst hr
    rw [hj3]
    exact ⟨rfl, rfl, rfl, rfl⟩
  · have hj3 : knownJ a b = a.known := by unfold knownJ; rw [hkn]; rfl
    obtain ⟨x, hx, hy⟩ := known_one hkn
    have hchk : (chk x).1 = 0 := by have := p8 x (by rw [hx]; simp); simp [okKnown] at this; exact this.1
    have e := clone33 _ x (Nat.le_refl _) (a3 x (by rw [hx]; simp)) hchk
    have hx0 : (a.known.map eArr)[0]? = some (eArr x) := by rw [hx]; rfl
    have hl0 : (0 : Int) < (a.known.length : Int) := by rw [hx]; simp
    rw [rArr, eArr_eq] at e
    rw [eArr_eq] at hx0
    simp only [go_sem, ↓reduceIte, Nat.reduceEqDiff, Nat.reduceAdd, Nat.reduceLeDiff, Nat.reduceMul, Nat.reducePow, Nat.reduceLT, Nat.reduceSub, Int.reduceEq, Int.reduceLT, Int.reduceLE, Int.reduceNeg, Int.reduceToNat, Int.cast_ofNat_Int]
    refine wpL_cond (t := true) (by simp only [go_sem, ↓reduceIte, Nat.reduceEqDiff]) (fun _ => ?_) (fun h => Bool.noConfusion h)
    try simp only [go_sem, ↓reduceIte, Nat.reduceEqDiff]
    refine wpL_region Tryd.tyOk (by decide) ?_
    simp only [go_sem, ↓reduceIte, Nat.reduceEqDiff, Nat.reduceAdd, Nat.reduceLeDiff, Nat.reduceMul, Nat.reducePow, Nat.reduceLT, Nat.reduceSub, Int.reduceEq, Int.reduceLT, Int.reduceLE, Int.reduceNeg, Int.reduceToNat, Int.cast_ofNat_Int, List.length_map, hl0, hx0, Int.toNat_zero, true_and]
    refine ⟨_, e, ?_⟩
    simp only [go_sem, ↓reduceIte, Nat.reduceEqDiff, Nat.reduceAdd, Nat.reduceLeDiff, Nat.reduceMul, Nat.reducePow, Nat.reduceLT, Nat.reduceSub, Int.reduceEq, Int.reduceLT, Int.reduceLE, Int.reduceNeg, Int.reduceToNat, Int.cast_ofNat_Int]
    refine wpL_fast 500 (by rfl) ?_
    try simp only [go_sem, ↓reduceIte, Nat.reduceEqDiff]
    refine wpL_region Tryd.tyOk (by decide) ?_
    simp only [go_sem, ↓reduceIte, Nat.reduceEqDiff, Nat.reduceAdd, Nat.reduceLeDiff, Nat.reduceMul, Nat.reducePow, Nat.reduceLT, Nat.reduceSub, Int.reduceEq, Int.reduceLT, Int.reduceLE, Int.reduceNeg, Int.reduceToNat, Int.cast_ofNat_Int]
    refine wpL_ret ?_
    rw [← hBQ]
    try simp only [go_sem, ↓reduceIte, Nat.reduceEqDiff, Nat.reduceAdd, Nat.reduceLeDiff, Nat.reduceMul, Nat.reducePow, Nat.reduceLT, Nat.reduceSub, Int.reduceEq, Int.reduceLT, Int.reduceLE, Int.reduceNeg, Int.reduceToNat, Int.cast_ofNat_Int]
    subst hr
    rw [hj3, hx]
    simp [eArr_eq]
    rfl
theorem join24 (a b : Ty) (hA : GoodT a) (hB : GoodT b) : Gives Tryd.prog 24 [.agg (eTy a), .agg (eTy b)] (rTy (joinS a b)) := by
  have ea := right19 a hA
  have eb := right19 b hB
  obtain ⟨a1, a2, a3, ⟨a4, a5⟩, a6, a7⟩ := hA
  obtain ⟨b1, b2, b3, ⟨b4, b5⟩, b6, b7⟩ := hB
  obtain ⟨r, hr⟩ : ∃ r, joinS a b = r := ⟨_, rfl⟩
  rw [hr]
  unfold joinS at hr
  refine Gives.intro Tryd.tyOk Tryd.func24 (by kernel_rfl) rfl (by simp [Tryd.ntmps24]) ?_
  simp only [go_sem, ↓reduceIte, Nat.reduceEqDiff, Nat.reduceAdd, Nat.reduceLeDiff, Nat.reduceMul, Nat.reducePow, Nat.reduceLT, Nat.reduceSub, Int.reduceEq, Int.reduceLT, Int.reduceLE, Int.reduceNeg, Int.reduceToNat, Int.cast_ofNat_Int]
  simp only [Tryd.ntmps24, Tryd.results24, eInt, eStr, rBool, rInt, rStr, rTwo, rThree, eTy, rTy, List.map_cons, List.map_nil]
  generalize hBQ : retQ _ _ _ = BQ
  refine wpL_region Tryd.tyOk (by decide) ?_
  simp only [go_sem, ↓reduceIte, Nat.reduceEqDiff, Nat.reduceAdd, Nat.reduceLeDiff, Nat.reduceMul, Nat.reducePow, Nat.reduceLT, Nat.reduceSub, Int.reduceEq, Int.reduceLT, Int.reduceLE, Int.reduceNeg, Int.reduceToNat, Int.cast_ofNat_Int]
  refine wpL_to ⟨[(16, .c (.d (.sc (.bool (!(rightT a && rightT b)))))), (2, .c (.ptr 2 0)), (3, .c (.ptr 3 0)), (4, .c (.ptr 4 0))], [(2, .box 30 [.d (eInt a.kinds), .d (eInt a.rank), .d (.sl (eInts a.dims)), .d (.sl (a.known.map eArr))]), (3, .box 30 [.d (eInt b.kinds), .d (eInt b.rank), .d (.sl (eInts b.dims)), .d (.sl (b.known.map eArr))]), (4, .box 30 [.d (eInt 0), .d (eInt 0), .nil, .nil])]⟩ ?_ ?_
  · refine wpL_region Tryd.tyOk (by decide) ?_
    simp only [go_sem, ↓reduceIte, Nat.reduceEqDiff, Nat.reduceAdd, Nat.reduceLeDiff, Nat.reduceMul, Nat.reducePow, Nat.reduceLT, Nat.reduceSub, Int.reduceEq, Int.reduceLT, Int.reduceLE, Int.reduceNeg, Int.reduceToNat, Int.cast_ofNat_Int]
    refine ⟨_, ea, ?_⟩
    cases c1 : rightT a
    · simp only [go_sem, ↓reduceIte, Nat.reduceEqDiff, Nat.reduceAdd, Nat.reduceLeDiff, Nat.reduceMul, Nat.reducePow, Nat.reduceLT, Nat.reduceSub, Int.reduceEq, Int.reduceLT, Int.reduceLE, Int.reduceNeg, Int.reduceToNat, Int.cast_ofNat_Int, decide_false, decide_true, Ne, not_true_eq_false, not_false_eq_true, Bool.not_true, Bool.not_false]
      refine le_mk ?_ ?_ ?_ <;> (simp only [go_sem, ↓reduceIte, Nat.reduceEqDiff]; try simp [eInt, eStr, rBool, rInt, rStr, rTwo, rThree, eTy, rTy, eInts, c1]; try simp (disch := omega) only [IntWalk.i64_in, and_self])
    simp only [go_sem, ↓reduceIte, Nat.reduceEqDiff, Nat.reduceAdd, Nat.reduceLeDiff, Nat.reduceMul, Nat.reducePow, Nat.reduceLT, Nat.reduceSub, Int.reduceEq, Int.reduceLT, Int.reduceLE, Int.reduceNeg, Int.reduceToNat, Int.cast_ofNat_Int, decide_false, decide_true, Ne, not_true_eq_false, not_false_eq_true, Bool.not_true, Bool.not_false]
    refine ⟨_, eb, ?_⟩
    cases c2 : rightT b
    · simp only [go_sem, ↓reduceIte, Nat.reduceEqDiff, Nat.reduceAdd, Nat.reduceLeDiff, Nat.reduceMul, Nat.reducePow, Nat.reduceLT, Nat.reduceSub, Int.reduceEq, Int.reduceLT, Int.reduceLE, Int.reduceNeg, Int.reduceToNat, Int.cast_ofNat_Int, decide_false, decide_true, Ne, not_true_eq_false, not_false_eq_true, Bool.not_true, Bool.not_false]
      refine le_mk ?_ ?_ ?_ <;> (simp only [go_sem, ↓reduceIte, Nat.reduceEqDiff]; try simp [eInt, eStr, rBool, rInt, rStr, rTwo, rThree, eTy, rTy, eInts, c1, c2]; try simp (disch := omega) only [IntWalk.i64_in, and_self])
    · simp only [go_sem, ↓reduceIte, Nat.reduceEqDiff, Nat.reduceAdd, Nat.reduceLeDiff, Nat.reduceMul, Nat.reducePow, Nat.reduceLT, Nat.reduceSub, Int.reduceEq, Int.reduceLT, Int.reduceLE, Int.reduceNeg, Int.reduceToNat, Int.cast_ofNat_Int, decide_false, decide_true, Ne, not_true_eq_false, not_false_eq_true, Bool.not_true, Bool.not_false]
      refine le_mk ?_ ?_ ?_ <;> (simp only [go_sem, ↓reduceIte, Nat.reduceEqDiff]; try simp [eInt, eStr, rBool, rInt, rStr, rTwo, rThree, eTy, rTy, eInts, c1, c2]; try simp (disch := omega) only [IntWalk.i64_in, and_self])
  try simp only [go_sem, ↓reduceIte, Nat.reduceEqDiff]
  cases hh : (rightT a && rightT b)
  · rw [hh, if_neg Bool.noConfusion] at hr
    subst hr
    refine wpL_cond (t := true) (by simp only [go_sem, ↓reduceIte, Nat.reduceEqDiff, hh, Bool.not_false]) (fun _ => ?_) (fun h => Bool.noConfusion h)
    try simp only [go_sem, ↓reduceIte, Nat.reduceEqDiff]
    refine wpL_region Tryd.tyOk (by decide) ?_
    simp only [go_sem, ↓reduceIte, Nat.reduceEqDiff, Nat.reduceAdd, Nat.reduceLeDiff, Nat.reduceMul, Nat.reducePow, Nat.reduceLT, Nat.reduceSub, Int.reduceEq, Int.reduceLT, Int.reduceLE, Int.reduceNeg, Int.reduceToNat, Int.cast_ofNat_Int]
    refine wpL_ret ?_
    rw [← hBQ]
    try simp only [go_sem, ↓reduceIte, Nat.reduceEqDiff, Nat.reduceAdd, Nat.reduceLeDiff, Nat.reduceMul, Nat.reducePow, Nat.reduceLT, Nat.reduceSub, Int.reduceEq, Int.reduceLT, Int.reduceLE, Int.reduceNeg, Int.reduceToNat, Int.cast_ofNat_Int]
    rfl
  rw [hh, if_pos rfl] at hr
  refine wpL_cond (t := false) (by simp only [go_sem, ↓reduceIte, Nat.reduceEqDiff, hh, Bool.not_true]) (fun h => Bool.noConfusion h) (fun _ => ?_)
  rw [Bool.and_eq_true] at hh
  obtain ⟨c1, c2⟩ := hh
  obtain ⟨p1, p2, p3, p4, p5, p6, p7, p8⟩ := right_parts c1
  obtain ⟨q1, q2, q3, q4, q5, q6, q7, q8⟩ := right_parts c2
  try simp only [go_sem, ↓reduceIte, Nat.reduceEqDiff]
  refine wpL_skip ?_
  refine wpL_region Tryd.tyOk (by decide) ?_
  simp only [go_sem, ↓reduceIte, Nat.reduceEqDiff, Nat.reduceAdd, Nat.reduceLeDiff, Nat.reduceMul, Nat.reducePow, Nat.reduceLT, Nat.reduceSub, Int.reduceEq, Int.reduceLT, Int.reduceLE, Int.reduceNeg, Int.reduceToNat, Int.cast_ofNat_Int]
  refine wpL_nilCell 5 2 500 3 1 (by rfl) (by rfl) (by decide) (by simp only [go_sem, ↓reduceIte, Nat.reduceEqDiff, Nat.reduceAdd, Nat.reduceLeDiff, Nat.reduceMul, Nat.reducePow, Nat.reduceLT, Nat.reduceSub, Int.reduceEq, Int.reduceLT, Int.reduceLE, Int.reduceNeg, Int.reduceToNat, Int.cast_ofNat_Int]) ?_
  try simp only [go_sem, ↓reduceIte, Nat.reduceEqDiff]
  have ha0 := k7_pos p1
  have hb0 := k7_pos q1
  refine wpL_region Tryd.tyOk (by decide) ?_
  simp only [go_sem, ↓reduceIte, Nat.reduceEqDiff, Nat.reduceAdd, Nat.reduceLeDiff, Nat.reduceMul, Nat.reducePow, Nat.reduceLT, Nat.reduceSub, Int.reduceEq, Int.reduceLT, Int.reduceLE, Int.reduceNeg, Int.reduceToNat, Int.cast_ofNat_Int]
  refine wpL_to ⟨[(5, .c (.ptr 5 0)), (2, .c (.ptr 2 0)), (3, .c (.ptr 3 0)), (4, .c (.ptr 4 0))], [(5, .box 30 [.d (eInt (orK a.kinds b.kinds)), .d (eInt (-1)), .row 500, .nil]), (500, .arr 3 1 (eInts []) false), (2, .box 30 [.d (eInt a.kinds), .d (eInt a.rank), .d (.sl (eInts a.dims)), .d (.sl (a.known.map eArr))]), (3, .box 30 [.d (eInt b.kinds), .d (eInt b.rank), .d (.sl (eInts b.dims)), .d (.sl (b.known.map eArr))]), (4, .box 30 [.d (eInt 0), .d (eInt 0), .nil, .nil])]⟩ ?_ ?_
  · refine wpL_block ?_
    generalize hB0 : blockQ _ _ _ = B0
    simp only [go_sem, ↓reduceIte, Nat.reduceEqDiff]
    refine wpL_loop (fun n s => ∃ i : Nat, i ≤ 3 ∧ n = 3 - i ∧ s = ⟨[(6, sint .i64 (if i = 0 then 2 else if i = 1 then 4 else if i = 2 then 8 else 16)), (5, .c (.ptr 5 0)), (2, .c (.ptr 2 0)), (3, .c (.ptr 3 0)), (4, .c (.ptr 4 0))], [(5, .box 30 [.d (eInt (if i = 0 then 0 else if i = 1 then (if bitAt a.kinds 2 || bitAt b.kinds 2 then 2 else 0) else if i = 2 then (if bitAt a.kinds 2 || bitAt b.kinds 2 then 2 else 0) + (if bitAt a.kinds 4 || bitAt b.kinds 4 then 4 else 0) else orK a.kinds b.kinds)), .d (eInt (-1)), .row 500, .nil]), (500, .arr 3 1 (eInts []) false), (2, .box 30 [.d (eInt a.kinds), .d (eInt a.rank), .d (.sl (eInts a.dims)), .d (.sl (a.known.map eArr))]), (3, .box 30 [.d (eInt b.kinds), .d (eInt b.rank), .d (.sl (eInts b.dims)), .d (.sl (b.known.map eArr))]), (4, .box 30 [.d (eInt 0), .d (eInt 0), .nil, .nil])]⟩) ?_ ?_
    · refine ⟨_, _, ⟨0, by omega, rfl, rfl⟩, ?_⟩
      refine le_mk ?_ ?_ ?_ <;> (simp only [go_sem, ↓reduceIte, Nat.reduceEqDiff]; try simp [eInt, eStr, rBool, rInt, rStr, rTwo, rThree, eTy, rTy, eInts]; try simp (disch := omega) only [IntWalk.i64_in, and_self])
    rintro n s ⟨i, hi, rfl, rfl⟩
    have hi' : i = 0 ∨ i = 1 ∨ i = 2 ∨ i = 3 := by omega
    rcases hi' with rfl | rfl | rfl | rfl
    · have w1 := div_wrap (a := a.kinds) (k := 2) ha0 a5 (by omega)
      have w2 := div_wrap (a := b.kinds) (k := 2) hb0 b5 (by omega)
      have w3 : IntKind.i64.wrap (2 * 2) = 4 := by decide
      have w4 : ∀ x y : Bool, IntKind.i64.wrap ((if x then 2 else 0) + 4) = (if x then 2 else 0) + 4 ∧ IntKind.i64.wrap ((if x then 2 else 0) + (if y then 4 else 0) + 8) = (if x then 2 else 0) + (if y then 4 else 0) + 8 := by decide
      have w5 : IntKind.i64.wrap (0 + 2) = 2 := by decide
      simp only [go_sem, ↓reduceIte, Nat.reduceEqDiff, Nat.reduceAdd, Nat.reduceLeDiff, Nat.reduceMul, Nat.reducePow, Nat.reduceLT, Nat.reduceSub, Int.reduceEq, Int.reduceLT, Int.reduceLE, Int.reduceNeg, Int.reduceToNat, Int.cast_ofNat_Int]
      refine wpL_region Tryd.tyOk (by decide) ?_
      simp only [go_sem, ↓reduceIte, Nat.reduceEqDiff, Nat.reduceAdd, Nat.reduceLeDiff, Nat.reduceMul, Nat.reducePow, Nat.reduceLT, Nat.reduceSub, Int.reduceEq, Int.reduceLT, Int.reduceLE, Int.reduceNeg, Int.reduceToNat, Int.cast_ofNat_Int, decide_true]
      refine wpL_cond (t := true) (by simp only [go_sem, ↓reduceIte, Nat.reduceEqDiff]) (fun _ => ?_) (fun h => Bool.noConfusion h)
      try simp only [go_sem, ↓reduceIte, Nat.reduceEqDiff]
      refine wpL_skip ?_
      refine wpL_block ?_
      generalize hB1 : blockQ _ _ _ = B1
      simp only [go_sem, ↓reduceIte, Nat.reduceEqDiff]
      refine wpL_to ⟨[(36, .c (.d (.sc (.bool (bitAt a.kinds 2 || bitAt b.kinds 2))))), (6, sint .i64 2), (5, .c (.ptr 5 0)), (2, .c (.ptr 2 0)), (3, .c (.ptr 3 0)), (4, .c (.ptr 4 0))], [(5, .box 30 [.d (eInt 0), .d (eInt (-1)), .row 500, .nil]), (500, .arr 3 1 (eInts []) false), (2, .box 30 [.d (eInt a.kinds), .d (eInt a.rank), .d (.sl (eInts a.dims)), .d (.sl (a.known.map eArr))]), (3, .box 30 [.d (eInt b.kinds), .d (eInt b.rank), .d (.sl (eInts b.dims)), .d (.sl (b.known.map eArr))]), (4, .box 30 [.d (eInt 0), .d (eInt 0), .nil, .nil])]⟩ ?_ ?_
      · by_cases c1 : Int.tmod (Int.tdiv a.kinds 2) 2 = 1
        · have hs : bitAt a.kinds 2 = true := by unfold bitAt; exact decide_eq_true c1
          refine wpL_region Tryd.tyOk (by decide) ?_
          simp only [go_sem, ↓reduceIte, Nat.reduceEqDiff, Nat.reduceAdd, Nat.reduceLeDiff, Nat.reduceMul, Nat.reducePow, Nat.reduceLT, Nat.reduceSub, Int.reduceEq, Int.reduceLT, Int.reduceLE, Int.reduceNeg, Int.reduceToNat, Int.cast_ofNat_Int, w1, w2, c1, decide_false, decide_true, Ne, not_true_eq_false, not_false_eq_true, Bool.not_true, Bool.not_false]
          refine le_mk ?_ ?_ ?_ <;> (simp only [go_sem, ↓reduceIte, Nat.reduceEqDiff]; try simp [eInt, eStr, rBool, rInt, rStr, rTwo, rThree, eTy, rTy, eInts, hs]; try simp (disch := omega) only [IntWalk.i64_in, and_self])
        · have hs : bitAt a.kinds 2 = false := by unfold bitAt; exact decide_eq_false c1
          by_cases c2 : Int.tmod (Int.tdiv b.kinds 2) 2 = 1
          · have hs2 : bitAt b.kinds 2 = true := by unfold bitAt; exact decide_eq_true c2
            refine wpL_region Tryd.tyOk (by decide) ?_
            simp only [go_sem, ↓reduceIte, Nat.reduceEqDiff, Nat.reduceAdd, Nat.reduceLeDiff, Nat.reduceMul, Nat.reducePow, Nat.reduceLT, Nat.reduceSub, Int.reduceEq, Int.reduceLT, Int.reduceLE, Int.reduceNeg, Int.reduceToNat, Int.cast_ofNat_Int, w1, w2, c1, c2, decide_false, decide_true, Ne, not_true_eq_false, not_false_eq_true, Bool.not_true, Bool.not_false]
            refine le_mk ?_ ?_ ?_ <;> (simp only [go_sem, ↓reduceIte, Nat.reduceEqDiff]; try simp [eInt, eStr, rBool, rInt, rStr, rTwo, rThree, eTy, rTy, eInts, hs, hs2]; try simp (disch := omega) only [IntWalk.i64_in, and_self])
          · have hs2 : bitAt b.kinds 2 = false := by unfold bitAt; exact decide_eq_false c2
            refine wpL_region Tryd.tyOk (by decide) ?_
            simp only [go_sem, ↓reduceIte, Nat.reduceEqDiff, Nat.reduceAdd, Nat.reduceLeDiff, Nat.reduceMul, Nat.reducePow, Nat.reduceLT, Nat.reduceSub, Int.reduceEq, Int.reduceLT, Int.reduceLE, Int.reduceNeg, Int.reduceToNat, Int.cast_ofNat_Int, w1, w2, c1, c2, decide_false, decide_true, Ne, not_true_eq_false, not_false_eq_true, Bool.not_true, Bool.not_false]
            refine le_mk ?_ ?_ ?_ <;> (simp only [go_sem, ↓reduceIte, Nat.reduceEqDiff]; try simp [eInt, eStr, rBool, rInt, rStr, rTwo, rThree, eTy, rTy, eInts, hs, hs2]; try simp (disch := omega) only [IntWalk.i64_in, and_self])
      try simp only [go_sem, ↓reduceIte, Nat.reduceEqDiff]
      cases hb2 : (bitAt a.kinds 2 || bitAt b.kinds 2)
      · refine wpL_cond (t := false) (by simp only [go_sem, ↓reduceIte, Nat.reduceEqDiff, hb2]) (fun h => Bool.noConfusion h) (fun _ => ?_)
        try simp only [go_sem, ↓reduceIte, Nat.reduceEqDiff]
        refine wpL_skip ?_
        try simp only [go_sem, ↓reduceIte, Nat.reduceEqDiff]
        rw [← hB1]
        try simp only [go_sem, ↓reduceIte, Nat.reduceEqDiff]
        refine wpL_region Tryd.tyOk (by decide) ?_
        simp only [go_sem, ↓reduceIte, Nat.reduceEqDiff, Nat.reduceAdd, Nat.reduceLeDiff, Nat.reduceMul, Nat.reducePow, Nat.reduceLT, Nat.reduceSub, Int.reduceEq, Int.reduceLT, Int.reduceLE, Int.reduceNeg, Int.reduceToNat, Int.cast_ofNat_Int, w3]
        refine ⟨_, _, ?_, ⟨1, by omega, rfl, rfl⟩, ?_⟩
        · omega
        · refine le_mk ?_ ?_ ?_ <;> (simp only [go_sem, ↓reduceIte, Nat.reduceEqDiff]; try simp [eInt, eStr, rBool, rInt, rStr, rTwo, rThree, eTy, rTy, eInts, orK, hb2]; try simp (disch := omega) only [IntWalk.i64_in, and_self])
      · have w6 : IntKind.i64.wrap (0 + 2) = 2 := by first | exact w5 | exact (w4 _ true).1 | exact (w4 _ _).2
        refine wpL_cond (t := true) (by simp only [go_sem, ↓reduceIte, Nat.reduceEqDiff, hb2]) (fun _ => ?_) (fun h => Bool.noConfusion h)
        try simp only [go_sem, ↓reduceIte, Nat.reduceEqDiff]
        refine wpL_region Tryd.tyOk (by decide) ?_
        simp only [go_sem, ↓reduceIte, Nat.reduceEqDiff, Nat.reduceAdd, Nat.reduceLeDiff, Nat.reduceMul, Nat.reducePow, Nat.reduceLT, Nat.reduceSub, Int.reduceEq, Int.reduceLT, Int.reduceLE, Int.reduceNeg, Int.reduceToNat, Int.cast_ofNat_Int, w6]
        rw [← hB1]
        try simp only [go_sem, ↓reduceIte, Nat.reduceEqDiff]
        refine wpL_region Tryd.tyOk (by decide) ?_
        simp only [go_sem, ↓reduceIte, Nat.reduceEqDiff, Nat.reduceAdd, Nat.reduceLeDiff, Nat.reduceMul, Nat.reducePow, Nat.reduceLT, Nat.reduceSub, Int.reduceEq, Int.reduceLT, Int.reduceLE, Int.reduceNeg, Int.reduceToNat, Int.cast_ofNat_Int, w3]
        refine ⟨_, _, ?_, ⟨1, by omega, rfl, rfl⟩, ?_⟩
        · omega
        · refine le_mk ?_ ?_ ?_ <;> (simp only [go_sem, ↓reduceIte, Nat.reduceEqDiff]; try simp [eInt, eStr, rBool, rInt, rStr, rTwo, rThree, eTy, rTy, eInts, orK, hb2]; try simp (disch := omega) only [IntWalk.i64_in, and_self])
    · have w1 := div_wrap (a := a.kinds) (k := 4) ha0 a5 (by omega)
      have w2 := div_wrap (a := b.kinds) (k := 4) hb0 b5 (by omega)
      have w3 : IntKind.i64.wrap (2 * 4) = 8 := by decide
      have w4 : ∀ x y : Bool, IntKind.i64.wrap ((if x then 2 else 0) + 4) = (if x then 2 else 0) + 4 ∧ IntKind.i64.wrap ((if x then 2 else 0) + (if y then 4 else 0) + 8) = (if x then 2 else 0) + (if y then 4 else 0) + 8 := by decide
      have w5 : IntKind.i64.wrap (0 + 2) = 2 := by decide
      simp only [go_sem, ↓reduceIte, Nat.reduceEqDiff, Nat.reduceAdd, Nat.reduceLeDiff, Nat.reduceMul, Nat.reducePow, Nat.reduceLT, Nat.reduceSub, Int.reduceEq, Int.reduceLT, Int.reduceLE, Int.reduceNeg, Int.reduceToNat, Int.cast_ofNat_Int]
      refine wpL_region Tryd.tyOk (by decide) ?_
      simp only [go_sem, ↓reduceIte, Nat.reduceEqDiff, Nat.reduceAdd, Nat.reduceLeDiff, Nat.reduceMul, Nat.reducePow, Nat.reduceLT, Nat.reduceSub, Int.reduceEq, Int.reduceLT, Int.reduceLE, Int.reduceNeg, Int.reduceToNat, Int.cast_ofNat_Int, decide_true]
      refine wpL_cond (t := true) (by simp only [go_sem, ↓reduceIte, Nat.reduceEqDiff]) (fun _ => ?_) (fun h => Bool.noConfusion h)
      try simp only [go_sem, ↓reduceIte, Nat.reduceEqDiff]
      refine wpL_skip ?_
      refine wpL_block ?_
      generalize hB1 : blockQ _ _ _ = B1
      simp only [go_sem, ↓reduceIte, Nat.reduceEqDiff]
      generalize hcur : ((if bitAt a.kinds 2 || bitAt b.kinds 2 then 2 else 0) : Int) = cu at *
      refine wpL_to ⟨[(36, .c (.d (.sc (.bool (bitAt a.kinds 4 || bitAt b.kinds 4))))), (6, sint .i64 4), (5, .c (.ptr 5 0)), (2, .c (.ptr 2 0)), (3, .c (.ptr 3 0)), (4, .c (.ptr 4 0))], [(5, .box 30 [.d (eInt cu), .d (eInt (-1)), .row 500, .nil]), (500, .arr 3 1 (eInts []) false), (2, .box 30 [.d (eInt a.kinds), .d (eInt a.rank), .d (.sl (eInts a.dims)), .d (.sl (a.known.map eArr))]), (3, .box 30 [.d (eInt b.kinds), .d (eInt b.rank), .d (.sl (eInts b.dims)), .d (.sl (b.known.map eArr))]), (4, .box 30 [.d (eInt 0), .d (eInt 0), .nil, .nil])]⟩ ?_ ?_
      · by_cases c1 : Int.tmod (Int.tdiv a.kinds 4) 2 = 1
        · have hs : bitAt a.kinds 4 = true := by unfold bitAt; exact decide_eq_true c1
          refine wpL_region Tryd.tyOk (by decide) ?_
          simp only [go_sem, ↓reduceIte, Nat.reduceEqDiff, Nat.reduceAdd, Nat.reduceLeDiff, Nat.reduceMul, Nat.reducePow, Nat.reduceLT, Nat.reduceSub, Int.reduceEq, Int.reduceLT, Int.reduceLE, Int.reduceNeg, Int.reduceToNat, Int.cast_ofNat_Int, w1, w2, c1, decide_false, decide_true, Ne, not_true_eq_false, not_false_eq_true, Bool.not_true, Bool.not_false]
          refine le_mk ?_ ?_ ?_ <;> (simp only [go_sem, ↓reduceIte, Nat.reduceEqDiff]; try simp [eInt, eStr, rBool, rInt, rStr, rTwo, rThree, eTy, rTy, eInts, hs]; try simp (disch := omega) only [IntWalk.i64_in, and_self])
        · have hs : bitAt a.kinds 4 = false := by unfold bitAt; exact decide_eq_false c1
          by_cases c2 : Int.tmod (Int.tdiv b.kinds 4) 2 = 1
          · have hs2 : bitAt b.kinds 4 = true := by unfold bitAt; exact decide_eq_true c2
            refine wpL_region Tryd.tyOk (by decide) ?_
            simp only [go_sem, ↓reduceIte, Nat.reduceEqDiff, Nat.reduceAdd, Nat.reduceLeDiff, Nat.reduceMul, Nat.reducePow, Nat.reduceLT, Nat.reduceSub, Int.reduceEq, Int.reduceLT, Int.reduceLE, Int.reduceNeg, Int.reduceToNat, Int.cast_ofNat_Int, w1, w2, c1, c2, decide_false, decide_true, Ne, not_true_eq_false, not_false_eq_true, Bool.not_true, Bool.not_false]
            refine le_mk ?_ ?_ ?_ <;> (simp only [go_sem, ↓reduceIte, Nat.reduceEqDiff]; try simp [eInt, eStr, rBool, rInt, rStr, rTwo, rThree, eTy, rTy, eInts, hs, hs2]; try simp (disch := omega) only [IntWalk.i64_in, and_self])
          · have hs2 : bitAt b.kinds 4 = false := by unfold bitAt; exact decide_eq_false c2
            refine wpL_region Tryd.tyOk (by decide) ?_
            simp only [go_sem, ↓reduceIte, Nat.reduceEqDiff, Nat.reduceAdd, Nat.reduceLeDiff, Nat.reduceMul, Nat.reducePow, Nat.reduceLT, Nat.reduceSub, Int.reduceEq, Int.reduceLT, Int.reduceLE, Int.reduceNeg, Int.reduceToNat, Int.cast_ofNat_Int, w1, w2, c1, c2, decide_false, decide_true, Ne, not_true_eq_false, not_false_eq_true, Bool.not_true, Bool.not_false]
            refine le_mk ?_ ?_ ?_ <;> (simp only [go_sem, ↓reduceIte, Nat.reduceEqDiff]; try simp [eInt, eStr, rBool, rInt, rStr, rTwo, rThree, eTy, rTy, eInts, hs, hs2]; try simp (disch := omega) only [IntWalk.i64_in, and_self])
      try simp only [go_sem, ↓reduceIte, Nat.reduceEqDiff]
      cases hb2 : (bitAt a.kinds 4 || bitAt b.kinds 4)
      · refine wpL_cond (t := false) (by simp only [go_sem, ↓reduceIte, Nat.reduceEqDiff, hb2]) (fun h => Bool.noConfusion h) (fun _ => ?_)
        try simp only [go_sem, ↓reduceIte, Nat.reduceEqDiff]
        refine wpL_skip ?_
        try simp only [go_sem, ↓reduceIte, Nat.reduceEqDiff]
        rw [← hB1]
        try simp only [go_sem, ↓reduceIte, Nat.reduceEqDiff]
        refine wpL_region Tryd.tyOk (by decide) ?_
        simp only [go_sem, ↓reduceIte, Nat.reduceEqDiff, Nat.reduceAdd, Nat.reduceLeDiff, Nat.reduceMul, Nat.reducePow, Nat.reduceLT, Nat.reduceSub, Int.reduceEq, Int.reduceLT, Int.reduceLE, Int.reduceNeg, Int.reduceToNat, Int.cast_ofNat_Int, w3]
        refine ⟨_, _, ?_, ⟨2, by omega, rfl, rfl⟩, ?_⟩
        · omega
        · subst hcur
          refine le_mk ?_ ?_ ?_ <;> (simp only [go_sem, ↓reduceIte, Nat.reduceEqDiff]; try simp [eInt, eStr, rBool, rInt, rStr, rTwo, rThree, eTy, rTy, eInts, orK, hb2]; try simp (disch := omega) only [IntWalk.i64_in, and_self])
      · have w6 : IntKind.i64.wrap (cu + 4) = cu + 4 := by subst hcur; first | exact w5 | exact (w4 _ true).1 | exact (w4 _ _).2
        refine wpL_cond (t := true) (by simp only [go_sem, ↓reduceIte, Nat.reduceEqDiff, hb2]) (fun _ => ?_) (fun h => Bool.noConfusion h)
        try simp only [go_sem, ↓reduceIte, Nat.reduceEqDiff]
        refine wpL_region Tryd.tyOk (by decide) ?_
        simp only [go_sem, ↓reduceIte, Nat.reduceEqDiff, Nat.reduceAdd, Nat.reduceLeDiff, Nat.reduceMul, Nat.reducePow, Nat.reduceLT, Nat.reduceSub, Int.reduceEq, Int.reduceLT, Int.reduceLE, Int.reduceNeg, Int.reduceToNat, Int.cast_ofNat_Int, w6]
        rw [← hB1]
        try simp only [go_sem, ↓reduceIte, Nat.reduceEqDiff]
        refine wpL_region Tryd.tyOk (by decide) ?_
        simp only [go_sem, ↓reduceIte, Nat.reduceEqDiff, Nat.reduceAdd, Nat.reduceLeDiff, Nat.reduceMul, Nat.reducePow, Nat.reduceLT, Nat.reduceSub, Int.reduceEq, Int.reduceLT, Int.reduceLE, Int.reduceNeg, Int.reduceToNat, Int.cast_ofNat_Int, w3]
        refine ⟨_, _, ?_, ⟨2, by omega, rfl, rfl⟩, ?_⟩
        · omega
        · subst hcur
          refine le_mk ?_ ?_ ?_ <;> (simp only [go_sem, ↓reduceIte, Nat.reduceEqDiff]; try simp [eInt, eStr, rBool, rInt, rStr, rTwo, rThree, eTy, rTy, eInts, orK, hb2]; try simp (disch := omega) only [IntWalk.i64_in, and_self])
    · have w1 := div_wrap (a := a.kinds) (k := 8) ha0 a5 (by omega)
      have w2 := div_wrap (a := b.kinds) (k := 8) hb0 b5 (by omega)
      have w3 : IntKind.i64.wrap (2 * 8) = 16 := by decide
      have w4 : ∀ x y : Bool, IntKind.i64.wrap ((if x then 2 else 0) + 4) = (if x then 2 else 0) + 4 ∧ IntKind.i64.wrap ((if x then 2 else 0) + (if y then 4 else 0) + 8) = (if x then 2 else 0) + (if y then 4 else 0) + 8 := by decide
      have w5 : IntKind.i64.wrap (0 + 2) = 2 := by decide
      simp only [go_sem, ↓reduceIte, Nat.reduceEqDiff, Nat.reduceAdd, Nat.reduceLeDiff, Nat.reduceMul, Nat.reducePow, Nat.reduceLT, Nat.reduceSub, Int.reduceEq, Int.reduceLT, Int.reduceLE, Int.reduceNeg, Int.reduceToNat, Int.cast_ofNat_Int]
      refine wpL_region Tryd.tyOk (by decide) ?_
      simp only [go_sem, ↓reduceIte, Nat.reduceEqDiff, Nat.reduceAdd, Nat.reduceLeDiff, Nat.reduceMul, Nat.reducePow, Nat.reduceLT, Nat.reduceSub, Int.reduceEq, Int.reduceLT, Int.reduceLE, Int.reduceNeg, Int.reduceToNat, Int.cast_ofNat_Int, decide_true]
      refine wpL_cond (t := true) (by simp only [go_sem, ↓reduceIte, Nat.reduceEqDiff]) (fun _ => ?_) (fun h => Bool.noConfusion h)
      try simp only [go_sem, ↓reduceIte, Nat.reduceEqDiff]
      refine wpL_skip ?_
      refine wpL_block ?_
      generalize hB1 : blockQ _ _ _ = B1
      simp only [go_sem, ↓reduceIte, Nat.reduceEqDiff]
      generalize hcur : (((if bitAt a.kinds 2 || bitAt b.kinds 2 then 2 else 0) + (if bitAt a.kinds 4 || bitAt b.kinds 4 then 4 else 0)) : Int) = cu at *
      refine wpL_to ⟨[(36, .c (.d (.sc (.bool (bitAt a.kinds 8 || bitAt b.kinds 8))))), (6, sint .i64 8), (5, .c (.ptr 5 0)), (2, .c (.ptr 2 0)), (3, .c (.ptr 3 0)), (4, .c (.ptr 4 0))], [(5, .box 30 [.d (eInt cu), .d (eInt (-1)), .row 500, .nil]), (500, .arr 3 1 (eInts []) false), (2, .box 30 [.d (eInt a.kinds), .d (eInt a.rank), .d (.sl (eInts a.dims)), .d (.sl (a.known.map eArr))]), (3, .box 30 [.d (eInt b.kinds), .d (eInt b.rank), .d (.sl (eInts b.dims)), .d (.sl (b.known.map eArr))]), (4, .box 30 [.d (eInt 0), .d (eInt 0), .nil, .nil])]⟩ ?_ ?_
      · by_cases c1 : Int.tmod (Int.tdiv a.kinds 8) 2 = 1
        · have hs : bitAt a.kinds 8 = true := by unfold bitAt; exact decide_eq_true c1
          refine wpL_region Tryd.tyOk (by decide) ?_
          simp only [go_sem, ↓reduceIte, Nat.reduceEqDiff, Nat.reduceAdd, Nat.reduceLeDiff, Nat.reduceMul, Nat.reducePow, Nat.reduceLT, Nat.reduceSub, Int.reduceEq, Int.reduceLT, Int.reduceLE, Int.reduceNeg, Int.reduceToNat, Int.cast_ofNat_Int, w1, w2, c1, decide_false, decide_true, Ne, not_true_eq_false, not_false_eq_true, Bool.not_true, Bool.not_false]
          refine le_mk ?_ ?_ ?_ <;> (simp only [go_sem, ↓reduceIte, Nat.reduceEqDiff]; try simp [eInt, eStr, rBool, rInt, rStr, rTwo, rThree, eTy, rTy, eInts, hs]; try simp (disch := omega) only [IntWalk.i64_in, and_self])
        · have hs : bitAt a.kinds 8 = false := by unfold bitAt; exact decide_eq_false c1
          by_cases c2 : Int.tmod (Int.tdiv b.kinds 8) 2 = 1
          · have hs2 : bitAt b.kinds 8 = true := by unfold bitAt; exact decide_eq_true c2
            refine wpL_region Tryd.tyOk (by decide) ?_
            simp only [go_sem, ↓reduceIte, Nat.reduceEqDiff, Nat.reduceAdd, Nat.reduceLeDiff, Nat.reduceMul, Nat.reducePow, Nat.reduceLT, Nat.reduceSub, Int.reduceEq, Int.reduceLT, Int.reduceLE, Int.reduceNeg, Int.reduceToNat, Int.cast_ofNat_Int, w1, w2, c1, c2, decide_false, decide_true, Ne, not_true_eq_false, not_false_eq_true, Bool.not_true, Bool.not_false]
            refine le_mk ?_ ?_ ?_ <;> (simp only [go_sem, ↓reduceIte, Nat.reduceEqDiff]; try simp [eInt, eStr, rBool, rInt, rStr, rTwo, rThree, eTy, rTy, eInts, hs, hs2]; try simp (disch := omega) only [IntWalk.i64_in, and_self])
          · have hs2 : bitAt b.kinds 8 = false := by unfold bitAt; exact decide_eq_false c2
            refine wpL_region Tryd.tyOk (by decide) ?_
            simp only [go_sem, ↓reduceIte, Nat.reduceEqDiff, Nat.reduceAdd, Nat.reduceLeDiff, Nat.reduceMul, Nat.reducePow, Nat.reduceLT, Nat.reduceSub, Int.reduceEq, Int.reduceLT, Int.reduceLE, Int.reduceNeg, Int.reduceToNat, Int.cast_ofNat_Int, w1, w2, c1, c2, decide_false, decide_true, Ne, not_true_eq_false, not_false_eq_true, Bool.not_true, Bool.not_false]
            refine le_mk ?_ ?_ ?_ <;> (simp only [go_sem, ↓reduceIte, Nat.reduceEqDiff]; try simp [eInt, eStr, rBool, rInt, rStr, rTwo, rThree, eTy, rTy, eInts, hs, hs2]; try simp (disch := omega) only [IntWalk.i64_in, and_self])
      try simp only [go_sem, ↓reduceIte, Nat.reduceEqDiff]
      cases hb2 : (bitAt a.kinds 8 || bitAt b.kinds 8)
      · refine wpL_cond (t := false) (by simp only [go_sem, ↓reduceIte, Nat.reduceEqDiff, hb2]) (fun h => Bool.noConfusion h) (fun _ => ?_)
        try simp only [go_sem, ↓reduceIte, Nat.reduceEqDiff]
        refine wpL_skip ?_
        try simp only [go_sem, ↓reduceIte, Nat.reduceEqDiff]
        rw [← hB1]
        try simp only [go_sem, ↓reduceIte, Nat.reduceEqDiff]
        refine wpL_region Tryd.tyOk (by decide) ?_
        simp only [go_sem, ↓reduceIte, Nat.reduceEqDiff, Nat.reduceAdd, Nat.reduceLeDiff, Nat.reduceMul, Nat.reducePow, Nat.reduceLT, Nat.reduceSub, Int.reduceEq, Int.reduceLT, Int.reduceLE, Int.reduceNeg, Int.reduceToNat, Int.cast_ofNat_Int, w3]
        refine ⟨_, _, ?_, ⟨3, by omega, rfl, rfl⟩, ?_⟩
        · omega
        · subst hcur
          refine le_mk ?_ ?_ ?_ <;> (simp only [go_sem, ↓reduceIte, Nat.reduceEqDiff]; try simp [eInt, eStr, rBool, rInt, rStr, rTwo, rThree, eTy, rTy, eInts, orK, hb2]; try simp (disch := omega) only [IntWalk.i64_in, and_self])
      · have w6 : IntKind.i64.wrap (cu + 8) = cu + 8 := by subst hcur; first | exact w5 | exact (w4 _ true).1 | exact (w4 _ _).2
        refine wpL_cond (t := true) (by simp only [go_sem, ↓reduceIte, Nat.reduceEqDiff, hb2]) (fun _ => ?_) (fun h => Bool.noConfusion h)
        try simp only [go_sem, ↓reduceIte, Nat.reduceEqDiff]
        refine wpL_region Tryd.tyOk (by decide) ?_
        simp only [go_sem, ↓reduceIte, Nat.reduceEqDiff, Nat.reduceAdd, Nat.reduceLeDiff, Nat.reduceMul, Nat.reducePow, Nat.reduceLT, Nat.reduceSub, Int.reduceEq, Int.reduceLT, Int.reduceLE, Int.reduceNeg, Int.reduceToNat, Int.cast_ofNat_Int, w6]
        rw [← hB1]
        try simp only [go_sem, ↓reduceIte, Nat.reduceEqDiff]
        refine wpL_region Tryd.tyOk (by decide) ?_
        simp only [go_sem, ↓reduceIte, Nat.reduceEqDiff, Nat.reduceAdd, Nat.reduceLeDiff, Nat.reduceMul, Nat.reducePow, Nat.reduceLT, Nat.reduceSub, Int.reduceEq, Int.reduceLT, Int.reduceLE, Int.reduceNeg, Int.reduceToNat, Int.cast_ofNat_Int, w3]
        refine ⟨_, _, ?_, ⟨3, by omega, rfl, rfl⟩, ?_⟩
        · omega
        · subst hcur
          refine le_mk ?_ ?_ ?_ <;> (simp only [go_sem, ↓reduceIte, Nat.reduceEqDiff]; try simp [eInt, eStr, rBool, rInt, rStr, rTwo, rThree, eTy, rTy, eInts, orK, hb2]; try simp (disch := omega) only [IntWalk.i64_in, and_self])
    simp only [go_sem, ↓reduceIte, Nat.reduceEqDiff, Nat.reduceAdd, Nat.reduceLeDiff, Nat.reduceMul, Nat.reducePow, Nat.reduceLT, Nat.reduceSub, Int.reduceEq, Int.reduceLT, Int.reduceLE, Int.reduceNeg, Int.reduceToNat, Int.cast_ofNat_Int]
    refine wpL_region Tryd.tyOk (by decide) ?_
    simp only [go_sem, ↓reduceIte, Nat.reduceEqDiff, Nat.reduceAdd, Nat.reduceLeDiff, Nat.reduceMul, Nat.reducePow, Nat.reduceLT, Nat.reduceSub, Int.reduceEq, Int.reduceLT, Int.reduceLE, Int.reduceNeg, Int.reduceToNat, Int.cast_ofNat_Int, decide_false]
    refine wpL_cond (t := false) (by simp only [go_sem, ↓reduceIte, Nat.reduceEqDiff]) (fun h => Bool.noConfusion h) (fun _ => ?_)
    try simp only [go_sem, ↓reduceIte, Nat.reduceEqDiff]
    refine wpL_exit ?_
    rw [← hB0]
    try simp only [go_sem, ↓reduceIte, Nat.reduceEqDiff]
    refine le_mk ?_ ?_ ?_ <;> (simp only [go_sem, ↓reduceIte, Nat.reduceEqDiff]; try simp [eInt, eStr, rBool, rInt, rStr, rTwo, rThree, eTy, rTy, eInts]; try simp (disch := omega) only [IntWalk.i64_in, and_self])
  try simp only [go_sem, ↓reduceIte, Nat.reduceEqDiff]
  have hlen : a.rank = b.rank → a.dims.length = b.dims.length := by omega
  refine wpL_to ⟨[(51, .c (.d (.sc (.bool (decide (a.rank = b.rank) && decide (0 ≤ a.rank)))))), (5, .c (.ptr 5 0)), (2, .c (.ptr 2 0)), (3, .c (.ptr 3 0)), (4, .c (.ptr 4 0))], [(5, .box 30 [.d (eInt (orK a.kinds b.kinds)), .d (eInt (-1)), .row 500, .nil]), (500, .arr 3 1 (eInts []) false), (2, .box 30 [.d (eInt a.kinds), .d (eInt a.rank), .d (.sl (eInts a.dims)), .d (.sl (a.known.map eArr))]), (3, .box 30 [.d (eInt b.kinds), .d (eInt b.rank), .d (.sl (eInts b.dims)), .d (.sl (b.known.map eArr))]), (4, .box 30 [.d (eInt 0), .d (eInt 0), .nil, .nil])]⟩ ?_ ?_
  · by_cases d1 : a.rank = b.rank
    · by_cases d2 : a.rank ≥ 0
      · have d2' : 0 ≤ a.rank := d2
        refine wpL_region Tryd.tyOk (by decide) ?_
        simp only [go_sem, ↓reduceIte, Nat.reduceEqDiff, Nat.reduceAdd, Nat.reduceLeDiff, Nat.reduceMul, Nat.reducePow, Nat.reduceLT, Nat.reduceSub, Int.reduceEq, Int.reduceLT, Int.reduceLE, Int.reduceNeg, Int.reduceToNat, Int.cast_ofNat_Int, eq_true d1, d2, decide_false, decide_true, Ne, not_true_eq_false, not_false_eq_true, Bool.not_true, Bool.not_false]
        refine le_mk ?_ ?_ ?_ <;> (simp only [go_sem, ↓reduceIte, Nat.reduceEqDiff]; try simp [eInt, eStr, rBool, rInt, rStr, rTwo, rThree, eTy, rTy, eInts, eq_true d1, d2']; try simp (disch := omega) only [IntWalk.i64_in, and_self])
      · have d2' : ¬ 0 ≤ a.rank := d2
        refine wpL_region Tryd.tyOk (by decide) ?_
        simp only [go_sem, ↓reduceIte, Nat.reduceEqDiff, Nat.reduceAdd, Nat.reduceLeDiff, Nat.reduceMul, Nat.reducePow, Nat.reduceLT, Nat.reduceSub, Int.reduceEq, Int.reduceLT, Int.reduceLE, Int.reduceNeg, Int.reduceToNat, Int.cast_ofNat_Int, eq_true d1, d2, decide_false, decide_true, Ne, not_true_eq_false, not_false_eq_true, Bool.not_true, Bool.not_false]
        refine le_mk ?_ ?_ ?_ <;> (simp only [go_sem, ↓reduceIte, Nat.reduceEqDiff]; try simp [eInt, eStr, rBool, rInt, rStr, rTwo, rThree, eTy, rTy, eInts, eq_true d1, d2']; try simp (disch := omega) only [IntWalk.i64_in, and_self])
    · refine wpL_region Tryd.tyOk (by decide) ?_
      simp only [go_sem, ↓reduceIte, Nat.reduceEqDiff, Nat.reduceAdd, Nat.reduceLeDiff, Nat.reduceMul, Nat.reducePow, Nat.reduceLT, Nat.reduceSub, Int.reduceEq, Int.reduceLT, Int.reduceLE, Int.reduceNeg, Int.reduceToNat, Int.cast_ofNat_Int, d1, decide_false, decide_true, Ne, not_true_eq_false, not_false_eq_true, Bool.not_true, Bool.not_false]
      refine le_mk ?_ ?_ ?_ <;> (simp only [go_sem, ↓reduceIte, Nat.reduceEqDiff]; try simp [eInt, eStr, rBool, rInt, rStr, rTwo, rThree, eTy, rTy, eInts, d1]; try simp (disch := omega) only [IntWalk.i64_in, and_self])
  try simp only [go_sem, ↓reduceIte, Nat.reduceEqDiff]
  refine wpL_to ⟨[(5, .c (.ptr 5 0)), (2, .c (.ptr 2 0)), (3, .c (.ptr 3 0)), (4, .c (.ptr 4 0))], [(5, .box 30 [.d (eInt (orK a.kinds b.kinds)), .d (eInt (rankJ a b)), .row 500, .nil]), (500, .arr 3 1 (eInts (dimsJ a b)) false), (2, .box 30 [.d (eInt a.kinds), .d (eInt a.rank), .d (.sl (eInts a.dims)), .d (.sl (a.known.map eArr))]), (3, .box 30 [.d (eInt b.kinds), .d (eInt b.rank), .d (.sl (eInts b.dims)), .d (.sl (b.known.map eArr))]), (4, .box 30 [.d (eInt 0), .d (eInt 0), .nil, .nil])]⟩ ?_ ?_
  · cases hc : (decide (a.rank = b.rank) && decide (0 ≤ a.rank))
    · have hj : ¬ (a.rank = b.rank ∧ 0 ≤ a.rank) := by simpa using hc
      have hj1 : rankJ a b = -1 := by unfold rankJ; rw [if_neg hj]
      have hj2 : dimsJ a b = [] := by unfold dimsJ; rw [if_neg hj]
      refine wpL_cond (t := false) (by simp only [go_sem, ↓reduceIte, Nat.reduceEqDiff, hc]) (fun h => Bool.noConfusion h) (fun _ => ?_)
      try simp only [go_sem, ↓reduceIte, Nat.reduceEqDiff]
      refine wpL_skip ?_
      try simp only [go_sem, ↓reduceIte, Nat.reduceEqDiff]
      rw [hj1, hj2]
      refine le_mk ?_ ?_ ?_ <;> (simp only [go_sem, ↓reduceIte, Nat.reduceEqDiff]; try simp [eInt, eStr, rBool, rInt, rStr, rTwo, rThree, eTy, rTy, eInts]; try simp (disch := omega) only [IntWalk.i64_in, and_self])
    · have hj : a.rank = b.rank ∧ 0 ≤ a.rank := by simpa using hc
      have hj1 : rankJ a b = a.rank := by unfold rankJ; rw [if_pos hj]
      have hj2 : dimsJ a b = jD a.dims b.dims := by unfold dimsJ; rw [if_pos hj]
      have hll := hlen hj.1
      have hjl := jD_len a.dims b.dims hll
      have har : a.rank = a.dims.length := by omega
      refine wpL_cond (t := true) (by simp only [go_sem, ↓reduceIte, Nat.reduceEqDiff, hc]) (fun _ => ?_) (fun h => Bool.noConfusion h)
      try simp only [go_sem, ↓reduceIte, Nat.reduceEqDiff]
      rw [hj1, hj2]
      iterate 2 (refine wpL_region Tryd.tyOk (by decide) ?_; simp only [go_sem, ↓reduceIte, Nat.reduceEqDiff, Nat.reduceAdd, Nat.reduceLeDiff, Nat.reduceMul, Nat.reducePow, Nat.reduceLT, Nat.reduceSub, Int.reduceEq, Int.reduceLT, Int.reduceLE, Int.reduceNeg, Int.reduceToNat, Int.cast_ofNat_Int, eInts_len])
      refine wpL_block ?_
      generalize hB2 : blockQ _ _ _ = B2
      simp only [go_sem, ↓reduceIte, Nat.reduceEqDiff]
      refine wpL_loop (fun n s => ∃ j : Nat, j ≤ a.dims.length ∧ n = a.dims.length - j ∧ s = ⟨[(7, sint .i64 j), (5, .c (.ptr 5 0)), (2, .c (.ptr 2 0)), (3, .c (.ptr 3 0)), (4, .c (.ptr 4 0))], [(5, .box 30 [.d (eInt (orK a.kinds b.kinds)), .d (eInt a.rank), .row 500, .nil]), (500, .arr 3 1 (eInts ((jD a.dims b.dims).take j)) false), (2, .box 30 [.d (eInt a.kinds), .d (eInt a.rank), .d (.sl (eInts a.dims)), .d (.sl (a.known.map eArr))]), (3, .box 30 [.d (eInt b.kinds), .d (eInt b.rank), .d (.sl (eInts b.dims)), .d (.sl (b.known.map eArr))]), (4, .box 30 [.d (eInt 0), .d (eInt 0), .nil, .nil])]⟩) ?_ ?_
      · refine ⟨_, _, ⟨0, by omega, rfl, rfl⟩, ?_⟩
        refine le_mk ?_ ?_ ?_ <;> (simp only [go_sem, ↓reduceIte, Nat.reduceEqDiff]; try simp [eInt, eStr, rBool, rInt, rStr, rTwo, rThree, eTy, rTy, eInts]; try simp (disch := omega) only [IntWalk.i64_in, and_self])
      rintro n s ⟨j, hj, rfl, rfl⟩
      simp only [go_sem, ↓reduceIte, Nat.reduceEqDiff, Nat.reduceAdd, Nat.reduceLeDiff, Nat.reduceMul, Nat.reducePow, Nat.reduceLT, Nat.reduceSub, Int.reduceEq, Int.reduceLT, Int.reduceLE, Int.reduceNeg, Int.reduceToNat, Int.cast_ofNat_Int]
      refine wpL_region Tryd.tyOk (by decide) ?_
      simp only [go_sem, ↓reduceIte, Nat.reduceEqDiff, Nat.reduceAdd, Nat.reduceLeDiff, Nat.reduceMul, Nat.reducePow, Nat.reduceLT, Nat.reduceSub, Int.reduceEq, Int.reduceLT, Int.reduceLE, Int.reduceNeg, Int.reduceToNat, Int.cast_ofNat_Int]
      refine wpL_cond (t := decide ((j : Int) < a.rank)) (by simp only [go_sem, ↓reduceIte, Nat.reduceEqDiff]) (fun hlt => ?_) (fun hge => ?_)
      · have hlt := of_decide_eq_true hlt
        obtain ⟨d, hd⟩ := get_ex (l := a.dims) (i := j) (by omega)
        obtain ⟨e, he⟩ := get_ex (l := b.dims) (i := j) (by omega)
        have hjt := jD_take hd he
        simp only [go_sem, ↓reduceIte, Nat.reduceEqDiff, Nat.reduceAdd, Nat.reduceLeDiff, Nat.reduceMul, Nat.reducePow, Nat.reduceLT, Nat.reduceSub, Int.reduceEq, Int.reduceLT, Int.reduceLE, Int.reduceNeg, Int.reduceToNat, Int.cast_ofNat_Int]
        refine wpL_skip ?_
        refine wpL_block ?_
        generalize hB3 : blockQ _ _ _ = B3
        simp only [go_sem, ↓reduceIte, Nat.reduceEqDiff]
        refine wpL_region Tryd.tyOk (by decide) ?_
        simp only [go_sem, ↓reduceIte, Nat.reduceEqDiff, Nat.reduceAdd, Nat.reduceLeDiff, Nat.reduceMul, Nat.reducePow, Nat.reduceLT, Nat.reduceSub, Int.reduceEq, Int.reduceLT, Int.reduceLE, Int.reduceNeg, Int.reduceToNat, Int.cast_ofNat_Int]
        refine wpL_draw Tryd.tyOk (by kernel_rfl) 11 (by decide) (by decide) ?_
        simp only [go_sem, ↓reduceIte, Nat.reduceEqDiff, Nat.reduceAdd, Nat.reduceLeDiff, Nat.reduceMul, Nat.reducePow, Nat.reduceLT, Nat.reduceSub, Int.reduceEq, Int.reduceLT, Int.reduceLE, Int.reduceNeg, Int.reduceToNat, Int.cast_ofNat_Int, eInts_get hd, eInts_get he]
        refine wpL_to ⟨[(8, sint .i64 (if d = e then d else -1)), (7, sint .i64 j), (5, .c (.ptr 5 0)), (2, .c (.ptr 2 0)), (3, .c (.ptr 3 0)), (4, .c (.ptr 4 0))], [(5, .box 30 [.d (eInt (orK a.kinds b.kinds)), .d (eInt a.rank), .row 500, .nil]), (500, .arr 3 1 (eInts ((jD a.dims b.dims).take j)) false), (2, .box 30 [.d (eInt a.kinds), .d (eInt a.rank), .d (.sl (eInts a.dims)), .d (.sl (a.known.map eArr))]), (3, .box 30 [.d (eInt b.kinds), .d (eInt b.rank), .d (.sl (eInts b.dims)), .d (.sl (b.known.map eArr))]), (4, .box 30 [.d (eInt 0), .d (eInt 0), .nil, .nil])]⟩ ?_ ?_
        · by_cases hde : d = e
          · refine wpL_cond (t := true) (by simp only [go_sem, ↓reduceIte, Nat.reduceEqDiff, eq_true hde, decide_false, decide_true, Ne, not_true_eq_false, not_false_eq_true, Bool.not_true, Bool.not_false]) (fun _ => ?_) (fun h => Bool.noConfusion h)
            try simp only [go_sem, ↓reduceIte, Nat.reduceEqDiff]
            refine wpL_region Tryd.tyOk (by decide) ?_
            simp only [go_sem, ↓reduceIte, Nat.reduceEqDiff, Nat.reduceAdd, Nat.reduceLeDiff, Nat.reduceMul, Nat.reducePow, Nat.reduceLT, Nat.reduceSub, Int.reduceEq, Int.reduceLT, Int.reduceLE, Int.reduceNeg, Int.reduceToNat, Int.cast_ofNat_Int, eInts_get hd]
            refine le_mk ?_ ?_ ?_ <;> (simp only [go_sem, ↓reduceIte, Nat.reduceEqDiff]; try simp [eInt, eStr, rBool, rInt, rStr, rTwo, rThree, eTy, rTy, eInts, hde]; try simp (disch := omega) only [IntWalk.i64_in, and_self])
          · refine wpL_cond (t := false) (by simp only [go_sem, ↓reduceIte, Nat.reduceEqDiff, hde, decide_false, decide_true, Ne, not_true_eq_false, not_false_eq_true, Bool.not_true, Bool.not_false]) (fun h => Bool.noConfusion h) (fun _ => ?_)
            try simp only [go_sem, ↓reduceIte, Nat.reduceEqDiff]
            refine wpL_skip ?_
            try simp only [go_sem, ↓reduceIte, Nat.reduceEqDiff]
            refine le_mk ?_ ?_ ?_ <;> (simp only [go_sem, ↓reduceIte, Nat.reduceEqDiff]; try simp [eInt, eStr, rBool, rInt, rStr, rTwo, rThree, eTy, rTy, eInts, hde]; try simp (disch := omega) only [IntWalk.i64_in, and_self])
        generalize (if d = e then d else -1) = v at *
        try simp only [go_sem, ↓reduceIte, Nat.reduceEqDiff]
        refine wpL_region Tryd.tyOk (by decide) ?_
        simp only [go_sem, ↓reduceIte, Nat.reduceEqDiff, Nat.reduceAdd, Nat.reduceLeDiff, Nat.reduceMul, Nat.reducePow, Nat.reduceLT, Nat.reduceSub, Int.reduceEq, Int.reduceLT, Int.reduceLE, Int.reduceNeg, Int.reduceToNat, Int.cast_ofNat_Int]
        refine ⟨⟨by simp only [List.length_take]; omega, by simp⟩, ?_⟩
        rw [← hB3]
        try simp only [go_sem, ↓reduceIte, Nat.reduceEqDiff]
        refine wpL_region Tryd.tyOk (by decide) ?_
        simp only [go_sem, ↓reduceIte, Nat.reduceEqDiff, Nat.reduceAdd, Nat.reduceLeDiff, Nat.reduceMul, Nat.reducePow, Nat.reduceLT, Nat.reduceSub, Int.reduceEq, Int.reduceLT, Int.reduceLE, Int.reduceNeg, Int.reduceToNat, Int.cast_ofNat_Int]
        refine ⟨_, _, ?_, ⟨j + 1, by omega, rfl, rfl⟩, ?_⟩
        · omega
        · rw [hjt]
          refine le_mk ?_ ?_ ?_ <;> (simp only [go_sem, ↓reduceIte, Nat.reduceEqDiff]; try simp [eInt, eStr, rBool, rInt, rStr, rTwo, rThree, eTy, rTy, eInts]; try simp (disch := omega) only [IntWalk.i64_in, and_self])
      have hge : ¬ (j : Int) < a.rank := by simpa using hge
      refine wpL_exit ?_
      rw [← hB2]
      try simp only [go_sem, ↓reduceIte, Nat.reduceEqDiff]
      rw [List.take_of_length_le (by omega)]
      refine le_mk ?_ ?_ ?_ <;> (simp only [go_sem, ↓reduceIte, Nat.reduceEqDiff]; try simp [eInt, eStr, rBool, rInt, rStr, rTwo, rThree, eTy, rTy, eInts]; try simp (disch := omega) only [IntWalk.i64_in, and_self])
  try simp only [go_sem, ↓reduceIte, Nat.reduceEqDiff]
  rcases list_two a.known with hka | ⟨x, xs, hka⟩
  · have hm1 : ¬ (a.known.length : Int) > 0 := by rw [hka]; decide
    have hj3 : knownJ a b = [] := by unfold knownJ; rw [hka]; split <;> rfl
    refine wpL_draw Tryd.tyOk (by kernel_rfl) 21 (by decide) (by decide) ?_
    simp only [go_sem, ↓reduceIte, Nat.reduceEqDiff, Nat.reduceAdd, Nat.reduceLeDiff, Nat.reduceMul, Nat.reducePow, Nat.reduceLT, Nat.reduceSub, Int.reduceEq, Int.reduceLT, Int.reduceLE, Int.reduceNeg, Int.reduceToNat, Int.cast_ofNat_Int, List.length_map, hm1, decide_false, decide_true, Ne, not_true_eq_false, not_false_eq_true, Bool.not_true, Bool.not_false]
    refine wpL_cond (t := false) (by simp only [go_sem, ↓reduceIte, Nat.reduceEqDiff]) (fun h => Bool.noConfusion h) (fun _ => ?_)
    try simp only [go_sem, ↓reduceIte, Nat.reduceEqDiff]
    refine wpL_skip ?_
    refine wpL_fast 500 (by rfl) ?_
    try simp only [go_sem, ↓reduceIte, Nat.reduceEqDiff]
    refine wpL_region Tryd.tyOk (by decide) ?_
    simp only [go_sem, ↓reduceIte, Nat.reduceEqDiff, Nat.reduceAdd, Nat.reduceLeDiff, Nat.reduceMul, Nat.reducePow, Nat.reduceLT, Nat.reduceSub, Int.reduceEq, Int.reduceLT, Int.reduceLE, Int.reduceNeg, Int.reduceToNat, Int.cast_ofNat_Int]
    refine wpL_ret ?_
    rw [← hBQ]
    try simp only [go_sem, ↓reduceIte, Nat.reduceEqDiff, Nat.reduceAdd, Nat.reduceLeDiff, Nat.reduceMul, Nat.reducePow, Nat.reduceLT, Nat.reduceSub, Int.reduceEq, Int.reduceLT, Int.reduceLE, Int.reduceNeg, Int.reduceToNat, Int.cast_ofNat_Int]
    subst hr
    rw [hj3]
    exact ⟨rfl, rfl, rfl, rfl⟩
  have hm1 : (a.known.length : Int) > 0 := by rw [hka]; simp <;> omega
  have hm0 : (0 : Int) < (a.known.length : Int) := hm1
  have hxs : xs = [] := by rw [hka] at p5; exact List.eq_nil_of_length_eq_zero (by simpa using p5)
  subst hxs
  rcases list_two b.known with hkb | ⟨y, ys, hkb⟩
  · have hn1 : ¬ (b.known.length : Int) > 0 := by rw [hkb]; decide
    have hj3 : knownJ a b = [] := by unfold knownJ; rw [hka, hkb]; rfl
    refine wpL_draw Tryd.tyOk (by kernel_rfl) 21 (by decide) (by decide) ?_
    simp only [go_sem, ↓reduceIte, Nat.reduceEqDiff, Nat.reduceAdd, Nat.reduceLeDiff, Nat.reduceMul, Nat.reducePow, Nat.reduceLT, Nat.reduceSub, Int.reduceEq, Int.reduceLT, Int.reduceLE, Int.reduceNeg, Int.reduceToNat, Int.cast_ofNat_Int, List.length_map, hm1, hn1, decide_false, decide_true, Ne, not_true_eq_false, not_false_eq_true, Bool.not_true, Bool.not_false]
    refine wpL_cond (t := false) (by simp only [go_sem, ↓reduceIte, Nat.reduceEqDiff]) (fun h => Bool.noConfusion h) (fun _ => ?_)
    try simp only [go_sem, ↓reduceIte, Nat.reduceEqDiff]
    refine wpL_skip ?_
    refine wpL_fast 500 (by rfl) ?_
    try simp only [go_sem, ↓reduceIte, Nat.reduceEqDiff]
    refine wpL_region Tryd.tyOk (by decide) ?_
    simp only [go_sem, ↓reduceIte, Nat.reduceEqDiff, Nat.reduceAdd, Nat.reduceLeDiff, Nat.reduceMul, Nat.reducePow, Nat.reduceLT, Nat.reduceSub, Int.reduceEq, Int.reduceLT, Int.reduceLE, Int.reduceNeg, Int.reduceToNat, Int.cast_ofNat_Int]
    refine wpL_ret ?_
    rw [← hBQ]
    try simp only [go_sem, ↓reduceIte, Nat.reduceEqDiff, Nat.reduceAdd, Nat.reduceLeDiff, Nat.reduceMul, Nat.reducePow, Nat.reduceLT, Nat.reduceSub, Int.reduceEq, Int.reduceLT, Int.reduceLE, Int.reduceNeg, Int.reduceToNat, Int.cast_ofNat_Int]
    subst hr
    rw [hj3]
    exact ⟨rfl, rfl, rfl, rfl⟩
  have hn1 : (b.known.length : Int) > 0 := by rw [hkb]; simp <;> omega
  have hn0 : (0 : Int) < (b.known.length : Int) := hn1
  have hys : ys = [] := by rw [hkb] at q5; exact List.eq_nil_of_length_eq_zero (by simpa using q5)
  subst hys
  have hFx := a3 x (by rw [hka]; simp)
  have e1 := Same16 _ x y (Nat.le_refl _) hFx (b3 y (by rw [hkb]; simp))
  have hchk : (chk x).1 = 0 := by have := p8 x (by rw [hka]; simp); simp [okKnown] at this; exact this.1
  have e2 := clone37 _ x (Nat.le_refl _) hFx hchk
  have hx0 : (a.known.map eArr)[0]? = some (eArr x) := by rw [hka]; rfl
  have hy0 : (b.known.map eArr)[0]? = some (eArr y) := by rw [hkb]; rfl
  rw [eArr_eq x, eArr_eq y] at e1
  rw [rArr, eArr_eq x] at e2
  rw [eArr_eq x] at hx0
  rw [eArr_eq y] at hy0
  refine wpL_draw Tryd.tyOk (by kernel_rfl) 21 (by decide) (by decide) ?_
  simp only [go_sem, ↓reduceIte, Nat.reduceEqDiff, Nat.reduceAdd, Nat.reduceLeDiff, Nat.reduceMul, Nat.reducePow, Nat.reduceLT, Nat.reduceSub, Int.reduceEq, Int.reduceLT, Int.reduceLE, Int.reduceNeg, Int.reduceToNat, Int.cast_ofNat_Int, List.length_map, hm1, hn1, hm0, hn0, hx0, hy0, Int.toNat_zero, decide_false, decide_true, Ne, not_true_eq_false, not_false_eq_true, Bool.not_true, Bool.not_false]
  refine ⟨_, e1, ?_⟩
  cases hq : eqA x y
  · have hj3 : knownJ a b = [] := by simp [knownJ, knownS, hka, hkb, hq]
    simp only [go_sem, ↓reduceIte, Nat.reduceEqDiff, Nat.reduceAdd, Nat.reduceLeDiff, Nat.reduceMul, Nat.reducePow, Nat.reduceLT, Nat.reduceSub, Int.reduceEq, Int.reduceLT, Int.reduceLE, Int.reduceNeg, Int.reduceToNat, Int.cast_ofNat_Int]
    refine wpL_cond (t := false) (by simp only [go_sem, ↓reduceIte, Nat.reduceEqDiff]) (fun h => Bool.noConfusion h) (fun _ => ?_)
    try simp only [go_sem, ↓reduceIte, Nat.reduceEqDiff]
    refine wpL_skip ?_
    refine wpL_fast 500 (by rfl) ?_
    try simp only [go_sem, ↓reduceIte, Nat.reduceEqDiff]
    refine wpL_region Tryd.tyOk (by decide) ?_
    simp only [go_sem, ↓reduceIte, Nat.reduceEqDiff, Nat.reduceAdd, Nat.reduceLeDiff, Nat.reduceMul, Nat.reducePow, Nat.reduceLT, Nat.reduceSub, Int.reduceEq, Int.reduceLT, Int.reduceLE, Int.reduceNeg, Int.reduceToNat, Int.cast_ofNat_Int]
    refine wpL_ret ?_
    rw [← hBQ]
    try simp only [go_sem, ↓reduceIte, Nat.reduceEqDiff, Nat.reduceAdd, Nat.reduceLeDiff, Nat.reduceMul, Nat.reducePow, Nat.reduceLT, Nat.reduceSub, Int.reduceEq, Int.reduceLT, Int.reduceLE, Int.reduceNeg, Int.reduceToNat, Int.cast_ofNat_Int]
    subst hr
    rw [hj3]
    exact ⟨rfl, rfl, rfl, rfl⟩
  · have hj3 : knownJ a b = [x] := by simp [knownJ, knownS, hka, hkb, hq]
    simp only [go_sem, ↓reduceIte, Nat.reduceEqDiff, Nat.reduceAdd, Nat.reduceLeDiff, Nat.reduceMul, Nat.reducePow, Nat.reduceLT, Nat.reduceSub, Int.reduceEq, Int.reduceLT, Int.reduceLE, Int.reduceNeg, Int.reduceToNat, Int.cast_ofNat_Int]
    refine wpL_cond (t := true) (by simp only [go_sem, ↓reduceIte, Nat.reduceEqDiff]) (fun _ => ?_) (fun h => Bool.noConfusion h)
    try simp only [go_sem, ↓reduceIte, Nat.reduceEqDiff]
    refine wpL_region Tryd.tyOk (by decide) ?_
    simp only [go_sem, ↓reduceIte, Nat.reduceEqDiff, Nat.reduceAdd, Nat.reduceLeDiff, Nat.reduceMul, Nat.reducePow, Nat.reduceLT, Nat.reduceSub, Int.reduceEq, Int.reduceLT, Int.reduceLE, Int.reduceNeg, Int.reduceToNat, Int.cast_ofNat_Int, List.length_map, hm0, hx0, Int.toNat_zero, true_and]
    refine ⟨_, e2, ?_⟩
    simp only [go_sem, ↓reduceIte, Nat.reduceEqDiff, Nat.reduceAdd, Nat.reduceLeDiff, Nat.reduceMul, Nat.reducePow, Nat.reduceLT, Nat.reduceSub, Int.reduceEq, Int.reduceLT, Int.reduceLE, Int.reduceNeg, Int.reduceToNat, Int.cast_ofNat_Int]
    refine wpL_fast 500 (by rfl) ?_
    try simp only [go_sem, ↓reduceIte, Nat.reduceEqDiff]
    refine wpL_region Tryd.tyOk (by decide) ?_
    simp only [go_sem, ↓reduceIte, Nat.reduceEqDiff, Nat.reduceAdd, Nat.reduceLeDiff, Nat.reduceMul, Nat.reducePow, Nat.reduceLT, Nat.reduceSub, Int.reduceEq, Int.reduceLT, Int.reduceLE, Int.reduceNeg, Int.reduceToNat, Int.cast_ofNat_Int]
    refine wpL_ret ?_
    rw [← hBQ]
    try simp only [go_sem, ↓reduceIte, Nat.reduceEqDiff, Nat.reduceAdd, Nat.reduceLeDiff, Nat.reduceMul, Nat.reducePow, Nat.reduceLT, Nat.reduceSub, Int.reduceEq, Int.reduceLT, Int.reduceLE, Int.reduceNeg, Int.reduceToNat, Int.cast_ofNat_Int]
    subst hr
    rw [hj3]
    simp [eArr_eq]
    rfl
end Go.Proofs.YtkkkdfhnpamnkaaDoor
