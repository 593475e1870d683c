/-
  Types: the order, in plain words and by the reference.  (printed by gen14.py)
-/
import Derived.Test.YtkkkdfhnpamnkaaDoorW13
import Derived.Test.YtkkkdfhnpamnkaaDoorAbsZB
set_option linter.unusedSimpArgs false
set_option linter.unusedVariables false
set_option maxRecDepth 100000
set_option maxHeartbeats 4000000
namespace Go.Proofs.YtkkkdfhnpamnkaaDoor
open Go.Abs Go

def bitAt (a k : Int) : Bool := decide (Int.tmod (Int.tdiv a k) 2 = 1)
def kb (a b : Int) : Bool := (!bitAt a 2 || bitAt b 2) && ((!bitAt a 4 || bitAt b 4) && (!bitAt a 8 || bitAt b 8))
def dB (ds es : List Int) : Bool := (ds.zip es).all fun p => decide (p.2 = -1) || decide (p.1 = p.2)
def kB : List Arr → List Arr → Bool
  | _, [] => true
  | [], _ :: _ => false
  | x :: _, y :: _ => eqA x y
def belowS (a b : Ty) : Bool := kb a.kinds b.kinds && ((decide (b.rank = -1) || decide (a.rank = b.rank)) && (dB a.dims b.dims && kB a.known b.known))
theorem list_two {α : Type} (l : List α) : l = [] ∨ ∃ x xs, l = x :: xs := by
  cases l with
  | nil => exact Or.inl rfl
  | cons x xs => exact Or.inr ⟨x, xs, rfl⟩
theorem bit_zero {a k : Int} (ha : 0 ≤ a) (hk : 0 < k) : bitAt a k = !decide (Int.tmod (Int.tdiv a k) 2 = 0) := by
  unfold bitAt
  rw [Int.tdiv_eq_ediv_of_nonneg ha, Int.tmod_eq_emod_of_nonneg (Int.ediv_nonneg ha (by omega))]
  by_cases h : a / k % 2 = 0
  · rw [h]; rfl
  · have : a / k % 2 = 1 := by omega
    rw [this]; rfl
theorem div_wrap {a k : Int} (ha : 0 ≤ a) (hb : a ≤ 9223372036854775807) (hk : 0 < k) : IntKind.i64.wrap (Int.tdiv a k) = Int.tdiv a k := by
  rw [Int.tdiv_eq_ediv_of_nonneg ha]
  exact IntWalk.i64_in _ (by
    have e1 := Int.ediv_nonneg ha (show 0 ≤ k by omega)
    have e2 : a / k ≤ a := Int.ediv_le_self _ ha
    omega)
theorem below44 (a b : Ty) (hA : GoodT a) (hB : GoodT b) (ha : 0 ≤ a.kinds) (hb : 0 ≤ b.kinds) (hla : (a.dims.length : Int) = max a.rank 0) (hlb : (b.dims.length : Int) = max b.rank 0) (hrb : -1 ≤ b.rank) :
    Gives Tryd.prog 44 [.agg (eTy a), .agg (eTy b)] (rBool (belowS a b)) := by
  obtain ⟨a1, a2, a3, ⟨a4, a5⟩, a6, a7⟩ := hA
  obtain ⟨b1, b2, b3, ⟨b4, b5⟩, b6, b7⟩ := hB
  refine Gives.intro Tryd.tyOk Tryd.func44 (by kernel_rfl) rfl (by simp [Tryd.ntmps44]) ?_
  simp only [go_sem, ↓reduceIte, Nat.reduceEqDiff, Nat.reduceAdd, Nat.reduceLeDiff, Nat.reduceLT, Int.reduceEq, Int.reduceLT, Int.reduceLE, Int.reduceNeg, Int.reduceToNat, Int.cast_ofNat_Int]
  simp only [Tryd.ntmps44, Tryd.results44, eInt, eStr, rBool, rInt, rStr, rTwo, rThree, eTy, rTy, List.map_cons, List.map_nil]
  generalize hBQ : retQ _ _ _ = BQ
  iterate 2 (refine wpL_region Tryd.tyOk (by decide) ?_; simp only [go_sem, ↓reduceIte, Nat.reduceEqDiff, Nat.reduceAdd, Nat.reduceLeDiff, Nat.reduceLT, Int.reduceEq, Int.reduceLT, Int.reduceLE, Int.reduceNeg, Int.reduceToNat, Int.cast_ofNat_Int])
  refine wpL_block ?_
  generalize hB0 : blockQ _ _ _ = B0
  simp only [go_sem, ↓reduceIte, Nat.reduceEqDiff]
  refine wpL_loop (fun n s => ∃ i : Nat, i ≤ 3 ∧ n = 3 - i ∧ (1 ≤ i → (!bitAt a.kinds 2 || bitAt b.kinds 2) = true) ∧ (2 ≤ i → (!bitAt a.kinds 4 || bitAt b.kinds 4) = true) ∧ (3 ≤ i → (!bitAt a.kinds 8 || bitAt b.kinds 8) = true) ∧ s = ⟨[(5, sint .i64 (if i = 0 then 2 else if i = 1 then 4 else if i = 2 then 8 else 16)), (2, .c (.ptr 2 0)), (3, .c (.ptr 3 0))], [(2, .box 30 [.d (eInt a.kinds), .d (eInt a.rank), .d (.sl (eInts a.dims)), .d (.sl (a.known.map eArr))]), (3, .box 30 [.d (eInt b.kinds), .d (eInt b.rank), .d (.sl (eInts b.dims)), .d (.sl (b.known.map eArr))])]⟩) ?_ ?_
  · refine ⟨_, _, ⟨0, by omega, rfl, by omega, by omega, by omega, rfl⟩, ?_⟩
    refine le_mk ?_ ?_ ?_ <;> (simp only [go_sem, ↓reduceIte, Nat.reduceEqDiff]; try simp [eInt, eStr, rBool, rInt, rStr, rTwo, rThree, eTy, rTy, eInts]; try simp (disch := omega) only [IntWalk.i64_in, and_self])
  rintro n s ⟨i, hi, rfl, h2, h4, h8, rfl⟩
  have hi' : i = 0 ∨ i = 1 ∨ i = 2 ∨ i = 3 := by omega
  rcases hi' with rfl | rfl | rfl | rfl
  · have q1 := bit_zero (a := b.kinds) (k := 2) hb (by omega)
    have w1 := div_wrap (a := a.kinds) (k := 2) ha a5 (by omega)
    have w2 := div_wrap (a := b.kinds) (k := 2) hb b5 (by omega)
    have w3 : IntKind.i64.wrap (2 * 2) = 4 := by decide
    simp only [go_sem, ↓reduceIte, Nat.reduceEqDiff, Nat.reduceAdd, Nat.reduceLeDiff, Nat.reduceLT, Int.reduceEq, Int.reduceLT, Int.reduceLE, Int.reduceNeg, Int.reduceToNat, Int.cast_ofNat_Int]
    refine wpL_region Tryd.tyOk (by decide) ?_
    simp only [go_sem, ↓reduceIte, Nat.reduceEqDiff, Nat.reduceAdd, Nat.reduceLeDiff, Nat.reduceLT, Int.reduceEq, Int.reduceLT, Int.reduceLE, Int.reduceNeg, Int.reduceToNat, Int.cast_ofNat_Int, decide_true]
    refine wpL_cond (t := true) (by simp only [go_sem, ↓reduceIte, Nat.reduceEqDiff]) (fun _ => ?_) (fun h => Bool.noConfusion h)
    try simp only [go_sem, ↓reduceIte, Nat.reduceEqDiff]
    refine wpL_skip ?_
    refine wpL_block ?_
    generalize hB1 : blockQ _ _ _ = B1
    simp only [go_sem, ↓reduceIte, Nat.reduceEqDiff]
    refine wpL_to ⟨[(24, .c (.d (.sc (.bool (bitAt a.kinds 2 && !bitAt b.kinds 2))))), (5, sint .i64 2), (2, .c (.ptr 2 0)), (3, .c (.ptr 3 0))], [(2, .box 30 [.d (eInt a.kinds), .d (eInt a.rank), .d (.sl (eInts a.dims)), .d (.sl (a.known.map eArr))]), (3, .box 30 [.d (eInt b.kinds), .d (eInt b.rank), .d (.sl (eInts b.dims)), .d (.sl (b.known.map eArr))])]⟩ ?_ ?_
    · by_cases c1 : Int.tmod (Int.tdiv a.kinds 2) 2 = 1
      · have hs : bitAt a.kinds 2 = true := by unfold bitAt; exact decide_eq_true c1
        by_cases c2 : Int.tmod (Int.tdiv b.kinds 2) 2 = 0
        · refine wpL_region Tryd.tyOk (by decide) ?_
          simp only [go_sem, ↓reduceIte, Nat.reduceEqDiff, Nat.reduceAdd, Nat.reduceLeDiff, Nat.reduceLT, Int.reduceEq, Int.reduceLT, Int.reduceLE, Int.reduceNeg, Int.reduceToNat, Int.cast_ofNat_Int, w1, w2, c1, c2, decide_false, decide_true, Ne, not_true_eq_false, not_false_eq_true, Bool.not_true, Bool.not_false]
          refine le_mk ?_ ?_ ?_ <;> (simp only [go_sem, ↓reduceIte, Nat.reduceEqDiff]; try simp [eInt, eStr, rBool, rInt, rStr, rTwo, rThree, eTy, rTy, eInts, hs, q1, c2]; try simp (disch := omega) only [IntWalk.i64_in, and_self])
        · refine wpL_region Tryd.tyOk (by decide) ?_
          simp only [go_sem, ↓reduceIte, Nat.reduceEqDiff, Nat.reduceAdd, Nat.reduceLeDiff, Nat.reduceLT, Int.reduceEq, Int.reduceLT, Int.reduceLE, Int.reduceNeg, Int.reduceToNat, Int.cast_ofNat_Int, w1, w2, c1, c2, decide_false, decide_true, Ne, not_true_eq_false, not_false_eq_true, Bool.not_true, Bool.not_false]
          refine le_mk ?_ ?_ ?_ <;> (simp only [go_sem, ↓reduceIte, Nat.reduceEqDiff]; try simp [eInt, eStr, rBool, rInt, rStr, rTwo, rThree, eTy, rTy, eInts, hs, q1, c2]; try simp (disch := omega) only [IntWalk.i64_in, and_self])
      · have hs : bitAt a.kinds 2 = false := by unfold bitAt; exact decide_eq_false c1
        refine wpL_region Tryd.tyOk (by decide) ?_
        simp only [go_sem, ↓reduceIte, Nat.reduceEqDiff, Nat.reduceAdd, Nat.reduceLeDiff, Nat.reduceLT, Int.reduceEq, Int.reduceLT, Int.reduceLE, Int.reduceNeg, Int.reduceToNat, Int.cast_ofNat_Int, w1, w2, c1, decide_false, decide_true, Ne, not_true_eq_false, not_false_eq_true, Bool.not_true, Bool.not_false]
        refine le_mk ?_ ?_ ?_ <;> (simp only [go_sem, ↓reduceIte, Nat.reduceEqDiff]; try simp [eInt, eStr, rBool, rInt, rStr, rTwo, rThree, eTy, rTy, eInts, hs]; try simp (disch := omega) only [IntWalk.i64_in, and_self])
    try simp only [go_sem, ↓reduceIte, Nat.reduceEqDiff]
    cases hbad : (bitAt a.kinds 2 && !bitAt b.kinds 2)
    · refine wpL_cond (t := false) (by simp only [go_sem, ↓reduceIte, Nat.reduceEqDiff, hbad]) (fun h => Bool.noConfusion h) (fun _ => ?_)
      try simp only [go_sem, ↓reduceIte, Nat.reduceEqDiff]
      refine wpL_skip ?_
      try simp only [go_sem, ↓reduceIte, Nat.reduceEqDiff]
      rw [← hB1]
      try simp only [go_sem, ↓reduceIte, Nat.reduceEqDiff]
      refine wpL_region Tryd.tyOk (by decide) ?_
      simp only [go_sem, ↓reduceIte, Nat.reduceEqDiff, Nat.reduceAdd, Nat.reduceLeDiff, Nat.reduceLT, Int.reduceEq, Int.reduceLT, Int.reduceLE, Int.reduceNeg, Int.reduceToNat, Int.cast_ofNat_Int, w3]
      refine ⟨_, _, ?_, ⟨1, by omega, rfl, ?_, ?_, ?_, rfl⟩, ?_⟩
      · omega
      · intro _; first | exact h2 (by omega) | (cases h1 : bitAt a.kinds 2 <;> cases h3 : bitAt b.kinds 2 <;> simp_all)
      · intro hh; first | omega | exact h4 (by omega) | (cases h1 : bitAt a.kinds 4 <;> cases h3 : bitAt b.kinds 4 <;> simp_all)
      · intro hh; first | omega | exact h8 (by omega) | (cases h1 : bitAt a.kinds 8 <;> cases h3 : bitAt b.kinds 8 <;> simp_all)
      · refine le_mk ?_ ?_ ?_ <;> (simp only [go_sem, ↓reduceIte, Nat.reduceEqDiff]; try simp [eInt, eStr, rBool, rInt, rStr, rTwo, rThree, eTy, rTy, eInts]; try simp (disch := omega) only [IntWalk.i64_in, and_self])
    · refine wpL_cond (t := true) (by simp only [go_sem, ↓reduceIte, Nat.reduceEqDiff, hbad]) (fun _ => ?_) (fun h => Bool.noConfusion h)
      try simp only [go_sem, ↓reduceIte, Nat.reduceEqDiff]
      refine wpL_region Tryd.tyOk (by decide) ?_
      simp only [go_sem, ↓reduceIte, Nat.reduceEqDiff, Nat.reduceAdd, Nat.reduceLeDiff, Nat.reduceLT, Int.reduceEq, Int.reduceLT, Int.reduceLE, Int.reduceNeg, Int.reduceToNat, Int.cast_ofNat_Int]
      refine wpL_ret ?_
      rw [← hB1]
      try simp only [go_sem, ↓reduceIte, Nat.reduceEqDiff]
      rw [← hB0]
      try simp only [go_sem, ↓reduceIte, Nat.reduceEqDiff]
      rw [← hBQ]
      try simp only [go_sem, ↓reduceIte, Nat.reduceEqDiff, Nat.reduceAdd, Nat.reduceLeDiff, Nat.reduceLT, Int.reduceEq, Int.reduceLT, Int.reduceLE, Int.reduceNeg, Int.reduceToNat, Int.cast_ofNat_Int]
      have hs : belowS a b = false := by
        simp only [Bool.and_eq_true, Bool.not_eq_true'] at hbad
        simp [belowS, kb, hbad.1, hbad.2]
      rw [hs]
  · have q1 := bit_zero (a := b.kinds) (k := 4) hb (by omega)
    have w1 := div_wrap (a := a.kinds) (k := 4) ha a5 (by omega)
    have w2 := div_wrap (a := b.kinds) (k := 4) hb b5 (by omega)
    have w3 : IntKind.i64.wrap (2 * 4) = 8 := by decide
    simp only [go_sem, ↓reduceIte, Nat.reduceEqDiff, Nat.reduceAdd, Nat.reduceLeDiff, Nat.reduceLT, Int.reduceEq, Int.reduceLT, Int.reduceLE, Int.reduceNeg, Int.reduceToNat, Int.cast_ofNat_Int]
    refine wpL_region Tryd.tyOk (by decide) ?_
    simp only [go_sem, ↓reduceIte, Nat.reduceEqDiff, Nat.reduceAdd, Nat.reduceLeDiff, Nat.reduceLT, Int.reduceEq, Int.reduceLT, Int.reduceLE, Int.reduceNeg, Int.reduceToNat, Int.cast_ofNat_Int, decide_true]
    refine wpL_cond (t := true) (by simp only [go_sem, ↓reduceIte, Nat.reduceEqDiff]) (fun _ => ?_) (fun h => Bool.noConfusion h)
    try simp only [go_sem, ↓reduceIte, Nat.reduceEqDiff]
    refine wpL_skip ?_
    refine wpL_block ?_
    generalize hB1 : blockQ _ _ _ = B1
    simp only [go_sem, ↓reduceIte, Nat.reduceEqDiff]
    refine wpL_to ⟨[(24, .c (.d (.sc (.bool (bitAt a.kinds 4 && !bitAt b.kinds 4))))), (5, sint .i64 4), (2, .c (.ptr 2 0)), (3, .c (.ptr 3 0))], [(2, .box 30 [.d (eInt a.kinds), .d (eInt a.rank), .d (.sl (eInts a.dims)), .d (.sl (a.known.map eArr))]), (3, .box 30 [.d (eInt b.kinds), .d (eInt b.rank), .d (.sl (eInts b.dims)), .d (.sl (b.known.map eArr))])]⟩ ?_ ?_
    · by_cases c1 : Int.tmod (Int.tdiv a.kinds 4) 2 = 1
      · have hs : bitAt a.kinds 4 = true := by unfold bitAt; exact decide_eq_true c1
        by_cases c2 : Int.tmod (Int.tdiv b.kinds 4) 2 = 0
        · refine wpL_region Tryd.tyOk (by decide) ?_
          simp only [go_sem, ↓reduceIte, Nat.reduceEqDiff, Nat.reduceAdd, Nat.reduceLeDiff, Nat.reduceLT, Int.reduceEq, Int.reduceLT, Int.reduceLE, Int.reduceNeg, Int.reduceToNat, Int.cast_ofNat_Int, w1, w2, c1, c2, decide_false, decide_true, Ne, not_true_eq_false, not_false_eq_true, Bool.not_true, Bool.not_false]
          refine le_mk ?_ ?_ ?_ <;> (simp only [go_sem, ↓reduceIte, Nat.reduceEqDiff]; try simp [eInt, eStr, rBool, rInt, rStr, rTwo, rThree, eTy, rTy, eInts, hs, q1, c2]; try simp (disch := omega) only [IntWalk.i64_in, and_self])
        · refine wpL_region Tryd.tyOk (by decide) ?_
          simp only [go_sem, ↓reduceIte, Nat.reduceEqDiff, Nat.reduceAdd, Nat.reduceLeDiff, Nat.reduceLT, Int.reduceEq, Int.reduceLT, Int.reduceLE, Int.reduceNeg, Int.reduceToNat, Int.cast_ofNat_Int, w1, w2, c1, c2, decide_false, decide_true, Ne, not_true_eq_false, not_false_eq_true, Bool.not_true, Bool.not_false]
          refine le_mk ?_ ?_ ?_ <;> (simp only [go_sem, ↓reduceIte, Nat.reduceEqDiff]; try simp [eInt, eStr, rBool, rInt, rStr, rTwo, rThree, eTy, rTy, eInts, hs, q1, c2]; try simp (disch := omega) only [IntWalk.i64_in, and_self])
      · have hs : bitAt a.kinds 4 = false := by unfold bitAt; exact decide_eq_false c1
        refine wpL_region Tryd.tyOk (by decide) ?_
        simp only [go_sem, ↓reduceIte, Nat.reduceEqDiff, Nat.reduceAdd, Nat.reduceLeDiff, Nat.reduceLT, Int.reduceEq, Int.reduceLT, Int.reduceLE, Int.reduceNeg, Int.reduceToNat, Int.cast_ofNat_Int, w1, w2, c1, decide_false, decide_true, Ne, not_true_eq_false, not_false_eq_true, Bool.not_true, Bool.not_false]
        refine le_mk ?_ ?_ ?_ <;> (simp only [go_sem, ↓reduceIte, Nat.reduceEqDiff]; try simp [eInt, eStr, rBool, rInt, rStr, rTwo, rThree, eTy, rTy, eInts, hs]; try simp (disch := omega) only [IntWalk.i64_in, and_self])
    try simp only [go_sem, ↓reduceIte, Nat.reduceEqDiff]
    cases hbad : (bitAt a.kinds 4 && !bitAt b.kinds 4)
    · refine wpL_cond (t := false) (by simp only [go_sem, ↓reduceIte, Nat.reduceEqDiff, hbad]) (fun h => Bool.noConfusion h) (fun _ => ?_)
      try simp only [go_sem, ↓reduceIte, Nat.reduceEqDiff]
      refine wpL_skip ?_
      try simp only [go_sem, ↓reduceIte, Nat.reduceEqDiff]
      rw [← hB1]
      try simp only [go_sem, ↓reduceIte, Nat.reduceEqDiff]
      refine wpL_region Tryd.tyOk (by decide) ?_
      simp only [go_sem, ↓reduceIte, Nat.reduceEqDiff, Nat.reduceAdd, Nat.reduceLeDiff, Nat.reduceLT, Int.reduceEq, Int.reduceLT, Int.reduceLE, Int.reduceNeg, Int.reduceToNat, Int.cast_ofNat_Int, w3]
      refine ⟨_, _, ?_, ⟨2, by omega, rfl, ?_, ?_, ?_, rfl⟩, ?_⟩
      · omega
      · intro _; first | exact h2 (by omega) | (cases h1 : bitAt a.kinds 2 <;> cases h3 : bitAt b.kinds 2 <;> simp_all)
      · intro hh; first | omega | exact h4 (by omega) | (cases h1 : bitAt a.kinds 4 <;> cases h3 : bitAt b.kinds 4 <;> simp_all)
      · intro hh; first | omega | exact h8 (by omega) | (cases h1 : bitAt a.kinds 8 <;> cases h3 : bitAt b.kinds 8 <;> simp_all)
      · refine le_mk ?_ ?_ ?_ <;> (simp only [go_sem, ↓reduceIte, Nat.reduceEqDiff]; try simp [eInt, eStr, rBool, rInt, rStr, rTwo, rThree, eTy, rTy, eInts]; try simp (disch := omega) only [IntWalk.i64_in, and_self])
    · refine wpL_cond (t := true) (by simp only [go_sem, ↓reduceIte, Nat.reduceEqDiff, hbad]) (fun _ => ?_) (fun h => Bool.noConfusion h)
      try simp only [go_sem, ↓reduceIte, Nat.reduceEqDiff]
      refine wpL_region Tryd.tyOk (by decide) ?_
      simp only [go_sem, ↓reduceIte, Nat.reduceEqDiff, Nat.reduceAdd, Nat.reduceLeDiff, Nat.reduceLT, Int.reduceEq, Int.reduceLT, Int.reduceLE, Int.reduceNeg, Int.reduceToNat, Int.cast_ofNat_Int]
      refine wpL_ret ?_
      rw [← hB1]
      try simp only [go_sem, ↓reduceIte, Nat.reduceEqDiff]
      rw [← hB0]
      try simp only [go_sem, ↓reduceIte, Nat.reduceEqDiff]
      rw [← hBQ]
      try simp only [go_sem, ↓reduceIte, Nat.reduceEqDiff, Nat.reduceAdd, Nat.reduceLeDiff, Nat.reduceLT, Int.reduceEq, Int.reduceLT, Int.reduceLE, Int.reduceNeg, Int.reduceToNat, Int.cast_ofNat_Int]
      have hs : belowS a b = false := by
        simp only [Bool.and_eq_true, Bool.not_eq_true'] at hbad
        simp [belowS, kb, hbad.1, hbad.2]
      rw [hs]
  · have q1 := bit_zero (a := b.kinds) (k := 8) hb (by omega)
    have w1 := div_wrap (a := a.kinds) (k := 8) ha a5 (by omega)
    have w2 := div_wrap (a := b.kinds) (k := 8) hb b5 (by omega)
    have w3 : IntKind.i64.wrap (2 * 8) = 16 := by decide
    simp only [go_sem, ↓reduceIte, Nat.reduceEqDiff, Nat.reduceAdd, Nat.reduceLeDiff, Nat.reduceLT, Int.reduceEq, Int.reduceLT, Int.reduceLE, Int.reduceNeg, Int.reduceToNat, Int.cast_ofNat_Int]
    refine wpL_region Tryd.tyOk (by decide) ?_
    simp only [go_sem, ↓reduceIte, Nat.reduceEqDiff, Nat.reduceAdd, Nat.reduceLeDiff, Nat.reduceLT, Int.reduceEq, Int.reduceLT, Int.reduceLE, Int.reduceNeg, Int.reduceToNat, Int.cast_ofNat_Int, decide_true]
    refine wpL_cond (t := true) (by simp only [go_sem, ↓reduceIte, Nat.reduceEqDiff]) (fun _ => ?_) (fun h => Bool.noConfusion h)
    try simp only [go_sem, ↓reduceIte, Nat.reduceEqDiff]
    refine wpL_skip ?_
    refine wpL_block ?_
    generalize hB1 : blockQ _ _ _ = B1
    simp only [go_sem, ↓reduceIte, Nat.reduceEqDiff]
    refine wpL_to ⟨[(24, .c (.d (.sc (.bool (bitAt a.kinds 8 && !bitAt b.kinds 8))))), (5, sint .i64 8), (2, .c (.ptr 2 0)), (3, .c (.ptr 3 0))], [(2, .box 30 [.d (eInt a.kinds), .d (eInt a.rank), .d (.sl (eInts a.dims)), .d (.sl (a.known.map eArr))]), (3, .box 30 [.d (eInt b.kinds), .d (eInt b.rank), .d (.sl (eInts b.dims)), .d (.sl (b.known.map eArr))])]⟩ ?_ ?_
    · by_cases c1 : Int.tmod (Int.tdiv a.kinds 8) 2 = 1
      · have hs : bitAt a.kinds 8 = true := by unfold bitAt; exact decide_eq_true c1
        by_cases c2 : Int.tmod (Int.tdiv b.kinds 8) 2 = 0
        · refine wpL_region Tryd.tyOk (by decide) ?_
          simp only [go_sem, ↓reduceIte, Nat.reduceEqDiff, Nat.reduceAdd, Nat.reduceLeDiff, Nat.reduceLT, Int.reduceEq, Int.reduceLT, Int.reduceLE, Int.reduceNeg, Int.reduceToNat, Int.cast_ofNat_Int, w1, w2, c1, c2, decide_false, decide_true, Ne, not_true_eq_false, not_false_eq_true, Bool.not_true, Bool.not_false]
          refine le_mk ?_ ?_ ?_ <;> (simp only [go_sem, ↓reduceIte, Nat.reduceEqDiff]; try simp [eInt, eStr, rBool, rInt, rStr, rTwo, rThree, eTy, rTy, eInts, hs, q1, c2]; try simp (disch := omega) only [IntWalk.i64_in, and_self])
        · refine wpL_region Tryd.tyOk (by decide) ?_
          simp only [go_sem, ↓reduceIte, Nat.reduceEqDiff, Nat.reduceAdd, Nat.reduceLeDiff, Nat.reduceLT, Int.reduceEq, Int.reduceLT, Int.reduceLE, Int.reduceNeg, Int.reduceToNat, Int.cast_ofNat_Int, w1, w2, c1, c2, decide_false, decide_true, Ne, not_true_eq_false, not_false_eq_true, Bool.not_true, Bool.not_false]
          refine le_mk ?_ ?_ ?_ <;> (simp only [go_sem, ↓reduceIte, Nat.reduceEqDiff]; try simp [eInt, eStr, rBool, rInt, rStr, rTwo, rThree, eTy, rTy, eInts, hs, q1, c2]; try simp (disch := omega) only [IntWalk.i64_in, and_self])
      · have hs : bitAt a.kinds 8 = false := by unfold bitAt; exact decide_eq_false c1
        refine wpL_region Tryd.tyOk (by decide) ?_
        simp only [go_sem, ↓reduceIte, Nat.reduceEqDiff, Nat.reduceAdd, Nat.reduceLeDiff, Nat.reduceLT, Int.reduceEq, Int.reduceLT, Int.reduceLE, Int.reduceNeg, Int.reduceToNat, Int.cast_ofNat_Int, w1, w2, c1, decide_false, decide_true, Ne, not_true_eq_false, not_false_eq_true, Bool.not_true, Bool.not_false]
        refine le_mk ?_ ?_ ?_ <;> (simp only [go_sem, ↓reduceIte, Nat.reduceEqDiff]; try simp [eInt, eStr, rBool, rInt, rStr, rTwo, rThree, eTy, rTy, eInts, hs]; try simp (disch := omega) only [IntWalk.i64_in, and_self])
    try simp only [go_sem, ↓reduceIte, Nat.reduceEqDiff]
    cases hbad : (bitAt a.kinds 8 && !bitAt b.kinds 8)
    · refine wpL_cond (t := false) (by simp only [go_sem, ↓reduceIte, Nat.reduceEqDiff, hbad]) (fun h => Bool.noConfusion h) (fun _ => ?_)
      try simp only [go_sem, ↓reduceIte, Nat.reduceEqDiff]
      refine wpL_skip ?_
      try simp only [go_sem, ↓reduceIte, Nat.reduceEqDiff]
      rw [← hB1]
      try simp only [go_sem, ↓reduceIte, Nat.reduceEqDiff]
      refine wpL_region Tryd.tyOk (by decide) ?_
      simp only [go_sem, ↓reduceIte, Nat.reduceEqDiff, Nat.reduceAdd, Nat.reduceLeDiff, Nat.reduceLT, Int.reduceEq, Int.reduceLT, Int.reduceLE, Int.reduceNeg, Int.reduceToNat, Int.cast_ofNat_Int, w3]
      refine ⟨_, _, ?_, ⟨3, by omega, rfl, ?_, ?_, ?_, rfl⟩, ?_⟩
      · omega
      · intro _; first | exact h2 (by omega) | (cases h1 : bitAt a.kinds 2 <;> cases h3 : bitAt b.kinds 2 <;> simp_all)
      · intro hh; first | omega | exact h4 (by omega) | (cases h1 : bitAt a.kinds 4 <;> cases h3 : bitAt b.kinds 4 <;> simp_all)
      · intro hh; first | omega | exact h8 (by omega) | (cases h1 : bitAt a.kinds 8 <;> cases h3 : bitAt b.kinds 8 <;> simp_all)
      · refine le_mk ?_ ?_ ?_ <;> (simp only [go_sem, ↓reduceIte, Nat.reduceEqDiff]; try simp [eInt, eStr, rBool, rInt, rStr, rTwo, rThree, eTy, rTy, eInts]; try simp (disch := omega) only [IntWalk.i64_in, and_self])
    · refine wpL_cond (t := true) (by simp only [go_sem, ↓reduceIte, Nat.reduceEqDiff, hbad]) (fun _ => ?_) (fun h => Bool.noConfusion h)
      try simp only [go_sem, ↓reduceIte, Nat.reduceEqDiff]
      refine wpL_region Tryd.tyOk (by decide) ?_
      simp only [go_sem, ↓reduceIte, Nat.reduceEqDiff, Nat.reduceAdd, Nat.reduceLeDiff, Nat.reduceLT, Int.reduceEq, Int.reduceLT, Int.reduceLE, Int.reduceNeg, Int.reduceToNat, Int.cast_ofNat_Int]
      refine wpL_ret ?_
      rw [← hB1]
      try simp only [go_sem, ↓reduceIte, Nat.reduceEqDiff]
      rw [← hB0]
      try simp only [go_sem, ↓reduceIte, Nat.reduceEqDiff]
      rw [← hBQ]
      try simp only [go_sem, ↓reduceIte, Nat.reduceEqDiff, Nat.reduceAdd, Nat.reduceLeDiff, Nat.reduceLT, Int.reduceEq, Int.reduceLT, Int.reduceLE, Int.reduceNeg, Int.reduceToNat, Int.cast_ofNat_Int]
      have hs : belowS a b = false := by
        simp only [Bool.and_eq_true, Bool.not_eq_true'] at hbad
        simp [belowS, kb, hbad.1, hbad.2]
      rw [hs]
  have hkb : kb a.kinds b.kinds = true := by
    unfold kb
    rw [h2 (by omega), h4 (by omega), h8 (by omega)]; rfl
  have hspec : belowS a b = ((decide (b.rank = -1) || decide (a.rank = b.rank)) && (dB a.dims b.dims && kB a.known b.known)) := by unfold belowS; rw [hkb, Bool.true_and]
  simp only [go_sem, ↓reduceIte, Nat.reduceEqDiff, Nat.reduceAdd, Nat.reduceLeDiff, Nat.reduceLT, Int.reduceEq, Int.reduceLT, Int.reduceLE, Int.reduceNeg, Int.reduceToNat, Int.cast_ofNat_Int]
  refine wpL_region Tryd.tyOk (by decide) ?_
  simp only [go_sem, ↓reduceIte, Nat.reduceEqDiff, Nat.reduceAdd, Nat.reduceLeDiff, Nat.reduceLT, Int.reduceEq, Int.reduceLT, Int.reduceLE, Int.reduceNeg, Int.reduceToNat, Int.cast_ofNat_Int, decide_false]
  refine wpL_cond (t := false) (by simp only [go_sem, ↓reduceIte, Nat.reduceEqDiff]) (fun h => Bool.noConfusion h) (fun _ => ?_)
  try simp only [go_sem, ↓reduceIte, Nat.reduceEqDiff]
  refine wpL_exit ?_
  rw [← hB0]
  try simp only [go_sem, ↓reduceIte, Nat.reduceEqDiff]
  refine wpL_to ⟨[(34, .c (.d (.sc (.bool (!(decide (b.rank = -1) || decide (a.rank = b.rank))))))), (2, .c (.ptr 2 0)), (3, .c (.ptr 3 0))], [(2, .box 30 [.d (eInt a.kinds), .d (eInt a.rank), .d (.sl (eInts a.dims)), .d (.sl (a.known.map eArr))]), (3, .box 30 [.d (eInt b.kinds), .d (eInt b.rank), .d (.sl (eInts b.dims)), .d (.sl (b.known.map eArr))])]⟩ ?_ ?_
  · by_cases c1 : b.rank = -1
    · refine wpL_region Tryd.tyOk (by decide) ?_
      simp only [go_sem, ↓reduceIte, Nat.reduceEqDiff, Nat.reduceAdd, Nat.reduceLeDiff, Nat.reduceLT, Int.reduceEq, Int.reduceLT, Int.reduceLE, Int.reduceNeg, Int.reduceToNat, Int.cast_ofNat_Int, eq_true c1, decide_false, decide_true, Ne, not_true_eq_false, not_false_eq_true, Bool.not_true, Bool.not_false]
      refine le_mk ?_ ?_ ?_ <;> (simp only [go_sem, ↓reduceIte, Nat.reduceEqDiff]; try simp [eInt, eStr, rBool, rInt, rStr, rTwo, rThree, eTy, rTy, eInts, c1]; try simp (disch := omega) only [IntWalk.i64_in, and_self])
    by_cases c2 : a.rank = b.rank
    · refine wpL_region Tryd.tyOk (by decide) ?_
      simp only [go_sem, ↓reduceIte, Nat.reduceEqDiff, Nat.reduceAdd, Nat.reduceLeDiff, Nat.reduceLT, Int.reduceEq, Int.reduceLT, Int.reduceLE, Int.reduceNeg, Int.reduceToNat, Int.cast_ofNat_Int, c1, eq_true c2, decide_false, decide_true, Ne, not_true_eq_false, not_false_eq_true, Bool.not_true, Bool.not_false]
      refine le_mk ?_ ?_ ?_ <;> (simp only [go_sem, ↓reduceIte, Nat.reduceEqDiff]; try simp [eInt, eStr, rBool, rInt, rStr, rTwo, rThree, eTy, rTy, eInts, c1, c2]; try simp (disch := omega) only [IntWalk.i64_in, and_self])
    · refine wpL_region Tryd.tyOk (by decide) ?_
      simp only [go_sem, ↓reduceIte, Nat.reduceEqDiff, Nat.reduceAdd, Nat.reduceLeDiff, Nat.reduceLT, Int.reduceEq, Int.reduceLT, Int.reduceLE, Int.reduceNeg, Int.reduceToNat, Int.cast_ofNat_Int, c1, c2, decide_false, decide_true, Ne, not_true_eq_false, not_false_eq_true, Bool.not_true, Bool.not_false]
      refine le_mk ?_ ?_ ?_ <;> (simp only [go_sem, ↓reduceIte, Nat.reduceEqDiff]; try simp [eInt, eStr, rBool, rInt, rStr, rTwo, rThree, eTy, rTy, eInts, c1, c2]; try simp (disch := omega) only [IntWalk.i64_in, and_self])
  try simp only [go_sem, ↓reduceIte, Nat.reduceEqDiff]
  cases hr : (decide (b.rank = -1) || decide (a.rank = b.rank))
  · refine wpL_cond (t := true) (by simp only [go_sem, ↓reduceIte, Nat.reduceEqDiff, hr, Bool.not_false]) (fun _ => ?_) (fun h => Bool.noConfusion h)
    try simp only [go_sem, ↓reduceIte, Nat.reduceEqDiff]
    refine wpL_region Tryd.tyOk (by decide) ?_
    simp only [go_sem, ↓reduceIte, Nat.reduceEqDiff, Nat.reduceAdd, Nat.reduceLeDiff, Nat.reduceLT, Int.reduceEq, Int.reduceLT, Int.reduceLE, Int.reduceNeg, Int.reduceToNat, Int.cast_ofNat_Int]
    refine wpL_ret ?_
    rw [← hBQ]
    try simp only [go_sem, ↓reduceIte, Nat.reduceEqDiff, Nat.reduceAdd, Nat.reduceLeDiff, Nat.reduceLT, Int.reduceEq, Int.reduceLT, Int.reduceLE, Int.reduceNeg, Int.reduceToNat, Int.cast_ofNat_Int]
    rw [hspec, hr, Bool.false_and]
  rw [hr, Bool.true_and] at hspec
  have hlen : b.dims.length ≤ a.dims.length := by
    simp only [Bool.or_eq_true, decide_eq_true_eq] at hr
    rcases hr with h | h <;> omega
  refine wpL_cond (t := false) (by simp only [go_sem, ↓reduceIte, Nat.reduceEqDiff, hr, Bool.not_true]) (fun h => Bool.noConfusion h) (fun _ => ?_)
  try simp only [go_sem, ↓reduceIte, Nat.reduceEqDiff]
  refine wpL_skip ?_
  refine wpL_region Tryd.tyOk (by decide) ?_
  simp only [go_sem, ↓reduceIte, Nat.reduceEqDiff, Nat.reduceAdd, Nat.reduceLeDiff, Nat.reduceLT, Int.reduceEq, Int.reduceLT, Int.reduceLE, Int.reduceNeg, Int.reduceToNat, Int.cast_ofNat_Int]
  refine wpL_block ?_
  generalize hB2 : blockQ _ _ _ = B2
  simp only [go_sem, ↓reduceIte, Nat.reduceEqDiff]
  refine wpL_loop (fun n s => ∃ j : Nat, j ≤ b.dims.length ∧ n = b.dims.length - j ∧ dB a.dims b.dims = dB (a.dims.drop j) (b.dims.drop j) ∧ s = ⟨[(6, sint .i64 j), (2, .c (.ptr 2 0)), (3, .c (.ptr 3 0))], [(2, .box 30 [.d (eInt a.kinds), .d (eInt a.rank), .d (.sl (eInts a.dims)), .d (.sl (a.known.map eArr))]), (3, .box 30 [.d (eInt b.kinds), .d (eInt b.rank), .d (.sl (eInts b.dims)), .d (.sl (b.known.map eArr))])]⟩) ?_ ?_
  · refine ⟨_, _, ⟨0, by omega, rfl, rfl, rfl⟩, ?_⟩
    refine le_mk ?_ ?_ ?_ <;> (simp only [go_sem, ↓reduceIte, Nat.reduceEqDiff]; try simp [eInt, eStr, rBool, rInt, rStr, rTwo, rThree, eTy, rTy, eInts]; try simp (disch := omega) only [IntWalk.i64_in, and_self])
  rintro n s ⟨j, hj, rfl, hpre, rfl⟩
  simp only [go_sem, ↓reduceIte, Nat.reduceEqDiff, Nat.reduceAdd, Nat.reduceLeDiff, Nat.reduceLT, Int.reduceEq, Int.reduceLT, Int.reduceLE, Int.reduceNeg, Int.reduceToNat, Int.cast_ofNat_Int]
  refine wpL_region Tryd.tyOk (by decide) ?_
  simp only [go_sem, ↓reduceIte, Nat.reduceEqDiff, Nat.reduceAdd, Nat.reduceLeDiff, Nat.reduceLT, Int.reduceEq, Int.reduceLT, Int.reduceLE, Int.reduceNeg, Int.reduceToNat, Int.cast_ofNat_Int, eInts_len]
  refine wpL_cond (t := decide ((j : Int) < b.dims.length)) (by simp only [go_sem, ↓reduceIte, Nat.reduceEqDiff]) (fun hlt => ?_) (fun hge => ?_)
  · have hlt := lt_of hlt
    obtain ⟨d, hd⟩ := get_ex (l := b.dims) (i := j) (by omega)
    obtain ⟨c, hc⟩ := get_ex (l := a.dims) (i := j) (by omega)
    rw [drop_get hd, drop_get hc] at hpre
    have hpre2 : dB a.dims b.dims = ((decide (d = -1) || decide (c = d)) && dB (a.dims.drop (j + 1)) (b.dims.drop (j + 1))) := hpre
    simp only [go_sem, ↓reduceIte, Nat.reduceEqDiff, Nat.reduceAdd, Nat.reduceLeDiff, Nat.reduceLT, Int.reduceEq, Int.reduceLT, Int.reduceLE, Int.reduceNeg, Int.reduceToNat, Int.cast_ofNat_Int]
    refine wpL_skip ?_
    refine wpL_block ?_
    generalize hB3 : blockQ _ _ _ = B3
    simp only [go_sem, ↓reduceIte, Nat.reduceEqDiff]
    refine wpL_to ⟨[(60, .c (.d (.sc (.bool (!(decide (d = -1) || decide (c = d))))))), (6, sint .i64 j), (2, .c (.ptr 2 0)), (3, .c (.ptr 3 0))], [(2, .box 30 [.d (eInt a.kinds), .d (eInt a.rank), .d (.sl (eInts a.dims)), .d (.sl (a.known.map eArr))]), (3, .box 30 [.d (eInt b.kinds), .d (eInt b.rank), .d (.sl (eInts b.dims)), .d (.sl (b.known.map eArr))])]⟩ ?_ ?_
    · by_cases c1 : d = -1
      · refine wpL_draw Tryd.tyOk (by kernel_rfl) 19 (by decide) (by decide) ?_
        simp only [go_sem, ↓reduceIte, Nat.reduceEqDiff, Nat.reduceAdd, Nat.reduceLeDiff, Nat.reduceLT, Int.reduceEq, Int.reduceLT, Int.reduceLE, Int.reduceNeg, Int.reduceToNat, Int.cast_ofNat_Int, eInts_get hd, eInts_get hc, eq_true c1, decide_false, decide_true, Ne, not_true_eq_false, not_false_eq_true, Bool.not_true, Bool.not_false]
        refine le_mk ?_ ?_ ?_ <;> (simp only [go_sem, ↓reduceIte, Nat.reduceEqDiff]; try simp [eInt, eStr, rBool, rInt, rStr, rTwo, rThree, eTy, rTy, eInts, c1]; try simp (disch := omega) only [IntWalk.i64_in, and_self])
      by_cases c2 : c = d
      · refine wpL_draw Tryd.tyOk (by kernel_rfl) 19 (by decide) (by decide) ?_
        simp only [go_sem, ↓reduceIte, Nat.reduceEqDiff, Nat.reduceAdd, Nat.reduceLeDiff, Nat.reduceLT, Int.reduceEq, Int.reduceLT, Int.reduceLE, Int.reduceNeg, Int.reduceToNat, Int.cast_ofNat_Int, eInts_get hd, eInts_get hc, c1, eq_true c2, decide_false, decide_true, Ne, not_true_eq_false, not_false_eq_true, Bool.not_true, Bool.not_false]
        refine le_mk ?_ ?_ ?_ <;> (simp only [go_sem, ↓reduceIte, Nat.reduceEqDiff]; try simp [eInt, eStr, rBool, rInt, rStr, rTwo, rThree, eTy, rTy, eInts, c1, c2]; try simp (disch := omega) only [IntWalk.i64_in, and_self])
      · refine wpL_draw Tryd.tyOk (by kernel_rfl) 19 (by decide) (by decide) ?_
        simp only [go_sem, ↓reduceIte, Nat.reduceEqDiff, Nat.reduceAdd, Nat.reduceLeDiff, Nat.reduceLT, Int.reduceEq, Int.reduceLT, Int.reduceLE, Int.reduceNeg, Int.reduceToNat, Int.cast_ofNat_Int, eInts_get hd, eInts_get hc, c1, c2, decide_false, decide_true, Ne, not_true_eq_false, not_false_eq_true, Bool.not_true, Bool.not_false]
        refine le_mk ?_ ?_ ?_ <;> (simp only [go_sem, ↓reduceIte, Nat.reduceEqDiff]; try simp [eInt, eStr, rBool, rInt, rStr, rTwo, rThree, eTy, rTy, eInts, c1, c2]; try simp (disch := omega) only [IntWalk.i64_in, and_self])
    try simp only [go_sem, ↓reduceIte, Nat.reduceEqDiff]
    cases ho : (decide (d = -1) || decide (c = d))
    · rw [ho, Bool.false_and] at hpre2
      refine wpL_cond (t := true) (by simp only [go_sem, ↓reduceIte, Nat.reduceEqDiff, ho, Bool.not_false]) (fun _ => ?_) (fun h => Bool.noConfusion h)
      try simp only [go_sem, ↓reduceIte, Nat.reduceEqDiff]
      refine wpL_region Tryd.tyOk (by decide) ?_
      simp only [go_sem, ↓reduceIte, Nat.reduceEqDiff, Nat.reduceAdd, Nat.reduceLeDiff, Nat.reduceLT, Int.reduceEq, Int.reduceLT, Int.reduceLE, Int.reduceNeg, Int.reduceToNat, Int.cast_ofNat_Int]
      refine wpL_ret ?_
      rw [← hB3]
      try simp only [go_sem, ↓reduceIte, Nat.reduceEqDiff]
      rw [← hB2]
      try simp only [go_sem, ↓reduceIte, Nat.reduceEqDiff]
      rw [← hBQ]
      try simp only [go_sem, ↓reduceIte, Nat.reduceEqDiff, Nat.reduceAdd, Nat.reduceLeDiff, Nat.reduceLT, Int.reduceEq, Int.reduceLT, Int.reduceLE, Int.reduceNeg, Int.reduceToNat, Int.cast_ofNat_Int]
      rw [hspec, hpre2, Bool.false_and]
    · rw [ho, Bool.true_and] at hpre2
      refine wpL_cond (t := false) (by simp only [go_sem, ↓reduceIte, Nat.reduceEqDiff, ho, Bool.not_true]) (fun h => Bool.noConfusion h) (fun _ => ?_)
      try simp only [go_sem, ↓reduceIte, Nat.reduceEqDiff]
      refine wpL_skip ?_
      try simp only [go_sem, ↓reduceIte, Nat.reduceEqDiff]
      rw [← hB3]
      try simp only [go_sem, ↓reduceIte, Nat.reduceEqDiff]
      refine wpL_region Tryd.tyOk (by decide) ?_
      simp only [go_sem, ↓reduceIte, Nat.reduceEqDiff, Nat.reduceAdd, Nat.reduceLeDiff, Nat.reduceLT, Int.reduceEq, Int.reduceLT, Int.reduceLE, Int.reduceNeg, Int.reduceToNat, Int.cast_ofNat_Int]
      refine ⟨_, _, ?_, ⟨j + 1, by omega, rfl, hpre2, rfl⟩, ?_⟩
      · omega
      · refine le_mk ?_ ?_ ?_ <;> (simp only [go_sem, ↓reduceIte, Nat.reduceEqDiff]; try simp [eInt, eStr, rBool, rInt, rStr, rTwo, rThree, eTy, rTy, eInts]; try simp (disch := omega) only [IntWalk.i64_in, and_self])
  have hge := ge_of hge
  have hend : dB a.dims b.dims = true := by
    rw [hpre, List.drop_of_length_le (l := b.dims) (by omega)]
    simp [dB]
  rw [hend, Bool.true_and] at hspec
  refine wpL_exit ?_
  rw [← hB2]
  try simp only [go_sem, ↓reduceIte, Nat.reduceEqDiff]
  rcases list_two b.known with hkb2 | ⟨y, ys, hkb2⟩
  · have hl1 : (b.known.length : Int) = 0 := by rw [hkb2]; rfl
    refine wpL_draw Tryd.tyOk (by kernel_rfl) 21 (by decide) (by decide) ?_
    simp only [go_sem, ↓reduceIte, Nat.reduceEqDiff, Nat.reduceAdd, Nat.reduceLeDiff, Nat.reduceLT, Int.reduceEq, Int.reduceLT, Int.reduceLE, Int.reduceNeg, Int.reduceToNat, Int.cast_ofNat_Int, List.length_map, eq_true hl1, decide_false, decide_true, Ne, not_true_eq_false, not_false_eq_true, Bool.not_true, Bool.not_false]
    refine wpL_ret ?_
    rw [← hBQ]
    try simp only [go_sem, ↓reduceIte, Nat.reduceEqDiff, Nat.reduceAdd, Nat.reduceLeDiff, Nat.reduceLT, Int.reduceEq, Int.reduceLT, Int.reduceLE, Int.reduceNeg, Int.reduceToNat, Int.cast_ofNat_Int]
    rw [hspec, hkb2]
    cases a.known <;> rfl
  · have hl1 : ¬ (b.known.length : Int) = 0 := by rw [hkb2]; simp <;> omega
    have hl0 : (0 : Int) < (b.known.length : Int) := by rw [hkb2]; simp <;> omega
    have hy0 : (b.known.map eArr)[0]? = some (eArr y) := by rw [hkb2]; rfl
    rcases list_two a.known with hka2 | ⟨x, xs, hka2⟩
    · have hm1 : ¬ (a.known.length : Int) > 0 := by rw [hka2]; decide
      refine wpL_draw Tryd.tyOk (by kernel_rfl) 21 (by decide) (by decide) ?_
      simp only [go_sem, ↓reduceIte, Nat.reduceEqDiff, Nat.reduceAdd, Nat.reduceLeDiff, Nat.reduceLT, Int.reduceEq, Int.reduceLT, Int.reduceLE, Int.reduceNeg, Int.reduceToNat, Int.cast_ofNat_Int, List.length_map, hl1, hm1, decide_false, decide_true, Ne, not_true_eq_false, not_false_eq_true, Bool.not_true, Bool.not_false]
      refine wpL_ret ?_
      rw [← hBQ]
      try simp only [go_sem, ↓reduceIte, Nat.reduceEqDiff, Nat.reduceAdd, Nat.reduceLeDiff, Nat.reduceLT, Int.reduceEq, Int.reduceLT, Int.reduceLE, Int.reduceNeg, Int.reduceToNat, Int.cast_ofNat_Int]
      rw [hspec, hkb2, hka2]
      rfl
    · have hm1 : (a.known.length : Int) > 0 := by rw [hka2]; simp <;> omega
      have hm0 : (0 : Int) < (a.known.length : Int) := hm1
      have hx0 : (a.known.map eArr)[0]? = some (eArr x) := by rw [hka2]; rfl
      have e := Same16 _ x y (Nat.le_refl _) (a3 x (by rw [hka2]; simp)) (b3 y (by rw [hkb2]; simp))
      rw [eArr_eq x, eArr_eq y] at e
      rw [eArr_eq x] at hx0
      rw [eArr_eq y] at hy0
      refine wpL_draw Tryd.tyOk (by kernel_rfl) 21 (by decide) (by decide) ?_
      simp only [go_sem, ↓reduceIte, Nat.reduceEqDiff, Nat.reduceAdd, Nat.reduceLeDiff, Nat.reduceLT, Int.reduceEq, Int.reduceLT, Int.reduceLE, Int.reduceNeg, Int.reduceToNat, Int.cast_ofNat_Int, List.length_map, hl1, hm1, hl0, hm0, hx0, hy0, Int.toNat_zero, decide_false, decide_true, Ne, not_true_eq_false, not_false_eq_true, Bool.not_true, Bool.not_false]
      refine ⟨_, e, ?_⟩
      simp only [go_sem, ↓reduceIte, Nat.reduceEqDiff, Nat.reduceAdd, Nat.reduceLeDiff, Nat.reduceLT, Int.reduceEq, Int.reduceLT, Int.reduceLE, Int.reduceNeg, Int.reduceToNat, Int.cast_ofNat_Int]
      refine wpL_ret ?_
      rw [← hBQ]
      try simp only [go_sem, ↓reduceIte, Nat.reduceEqDiff, Nat.reduceAdd, Nat.reduceLeDiff, Nat.reduceLT, Int.reduceEq, Int.reduceLT, Int.reduceLE, Int.reduceNeg, Int.reduceToNat, Int.cast_ofNat_Int]
      rw [hspec, hkb2, hka2]
      rfl
end Go.Proofs.YtkkkdfhnpamnkaaDoor
