/-
  Types in plain words.
-/
import Derived.Test.YtkkkdfhnpamnkaaDoorW10
import Derived.Test.YtkkkdfhnpamnkaaDoorAbsZB
set_option linter.unusedSimpArgs false
set_option linter.unusedVariables false
set_option maxRecDepth 100000
set_option maxHeartbeats 4000000
namespace Go.Proofs.YtkkkdfhnpamnkaaDoor
open Go.Abs Go

structure Ty where
  kinds : Int
  rank : Int
  dims : List Int
  known : List Arr
@[go_sem] def eTy (t : Ty) : List DC := [eInt t.kinds, eInt t.rank, .sl (eInts t.dims), .sl (t.known.map eArr)]
@[go_sem] def rTy (t : Ty) : Res := .one (.agg [.d (eInt t.kinds), .d (eInt t.rank), .d (.sl (eInts t.dims)), .d (.sl (t.known.map eArr))])
def FineT (t : Ty) : Prop := t.dims.length ≤ 9223372036854775807 ∧ t.known.length ≤ 9223372036854775807 ∧ ∀ a, a ∈ t.known → Fine a
def K7 (k : Int) : Prop := k = 2 ∨ k = 4 ∨ k = 6 ∨ k = 8 ∨ k = 10 ∨ k = 12 ∨ k = 14
instance (k : Int) : Decidable (K7 k) := by unfold K7; infer_instance
def dimsG (p : Int) : List Int → Bool
  | [] => true
  | d :: l => if d < -1 ∨ 65536 < d then false else if 0 < d then (if 65536 < p * d then false else dimsG (p * d) l) else dimsG p l
theorem dimsG_iff : ∀ (l : List Int) (p : Int), dimsG p l = (l.all (fun d => decide (-1 ≤ d)) && rightG p (l.filter fun d => decide (0 ≤ d)))
  | [], p => rfl
  | d :: l, p => by
    rw [dimsG, List.all_cons, List.filter_cons]
    by_cases h1 : d < -1
    · have : ¬ -1 ≤ d := by omega
      simp [h1, this]
    by_cases h2 : 65536 < d
    · have h0 : 0 ≤ d := by omega
      rw [if_pos (by omega)]
      simp only [h0, decide_true, if_true]
      rw [rightG, if_pos (by omega)]
      simp
    rw [if_neg (by omega)]
    by_cases h3 : 0 < d
    · have h0 : 0 ≤ d := by omega
      have hm : -1 ≤ d := by omega
      rw [if_pos h3]
      simp only [h0, hm, decide_true, if_true, Bool.true_and]
      rw [rightG, if_neg (show ¬ (d < 0 ∨ 65536 < d) by omega), if_neg (show ¬ d = 0 by omega)]
      by_cases h4 : 65536 < p * d
      · rw [if_pos h4, if_pos h4]; simp
      · rw [if_neg h4, if_neg h4, dimsG_iff l]
    · rw [if_neg h3, dimsG_iff l]
      by_cases h4 : d = 0
      · subst h4
        simp only [Int.le_refl, decide_true, if_true, Bool.true_and]
        rw [rightG, if_neg (show ¬ ((0 : Int) < 0 ∨ (65536 : Int) < 0) by omega), if_pos rfl]
        simp
      · have hm : -1 ≤ d := by omega
        have h0 : ¬ 0 ≤ d := by omega
        simp [h0, hm]
def okHead (t : Ty) : Bool := decide (K7 t.kinds) && (decide (-1 ≤ t.rank) && (decide (t.rank ≤ 8) && (decide ((t.dims.length : Int) = max t.rank 0) && (dimsG 1 t.dims && decide (t.known.length ≤ 1)))))
def okKnown (t : Ty) (a : Arr) : Bool := decide ((chk a).1 = 0) && (decide (wt a ≤ 16) && (decide (t.kinds = bitS a.kind) && (decide (t.rank = a.shape.length) && decide (t.dims = a.shape))))
def rightT (t : Ty) : Bool := okHead t && t.known.all (okKnown t)
/-- The bits of a number beside those of 14. -/
theorem rest14 (k : Int) (h0 : 0 < k) (h1 : k ≤ 9223372036854775807) : IntKind.i64.wrap ((BitVec.ofInt 64 k &&& ~~~BitVec.ofInt 64 14).toNat : Int) = 0 ↔ K7 k := by
  obtain ⟨n, rfl⟩ := Int.eq_ofNat_of_zero_le (Int.le_of_lt h0)
  have hb : BitVec.ofInt 64 (n : Int) = BitVec.ofNat 64 n := by simp
  have hand : (BitVec.ofInt 64 (n : Int) &&& ~~~BitVec.ofInt 64 14).toNat = n &&& (18446744073709551601 : Nat) := by
    rw [hb, BitVec.toNat_and, BitVec.toNat_ofNat, Nat.mod_eq_of_lt (by omega)]
    rfl
  rw [hand]
  have hle : n &&& (18446744073709551601 : Nat) ≤ n := Nat.and_le_left
  rw [IntWalk.i64_in _ (by omega)]
  have hsplit : n &&& (18446744073709551601 : Nat) = 0 ↔ n = n &&& 14 := by
    constructor
    · intro h
      apply Nat.eq_of_testBit_eq
      intro i
      rw [Nat.testBit_and]
      by_cases hi : i < 64
      · have hz : (n &&& (18446744073709551601 : Nat)).testBit i = false := by rw [h]; simp
        rw [Nat.testBit_and] at hz
        have hc : ∀ i, i < 64 → Nat.testBit 18446744073709551601 i = !Nat.testBit 14 i := by decide
        rw [hc i hi] at hz
        cases h1 : n.testBit i <;> cases h2 : Nat.testBit 14 i <;> simp_all
      · have : n < 2 ^ i := Nat.lt_of_lt_of_le (show n < 2 ^ 64 by omega) (Nat.pow_le_pow_right (by omega) (by omega))
        rw [Nat.testBit_lt_two_pow this]; rfl
    · intro h
      apply Nat.eq_of_testBit_eq
      intro i
      rw [h, Nat.testBit_and, Nat.testBit_and]
      by_cases hi : i < 64
      · have hc : ∀ i, i < 64 → Nat.testBit 18446744073709551601 i = !Nat.testBit 14 i := by decide
        rw [hc i hi]
        cases Nat.testBit 14 i <;> simp
      · have : (14 : Nat) < 2 ^ i := Nat.lt_of_lt_of_le (show 14 < 2 ^ 64 by omega) (Nat.pow_le_pow_right (by omega) (by omega))
        rw [Nat.testBit_lt_two_pow this]; simp
  have h14 : ∀ m : Nat, m < 15 → 0 < m → (m = m &&& 14 ↔ K7 (m : Int)) := by decide
  constructor
  · intro h
    have h2 := hsplit.1 (by omega)
    have h3 : n ≤ 14 := by rw [h2]; exact Nat.and_le_right
    exact (h14 n (by omega) (by omega)).1 h2
  · intro h
    have h3 : n ≤ 14 := by unfold K7 at h; omega
    have := hsplit.2 ((h14 n (by omega) (by omega)).2 h)
    omega
theorem dims40 (l : List Int) (hl : l.length ≤ 9223372036854775807) : Gives Tryd.prog 40 [.c (.sl (eInts l))] (rBool (dimsG 1 l)) := by
  refine Gives.intro Tryd.tyOk Tryd.func40 (by kernel_rfl) rfl (by simp [Tryd.ntmps40]) ?_
  simp only [go_sem, ↓reduceIte, Nat.reduceEqDiff, Nat.reduceAdd, Nat.reduceLeDiff, Nat.reduceLT, Int.reduceEq, Int.reduceLT, Int.reduceLE, Int.reduceNeg, Int.reduceToNat, Int.cast_ofNat_Int]
  simp only [Tryd.ntmps40, Tryd.results40, eInt, eStr, rBool, rInt, rStr, rTwo, rThree, List.map_cons, List.map_nil]
  generalize hBQ : retQ _ _ _ = BQ
  iterate 3 (refine wpL_region Tryd.tyOk (by decide) ?_; simp only [go_sem, ↓reduceIte, Nat.reduceEqDiff, Nat.reduceAdd, Nat.reduceLeDiff, Nat.reduceLT, Int.reduceEq, Int.reduceLT, Int.reduceLE, Int.reduceNeg, Int.reduceToNat, Int.cast_ofNat_Int])
  refine wpL_block ?_
  generalize hB0 : blockQ _ _ _ = B0
  simp only [go_sem, ↓reduceIte, Nat.reduceEqDiff]
  refine wpL_loop (fun n s => ∃ (j : Nat) (p : Int), j ≤ l.length ∧ n = l.length - j ∧ 1 ≤ p ∧ p ≤ 65536 ∧ dimsG 1 l = dimsG p (l.drop j) ∧ s = ⟨[(8, sint .i64 j), (7, sint .i64 l.length), (6, .c (.d (.sl (eInts l)))), (3, sint .i64 p)], []⟩) ?_ ?_
  · refine ⟨_, _, ⟨0, 1, by omega, rfl, by omega, by omega, rfl, rfl⟩, ?_⟩
    refine le_mk ?_ ?_ ?_ <;> (simp only [go_sem, ↓reduceIte, Nat.reduceEqDiff]; try simp [eInt, eStr, rBool, rInt, rStr, rTwo, rThree, eInts]; try simp (disch := omega) only [IntWalk.i64_in, and_self])
  rintro n s ⟨j, p, hj, rfl, hp1, hp2, hpre, rfl⟩
  simp only [go_sem, ↓reduceIte, Nat.reduceEqDiff, Nat.reduceAdd, Nat.reduceLeDiff, Nat.reduceLT, Int.reduceEq, Int.reduceLT, Int.reduceLE, Int.reduceNeg, Int.reduceToNat, Int.cast_ofNat_Int]
  refine wpL_region Tryd.tyOk (by decide) ?_
  simp only [go_sem, ↓reduceIte, Nat.reduceEqDiff, Nat.reduceAdd, Nat.reduceLeDiff, Nat.reduceLT, Int.reduceEq, Int.reduceLT, Int.reduceLE, Int.reduceNeg, Int.reduceToNat, Int.cast_ofNat_Int]
  refine wpL_cond (t := decide ((j : Int) < l.length)) (by simp only [go_sem, ↓reduceIte, Nat.reduceEqDiff]) (fun hlt => ?_) (fun hge => ?_)
  · have hlt := lt_of hlt
    obtain ⟨d, hd⟩ := get_ex (l := l) (i := j) (by omega)
    rw [drop_get hd, dimsG] at hpre
    simp only [go_sem, ↓reduceIte, Nat.reduceEqDiff, Nat.reduceAdd, Nat.reduceLeDiff, Nat.reduceLT, Int.reduceEq, Int.reduceLT, Int.reduceLE, Int.reduceNeg, Int.reduceToNat, Int.cast_ofNat_Int]
    refine wpL_skip ?_
    refine wpL_block ?_
    generalize hB1 : blockQ _ _ _ = B1
    simp only [go_sem, ↓reduceIte, Nat.reduceEqDiff]
    refine wpL_region Tryd.tyOk (by decide) ?_
    simp only [go_sem, ↓reduceIte, Nat.reduceEqDiff, Nat.reduceAdd, Nat.reduceLeDiff, Nat.reduceLT, Int.reduceEq, Int.reduceLT, Int.reduceLE, Int.reduceNeg, Int.reduceToNat, Int.cast_ofNat_Int, eInts_get hd]
    refine wpL_to ⟨[(17, .c (.d (.sc (.bool (decide (d < -1 ∨ 65536 < d)))))), (5, sint .i64 d), (8, sint .i64 j), (7, sint .i64 l.length), (6, .c (.d (.sl (eInts l)))), (3, sint .i64 p)], []⟩ ?_ ?_
    · by_cases h1 : d < -1
      · refine wpL_region Tryd.tyOk (by decide) ?_
        simp only [go_sem, ↓reduceIte, Nat.reduceEqDiff, Nat.reduceAdd, Nat.reduceLeDiff, Nat.reduceLT, Int.reduceEq, Int.reduceLT, Int.reduceLE, Int.reduceNeg, Int.reduceToNat, Int.cast_ofNat_Int, h1, decide_true]
        refine le_mk ?_ ?_ ?_ <;> (simp only [go_sem, ↓reduceIte, Nat.reduceEqDiff]; try simp [eInt, eStr, rBool, rInt, rStr, rTwo, rThree, eInts, h1]; try simp (disch := omega) only [IntWalk.i64_in, and_self])
      · refine wpL_region Tryd.tyOk (by decide) ?_
        simp only [go_sem, ↓reduceIte, Nat.reduceEqDiff, Nat.reduceAdd, Nat.reduceLeDiff, Nat.reduceLT, Int.reduceEq, Int.reduceLT, Int.reduceLE, Int.reduceNeg, Int.reduceToNat, Int.cast_ofNat_Int, h1, decide_false]
        refine le_mk ?_ ?_ ?_ <;> (simp only [go_sem, ↓reduceIte, Nat.reduceEqDiff]; try simp [eInt, eStr, rBool, rInt, rStr, rTwo, rThree, eInts, h1]; try simp (disch := omega) only [IntWalk.i64_in, and_self])
    try simp only [go_sem, ↓reduceIte, Nat.reduceEqDiff]
    by_cases hb : d < -1 ∨ 65536 < d
    · rw [if_pos hb] at hpre
      refine wpL_cond (t := true) (by simp only [go_sem, ↓reduceIte, Nat.reduceEqDiff, hb, decide_true]) (fun _ => ?_) (fun h => Bool.noConfusion h)
      try simp only [go_sem, ↓reduceIte, Nat.reduceEqDiff]
      refine wpL_region Tryd.tyOk (by decide) ?_
      simp only [go_sem, ↓reduceIte, Nat.reduceEqDiff, Nat.reduceAdd, Nat.reduceLeDiff, Nat.reduceLT, Int.reduceEq, Int.reduceLT, Int.reduceLE, Int.reduceNeg, Int.reduceToNat, Int.cast_ofNat_Int]
      refine wpL_ret ?_
      rw [← hB1]
      try simp only [go_sem, ↓reduceIte, Nat.reduceEqDiff]
      rw [← hB0]
      try simp only [go_sem, ↓reduceIte, Nat.reduceEqDiff]
      rw [← hBQ]
      try simp only [go_sem, ↓reduceIte, Nat.reduceEqDiff, Nat.reduceAdd, Nat.reduceLeDiff, Nat.reduceLT, Int.reduceEq, Int.reduceLT, Int.reduceLE, Int.reduceNeg, Int.reduceToNat, Int.cast_ofNat_Int]
      rw [hpre]
    rw [if_neg hb] at hpre
    refine wpL_cond (t := false) (by simp only [go_sem, ↓reduceIte, Nat.reduceEqDiff, hb, decide_false]) (fun h => Bool.noConfusion h) (fun _ => ?_)
    try simp only [go_sem, ↓reduceIte, Nat.reduceEqDiff]
    refine wpL_skip ?_
    refine wpL_region Tryd.tyOk (by decide) ?_
    simp only [go_sem, ↓reduceIte, Nat.reduceEqDiff, Nat.reduceAdd, Nat.reduceLeDiff, Nat.reduceLT, Int.reduceEq, Int.reduceLT, Int.reduceLE, Int.reduceNeg, Int.reduceToNat, Int.cast_ofNat_Int]
    by_cases h0 : 0 < d
    case neg =>
      have h0' : ¬ d > 0 := h0
      rw [if_neg h0] at hpre
      refine wpL_cond (t := false) (by simp only [go_sem, ↓reduceIte, Nat.reduceEqDiff, h0', decide_false]) (fun h => Bool.noConfusion h) (fun _ => ?_)
      try simp only [go_sem, ↓reduceIte, Nat.reduceEqDiff]
      refine wpL_skip ?_
      try simp only [go_sem, ↓reduceIte, Nat.reduceEqDiff]
      rw [← hB1]
      try simp only [go_sem, ↓reduceIte, Nat.reduceEqDiff]
      refine wpL_region Tryd.tyOk (by decide) ?_
      simp only [go_sem, ↓reduceIte, Nat.reduceEqDiff, Nat.reduceAdd, Nat.reduceLeDiff, Nat.reduceLT, Int.reduceEq, Int.reduceLT, Int.reduceLE, Int.reduceNeg, Int.reduceToNat, Int.cast_ofNat_Int]
      refine ⟨_, _, ?_, ⟨j + 1, p, by omega, rfl, hp1, hp2, hpre, rfl⟩, ?_⟩
      · omega
      · refine le_mk ?_ ?_ ?_ <;> (simp only [go_sem, ↓reduceIte, Nat.reduceEqDiff]; try simp [eInt, eStr, rBool, rInt, rStr, rTwo, rThree, eInts]; try simp (disch := omega) only [IntWalk.i64_in, and_self])
    have h0' : d > 0 := h0
    have hd0 : ¬ d = 0 := by omega
    rw [if_pos h0] at hpre
    refine wpL_cond (t := true) (by simp only [go_sem, ↓reduceIte, Nat.reduceEqDiff, h0', decide_true]) (fun _ => ?_) (fun h => Bool.noConfusion h)
    try simp only [go_sem, ↓reduceIte, Nat.reduceEqDiff]
    have hq : Int.tdiv 65536 d = 65536 / d := Int.tdiv_eq_ediv_of_nonneg (by omega)
    have hq2 : p > 65536 / d ↔ 65536 < p * d := by
      have := Int.le_ediv_iff_mul_le (a := p) (b := 65536) h0
      omega
    have hq3 : IntKind.i64.wrap (65536 / d) = 65536 / d := IntWalk.i64_in _ (by
      have e1 : 0 ≤ 65536 / d := Int.ediv_nonneg (by omega) (by omega)
      have e2 : 65536 / d ≤ 65536 := Int.ediv_le_self _ (by omega)
      omega)
    refine wpL_region Tryd.tyOk (by decide) ?_
    simp only [go_sem, ↓reduceIte, Nat.reduceEqDiff, Nat.reduceAdd, Nat.reduceLeDiff, Nat.reduceLT, Int.reduceEq, Int.reduceLT, Int.reduceLE, Int.reduceNeg, Int.reduceToNat, Int.cast_ofNat_Int, hd0, not_false_eq_true, true_and, hq, hq3]
    by_cases hbig : 65536 < p * d
    · have hbig' := hq2.2 hbig
      rw [if_pos hbig] at hpre
      refine wpL_cond (t := true) (by simp only [go_sem, ↓reduceIte, Nat.reduceEqDiff, hbig', decide_true]) (fun _ => ?_) (fun h => Bool.noConfusion h)
      try simp only [go_sem, ↓reduceIte, Nat.reduceEqDiff]
      refine wpL_region Tryd.tyOk (by decide) ?_
      simp only [go_sem, ↓reduceIte, Nat.reduceEqDiff, Nat.reduceAdd, Nat.reduceLeDiff, Nat.reduceLT, Int.reduceEq, Int.reduceLT, Int.reduceLE, Int.reduceNeg, Int.reduceToNat, Int.cast_ofNat_Int]
      refine wpL_ret ?_
      rw [← hB1]
      try simp only [go_sem, ↓reduceIte, Nat.reduceEqDiff]
      rw [← hB0]
      try simp only [go_sem, ↓reduceIte, Nat.reduceEqDiff]
      rw [← hBQ]
      try simp only [go_sem, ↓reduceIte, Nat.reduceEqDiff, Nat.reduceAdd, Nat.reduceLeDiff, Nat.reduceLT, Int.reduceEq, Int.reduceLT, Int.reduceLE, Int.reduceNeg, Int.reduceToNat, Int.cast_ofNat_Int]
      rw [hpre]
    have hbig' : ¬ p > 65536 / d := fun h => hbig (hq2.1 h)
    rw [if_neg hbig] at hpre
    have hmul := mul_pos1 hp1 (show 1 ≤ d by omega)
    have hw : IntKind.i64.wrap (p * d) = p * d := IntWalk.i64_in _ (by omega)
    refine wpL_cond (t := false) (by simp only [go_sem, ↓reduceIte, Nat.reduceEqDiff, hbig', decide_false]) (fun h => Bool.noConfusion h) (fun _ => ?_)
    try simp only [go_sem, ↓reduceIte, Nat.reduceEqDiff]
    refine wpL_skip ?_
    refine wpL_region Tryd.tyOk (by decide) ?_
    simp only [go_sem, ↓reduceIte, Nat.reduceEqDiff, Nat.reduceAdd, Nat.reduceLeDiff, Nat.reduceLT, Int.reduceEq, Int.reduceLT, Int.reduceLE, Int.reduceNeg, Int.reduceToNat, Int.cast_ofNat_Int, hw]
    rw [← hB1]
    try simp only [go_sem, ↓reduceIte, Nat.reduceEqDiff]
    refine wpL_region Tryd.tyOk (by decide) ?_
    simp only [go_sem, ↓reduceIte, Nat.reduceEqDiff, Nat.reduceAdd, Nat.reduceLeDiff, Nat.reduceLT, Int.reduceEq, Int.reduceLT, Int.reduceLE, Int.reduceNeg, Int.reduceToNat, Int.cast_ofNat_Int]
    refine ⟨_, _, ?_, ⟨j + 1, p * d, by omega, rfl, hmul, by omega, hpre, rfl⟩, ?_⟩
    · omega
    · refine le_mk ?_ ?_ ?_ <;> (simp only [go_sem, ↓reduceIte, Nat.reduceEqDiff]; try simp [eInt, eStr, rBool, rInt, rStr, rTwo, rThree, eInts]; try simp (disch := omega) only [IntWalk.i64_in, and_self])
  have hge := ge_of hge
  rw [List.drop_of_length_le (by omega), dimsG] at hpre
  refine wpL_exit ?_
  simp only [go_sem, ↓reduceIte, Nat.reduceEqDiff, Nat.reduceAdd, Nat.reduceLeDiff, Nat.reduceLT, Int.reduceEq, Int.reduceLT, Int.reduceLE, Int.reduceNeg, Int.reduceToNat, Int.cast_ofNat_Int]
  rw [← hB0]
  try simp only [go_sem, ↓reduceIte, Nat.reduceEqDiff]
  refine wpL_region Tryd.tyOk (by decide) ?_
  simp only [go_sem, ↓reduceIte, Nat.reduceEqDiff, Nat.reduceAdd, Nat.reduceLeDiff, Nat.reduceLT, Int.reduceEq, Int.reduceLT, Int.reduceLE, Int.reduceNeg, Int.reduceToNat, Int.cast_ofNat_Int]
  refine wpL_ret ?_
  rw [← hBQ]
  try simp only [go_sem, ↓reduceIte, Nat.reduceEqDiff, Nat.reduceAdd, Nat.reduceLeDiff, Nat.reduceLT, Int.reduceEq, Int.reduceLT, Int.reduceLE, Int.reduceNeg, Int.reduceToNat, Int.cast_ofNat_Int]
  rw [hpre]
end Go.Proofs.YtkkkdfhnpamnkaaDoor
