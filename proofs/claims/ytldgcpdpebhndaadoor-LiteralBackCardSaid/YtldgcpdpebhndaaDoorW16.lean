/-
  Literals: Quote, by the reference.
-/
import Derived.Test.YtldgcpdpebhndaaDoorW15
import Derived.Test.YtldgcpdpebhndaaDoorW13
set_option linter.unusedSimpArgs false
set_option linter.unusedVariables false
set_option maxRecDepth 100000
set_option maxHeartbeats 4000000
namespace Go.Proofs.YtldgcpdpebhndaaDoor
open Go.Abs Go

def bA (l : List UInt8) : ByteArray := ⟨l.toArray⟩
theorem bA_app (l : List UInt8) (b : ByteArray) : bA l ++ b = bA (l ++ b.data.toList) := by
  unfold bA
  apply ByteArray.ext
  rw [ByteArray.data_append]
  apply Array.ext'
  simp
theorem bA_size (l : List UInt8) : (bA l).size = l.length := by simp [bA, ByteArray.size]
theorem quote8 (s : ByteArray) (hs : s.size ≤ 1000000) : Gives Tryd.prog 8 [.c (eStr s)] (rStr (quoteS s)) := by
  have htot := quoteL_len s s.size 0
  have hmax : 100000000 ≤ maxLen := by unfold maxLen; omega
  refine Gives.intro Tryd.tyOk Tryd.func8 (by kernel_rfl) rfl (by simp [Tryd.ntmps8]) ?_
  simp only [go_sem, ↓reduceIte, Nat.reduceEqDiff, Nat.reduceAdd, Nat.reduceLeDiff, Nat.reduceMul, Nat.reducePow, Nat.reduceLT, Nat.reduceSub, Int.reduceEq, Int.reduceLT, Int.reduceLE, Int.reduceNeg, Int.reduceToNat, Int.cast_ofNat_Int]
  simp only [Tryd.ntmps8, Tryd.results8, eInt, eRune, eByte, eStr, rBool, rInt, rStr, rTwo, rTrip, List.map_cons, List.map_nil]
  generalize hBQ : retQ _ _ _ = BQ
  iterate 3 (refine wpL_region Tryd.tyOk (by decide) ?_; simp only [go_sem, ↓reduceIte, Nat.reduceEqDiff, Nat.reduceAdd, Nat.reduceLeDiff, Nat.reduceMul, Nat.reducePow, Nat.reduceLT, Nat.reduceSub, Int.reduceEq, Int.reduceLT, Int.reduceLE, Int.reduceNeg, Int.reduceToNat, Int.cast_ofNat_Int])
  refine wpL_block ?_
  generalize hB0 : blockQ _ _ _ = B0
  simp only [go_sem, ↓reduceIte, Nat.reduceEqDiff]
  refine wpL_loop (fun n st => ∃ (pos : Nat) (out : List UInt8), pos ≤ s.size ∧ s.size - pos ≤ n ∧ n ≤ s.size ∧ out ++ quoteL s n pos = 34 :: quoteL s s.size 0 ∧
      st = ⟨[(0, .c (.d (.sc (.string s)))), (3, .c (.d (.sc (.string (bA out))))), (4, sint .i64 (pos : Nat))], []⟩) ?_ ?_
  · refine ⟨s.size, _, ⟨0, [34], by omega, by omega, by omega, rfl, rfl⟩, ?_⟩
    refine le_mk ?_ ?_ ?_ <;> (simp only [go_sem, ↓reduceIte, Nat.reduceEqDiff]; try simp [eInt, eRune, eByte, eStr, rBool, rInt, rStr, rTwo, rTrip, eInt, bA]; try simp (disch := omega) only [IntWalk.i64_in, and_self])
  rintro n st ⟨pos, out, hpos, hn, hns, hout, rfl⟩
  have hol : out.length ≤ 40000001 := by
    have := congrArg List.length hout
    simp only [List.length_append, List.length_cons] at this
    omega
  simp only [go_sem, ↓reduceIte, Nat.reduceEqDiff, Nat.reduceAdd, Nat.reduceLeDiff, Nat.reduceMul, Nat.reducePow, Nat.reduceLT, Nat.reduceSub, Int.reduceEq, Int.reduceLT, Int.reduceLE, Int.reduceNeg, Int.reduceToNat, Int.cast_ofNat_Int]
  by_cases hp : pos < s.size
  case neg =>
    rw [quoteL_end s n pos hp, List.append_nil] at hout
    refine wpL_region Tryd.tyOk (by decide) ?_
    simp only [go_sem, ↓reduceIte, Nat.reduceEqDiff, Nat.reduceAdd, Nat.reduceLeDiff, Nat.reduceMul, Nat.reducePow, Nat.reduceLT, Nat.reduceSub, Int.reduceEq, Int.reduceLT, Int.reduceLE, Int.reduceNeg, Int.reduceToNat, Int.cast_ofNat_Int, eq_false (show ¬ (pos : Int) < (s.size : Int) by omega), decide_true, decide_false]
    refine wpL_cond (t := false) (by simp only [go_sem, ↓reduceIte, Nat.reduceEqDiff]) (fun h => by cases h) (fun _ => ?_)
    try simp only [go_sem, ↓reduceIte, Nat.reduceEqDiff]
    refine wpL_exit ?_
    rw [← hB0]
    try simp only [go_sem, ↓reduceIte, Nat.reduceEqDiff]
    refine wpL_region Tryd.tyOk (by decide) ?_
    simp only [go_sem, ↓reduceIte, Nat.reduceEqDiff, Nat.reduceAdd, Nat.reduceLeDiff, Nat.reduceMul, Nat.reducePow, Nat.reduceLT, Nat.reduceSub, Int.reduceEq, Int.reduceLT, Int.reduceLE, Int.reduceNeg, Int.reduceToNat, Int.cast_ofNat_Int, ByteArray.size_append, bA_size]
    refine ⟨by show out.length + 1 ≤ maxLen; omega, ?_⟩
    refine wpL_ret ?_
    rw [← hBQ]
    try simp only [go_sem, ↓reduceIte, Nat.reduceEqDiff]
    rw [bA_app, hout]; rfl
  obtain ⟨k, rfl⟩ : ∃ k, n = k + 1 := ⟨n - 1, by omega⟩
  rw [quoteL, if_pos hp] at hout
  obtain ⟨p1, p2, p3, p4⟩ := dec_props s pos hp
  have ed := dec19 s pos hs hp
  rw [refD_eq s pos hp, goodD] at ed
  generalize Utf8.decode s pos = p at p1 p2 p3 p4 hout ed
  have hr : isR (p.1 : Int) = true := isR_iff.2 (by omega)
  have es : Gives Tryd.prog 20 [.c (eInt p.1), .c (eInt 34)] (rStr (shortS p.1 34)) := short20 p.1 34 hr (by decide)
  have hsz := short_size p.1 34
  refine wpL_region Tryd.tyOk (by decide) ?_
  simp only [go_sem, ↓reduceIte, Nat.reduceEqDiff, Nat.reduceAdd, Nat.reduceLeDiff, Nat.reduceMul, Nat.reducePow, Nat.reduceLT, Nat.reduceSub, Int.reduceEq, Int.reduceLT, Int.reduceLE, Int.reduceNeg, Int.reduceToNat, Int.cast_ofNat_Int, eq_true (show (pos : Int) < (s.size : Int) by omega), decide_true, decide_false]
  refine wpL_cond (t := true) (by simp only [go_sem, ↓reduceIte, Nat.reduceEqDiff]) (fun _ => ?_) (fun h => by cases h)
  try simp only [go_sem, ↓reduceIte, Nat.reduceEqDiff]
  refine wpL_skip ?_
  refine wpL_block ?_
  generalize hB1 : blockQ _ _ _ = B1
  simp only [go_sem, ↓reduceIte, Nat.reduceEqDiff]
  refine wpL_region Tryd.tyOk (by decide) ?_
  simp only [go_sem, ↓reduceIte, Nat.reduceEqDiff, Nat.reduceAdd, Nat.reduceLeDiff, Nat.reduceMul, Nat.reducePow, Nat.reduceLT, Nat.reduceSub, Int.reduceEq, Int.reduceLT, Int.reduceLE, Int.reduceNeg, Int.reduceToNat, Int.cast_ofNat_Int]
  refine ⟨_, ed, ?_⟩
  simp only [go_sem, ↓reduceIte, Nat.reduceEqDiff, Nat.reduceAdd, Nat.reduceLeDiff, Nat.reduceMul, Nat.reducePow, Nat.reduceLT, Nat.reduceSub, Int.reduceEq, Int.reduceLT, Int.reduceLE, Int.reduceNeg, Int.reduceToNat, Int.cast_ofNat_Int]
  refine wpL_to ⟨[(18, .c (.d (.sc (.bool (decide (p.1 = 65533 ∧ p.2 = 1)))))), (5, sint .i64 ((if p.1 = 65533 ∧ p.2 = 1 then ((0, 0) : Nat × Nat) else p).1 : Nat)), (6, sint .i64 ((if p.1 = 65533 ∧ p.2 = 1 then ((0, 0) : Nat × Nat) else p).2 : Nat)), (0, .c (.d (.sc (.string s)))), (3, .c (.d (.sc (.string (bA out))))), (4, sint .i64 (pos : Nat))], []⟩ ?_ ?_
  · by_cases hb : p.1 = 65533 ∧ p.2 = 1
    · simp only [eq_true hb, if_true]
      refine wpL_region Tryd.tyOk (by decide) ?_
      simp only [go_sem, ↓reduceIte, Nat.reduceEqDiff, Nat.reduceAdd, Nat.reduceLeDiff, Nat.reduceMul, Nat.reducePow, Nat.reduceLT, Nat.reduceSub, Int.reduceEq, Int.reduceLT, Int.reduceLE, Int.reduceNeg, Int.reduceToNat, Int.cast_ofNat_Int]
      refine le_mk ?_ ?_ ?_ <;> (simp only [go_sem, ↓reduceIte, Nat.reduceEqDiff]; try simp [eInt, eRune, eByte, eStr, rBool, rInt, rStr, rTwo, rTrip, eInt]; try simp (disch := omega) only [IntWalk.i64_in, and_self])
    · simp only [eq_false hb, if_false]
      refine wpL_region Tryd.tyOk (by decide) ?_
      simp only [go_sem, ↓reduceIte, Nat.reduceEqDiff, Nat.reduceAdd, Nat.reduceLeDiff, Nat.reduceMul, Nat.reducePow, Nat.reduceLT, Nat.reduceSub, Int.reduceEq, Int.reduceLT, Int.reduceLE, Int.reduceNeg, Int.reduceToNat, Int.cast_ofNat_Int, eq_false (show ¬ (p.2 : Int) = 0 by omega)]
      refine le_mk ?_ ?_ ?_ <;> (simp only [go_sem, ↓reduceIte, Nat.reduceEqDiff]; try simp [eInt, eRune, eByte, eStr, rBool, rInt, rStr, rTwo, rTrip, eInt]; try simp (disch := omega) only [IntWalk.i64_in, and_self])
  refine wpL_to ⟨[(5, sint .i64 (p.1 : Nat)), (6, sint .i64 (p.2 : Nat)), (0, .c (.d (.sc (.string s)))), (3, .c (.d (.sc (.string (bA out))))), (4, sint .i64 (pos : Nat))], []⟩ ?_ ?_
  · refine wpL_cond (t := decide (p.1 = 65533 ∧ p.2 = 1)) (by simp only [go_sem, ↓reduceIte, Nat.reduceEqDiff]) (fun hb => ?_) (fun hb => ?_)
    · have hb := of_decide_eq_true hb
      have h1 : (p.1 : Int) = 65533 := by omega
      have h2 : (p.2 : Int) = 1 := by omega
      rw [h1, h2]
      iterate 2 (refine wpL_region Tryd.tyOk (by decide) ?_; simp only [go_sem, ↓reduceIte, Nat.reduceEqDiff, Nat.reduceAdd, Nat.reduceLeDiff, Nat.reduceMul, Nat.reducePow, Nat.reduceLT, Nat.reduceSub, Int.reduceEq, Int.reduceLT, Int.reduceLE, Int.reduceNeg, Int.reduceToNat, Int.cast_ofNat_Int])
      refine le_mk ?_ ?_ ?_ <;> (simp only [go_sem, ↓reduceIte, Nat.reduceEqDiff]; try simp [eInt, eRune, eByte, eStr, rBool, rInt, rStr, rTwo, rTrip, eInt]; try simp (disch := omega) only [IntWalk.i64_in, and_self])
    · have hb := of_decide_eq_false hb
      simp only [eq_false hb, if_false]
      try simp only [go_sem, ↓reduceIte, Nat.reduceEqDiff]
      refine wpL_skip ?_
      try simp only [go_sem, ↓reduceIte, Nat.reduceEqDiff]
      refine le_mk ?_ ?_ ?_ <;> (simp only [go_sem, ↓reduceIte, Nat.reduceEqDiff]; try simp [eInt, eRune, eByte, eStr, rBool, rInt, rStr, rTwo, rTrip, eInt]; try simp (disch := omega) only [IntWalk.i64_in, and_self])
  have wp : IntKind.i64.wrap ((pos : Int) + (p.2 : Int)) = ((pos + p.2 : Nat) : Int) := by rw [w64 (by omega) (by omega)]; omega
  refine wpL_region Tryd.tyOk (by decide) ?_
  simp only [go_sem, ↓reduceIte, Nat.reduceEqDiff, Nat.reduceAdd, Nat.reduceLeDiff, Nat.reduceMul, Nat.reducePow, Nat.reduceLT, Nat.reduceSub, Int.reduceEq, Int.reduceLT, Int.reduceLE, Int.reduceNeg, Int.reduceToNat, Int.cast_ofNat_Int]
  refine ⟨_, es, ?_⟩
  simp only [go_sem, ↓reduceIte, Nat.reduceEqDiff, Nat.reduceAdd, Nat.reduceLeDiff, Nat.reduceMul, Nat.reducePow, Nat.reduceLT, Nat.reduceSub, Int.reduceEq, Int.reduceLT, Int.reduceLE, Int.reduceNeg, Int.reduceToNat, Int.cast_ofNat_Int, ByteArray.size_append, bA_size]
  refine ⟨by show out.length + _ ≤ maxLen; omega, ?_⟩
  refine wpL_region Tryd.tyOk (by decide) ?_
  simp only [go_sem, ↓reduceIte, Nat.reduceEqDiff, Nat.reduceAdd, Nat.reduceLeDiff, Nat.reduceMul, Nat.reducePow, Nat.reduceLT, Nat.reduceSub, Int.reduceEq, Int.reduceLT, Int.reduceLE, Int.reduceNeg, Int.reduceToNat, Int.cast_ofNat_Int, wp]
  rw [← hB1]
  try simp only [go_sem, ↓reduceIte, Nat.reduceEqDiff]
  refine ⟨k, _, by omega, ⟨pos + p.2, out ++ (shortS p.1 34).data.toList, by omega, by omega, by omega, by rw [← hout, List.append_assoc], rfl⟩, ?_⟩
  refine le_mk ?_ ?_ ?_ <;> (simp only [go_sem, ↓reduceIte, Nat.reduceEqDiff]; try simp [eInt, eRune, eByte, eStr, rBool, rInt, rStr, rTwo, rTrip, eInt, bA_app]; try simp (disch := omega) only [IntWalk.i64_in, and_self])
end Go.Proofs.YtldgcpdpebhndaaDoor
