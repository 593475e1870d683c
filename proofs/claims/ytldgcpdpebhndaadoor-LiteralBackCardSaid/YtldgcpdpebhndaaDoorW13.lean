/-
  Literals: Quote, by the program.
-/
import Derived.Test.YtldgcpdpebhndaaDoorW12
import Derived.Test.YtldgcpdpebhndaaDoorBld
set_option linter.unusedSimpArgs false
set_option linter.unusedVariables false
set_option maxRecDepth 100000
set_option maxHeartbeats 4000000
namespace Go.Proofs.YtldgcpdpebhndaaDoor
open Go.Abs Go

/-- The short forms of the characters from a place on. -/
def quoteL (s : ByteArray) : Nat → Nat → List UInt8
  | 0, _ => []
  | k + 1, pos => if pos < s.size then (shortS (Utf8.decode s pos).1 34).data.toList ++ quoteL s k (pos + (Utf8.decode s pos).2) else []
def quoteS (s : ByteArray) : ByteArray := ⟨(34 :: quoteL s s.size 0 ++ [34]).toArray⟩
theorem quoteL_len (s : ByteArray) : ∀ (k pos : Nat), (quoteL s k pos).length ≤ 40 * k
  | 0, _ => by simp [quoteL]
  | k + 1, pos => by
    have ih := quoteL_len s k (pos + (Utf8.decode s pos).2)
    have h := short_size (Utf8.decode s pos).1 34
    have h2 : (shortS (Utf8.decode s pos).1 34).data.toList.length = (shortS (Utf8.decode s pos).1 34).size := rfl
    rw [quoteL]
    split
    · rw [List.length_append]; omega
    · simp
theorem quoteL_end (s : ByteArray) (k pos : Nat) (h : ¬ pos < s.size) : quoteL s k pos = [] := by
  cases k with
  | zero => rfl
  | succ k => rw [quoteL, if_neg h]
theorem quote7 (s : ByteArray) (hs : s.size ≤ 1000000) : Gives Tryd.prog 7 [.c (eStr s)] (rStr (quoteS s)) := by
  have htot := quoteL_len s s.size 0
  refine Gives.intro Tryd.tyOk Tryd.func7 (by kernel_rfl) rfl (by simp [Tryd.ntmps7]) ?_
  simp only [go_sem, ↓reduceIte, Nat.reduceEqDiff, Nat.reduceAdd, Nat.reduceLeDiff, Nat.reduceMul, Nat.reducePow, Nat.reduceLT, Nat.reduceSub, Int.reduceEq, Int.reduceLT, Int.reduceLE, Int.reduceNeg, Int.reduceToNat, Int.cast_ofNat_Int]
  simp only [Tryd.ntmps7, Tryd.results7, eInt, eRune, eByte, eStr, rBool, rInt, rStr, rTwo, rTrip, List.map_cons, List.map_nil]
  generalize hBQ : retQ _ _ _ = BQ
  iterate 2 (refine wpL_region Tryd.tyOk (by decide) ?_; simp only [go_sem, ↓reduceIte, Nat.reduceEqDiff, Nat.reduceAdd, Nat.reduceLeDiff, Nat.reduceMul, Nat.reducePow, Nat.reduceLT, Nat.reduceSub, Int.reduceEq, Int.reduceLT, Int.reduceLE, Int.reduceNeg, Int.reduceToNat, Int.cast_ofNat_Int])
  refine wpL_nilCell 3 1 500 5 1 (by rfl) (by rfl) (by decide) (by simp only [go_sem, ↓reduceIte, Nat.reduceEqDiff, Nat.reduceAdd, Nat.reduceLeDiff, Nat.reduceMul, Nat.reducePow, Nat.reduceLT, Nat.reduceSub, Int.reduceEq, Int.reduceLT, Int.reduceLE, Int.reduceNeg, Int.reduceToNat, Int.cast_ofNat_Int]) ?_
  simp only [go_sem, ↓reduceIte, Nat.reduceEqDiff, Nat.reduceAdd, Nat.reduceLeDiff, Nat.reduceMul, Nat.reducePow, Nat.reduceLT, Nat.reduceSub, Int.reduceEq, Int.reduceLT, Int.reduceLE, Int.reduceNeg, Int.reduceToNat, Int.cast_ofNat_Int]
  refine wpL_region Tryd.tyOk (by decide) ?_
  simp only [go_sem, ↓reduceIte, Nat.reduceEqDiff, Nat.reduceAdd, Nat.reduceLeDiff, Nat.reduceMul, Nat.reducePow, Nat.reduceLT, Nat.reduceSub, Int.reduceEq, Int.reduceLT, Int.reduceLE, Int.reduceNeg, Int.reduceToNat, Int.cast_ofNat_Int]
  refine ⟨_, _, Tryd.wbM (l := []) 34 (by rfl) (.inl rfl) (by rfl) (by simp only [go_sem, ↓reduceIte, Nat.reduceEqDiff, Nat.reduceAdd, Nat.reduceLeDiff, Nat.reduceMul, Nat.reducePow, Nat.reduceLT, Nat.reduceSub, Int.reduceEq, Int.reduceLT, Int.reduceLE, Int.reduceNeg, Int.reduceToNat, Int.cast_ofNat_Int]) (by simp only [go_sem, ↓reduceIte, Nat.reduceEqDiff, Nat.reduceAdd, Nat.reduceLeDiff, Nat.reduceMul, Nat.reducePow, Nat.reduceLT, Nat.reduceSub, Int.reduceEq, Int.reduceLT, Int.reduceLE, Int.reduceNeg, Int.reduceToNat, Int.cast_ofNat_Int]) (by decide), ?_⟩
  simp only [go_sem, ↓reduceIte, Nat.reduceEqDiff, Nat.reduceAdd, Nat.reduceLeDiff, Nat.reduceMul, Nat.reducePow, Nat.reduceLT, Nat.reduceSub, Int.reduceEq, Int.reduceLT, Int.reduceLE, Int.reduceNeg, Int.reduceToNat, Int.cast_ofNat_Int]
  refine wpL_region Tryd.tyOk (by decide) ?_
  simp only [go_sem, ↓reduceIte, Nat.reduceEqDiff, Nat.reduceAdd, Nat.reduceLeDiff, Nat.reduceMul, Nat.reducePow, Nat.reduceLT, Nat.reduceSub, Int.reduceEq, Int.reduceLT, Int.reduceLE, Int.reduceNeg, Int.reduceToNat, Int.cast_ofNat_Int]
  refine wpL_block ?_
  generalize hB0 : blockQ _ _ _ = B0
  simp only [go_sem, ↓reduceIte, Nat.reduceEqDiff]
  refine wpL_loop (fun n st => ∃ (pos : Nat) (out : List UInt8), pos ≤ s.size ∧ s.size - pos ≤ n ∧ n ≤ s.size ∧ out ++ quoteL s n pos = 34 :: quoteL s s.size 0 ∧
      st = ⟨[(8, .c (.ptr 8 0)), (3, .c (.ptr 3 0))], [(8, .iter s pos), (3, .box 39 [.ptr 3 0, .row 500]), (500, .arr 5 1 (bytesD out) false)]⟩) ?_ ?_
  · refine ⟨s.size, _, ⟨0, [34], by omega, by omega, by omega, rfl, rfl⟩, ?_⟩
    refine le_mk ?_ ?_ ?_ <;> (simp only [go_sem, ↓reduceIte, Nat.reduceEqDiff]; try simp [eInt, eRune, eByte, eStr, rBool, rInt, rStr, rTwo, rTrip, eInt, bytesD]; try simp (disch := omega) only [IntWalk.i64_in, and_self])
  rintro n st ⟨pos, out, hpos, hn, hns, hout, rfl⟩
  have hol : out.length ≤ 40000001 := by
    have := congrArg List.length hout
    simp only [List.length_append, List.length_cons] at this
    omega
  simp only [go_sem, ↓reduceIte, Nat.reduceEqDiff, Nat.reduceAdd, Nat.reduceLeDiff, Nat.reduceMul, Nat.reducePow, Nat.reduceLT, Nat.reduceSub, Int.reduceEq, Int.reduceLT, Int.reduceLE, Int.reduceNeg, Int.reduceToNat, Int.cast_ofNat_Int]
  by_cases hp : pos < s.size
  case neg =>
    rw [quoteL_end s n pos hp, List.append_nil] at hout
    refine wpL_region Tryd.tyOk (by decide) ?_
    simp only [go_sem, ↓reduceIte, Nat.reduceEqDiff, Nat.reduceAdd, Nat.reduceLeDiff, Nat.reduceMul, Nat.reducePow, Nat.reduceLT, Nat.reduceSub, Int.reduceEq, Int.reduceLT, Int.reduceLE, Int.reduceNeg, Int.reduceToNat, Int.cast_ofNat_Int, hp]
    refine wpL_cond (t := false) (by rfl) (fun h => by cases h) (fun _ => ?_)
    refine wpL_exit ?_
    rw [← hB0]
    try simp only [go_sem, ↓reduceIte, Nat.reduceEqDiff]
    refine wpL_region Tryd.tyOk (by decide) ?_
    simp only [go_sem, ↓reduceIte, Nat.reduceEqDiff, Nat.reduceAdd, Nat.reduceLeDiff, Nat.reduceMul, Nat.reducePow, Nat.reduceLT, Nat.reduceSub, Int.reduceEq, Int.reduceLT, Int.reduceLE, Int.reduceNeg, Int.reduceToNat, Int.cast_ofNat_Int]
    refine ⟨_, _, Tryd.wbM (l := out) 34 (by rfl) (.inr rfl) (by rfl) (by simp only [go_sem, ↓reduceIte, Nat.reduceEqDiff, Nat.reduceAdd, Nat.reduceLeDiff, Nat.reduceMul, Nat.reducePow, Nat.reduceLT, Nat.reduceSub, Int.reduceEq, Int.reduceLT, Int.reduceLE, Int.reduceNeg, Int.reduceToNat, Int.cast_ofNat_Int]) (by simp only [go_sem, ↓reduceIte, Nat.reduceEqDiff, Nat.reduceAdd, Nat.reduceLeDiff, Nat.reduceMul, Nat.reducePow, Nat.reduceLT, Nat.reduceSub, Int.reduceEq, Int.reduceLT, Int.reduceLE, Int.reduceNeg, Int.reduceToNat, Int.cast_ofNat_Int]) (by omega), ?_⟩
    simp only [go_sem, ↓reduceIte, Nat.reduceEqDiff, Nat.reduceAdd, Nat.reduceLeDiff, Nat.reduceMul, Nat.reducePow, Nat.reduceLT, Nat.reduceSub, Int.reduceEq, Int.reduceLT, Int.reduceLE, Int.reduceNeg, Int.reduceToNat, Int.cast_ofNat_Int]
    refine wpL_region Tryd.tyOk (by decide) ?_
    simp only [go_sem, ↓reduceIte, Nat.reduceEqDiff, Nat.reduceAdd, Nat.reduceLeDiff, Nat.reduceMul, Nat.reducePow, Nat.reduceLT, Nat.reduceSub, Int.reduceEq, Int.reduceLT, Int.reduceLE, Int.reduceNeg, Int.reduceToNat, Int.cast_ofNat_Int]
    refine ⟨_, _, Tryd.strM (l := out ++ [34]) (by rfl) (.inr rfl) (by rfl), ?_⟩
    simp only [go_sem, ↓reduceIte, Nat.reduceEqDiff, Nat.reduceAdd, Nat.reduceLeDiff, Nat.reduceMul, Nat.reducePow, Nat.reduceLT, Nat.reduceSub, Int.reduceEq, Int.reduceLT, Int.reduceLE, Int.reduceNeg, Int.reduceToNat, Int.cast_ofNat_Int]
    refine wpL_ret ?_
    rw [← hBQ]
    try simp only [go_sem, ↓reduceIte, Nat.reduceEqDiff]
    rw [hout]; rfl
  obtain ⟨k, rfl⟩ : ∃ k, n = k + 1 := ⟨n - 1, by omega⟩
  rw [quoteL, if_pos hp] at hout
  obtain ⟨p1, p2, p3, p4⟩ := dec_props s pos hp
  obtain ⟨c, w, hdec⟩ : ∃ c w, Utf8.decode s pos = (c, w) := ⟨_, _, rfl⟩
  rw [hdec] at p1 p2 p3 p4 hout
  simp only at p1 p2 p3 p4 hout
  have hr : isR (c : Int) = true := isR_iff.2 (by omega)
  have es := short17 c 34 hr (by decide)
  have hsz := short_size c 34
  refine wpL_region Tryd.tyOk (by decide) ?_
  simp only [go_sem, ↓reduceIte, Nat.reduceEqDiff, Nat.reduceAdd, Nat.reduceLeDiff, Nat.reduceMul, Nat.reducePow, Nat.reduceLT, Nat.reduceSub, Int.reduceEq, Int.reduceLT, Int.reduceLE, Int.reduceNeg, Int.reduceToNat, Int.cast_ofNat_Int, hp, hdec]
  refine wpL_cond (t := true) (by rfl) (fun _ => ?_) (fun h => by cases h)
  simp only [go_sem, ↓reduceIte, Nat.reduceEqDiff, Nat.reduceAdd, Nat.reduceLeDiff, Nat.reduceMul, Nat.reducePow, Nat.reduceLT, Nat.reduceSub, Int.reduceEq, Int.reduceLT, Int.reduceLE, Int.reduceNeg, Int.reduceToNat, Int.cast_ofNat_Int]
  refine wpL_skip ?_
  refine wpL_block ?_
  generalize hB1 : blockQ _ _ _ = B1
  simp only [go_sem, ↓reduceIte, Nat.reduceEqDiff]
  iterate 2 (refine wpL_region Tryd.tyOk (by decide) ?_; simp only [go_sem, ↓reduceIte, Nat.reduceEqDiff, Nat.reduceAdd, Nat.reduceLeDiff, Nat.reduceMul, Nat.reducePow, Nat.reduceLT, Nat.reduceSub, Int.reduceEq, Int.reduceLT, Int.reduceLE, Int.reduceNeg, Int.reduceToNat, Int.cast_ofNat_Int])
  refine ⟨_, es, ?_⟩
  simp only [go_sem, ↓reduceIte, Nat.reduceEqDiff, Nat.reduceAdd, Nat.reduceLeDiff, Nat.reduceMul, Nat.reducePow, Nat.reduceLT, Nat.reduceSub, Int.reduceEq, Int.reduceLT, Int.reduceLE, Int.reduceNeg, Int.reduceToNat, Int.cast_ofNat_Int]
  refine ⟨_, _, Tryd.wsM (l := out) (shortS c 34) (by rfl) (.inr rfl) (by rfl) (by simp only [go_sem, ↓reduceIte, Nat.reduceEqDiff, Nat.reduceAdd, Nat.reduceLeDiff, Nat.reduceMul, Nat.reducePow, Nat.reduceLT, Nat.reduceSub, Int.reduceEq, Int.reduceLT, Int.reduceLE, Int.reduceNeg, Int.reduceToNat, Int.cast_ofNat_Int]) (by omega), ?_⟩
  simp only [go_sem, ↓reduceIte, Nat.reduceEqDiff, Nat.reduceAdd, Nat.reduceLeDiff, Nat.reduceMul, Nat.reducePow, Nat.reduceLT, Nat.reduceSub, Int.reduceEq, Int.reduceLT, Int.reduceLE, Int.reduceNeg, Int.reduceToNat, Int.cast_ofNat_Int]
  rw [← hB1]
  try simp only [go_sem, ↓reduceIte, Nat.reduceEqDiff]
  refine ⟨k, _, by omega, ⟨pos + w, out ++ (shortS c 34).data.toList, by omega, by omega, by omega, by rw [← hout, List.append_assoc], rfl⟩, ?_⟩
  refine le_mk ?_ ?_ ?_ <;> (simp only [go_sem, ↓reduceIte, Nat.reduceEqDiff]; try simp [eInt, eRune, eByte, eStr, rBool, rInt, rStr, rTwo, rTrip, eInt, bytesD]; try simp (disch := omega) only [IntWalk.i64_in, and_self])
end Go.Proofs.YtldgcpdpebhndaaDoor
