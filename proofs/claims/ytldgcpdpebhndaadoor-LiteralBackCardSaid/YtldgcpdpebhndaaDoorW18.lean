/-
  Literals: Unquote.
-/
import Derived.Test.YtldgcpdpebhndaaDoorW17
import Derived.Test.YtldgcpdpebhndaaDoorW16
set_option linter.unusedSimpArgs false
set_option linter.unusedVariables false
set_option maxRecDepth 100000
set_option maxHeartbeats 4000000
namespace Go.Proofs.YtldgcpdpebhndaaDoor
open Go.Abs Go

@[go_sem] def rUnq (p : ByteArray × Int × Int) : Res := .tup [.c (.d (.sc (.string p.1))), .c (.d (.sc (.int .i64 p.2.1))), .c (.d (.sc (.int .i64 p.2.2)))]
/-- What is read from a place on, where the next character is awaited at a place. -/
def unqL (s : ByteArray) : Nat → Nat → Nat → List UInt8 → ByteArray × Int × Int
  | 0, _, _, _ => (⟨#[]⟩, 0, 5)
  | k + 1, pos, next, out =>
    if pos < s.size then
      if pos < next then unqL s k (pos + (Utf8.decode s pos).2) next out
      else if at' s pos = 34 then (bA out, ((pos + 1 : Nat) : Int), 0)
      else if (oneS s pos).2.2 ≠ 0 then (⟨#[]⟩, 0, (oneS s pos).2.2)
      else unqL s k (pos + (Utf8.decode s pos).2) (oneS s pos).2.1.toNat (out ++ (Utf8.encode (oneS s pos).1).data.toList)
    else (⟨#[]⟩, 0, 5)
def unqS (s : ByteArray) : ByteArray × Int × Int := if s.size = 0 ∨ at' s 0 ≠ 34 then (⟨#[]⟩, 0, 5) else unqL s s.size 0 1 []
theorem ba_len (b : ByteArray) : b.data.toList.length = b.size := rfl
theorem unqL_end (s : ByteArray) (k pos next : Nat) (out : List UInt8) (h : ¬ pos < s.size) : unqL s k pos next out = (⟨#[]⟩, 0, 5) := by
  cases k with
  | zero => rfl
  | succ k => rw [unqL, if_neg h]
theorem unq14 (s : ByteArray) (hs : s.size ≤ 1000000) : Gives Tryd.prog 14 [.c (eStr s)] (rUnq (unqS s)) := by
  have hQ := unqS.eq_1 s
  refine Gives.intro Tryd.tyOk Tryd.func14 (by kernel_rfl) rfl (by simp [Tryd.ntmps14]) ?_
  simp only [go_sem, ↓reduceIte, Nat.reduceEqDiff, Nat.reduceAdd, Nat.reduceLeDiff, Nat.reduceMul, Nat.reducePow, Nat.reduceLT, Nat.reduceSub, Int.reduceEq, Int.reduceLT, Int.reduceLE, Int.reduceNeg, Int.reduceToNat, Int.cast_ofNat_Int]
  simp only [Tryd.ntmps14, Tryd.results14, eInt, eRune, eByte, eStr, rBool, rInt, rStr, rTwo, rTrip, rUnq, List.map_cons, List.map_nil]
  generalize hBQ : retQ _ _ _ = BQ
  refine wpL_region Tryd.tyOk (by decide) ?_
  simp only [go_sem, ↓reduceIte, Nat.reduceEqDiff, Nat.reduceAdd, Nat.reduceLeDiff, Nat.reduceMul, Nat.reducePow, Nat.reduceLT, Nat.reduceSub, Int.reduceEq, Int.reduceLT, Int.reduceLE, Int.reduceNeg, Int.reduceToNat, Int.cast_ofNat_Int]
  by_cases c1 : s.size = 0
  · have hl2 : (s.toList == ByteArray.toList ⟨#[]⟩) = true := by rw [bytes_toList, bytes_toList, beq_iff_eq]; exact List.eq_nil_of_length_eq_zero c1
    rw [if_pos (.inl c1)] at hQ
    try (simp only [go_sem, ↓reduceIte, Nat.reduceEqDiff, Nat.reduceAdd, Nat.reduceLeDiff, Nat.reduceMul, Nat.reducePow, Nat.reduceLT, Nat.reduceSub, Int.reduceEq, Int.reduceLT, Int.reduceLE, Int.reduceNeg, Int.reduceToNat, Int.cast_ofNat_Int, hl2, decide_true, decide_false])
    repeat ((first | refine wpL_region Tryd.tyOk (by decide) ?_ | refine wpL_skip ?_ | (refine wpL_cond (t := true) ?_ (fun _ => ?_) (fun h => Bool.noConfusion h); (solve | (simp only [go_sem, ↓reduceIte, Nat.reduceEqDiff, Nat.reduceAdd, Nat.reduceLeDiff, Nat.reduceMul, Nat.reducePow, Nat.reduceLT, Nat.reduceSub, Int.reduceEq, Int.reduceLT, Int.reduceLE, Int.reduceNeg, Int.reduceToNat, Int.cast_ofNat_Int, hl2, decide_true, decide_false]))) | (refine wpL_cond (t := false) ?_ (fun h => Bool.noConfusion h) (fun _ => ?_); (solve | (simp only [go_sem, ↓reduceIte, Nat.reduceEqDiff, Nat.reduceAdd, Nat.reduceLeDiff, Nat.reduceMul, Nat.reducePow, Nat.reduceLT, Nat.reduceSub, Int.reduceEq, Int.reduceLT, Int.reduceLE, Int.reduceNeg, Int.reduceToNat, Int.cast_ofNat_Int, hl2, decide_true, decide_false])))); try (simp only [go_sem, ↓reduceIte, Nat.reduceEqDiff, Nat.reduceAdd, Nat.reduceLeDiff, Nat.reduceMul, Nat.reducePow, Nat.reduceLT, Nat.reduceSub, Int.reduceEq, Int.reduceLT, Int.reduceLE, Int.reduceNeg, Int.reduceToNat, Int.cast_ofNat_Int, hl2, decide_true, decide_false]))
    refine wpL_ret ?_
    rw [← hBQ]
    try simp only [go_sem, ↓reduceIte, Nat.reduceEqDiff]
    rw [hQ]
    exact ⟨rfl, rfl, rfl⟩
  have hl2 : (s.toList == ByteArray.toList ⟨#[]⟩) = false := by
    rw [beq_eq_false_iff_ne, bytes_toList, bytes_toList]
    intro h
    exact c1 (by have := congrArg List.length h; exact this)
  have b := byte_at (s := s) (i := 0) (by omega)
  have kb := byte_eq (s := s) (i := 0) (k := 34) (z := 34) rfl
  by_cases c2 : at' s 0 = 34
  case neg =>
    rw [if_pos (.inr c2)] at hQ
    try (simp only [go_sem, ↓reduceIte, Nat.reduceEqDiff, Nat.reduceAdd, Nat.reduceLeDiff, Nat.reduceMul, Nat.reducePow, Nat.reduceLT, Nat.reduceSub, Int.reduceEq, Int.reduceLT, Int.reduceLE, Int.reduceNeg, Int.reduceToNat, Int.cast_ofNat_Int, hl2, b, kb, c2, decide_true, decide_false])
    repeat ((first | refine wpL_region Tryd.tyOk (by decide) ?_ | refine wpL_skip ?_ | (refine wpL_cond (t := true) ?_ (fun _ => ?_) (fun h => Bool.noConfusion h); (solve | (simp only [go_sem, ↓reduceIte, Nat.reduceEqDiff, Nat.reduceAdd, Nat.reduceLeDiff, Nat.reduceMul, Nat.reducePow, Nat.reduceLT, Nat.reduceSub, Int.reduceEq, Int.reduceLT, Int.reduceLE, Int.reduceNeg, Int.reduceToNat, Int.cast_ofNat_Int, hl2, b, kb, c2, decide_true, decide_false]))) | (refine wpL_cond (t := false) ?_ (fun h => Bool.noConfusion h) (fun _ => ?_); (solve | (simp only [go_sem, ↓reduceIte, Nat.reduceEqDiff, Nat.reduceAdd, Nat.reduceLeDiff, Nat.reduceMul, Nat.reducePow, Nat.reduceLT, Nat.reduceSub, Int.reduceEq, Int.reduceLT, Int.reduceLE, Int.reduceNeg, Int.reduceToNat, Int.cast_ofNat_Int, hl2, b, kb, c2, decide_true, decide_false])))); try (simp only [go_sem, ↓reduceIte, Nat.reduceEqDiff, Nat.reduceAdd, Nat.reduceLeDiff, Nat.reduceMul, Nat.reducePow, Nat.reduceLT, Nat.reduceSub, Int.reduceEq, Int.reduceLT, Int.reduceLE, Int.reduceNeg, Int.reduceToNat, Int.cast_ofNat_Int, hl2, b, kb, c2, decide_true, decide_false]))
    refine wpL_ret ?_
    rw [← hBQ]
    try simp only [go_sem, ↓reduceIte, Nat.reduceEqDiff]
    rw [hQ]
    exact ⟨rfl, rfl, rfl⟩
  rw [if_neg (by omega)] at hQ
  refine wpL_region Tryd.tyOk (by decide) ?_
  simp only [go_sem, ↓reduceIte, Nat.reduceEqDiff, Nat.reduceAdd, Nat.reduceLeDiff, Nat.reduceMul, Nat.reducePow, Nat.reduceLT, Nat.reduceSub, Int.reduceEq, Int.reduceLT, Int.reduceLE, Int.reduceNeg, Int.reduceToNat, Int.cast_ofNat_Int, hl2, b, kb, c2, decide_true, decide_false]
  refine wpL_cond (t := false) (by simp only [go_sem, ↓reduceIte, Nat.reduceEqDiff]) (fun h => Bool.noConfusion h) (fun _ => ?_)
  try simp only [go_sem, ↓reduceIte, Nat.reduceEqDiff]
  refine wpL_skip ?_
  refine wpL_region Tryd.tyOk (by decide) ?_
  simp only [go_sem, ↓reduceIte, Nat.reduceEqDiff, Nat.reduceAdd, Nat.reduceLeDiff, Nat.reduceMul, Nat.reducePow, Nat.reduceLT, Nat.reduceSub, Int.reduceEq, Int.reduceLT, Int.reduceLE, Int.reduceNeg, Int.reduceToNat, Int.cast_ofNat_Int]
  refine wpL_nilCell 5 1 500 5 1 (by rfl) (by rfl) (by decide) (by simp only [go_sem, ↓reduceIte, Nat.reduceEqDiff, Nat.reduceAdd, Nat.reduceLeDiff, Nat.reduceMul, Nat.reducePow, Nat.reduceLT, Nat.reduceSub, Int.reduceEq, Int.reduceLT, Int.reduceLE, Int.reduceNeg, Int.reduceToNat, Int.cast_ofNat_Int]) ?_
  simp only [go_sem, ↓reduceIte, Nat.reduceEqDiff, Nat.reduceAdd, Nat.reduceLeDiff, Nat.reduceMul, Nat.reducePow, Nat.reduceLT, Nat.reduceSub, Int.reduceEq, Int.reduceLT, Int.reduceLE, Int.reduceNeg, Int.reduceToNat, Int.cast_ofNat_Int]
  iterate 2 (refine wpL_region Tryd.tyOk (by decide) ?_; simp only [go_sem, ↓reduceIte, Nat.reduceEqDiff, Nat.reduceAdd, Nat.reduceLeDiff, Nat.reduceMul, Nat.reducePow, Nat.reduceLT, Nat.reduceSub, Int.reduceEq, Int.reduceLT, Int.reduceLE, Int.reduceNeg, Int.reduceToNat, Int.cast_ofNat_Int])
  refine wpL_block ?_
  generalize hB0 : blockQ _ _ _ = B0
  simp only [go_sem, ↓reduceIte, Nat.reduceEqDiff]
  refine wpL_loop (fun n st => ∃ (pos next : Nat) (x0 : AC) (out : List UInt8), st = ⟨[(0, .c (.d (.sc (.string s)))), (5, .c (.ptr 5 0)), (6, sint .i64 (next : Nat)), (19, .c (.ptr 19 0))], [(19, .iter s pos), (5, .box 39 [x0, .row 500]), (500, .arr 5 1 (bytesD out) false)]⟩ ∧
      (x0 = .d (.sc (.pointer none)) ∨ x0 = .ptr 5 0) ∧ unqL s n pos next out = unqL s s.size 0 1 [] ∧ s.size - pos ≤ n ∧ n ≤ s.size ∧ pos ≤ s.size ∧ next ≤ s.size + 1 ∧ out.length + 4 * n ≤ 4 * s.size) ?_ ?_
  · refine ⟨s.size, _, ⟨0, 1, _, [], rfl, .inl rfl, rfl, by omega, by omega, by omega, by omega, by simp⟩, ?_⟩
    refine le_mk ?_ ?_ ?_ <;> (simp only [go_sem, ↓reduceIte, Nat.reduceEqDiff]; try simp [eInt, eRune, eByte, eStr, rBool, rInt, rStr, rTwo, rTrip, rUnq, eInt, bytesD]; try simp (disch := omega) only [IntWalk.i64_in, and_self])
  rintro n st ⟨pos, next, x0, out, rfl, hx0, hun, hn, hns, hps, hnx, hol⟩
  have hx : ∀ id, ¬ 5 = id → x0.ment id = false := fun id hid => by rcases hx0 with rfl | rfl <;> simp [ment_d, ment_ptr, hid]
  simp only [go_sem, ↓reduceIte, Nat.reduceEqDiff, Nat.reduceAdd, Nat.reduceLeDiff, Nat.reduceMul, Nat.reducePow, Nat.reduceLT, Nat.reduceSub, Int.reduceEq, Int.reduceLT, Int.reduceLE, Int.reduceNeg, Int.reduceToNat, Int.cast_ofNat_Int]
  by_cases hp : pos < s.size
  case neg =>
    rw [unqL_end s n pos next out hp] at hun
    rw [← hun] at hQ
    refine wpL_region Tryd.tyOk (by decide) ?_
    simp only [go_sem, ↓reduceIte, Nat.reduceEqDiff, Nat.reduceAdd, Nat.reduceLeDiff, Nat.reduceMul, Nat.reducePow, Nat.reduceLT, Nat.reduceSub, Int.reduceEq, Int.reduceLT, Int.reduceLE, Int.reduceNeg, Int.reduceToNat, Int.cast_ofNat_Int, hp]
    refine wpL_cond (t := false) (by rfl) (fun h => by cases h) (fun _ => ?_)
    refine wpL_exit ?_
    rw [← hB0]
    try simp only [go_sem, ↓reduceIte, Nat.reduceEqDiff]
    refine wpL_region Tryd.tyOk (by decide) ?_
    simp only [go_sem, ↓reduceIte, Nat.reduceEqDiff, Nat.reduceAdd, Nat.reduceLeDiff, Nat.reduceMul, Nat.reducePow, Nat.reduceLT, Nat.reduceSub, Int.reduceEq, Int.reduceLT, Int.reduceLE, Int.reduceNeg, Int.reduceToNat, Int.cast_ofNat_Int]
    refine wpL_ret ?_
    rw [← hBQ]
    try simp only [go_sem, ↓reduceIte, Nat.reduceEqDiff]
    rw [hQ]
    exact ⟨rfl, rfl, rfl⟩
  obtain ⟨k, rfl⟩ : ∃ k, n = k + 1 := ⟨n - 1, by omega⟩
  rw [unqL, if_pos hp] at hun
  obtain ⟨p1, p2, p3, p4⟩ := dec_props s pos hp
  obtain ⟨c, w, hdec⟩ : ∃ c w, Utf8.decode s pos = (c, w) := ⟨_, _, rfl⟩
  rw [hdec] at p1 p2 p3 p4 hun
  simp only at p1 p2 p3 p4 hun
  refine wpL_region Tryd.tyOk (by decide) ?_
  simp only [go_sem, ↓reduceIte, Nat.reduceEqDiff, Nat.reduceAdd, Nat.reduceLeDiff, Nat.reduceMul, Nat.reducePow, Nat.reduceLT, Nat.reduceSub, Int.reduceEq, Int.reduceLT, Int.reduceLE, Int.reduceNeg, Int.reduceToNat, Int.cast_ofNat_Int, hp, hdec]
  refine wpL_cond (t := true) (by rfl) (fun _ => ?_) (fun h => by cases h)
  simp only [go_sem, ↓reduceIte, Nat.reduceEqDiff, Nat.reduceAdd, Nat.reduceLeDiff, Nat.reduceMul, Nat.reducePow, Nat.reduceLT, Nat.reduceSub, Int.reduceEq, Int.reduceLT, Int.reduceLE, Int.reduceNeg, Int.reduceToNat, Int.cast_ofNat_Int]
  refine wpL_skip ?_
  refine wpL_block ?_
  generalize hB1 : blockQ _ _ _ = B1
  simp only [go_sem, ↓reduceIte, Nat.reduceEqDiff]
  iterate 2 (refine wpL_region Tryd.tyOk (by decide) ?_; simp only [go_sem, ↓reduceIte, Nat.reduceEqDiff, Nat.reduceAdd, Nat.reduceLeDiff, Nat.reduceMul, Nat.reducePow, Nat.reduceLT, Nat.reduceSub, Int.reduceEq, Int.reduceLT, Int.reduceLE, Int.reduceNeg, Int.reduceToNat, Int.cast_ofNat_Int])
  by_cases m1 : pos < next
  · rw [if_pos m1] at hun
    refine wpL_cond (t := true) (by simp only [go_sem, ↓reduceIte, Nat.reduceEqDiff, eq_true (show (pos : Int) < (next : Int) by omega), decide_true]) (fun _ => ?_) (fun h => by cases h)
    try simp only [go_sem, ↓reduceIte, Nat.reduceEqDiff]
    refine wpL_exit ?_
    rw [← hB1]
    try simp only [go_sem, ↓reduceIte, Nat.reduceEqDiff]
    refine ⟨k, _, by omega, ⟨pos + w, next, x0, out, rfl, hx0, hun, by omega, by omega, by omega, by omega, by omega⟩, ?_⟩
    refine le_mk ?_ ?_ ?_ <;> (simp only [go_sem, ↓reduceIte, Nat.reduceEqDiff]; try simp [eInt, eRune, eByte, eStr, rBool, rInt, rStr, rTwo, rTrip, rUnq, eInt, bytesD, hx]; try simp (disch := omega) only [IntWalk.i64_in, and_self])
  rw [if_neg m1] at hun
  refine wpL_cond (t := false) (by simp only [go_sem, ↓reduceIte, Nat.reduceEqDiff, eq_false (show ¬ (pos : Int) < (next : Int) by omega), decide_false]) (fun h => by cases h) (fun _ => ?_)
  try simp only [go_sem, ↓reduceIte, Nat.reduceEqDiff]
  refine wpL_skip ?_
  have b2 := byte_at (s := s) (i := pos) hp
  have kb2 := byte_eq (s := s) (i := pos) (k := 34) (z := 34) rfl
  refine wpL_region Tryd.tyOk (by decide) ?_
  simp only [go_sem, ↓reduceIte, Nat.reduceEqDiff, Nat.reduceAdd, Nat.reduceLeDiff, Nat.reduceMul, Nat.reducePow, Nat.reduceLT, Nat.reduceSub, Int.reduceEq, Int.reduceLT, Int.reduceLE, Int.reduceNeg, Int.reduceToNat, Int.cast_ofNat_Int, b2, kb2]
  by_cases m2 : at' s pos = 34
  · rw [if_pos m2] at hun
    rw [← hun] at hQ
    have wp : IntKind.i64.wrap ((pos : Int) + 1) = ((pos + 1 : Nat) : Int) := by rw [w64 (by omega) (by omega)]; omega
    refine wpL_cond (t := true) (by simp only [go_sem, ↓reduceIte, Nat.reduceEqDiff, eq_true m2, decide_true]) (fun _ => ?_) (fun h => by cases h)
    try simp only [go_sem, ↓reduceIte, Nat.reduceEqDiff]
    refine wpL_region Tryd.tyOk (by decide) ?_
    simp only [go_sem, ↓reduceIte, Nat.reduceEqDiff, Nat.reduceAdd, Nat.reduceLeDiff, Nat.reduceMul, Nat.reducePow, Nat.reduceLT, Nat.reduceSub, Int.reduceEq, Int.reduceLT, Int.reduceLE, Int.reduceNeg, Int.reduceToNat, Int.cast_ofNat_Int]
    refine ⟨_, _, Tryd.strM (l := out) (by rfl) hx0 (by rfl), ?_⟩
    simp only [go_sem, ↓reduceIte, Nat.reduceEqDiff, Nat.reduceAdd, Nat.reduceLeDiff, Nat.reduceMul, Nat.reducePow, Nat.reduceLT, Nat.reduceSub, Int.reduceEq, Int.reduceLT, Int.reduceLE, Int.reduceNeg, Int.reduceToNat, Int.cast_ofNat_Int, wp]
    refine wpL_ret ?_
    rw [← hB1]
    try simp only [go_sem, ↓reduceIte, Nat.reduceEqDiff]
    rw [← hB0]
    try simp only [go_sem, ↓reduceIte, Nat.reduceEqDiff]
    rw [← hBQ]
    try simp only [go_sem, ↓reduceIte, Nat.reduceEqDiff]
    rw [hQ]
    exact ⟨rfl, rfl, rfl⟩
  rw [if_neg m2] at hun
  refine wpL_cond (t := false) (by simp only [go_sem, ↓reduceIte, Nat.reduceEqDiff, eq_false m2, decide_false]) (fun h => by cases h) (fun _ => ?_)
  try simp only [go_sem, ↓reduceIte, Nat.reduceEqDiff]
  refine wpL_skip ?_
  have eo := one23 s pos hs
  obtain ⟨e, he, hes, heo⟩ := okT.one s pos
  generalize oneS s pos = q at hun eo he heo
  obtain ⟨r, e', er⟩ := q
  simp only at hun eo he heo
  subst he
  refine wpL_region Tryd.tyOk (by decide) ?_
  simp only [go_sem, ↓reduceIte, Nat.reduceEqDiff, Nat.reduceAdd, Nat.reduceLeDiff, Nat.reduceMul, Nat.reducePow, Nat.reduceLT, Nat.reduceSub, Int.reduceEq, Int.reduceLT, Int.reduceLE, Int.reduceNeg, Int.reduceToNat, Int.cast_ofNat_Int]
  refine ⟨_, eo, ?_⟩
  simp only [go_sem, ↓reduceIte, Nat.reduceEqDiff, Nat.reduceAdd, Nat.reduceLeDiff, Nat.reduceMul, Nat.reducePow, Nat.reduceLT, Nat.reduceSub, Int.reduceEq, Int.reduceLT, Int.reduceLE, Int.reduceNeg, Int.reduceToNat, Int.cast_ofNat_Int]
  refine wpL_region Tryd.tyOk (by decide) ?_
  simp only [go_sem, ↓reduceIte, Nat.reduceEqDiff, Nat.reduceAdd, Nat.reduceLeDiff, Nat.reduceMul, Nat.reducePow, Nat.reduceLT, Nat.reduceSub, Int.reduceEq, Int.reduceLT, Int.reduceLE, Int.reduceNeg, Int.reduceToNat, Int.cast_ofNat_Int]
  by_cases c3 : er = 0
  case neg =>
    rw [if_pos c3] at hun
    rw [← hun] at hQ
    refine wpL_cond (t := true) (by simp only [go_sem, ↓reduceIte, Nat.reduceEqDiff, eq_false c3, decide_false]) (fun _ => ?_) (fun h => by cases h)
    try simp only [go_sem, ↓reduceIte, Nat.reduceEqDiff]
    refine wpL_region Tryd.tyOk (by decide) ?_
    simp only [go_sem, ↓reduceIte, Nat.reduceEqDiff, Nat.reduceAdd, Nat.reduceLeDiff, Nat.reduceMul, Nat.reducePow, Nat.reduceLT, Nat.reduceSub, Int.reduceEq, Int.reduceLT, Int.reduceLE, Int.reduceNeg, Int.reduceToNat, Int.cast_ofNat_Int]
    refine wpL_ret ?_
    rw [← hB1]
    try simp only [go_sem, ↓reduceIte, Nat.reduceEqDiff]
    rw [← hB0]
    try simp only [go_sem, ↓reduceIte, Nat.reduceEqDiff]
    rw [← hBQ]
    try simp only [go_sem, ↓reduceIte, Nat.reduceEqDiff]
    rw [hQ]
    exact ⟨rfl, rfl, rfl⟩
  subst c3
  rw [if_neg (by simp)] at hun
  obtain ⟨hr, h1e⟩ := heo rfl
  have hr' := isR_iff.1 hr
  obtain ⟨m, rfl⟩ : ∃ m : Nat, r = m := ⟨r.toNat, by omega⟩
  have hez := enc_size m
  have hez2 : (Utf8.encode (m : Int)).data.toList.length = (Utf8.encode (m : Int)).size := ba_len _
  refine wpL_cond (t := false) (by simp only [go_sem, ↓reduceIte, Nat.reduceEqDiff]) (fun h => by cases h) (fun _ => ?_)
  try simp only [go_sem, ↓reduceIte, Nat.reduceEqDiff]
  refine wpL_skip ?_
  refine wpL_weaken (s' := ⟨[(8, sint .i32 (m : Nat)), (9, sint .i64 (e : Nat)), (0, .c (.d (.sc (.string s)))), (5, .c (.ptr 5 0)), (19, .c (.ptr 19 0))], [(19, .iter s (pos + w)), (5, .box 39 [x0, .row 500]), (500, .arr 5 1 (bytesD out) false)]⟩) ?_ ?_
  · refine le_mk ?_ ?_ ?_ <;> (simp only [go_sem, ↓reduceIte, Nat.reduceEqDiff]; try simp [eInt, eRune, eByte, eStr, rBool, rInt, rStr, rTwo, rTrip, rUnq, eInt, bytesD, hx]; try simp (disch := omega) only [IntWalk.i64_in, and_self])
  obtain ⟨v, hw⟩ := wr24 s m e (pos + w) x0 out hr hx0 (by omega)
  refine wpL_region Tryd.tyOk (by decide) ?_
  simp only [go_sem, ↓reduceIte, Nat.reduceEqDiff, Nat.reduceAdd, Nat.reduceLeDiff, Nat.reduceMul, Nat.reducePow, Nat.reduceLT, Nat.reduceSub, Int.reduceEq, Int.reduceLT, Int.reduceLE, Int.reduceNeg, Int.reduceToNat, Int.cast_ofNat_Int]
  refine ⟨_, _, hw, ?_⟩
  simp only [go_sem, ↓reduceIte, Nat.reduceEqDiff, Nat.reduceAdd, Nat.reduceLeDiff, Nat.reduceMul, Nat.reducePow, Nat.reduceLT, Nat.reduceSub, Int.reduceEq, Int.reduceLT, Int.reduceLE, Int.reduceNeg, Int.reduceToNat, Int.cast_ofNat_Int, unqT, unqR]
  refine wpL_region Tryd.tyOk (by decide) ?_
  simp only [go_sem, ↓reduceIte, Nat.reduceEqDiff, Nat.reduceAdd, Nat.reduceLeDiff, Nat.reduceMul, Nat.reducePow, Nat.reduceLT, Nat.reduceSub, Int.reduceEq, Int.reduceLT, Int.reduceLE, Int.reduceNeg, Int.reduceToNat, Int.cast_ofNat_Int]
  rw [← hB1]
  try simp only [go_sem, ↓reduceIte, Nat.reduceEqDiff]
  refine ⟨k, _, by omega, ⟨pos + w, e, .ptr 5 0, out ++ (Utf8.encode (m : Int)).data.toList, rfl, .inr rfl, hun, by omega, by omega, by omega, by omega, ?_⟩, ?_⟩
  · rw [List.length_append, hez2]; omega
  refine le_mk ?_ ?_ ?_ <;> (simp only [go_sem, ↓reduceIte, Nat.reduceEqDiff]; try simp [eInt, eRune, eByte, eStr, rBool, rInt, rStr, rTwo, rTrip, rUnq, eInt, bytesD]; try simp (disch := omega) only [IntWalk.i64_in, and_self])
end Go.Proofs.YtldgcpdpebhndaaDoor
