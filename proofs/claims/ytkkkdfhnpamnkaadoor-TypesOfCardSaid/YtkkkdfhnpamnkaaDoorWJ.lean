/-
  strings.Join.
-/
import Derived.Test.YtkkkdfhnpamnkaaDoorWS
import Derived.Test.YtkkkdfhnpamnkaaDoorBld
import Derived.Test.YtkkkdfhnpamnkaaDoorGrow
set_option linter.unusedSimpArgs false
set_option linter.unusedVariables false
set_option maxRecDepth 100000
set_option maxHeartbeats 4000000
namespace Go.Proofs.YtkkkdfhnpamnkaaDoor
open Go.Abs Go

def eStrs (l : List ByteArray) : List (List DC) := l.map fun s => [.sc (.string s)]
@[simp] theorem eStrs_length (l : List ByteArray) : (eStrs l).length = l.length := by simp [eStrs]
theorem eStrs_get {l : List ByteArray} {i : Nat} {x : ByteArray} (h : l[i]? = some x) : (eStrs l)[i]? = some [.sc (.string x)] := by simp [eStrs, h]
theorem eStrs_one (l : List ByteArray) : ∀ y, y ∈ eStrs l → y.length = 1 := by
  intro y hy
  unfold eStrs at hy
  rw [List.mem_map] at hy
  obtain ⟨a, _, rfl⟩ := hy
  rfl
def tailJ (sep : ByteArray) (l : List ByteArray) : List UInt8 := l.flatMap fun y => sep.data.toList ++ y.data.toList
def joinB (sep : ByteArray) : List ByteArray → List UInt8
  | [] => []
  | x :: l => x.data.toList ++ tailJ sep l
def totS (l : List ByteArray) : Nat := (l.map (·.size)).sum
theorem totS_le {l : List ByteArray} (hs : ∀ s, s ∈ l → s.size ≤ 100000) : totS l ≤ 100000 * l.length := by
  induction l with
  | nil => simp [totS]
  | cons x l ih =>
    have h1 := hs x (by simp)
    have h2 := ih fun s h => hs s (by simp [h])
    simp only [totS, List.map_cons, List.sum_cons, List.length_cons] at *
    omega
theorem totS_snoc (l : List ByteArray) (x : ByteArray) : totS (l ++ [x]) = totS l + x.size := by simp [totS]
theorem tailJ_snoc (sep : ByteArray) (l : List ByteArray) (x : ByteArray) : tailJ sep (l ++ [x]) = tailJ sep l ++ sep.data.toList ++ x.data.toList := by simp [tailJ]
theorem tailJ_len {sep : ByteArray} {l : List ByteArray} (hs : ∀ s, s ∈ l → s.size ≤ 100000) (hp : sep.size ≤ 1000) : (tailJ sep l).length ≤ 101000 * l.length := by
  induction l with
  | nil => simp [tailJ]
  | cons x l ih =>
    have h1 := hs x (by simp)
    have h2 := ih fun s h => hs s (by simp [h])
    have h3 : sep.data.toList.length = sep.size := by simp
    have h4 : x.data.toList.length = x.size := by simp
    simp only [tailJ, List.flatMap_cons, List.length_append, List.length_cons] at *
    omega
theorem ba_eta (s : ByteArray) : (⟨s.data.toList.toArray⟩ : ByteArray) = s := by
  apply ByteArray.ext
  simp

theorem join32 (sep : ByteArray) (l : List ByteArray) (hl : l.length ≤ 1000) (hs : ∀ s, s ∈ l → s.size ≤ 100000) (hp : sep.size ≤ 1000) :
    Gives Tryd.prog 46 [.c (.sl (eStrs l)), .c (eStr sep)] (rStr ⟨(joinB sep l).toArray⟩) := by
  refine Gives.intro Tryd.tyOk Tryd.func46 (by kernel_rfl) rfl (by simp [Tryd.ntmps46]) ?_
  simp only [go_sem, ↓reduceIte, Nat.reduceEqDiff, Nat.reduceAdd, Nat.reduceLeDiff, Nat.reduceLT, Int.reduceEq, Int.reduceLT, Int.reduceLE, Int.reduceNeg, Int.reduceToNat, Int.cast_ofNat_Int]
  simp only [Tryd.ntmps46, Tryd.results46, eInt, eStr, rBool, rInt, rStr, List.map_cons, List.map_nil]
  generalize hBQ : retQ _ _ _ = BQ
  iterate 2 (refine wpL_region Tryd.tyOk (by decide) ?_; simp only [go_sem, ↓reduceIte, Nat.reduceEqDiff, Nat.reduceAdd, Nat.reduceLeDiff, Nat.reduceLT, Int.reduceEq, Int.reduceLT, Int.reduceLE, Int.reduceNeg, Int.reduceToNat, Int.cast_ofNat_Int, eStrs_length])
  refine wpL_block ?_
  generalize hB0 : blockQ _ _ _ = B0
  simp only [go_sem, ↓reduceIte, Nat.reduceEqDiff]
  by_cases l0 : l = []
  · subst l0
    refine wpL_region Tryd.tyOk (by decide) ?_
    simp only [go_sem, ↓reduceIte, Nat.reduceEqDiff, Nat.reduceAdd, Nat.reduceLeDiff, Nat.reduceLT, Int.reduceEq, Int.reduceLT, Int.reduceLE, Int.reduceNeg, Int.reduceToNat, Int.cast_ofNat_Int, List.length_nil, decide_true, Int.natCast_zero]
    refine wpL_cond (t := true) (by simp only [go_sem, ↓reduceIte, Nat.reduceEqDiff, List.length_nil, decide_true, Int.natCast_zero]) (fun _ => ?_) (fun h => by cases h)
    simp only [go_sem, ↓reduceIte, Nat.reduceEqDiff, Nat.reduceAdd, Nat.reduceLeDiff, Nat.reduceLT, Int.reduceEq, Int.reduceLT, Int.reduceLE, Int.reduceNeg, Int.reduceToNat, Int.cast_ofNat_Int]
    refine wpL_region Tryd.tyOk (by decide) ?_
    simp only [go_sem, ↓reduceIte, Nat.reduceEqDiff, Nat.reduceAdd, Nat.reduceLeDiff, Nat.reduceLT, Int.reduceEq, Int.reduceLT, Int.reduceLE, Int.reduceNeg, Int.reduceToNat, Int.cast_ofNat_Int]
    refine wpL_ret ?_
    rw [← hB0]
    try simp only [go_sem, ↓reduceIte, Nat.reduceEqDiff]
    rw [← hBQ]
    try simp only [go_sem, ↓reduceIte, Nat.reduceEqDiff]
    rfl
  obtain ⟨x, rest, rfl⟩ := List.exists_cons_of_ne_nil l0
  have hx := hs x (by simp)
  have hrest : ∀ s, s ∈ rest → s.size ≤ 100000 := fun s h => hs s (by simp [h])
  have hc0 : ¬ ((rest.length + 1 : Nat) : Int) = 0 := by omega
  refine wpL_region Tryd.tyOk (by decide) ?_
  simp only [go_sem, ↓reduceIte, Nat.reduceEqDiff, Nat.reduceAdd, Nat.reduceLeDiff, Nat.reduceLT, Int.reduceEq, Int.reduceLT, Int.reduceLE, Int.reduceNeg, Int.reduceToNat, Int.cast_ofNat_Int, List.length_cons, hc0, decide_false]
  refine wpL_cond (t := false) (by simp only [go_sem, ↓reduceIte, Nat.reduceEqDiff, Nat.reduceAdd, Nat.reduceLeDiff, Nat.reduceLT, Int.reduceEq, Int.reduceLT, Int.reduceLE, Int.reduceNeg, Int.reduceToNat, Int.cast_ofNat_Int, List.length_cons, hc0, decide_false]) (fun h => by cases h) (fun _ => ?_)
  by_cases r0 : rest = []
  · subst r0
    refine wpL_region Tryd.tyOk (by decide) ?_
    simp only [go_sem, ↓reduceIte, Nat.reduceEqDiff, Nat.reduceAdd, Nat.reduceLeDiff, Nat.reduceLT, Int.reduceEq, Int.reduceLT, Int.reduceLE, Int.reduceNeg, Int.reduceToNat, Int.cast_ofNat_Int, List.length_cons, List.length_nil]
    refine wpL_cond (t := true) (by simp only [go_sem, ↓reduceIte, Nat.reduceEqDiff, Nat.reduceAdd, Nat.reduceLeDiff, Nat.reduceLT, Int.reduceEq, Int.reduceLT, Int.reduceLE, Int.reduceNeg, Int.reduceToNat, Int.cast_ofNat_Int, List.length_cons, List.length_nil, decide_true]) (fun _ => ?_) (fun h => by cases h)
    simp only [go_sem, ↓reduceIte, Nat.reduceEqDiff, Nat.reduceAdd, Nat.reduceLeDiff, Nat.reduceLT, Int.reduceEq, Int.reduceLT, Int.reduceLE, Int.reduceNeg, Int.reduceToNat, Int.cast_ofNat_Int]
    refine wpL_region Tryd.tyOk (by decide) ?_
    simp only [go_sem, ↓reduceIte, Nat.reduceEqDiff, Nat.reduceAdd, Nat.reduceLeDiff, Nat.reduceLT, Int.reduceEq, Int.reduceLT, Int.reduceLE, Int.reduceNeg, Int.reduceToNat, Int.cast_ofNat_Int, eStrs, List.map_cons, List.map_nil]
    refine wpL_ret ?_
    rw [← hB0]
    try simp only [go_sem, ↓reduceIte, Nat.reduceEqDiff]
    rw [← hBQ]
    try simp only [go_sem, ↓reduceIte, Nat.reduceEqDiff]
    simp [joinB, tailJ, ba_eta]
  have hrl : 0 < rest.length := List.length_pos_iff.2 r0
  have hc1 : ¬ ((rest.length + 1 : Nat) : Int) = 1 := by omega
  refine wpL_region Tryd.tyOk (by decide) ?_
  simp only [go_sem, ↓reduceIte, Nat.reduceEqDiff, Nat.reduceAdd, Nat.reduceLeDiff, Nat.reduceLT, Int.reduceEq, Int.reduceLT, Int.reduceLE, Int.reduceNeg, Int.reduceToNat, Int.cast_ofNat_Int, List.length_cons, hc1, decide_false]
  refine wpL_cond (t := false) (by simp only [go_sem, ↓reduceIte, Nat.reduceEqDiff, Nat.reduceAdd, Nat.reduceLeDiff, Nat.reduceLT, Int.reduceEq, Int.reduceLT, Int.reduceLE, Int.reduceNeg, Int.reduceToNat, Int.cast_ofNat_Int, List.length_cons, hc1, decide_false]) (fun h => by cases h) (fun _ => ?_)
  simp only [go_sem, ↓reduceIte, Nat.reduceEqDiff, Nat.reduceAdd, Nat.reduceLeDiff, Nat.reduceLT, Int.reduceEq, Int.reduceLT, Int.reduceLE, Int.reduceNeg, Int.reduceToNat, Int.cast_ofNat_Int]
  refine wpL_skip ?_
  try simp only [go_sem, ↓reduceIte, Nat.reduceEqDiff]
  rw [← hB0]
  try simp only [go_sem, ↓reduceIte, Nat.reduceEqDiff]
  refine wpL_region Tryd.tyOk (by decide) ?_
  simp only [go_sem, ↓reduceIte, Nat.reduceEqDiff, Nat.reduceAdd, Nat.reduceLeDiff, Nat.reduceLT, Int.reduceEq, Int.reduceLT, Int.reduceLE, Int.reduceNeg, Int.reduceToNat, Int.cast_ofNat_Int]
  have hlen : (x :: rest).length = rest.length + 1 := rfl
  rw [hlen] at hl
  have htl := totS_le hs
  rw [hlen] at htl
  have hmul : sep.size * rest.length ≤ 1000 * rest.length := Nat.mul_le_mul_right _ hp
  generalize hm0 : sep.size * rest.length = m0 at *
  refine wpL_region Tryd.tyOk (by decide) ?_
  simp only [go_sem, ↓reduceIte, Nat.reduceEqDiff, Nat.reduceAdd, Nat.reduceLeDiff, Nat.reduceLT, Int.reduceEq, Int.reduceLT, Int.reduceLE, Int.reduceNeg, Int.reduceToNat, Int.cast_ofNat_Int]
  refine wpL_to ⟨[(5, sint .i64 m0), (0, .c (.d (.sl (eStrs (x :: rest))))), (1, .c (.d (eStr sep)))], []⟩ ?_ ?_
  · by_cases hsp : (sep.size : Int) > 0
    · refine wpL_cond (t := true) (by simp only [go_sem, ↓reduceIte, Nat.reduceEqDiff, hsp, decide_true]) (fun _ => ?_) (fun h => by cases h)
      simp only [go_sem, ↓reduceIte, Nat.reduceEqDiff, Nat.reduceAdd, Nat.reduceLeDiff, Nat.reduceLT, Int.reduceEq, Int.reduceLT, Int.reduceLE, Int.reduceNeg, Int.reduceToNat, Int.cast_ofNat_Int]
      have e1 : IntKind.i64.wrap (((rest.length + 1 : Nat) : Int) - 1) = rest.length := by rw [IntWalk.i64_in _ (by omega)]; omega
      have e2 : IntKind.i64.wrap (Int.tdiv 9223372036854775807 rest.length) = Int.tdiv 9223372036854775807 rest.length := by
        rw [Int.tdiv_eq_ediv_of_nonneg (by omega)]
        have h1 := Int.ediv_le_self (a := 9223372036854775807) (rest.length : Int) (by omega)
        have h2 := Int.ediv_nonneg (a := 9223372036854775807) (b := (rest.length : Int)) (by omega) (by omega)
        rw [IntWalk.i64_in _ (by omega)]
      have e3 : ¬ (sep.size : Int) ≥ Int.tdiv 9223372036854775807 rest.length := by
        rw [Int.tdiv_eq_ediv_of_nonneg (by omega)]
        have h1 : (9223372036854775 : Int) ≤ 9223372036854775807 / (rest.length : Int) := Int.le_ediv_of_mul_le (by omega) (by omega)
        omega
      have e4 : IntKind.i64.wrap ((sep.size : Int) * rest.length) = m0 := by
        rw [← hm0]
        rw [show (sep.size : Int) * rest.length = ((sep.size * rest.length : Nat) : Int) by simp, hm0]
        rw [IntWalk.i64_in _ (by omega)]
      have e5 : IntKind.i64.wrap (0 + (m0 : Int)) = m0 := by rw [IntWalk.i64_in _ (by omega)]; omega
      refine wpL_region Tryd.tyOk (by decide) ?_
      simp only [go_sem, ↓reduceIte, Nat.reduceEqDiff, Nat.reduceAdd, Nat.reduceLeDiff, Nat.reduceLT, Int.reduceEq, Int.reduceLT, Int.reduceLE, Int.reduceNeg, Int.reduceToNat, Int.cast_ofNat_Int, eStrs_length, e1, e2, e3, decide_false]
      refine ⟨by omega, ?_⟩
      refine wpL_cond (t := false) (by simp only [go_sem, ↓reduceIte, Nat.reduceEqDiff, e3, decide_false]) (fun h => by cases h) (fun _ => ?_)
      simp only [go_sem, ↓reduceIte, Nat.reduceEqDiff, Nat.reduceAdd, Nat.reduceLeDiff, Nat.reduceLT, Int.reduceEq, Int.reduceLT, Int.reduceLE, Int.reduceNeg, Int.reduceToNat, Int.cast_ofNat_Int]
      refine wpL_skip ?_
      refine wpL_region Tryd.tyOk (by decide) ?_
      simp only [go_sem, ↓reduceIte, Nat.reduceEqDiff, Nat.reduceAdd, Nat.reduceLeDiff, Nat.reduceLT, Int.reduceEq, Int.reduceLT, Int.reduceLE, Int.reduceNeg, Int.reduceToNat, Int.cast_ofNat_Int, eStrs_length, e1, e4, e5]
      refine le_mk ?_ ?_ ?_ <;> (simp only [go_sem, ↓reduceIte, Nat.reduceEqDiff]; try simp [eInt, eStr, rBool, rInt, rStr, eInt, eStr]; try simp (disch := omega) only [IntWalk.i64_in, and_self])
    · have h0 : sep.size = 0 := by omega
      have hm : m0 = 0 := by rw [← hm0, h0]; simp
      refine wpL_cond (t := false) (by simp only [go_sem, ↓reduceIte, Nat.reduceEqDiff, hsp, decide_false]) (fun h => by cases h) (fun _ => ?_)
      simp only [go_sem, ↓reduceIte, Nat.reduceEqDiff, Nat.reduceAdd, Nat.reduceLeDiff, Nat.reduceLT, Int.reduceEq, Int.reduceLT, Int.reduceLE, Int.reduceNeg, Int.reduceToNat, Int.cast_ofNat_Int]
      refine wpL_skip ?_
      try simp only [go_sem, ↓reduceIte, Nat.reduceEqDiff]
      refine le_mk ?_ ?_ ?_ <;> (simp only [go_sem, ↓reduceIte, Nat.reduceEqDiff]; try simp [eInt, eStr, rBool, rInt, rStr, eInt, eStr, hm]; try simp (disch := omega) only [IntWalk.i64_in, and_self])
  refine wpL_region Tryd.tyOk (by decide) ?_
  simp only [go_sem, ↓reduceIte, Nat.reduceEqDiff, Nat.reduceAdd, Nat.reduceLeDiff, Nat.reduceLT, Int.reduceEq, Int.reduceLT, Int.reduceLE, Int.reduceNeg, Int.reduceToNat, Int.cast_ofNat_Int, eStrs_length]
  refine wpL_block ?_
  generalize hB1 : blockQ _ _ _ = B1
  simp only [go_sem, ↓reduceIte, Nat.reduceEqDiff]
  refine wpL_loop (fun n s => ∃ i : Nat, i ≤ (x :: rest).length ∧ n = (x :: rest).length - i ∧ s = ⟨[(41, sint .i64 i), (40, sint .i64 ((x :: rest).length : Nat)), (39, .c (.d (.sl (eStrs (x :: rest))))), (5, sint .i64 ((m0 + totS ((x :: rest).take i) : Nat) : Int)), (0, .c (.d (.sl (eStrs (x :: rest))))), (1, .c (.d (eStr sep)))], []⟩) ?_ ?_
  · refine ⟨_, _, ⟨0, by omega, rfl, rfl⟩, ?_⟩
    refine le_mk ?_ ?_ ?_ <;> (simp only [go_sem, ↓reduceIte, Nat.reduceEqDiff]; try simp [eInt, eStr, rBool, rInt, rStr, eInt, eStr, totS]; try simp (disch := omega) only [IntWalk.i64_in, and_self])
  rintro n s ⟨i, hi, rfl, rfl⟩
  have hti : totS ((x :: rest).take i) ≤ 100000 * i := by
    have := totS_le (l := (x :: rest).take i) fun s h => hs s (List.mem_of_mem_take h)
    have h2 : ((x :: rest).take i).length ≤ i := List.length_take_le _ _
    omega
  simp only [go_sem, ↓reduceIte, Nat.reduceEqDiff, Nat.reduceAdd, Nat.reduceLeDiff, Nat.reduceLT, Int.reduceEq, Int.reduceLT, Int.reduceLE, Int.reduceNeg, Int.reduceToNat, Int.cast_ofNat_Int]
  refine wpL_region Tryd.tyOk (by decide) ?_
  simp only [go_sem, ↓reduceIte, Nat.reduceEqDiff, Nat.reduceAdd, Nat.reduceLeDiff, Nat.reduceLT, Int.reduceEq, Int.reduceLT, Int.reduceLE, Int.reduceNeg, Int.reduceToNat, Int.cast_ofNat_Int]
  refine wpL_cond (t := decide ((i : Int) < ((x :: rest).length : Nat))) (by simp only [go_sem, ↓reduceIte, Nat.reduceEqDiff]) (fun hlt => ?_) (fun hge => ?_)
  · have hlt := lt_of hlt
    obtain ⟨y, hy⟩ := get_ex (l := x :: rest) (i := i) (by omega)
    have hys := hs y (List.mem_of_getElem? hy)
    simp only [go_sem, ↓reduceIte, Nat.reduceEqDiff, Nat.reduceAdd, Nat.reduceLeDiff, Nat.reduceLT, Int.reduceEq, Int.reduceLT, Int.reduceLE, Int.reduceNeg, Int.reduceToNat, Int.cast_ofNat_Int]
    refine wpL_skip ?_
    refine wpL_block ?_
    generalize hB2 : blockQ _ _ _ = B2
    simp only [go_sem, ↓reduceIte, Nat.reduceEqDiff]
    have e1 : IntKind.i64.wrap (9223372036854775807 - ((m0 + totS ((x :: rest).take i) : Nat) : Int)) = 9223372036854775807 - ((m0 + totS ((x :: rest).take i) : Nat) : Int) := IntWalk.i64_in _ (by omega)
    have e2 : ¬ (y.size : Int) > 9223372036854775807 - ((m0 + totS ((x :: rest).take i) : Nat) : Int) := by omega
    have e3 : IntKind.i64.wrap (((m0 + totS ((x :: rest).take i) : Nat) : Int) + y.size) = ((m0 + totS ((x :: rest).take (i + 1)) : Nat) : Int) := by
      rw [take_succ_get hy, totS_snoc, IntWalk.i64_in _ (by omega)]; omega
    generalize hq : m0 + totS ((x :: rest).take i) = q at *
    refine wpL_region Tryd.tyOk (by decide) ?_
    simp only [go_sem, ↓reduceIte, Nat.reduceEqDiff, Nat.reduceAdd, Nat.reduceLeDiff, Nat.reduceLT, Int.reduceEq, Int.reduceLT, Int.reduceLE, Int.reduceNeg, Int.reduceToNat, Int.cast_ofNat_Int, eStrs_get hy]
    refine wpL_region Tryd.tyOk (by decide) ?_
    simp only [go_sem, ↓reduceIte, Nat.reduceEqDiff, Nat.reduceAdd, Nat.reduceLeDiff, Nat.reduceLT, Int.reduceEq, Int.reduceLT, Int.reduceLE, Int.reduceNeg, Int.reduceToNat, Int.cast_ofNat_Int, e1, e2, decide_false]
    refine wpL_cond (t := false) (by simp only [go_sem, ↓reduceIte, Nat.reduceEqDiff]) (fun h => by cases h) (fun _ => ?_)
    simp only [go_sem, ↓reduceIte, Nat.reduceEqDiff, Nat.reduceAdd, Nat.reduceLeDiff, Nat.reduceLT, Int.reduceEq, Int.reduceLT, Int.reduceLE, Int.reduceNeg, Int.reduceToNat, Int.cast_ofNat_Int]
    refine wpL_skip ?_
    refine wpL_region Tryd.tyOk (by decide) ?_
    simp only [go_sem, ↓reduceIte, Nat.reduceEqDiff, Nat.reduceAdd, Nat.reduceLeDiff, Nat.reduceLT, Int.reduceEq, Int.reduceLT, Int.reduceLE, Int.reduceNeg, Int.reduceToNat, Int.cast_ofNat_Int, e3]
    rw [← hB2]
    try simp only [go_sem, ↓reduceIte, Nat.reduceEqDiff]
    refine wpL_region Tryd.tyOk (by decide) ?_
    simp only [go_sem, ↓reduceIte, Nat.reduceEqDiff, Nat.reduceAdd, Nat.reduceLeDiff, Nat.reduceLT, Int.reduceEq, Int.reduceLT, Int.reduceLE, Int.reduceNeg, Int.reduceToNat, Int.cast_ofNat_Int]
    refine ⟨_, _, ?_, ⟨i + 1, by omega, rfl, rfl⟩, ?_⟩
    · omega
    · refine le_mk ?_ ?_ ?_ <;> (simp only [go_sem, ↓reduceIte, Nat.reduceEqDiff]; try simp [eInt, eStr, rBool, rInt, rStr, eInt, eStr]; try simp (disch := omega) only [IntWalk.i64_in, and_self])
  have hge := ge_of hge
  have hi' : i = (x :: rest).length := by omega
  subst hi'
  rw [List.take_length] at *
  generalize hq : m0 + totS (x :: rest) = q at *
  refine wpL_exit ?_
  simp only [go_sem, ↓reduceIte, Nat.reduceEqDiff, Nat.reduceAdd, Nat.reduceLeDiff, Nat.reduceLT, Int.reduceEq, Int.reduceLT, Int.reduceLE, Int.reduceNeg, Int.reduceToNat, Int.cast_ofNat_Int]
  rw [← hB1]
  try simp only [go_sem, ↓reduceIte, Nat.reduceEqDiff]
  refine wpL_region Tryd.tyOk (by decide) ?_
  simp only [go_sem, ↓reduceIte, Nat.reduceEqDiff, Nat.reduceAdd, Nat.reduceLeDiff, Nat.reduceLT, Int.reduceEq, Int.reduceLT, Int.reduceLE, Int.reduceNeg, Int.reduceToNat, Int.cast_ofNat_Int]
  refine wpL_region Tryd.tyOk (by decide) ?_
  simp only [go_sem, ↓reduceIte, Nat.reduceEqDiff, Nat.reduceAdd, Nat.reduceLeDiff, Nat.reduceLT, Int.reduceEq, Int.reduceLT, Int.reduceLE, Int.reduceNeg, Int.reduceToNat, Int.cast_ofNat_Int]
  refine ⟨_, _, Tryd.growM (b := 8) (k := 500) q (by rfl) (by decide) (by simp only [go_sem, ↓reduceIte, Nat.reduceEqDiff, Nat.reduceAdd, Nat.reduceLeDiff, Nat.reduceLT, Int.reduceEq, Int.reduceLT, Int.reduceLE, Int.reduceNeg, Int.reduceToNat, Int.cast_ofNat_Int]) (by omega), ?_⟩
  simp only [go_sem, ↓reduceIte, Nat.reduceEqDiff, Nat.reduceAdd, Nat.reduceLeDiff, Nat.reduceLT, Int.reduceEq, Int.reduceLT, Int.reduceLE, Int.reduceNeg, Int.reduceToNat, Int.cast_ofNat_Int]
  refine wpL_region Tryd.tyOk (by decide) ?_
  simp only [go_sem, ↓reduceIte, Nat.reduceEqDiff, Nat.reduceAdd, Nat.reduceLeDiff, Nat.reduceLT, Int.reduceEq, Int.reduceLT, Int.reduceLE, Int.reduceNeg, Int.reduceToNat, Int.cast_ofNat_Int, eStrs, List.map_cons, List.getElem?_cons_zero]
  have hxl : x.data.toList.length = x.size := by simp
  refine ⟨_, _, Tryd.wsM (l := []) x (by rfl) (.inr rfl) (by rfl) (by simp only [go_sem, ↓reduceIte, Nat.reduceEqDiff, Nat.reduceAdd, Nat.reduceLeDiff, Nat.reduceLT, Int.reduceEq, Int.reduceLT, Int.reduceLE, Int.reduceNeg, Int.reduceToNat, Int.cast_ofNat_Int]) (by simp; omega), ?_⟩
  simp only [go_sem, ↓reduceIte, Nat.reduceEqDiff, Nat.reduceAdd, Nat.reduceLeDiff, Nat.reduceLT, Int.reduceEq, Int.reduceLT, Int.reduceLE, Int.reduceNeg, Int.reduceToNat, Int.cast_ofNat_Int]
  refine wpL_region Tryd.tyOk (by decide) ?_
  simp only [go_sem, ↓reduceIte, Nat.reduceEqDiff, Nat.reduceAdd, Nat.reduceLeDiff, Nat.reduceLT, Int.reduceEq, Int.reduceLT, Int.reduceLE, Int.reduceNeg, Int.reduceToNat, Int.cast_ofNat_Int, eStrs_length, List.length_map, List.length_cons]
  refine ⟨⟨⟨by omega, by omega, fun m hm => by cases hm⟩, fun y hy => eStrs_one (x :: rest) y hy⟩, ?_⟩
  rw [List.take_of_length_le (by simp), List.length_map, show (rest.map fun s => [DC.sc (Value.string s)]) = eStrs rest from rfl]
  refine wpL_block ?_
  generalize hB3 : blockQ _ _ _ = B3
  simp only [go_sem, ↓reduceIte, Nat.reduceEqDiff]
  refine wpL_loop (fun n s => ∃ i : Nat, i ≤ rest.length ∧ n = rest.length - i ∧ s = ⟨[(65, sint .i64 i), (64, sint .i64 rest.length), (63, .c (.d (.sl (eStrs rest)))), (8, .c (.ptr 8 0)), (1, .c (.d (eStr sep)))], [(8, .box 65 [.ptr 8 0, .row 500]), (500, .arr 5 1 (bytesD (x.data.toList ++ tailJ sep (rest.take i))) false)]⟩) ?_ ?_
  · refine ⟨_, _, ⟨0, by omega, rfl, rfl⟩, ?_⟩
    refine le_mk ?_ ?_ ?_ <;> (simp only [go_sem, ↓reduceIte, Nat.reduceEqDiff]; try simp [eInt, eStr, rBool, rInt, rStr, eInt, eStr, tailJ]; try simp (disch := omega) only [IntWalk.i64_in, and_self])
  rintro n s ⟨i, hi, rfl, rfl⟩
  have htj : (tailJ sep (rest.take i)).length ≤ 101000 * i := by
    have := tailJ_len (sep := sep) (l := rest.take i) (fun s h => hrest s (List.mem_of_mem_take h)) hp
    have h2 : (rest.take i).length ≤ i := List.length_take_le _ _
    omega
  simp only [go_sem, ↓reduceIte, Nat.reduceEqDiff, Nat.reduceAdd, Nat.reduceLeDiff, Nat.reduceLT, Int.reduceEq, Int.reduceLT, Int.reduceLE, Int.reduceNeg, Int.reduceToNat, Int.cast_ofNat_Int]
  refine wpL_region Tryd.tyOk (by decide) ?_
  simp only [go_sem, ↓reduceIte, Nat.reduceEqDiff, Nat.reduceAdd, Nat.reduceLeDiff, Nat.reduceLT, Int.reduceEq, Int.reduceLT, Int.reduceLE, Int.reduceNeg, Int.reduceToNat, Int.cast_ofNat_Int]
  refine wpL_cond (t := decide ((i : Int) < rest.length)) (by simp only [go_sem, ↓reduceIte, Nat.reduceEqDiff]) (fun hlt => ?_) (fun hge => ?_)
  · have hlt := lt_of hlt
    obtain ⟨y, hy⟩ := get_ex (l := rest) (i := i) (by omega)
    have hys := hrest y (List.mem_of_getElem? hy)
    have hsn : tailJ sep (rest.take (i + 1)) = tailJ sep (rest.take i) ++ sep.data.toList ++ y.data.toList := by rw [take_succ_get hy, tailJ_snoc]
    have hsl : sep.data.toList.length = sep.size := by simp
    generalize hT : tailJ sep (rest.take i) = tj at *
    simp only [go_sem, ↓reduceIte, Nat.reduceEqDiff, Nat.reduceAdd, Nat.reduceLeDiff, Nat.reduceLT, Int.reduceEq, Int.reduceLT, Int.reduceLE, Int.reduceNeg, Int.reduceToNat, Int.cast_ofNat_Int]
    refine wpL_skip ?_
    refine wpL_block ?_
    generalize hB4 : blockQ _ _ _ = B4
    simp only [go_sem, ↓reduceIte, Nat.reduceEqDiff]
    iterate 2 (refine wpL_region Tryd.tyOk (by decide) ?_; simp only [go_sem, ↓reduceIte, Nat.reduceEqDiff, Nat.reduceAdd, Nat.reduceLeDiff, Nat.reduceLT, Int.reduceEq, Int.reduceLT, Int.reduceLE, Int.reduceNeg, Int.reduceToNat, Int.cast_ofNat_Int, eStrs_get hy])
    refine ⟨_, _, Tryd.wsM (l := x.data.toList ++ tj) sep (by rfl) (.inr rfl) (by rfl) (by simp only [go_sem, ↓reduceIte, Nat.reduceEqDiff, Nat.reduceAdd, Nat.reduceLeDiff, Nat.reduceLT, Int.reduceEq, Int.reduceLT, Int.reduceLE, Int.reduceNeg, Int.reduceToNat, Int.cast_ofNat_Int]) (by simp only [List.length_append]; omega), ?_⟩
    simp only [go_sem, ↓reduceIte, Nat.reduceEqDiff, Nat.reduceAdd, Nat.reduceLeDiff, Nat.reduceLT, Int.reduceEq, Int.reduceLT, Int.reduceLE, Int.reduceNeg, Int.reduceToNat, Int.cast_ofNat_Int]
    refine wpL_region Tryd.tyOk (by decide) ?_
    simp only [go_sem, ↓reduceIte, Nat.reduceEqDiff, Nat.reduceAdd, Nat.reduceLeDiff, Nat.reduceLT, Int.reduceEq, Int.reduceLT, Int.reduceLE, Int.reduceNeg, Int.reduceToNat, Int.cast_ofNat_Int]
    refine ⟨_, _, Tryd.wsM (l := x.data.toList ++ (tj ++ sep.data.toList)) y (by rfl) (.inr rfl) (by rfl) (by simp only [go_sem, ↓reduceIte, Nat.reduceEqDiff, Nat.reduceAdd, Nat.reduceLeDiff, Nat.reduceLT, Int.reduceEq, Int.reduceLT, Int.reduceLE, Int.reduceNeg, Int.reduceToNat, Int.cast_ofNat_Int]) (by simp only [List.length_append]; omega), ?_⟩
    simp only [go_sem, ↓reduceIte, Nat.reduceEqDiff, Nat.reduceAdd, Nat.reduceLeDiff, Nat.reduceLT, Int.reduceEq, Int.reduceLT, Int.reduceLE, Int.reduceNeg, Int.reduceToNat, Int.cast_ofNat_Int]
    rw [← hB4]
    try simp only [go_sem, ↓reduceIte, Nat.reduceEqDiff]
    refine wpL_region Tryd.tyOk (by decide) ?_
    simp only [go_sem, ↓reduceIte, Nat.reduceEqDiff, Nat.reduceAdd, Nat.reduceLeDiff, Nat.reduceLT, Int.reduceEq, Int.reduceLT, Int.reduceLE, Int.reduceNeg, Int.reduceToNat, Int.cast_ofNat_Int]
    refine ⟨_, _, ?_, ⟨i + 1, by omega, rfl, rfl⟩, ?_⟩
    · omega
    · rw [hsn]
      refine le_mk ?_ ?_ ?_ <;> (simp only [go_sem, ↓reduceIte, Nat.reduceEqDiff]; try simp [eInt, eStr, rBool, rInt, rStr, eInt, eStr, List.append_assoc]; try simp (disch := omega) only [IntWalk.i64_in, and_self])
  have hge := ge_of hge
  have hi' : i = rest.length := by omega
  subst hi'
  rw [List.take_length] at *
  refine wpL_exit ?_
  simp only [go_sem, ↓reduceIte, Nat.reduceEqDiff, Nat.reduceAdd, Nat.reduceLeDiff, Nat.reduceLT, Int.reduceEq, Int.reduceLT, Int.reduceLE, Int.reduceNeg, Int.reduceToNat, Int.cast_ofNat_Int]
  rw [← hB3]
  try simp only [go_sem, ↓reduceIte, Nat.reduceEqDiff]
  refine wpL_region Tryd.tyOk (by decide) ?_
  simp only [go_sem, ↓reduceIte, Nat.reduceEqDiff, Nat.reduceAdd, Nat.reduceLeDiff, Nat.reduceLT, Int.reduceEq, Int.reduceLT, Int.reduceLE, Int.reduceNeg, Int.reduceToNat, Int.cast_ofNat_Int]
  refine ⟨_, _, Tryd.strM (l := x.data.toList ++ tailJ sep rest) (by rfl) (.inr rfl) (by rfl), ?_⟩
  simp only [go_sem, ↓reduceIte, Nat.reduceEqDiff, Nat.reduceAdd, Nat.reduceLeDiff, Nat.reduceLT, Int.reduceEq, Int.reduceLT, Int.reduceLE, Int.reduceNeg, Int.reduceToNat, Int.cast_ofNat_Int]
  refine wpL_ret ?_
  rw [← hBQ]
  try simp only [go_sem, ↓reduceIte, Nat.reduceEqDiff]
  rfl
end Go.Proofs.YtkkkdfhnpamnkaaDoor
