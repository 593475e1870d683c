/-
  Shapes: the walks of layer 2 at this seat.
-/
import Derived.Test.YtkkkdfhnpamnkaaDoorAbsTab
import Derived.Test.YtkkkdfhnpamnkaaDoorAbsZB
set_option linter.unusedSimpArgs false
set_option linter.unusedVariables false
set_option maxRecDepth 100000
set_option maxHeartbeats 4000000
namespace Go.Proofs.YtkkkdfhnpamnkaaDoor
open Go.Abs Go

@[go_sem] def eInt (n : Int) : DC := .sc (.int .i64 n)
@[go_sem] def eStr (s : ByteArray) : DC := .sc (.string s)
@[go_sem] def rBool (b : Bool) : Res := .one (.c (.d (.sc (.bool b))))
@[go_sem] def rInt (n : Int) : Res := .one (.c (.d (.sc (.int .i64 n))))
@[go_sem] def rStr (s : ByteArray) : Res := .one (.c (.d (.sc (.string s))))
@[go_sem] def rTwo (p : Int × Int) : Res := .tup [.c (.d (.sc (.int .i64 p.1))), .c (.d (.sc (.int .i64 p.2)))]
@[go_sem] def rThree (p : Int × Int × Int) : Res := .tup [.c (.d (.sc (.int .i64 p.1))), .c (.d (.sc (.int .i64 p.2.1))), .c (.d (.sc (.int .i64 p.2.2)))]

@[go_sem] def rIB (p : Int × Bool) : Res := .tup [.c (.d (.sc (.int .i64 p.1))), .c (.d (.sc (.bool p.2)))]
def eInts (l : List Int) : List (List DC) := l.map fun n => [eInt n]
theorem eInts_get {l : List Int} {i : Nat} {x : Int} (h : l[i]? = some x) : (eInts l)[i]? = some [eInt x] := by simp [eInts, h]
theorem eInts_len (l : List Int) : (eInts l).length = l.length := by simp [eInts]
theorem eInts_one (l : List Int) : ∀ z, z ∈ eInts l → z.length = 1 := by intro z hz; obtain ⟨y, _, rfl⟩ := List.mem_map.1 hz; rfl
attribute [go_sem] eInts_len

def rightG (p : Int) : List Int → Bool
  | [] => true
  | d :: l => if d < 0 ∨ 65536 < d then false else if d = 0 then rightG p l else if 65536 < p * d then false else rightG (p * d) l
def rightS (l : List Int) : Bool := decide (l.length ≤ 8) && rightG 1 l
theorem mul_in {p d : Int} (h1 : 1 ≤ p) (h2 : p ≤ 65536) (h3 : 0 ≤ d) (h4 : d ≤ 65536) : 0 ≤ p * d ∧ p * d ≤ 4294967296 := by
  have e1 := Int.mul_nonneg (show (0 : Int) ≤ p by omega) h3
  have e2 := Int.mul_le_mul h2 h4 h3 (by omega)
  omega
theorem mul_pos1 {p d : Int} (h1 : 1 ≤ p) (h3 : 1 ≤ d) : 1 ≤ p * d := by
  have := Int.mul_le_mul h1 h3 (by omega) (by omega)
  omega

theorem right24 (l : List Int) (hl : l.length ≤ 9223372036854775807) : Gives Tryd.prog 69 [.c (.sl (eInts l))] (rBool (rightS l)) := by
  refine Gives.intro Tryd.tyOk Tryd.func69 (by kernel_rfl) rfl (by simp [Tryd.ntmps69]) ?_
  simp only [go_sem, ↓reduceIte, Nat.reduceEqDiff, Nat.reduceAdd, Nat.reduceLeDiff, Nat.reduceMul, Nat.reducePow, Nat.reduceLT, Nat.reduceSub, Int.reduceEq, Int.reduceLT, Int.reduceLE, Int.reduceNeg, Int.reduceToNat, Int.cast_ofNat_Int]
  simp only [Tryd.ntmps69, Tryd.results69, eInt, eStr, rBool, rInt, rStr, rTwo, rIB, List.map_cons, List.map_nil]
  generalize hBQ : retQ _ _ _ = BQ
  refine wpL_region Tryd.tyOk (by decide) ?_
  simp only [go_sem, ↓reduceIte, Nat.reduceEqDiff, Nat.reduceAdd, Nat.reduceLeDiff, Nat.reduceMul, Nat.reducePow, Nat.reduceLT, Nat.reduceSub, Int.reduceEq, Int.reduceLT, Int.reduceLE, Int.reduceNeg, Int.reduceToNat, Int.cast_ofNat_Int]
  refine wpL_scope ?_
  generalize hB5 : scopeQ _ _ = B5
  simp only [go_sem, ↓reduceIte, Nat.reduceEqDiff, Nat.reduceAdd, Nat.reduceLeDiff, Nat.reduceMul, Nat.reducePow, Nat.reduceLT, Nat.reduceSub, Int.reduceEq, Int.reduceLT, Int.reduceLE, Int.reduceNeg, Int.reduceToNat, Int.cast_ofNat_Int]
  refine wpL_region Tryd.tyOk (by decide) ?_
  simp only [go_sem, ↓reduceIte, Nat.reduceEqDiff, Nat.reduceAdd, Nat.reduceLeDiff, Nat.reduceMul, Nat.reducePow, Nat.reduceLT, Nat.reduceSub, Int.reduceEq, Int.reduceLT, Int.reduceLE, Int.reduceNeg, Int.reduceToNat, Int.cast_ofNat_Int]
  refine wpL_cond (t := decide ((8 : Int) < l.length)) (by simp only [go_sem, ↓reduceIte, Nat.reduceEqDiff]) (fun h => ?_) (fun h => ?_)
  · have h := lt_of h
    simp only [go_sem, ↓reduceIte, Nat.reduceEqDiff, Nat.reduceAdd, Nat.reduceLeDiff, Nat.reduceMul, Nat.reducePow, Nat.reduceLT, Nat.reduceSub, Int.reduceEq, Int.reduceLT, Int.reduceLE, Int.reduceNeg, Int.reduceToNat, Int.cast_ofNat_Int]
    refine wpL_region Tryd.tyOk (by decide) ?_
    simp only [go_sem, ↓reduceIte, Nat.reduceEqDiff, Nat.reduceAdd, Nat.reduceLeDiff, Nat.reduceMul, Nat.reducePow, Nat.reduceLT, Nat.reduceSub, Int.reduceEq, Int.reduceLT, Int.reduceLE, Int.reduceNeg, Int.reduceToNat, Int.cast_ofNat_Int]
    refine wpL_ret ?_
    rw [← hB5]
    try simp only [go_sem, ↓reduceIte, Nat.reduceEqDiff]
    rw [← hBQ]
    try simp only [go_sem, ↓reduceIte, Nat.reduceEqDiff]
    simp [rightS]; omega
  · have h := ge_of h
    simp only [go_sem, ↓reduceIte, Nat.reduceEqDiff, Nat.reduceAdd, Nat.reduceLeDiff, Nat.reduceMul, Nat.reducePow, Nat.reduceLT, Nat.reduceSub, Int.reduceEq, Int.reduceLT, Int.reduceLE, Int.reduceNeg, Int.reduceToNat, Int.cast_ofNat_Int]
    refine wpL_skip ?_
    refine wpL_region Tryd.tyOk (by decide) ?_
    simp only [go_sem, ↓reduceIte, Nat.reduceEqDiff, Nat.reduceAdd, Nat.reduceLeDiff, Nat.reduceMul, Nat.reducePow, Nat.reduceLT, Nat.reduceSub, Int.reduceEq, Int.reduceLT, Int.reduceLE, Int.reduceNeg, Int.reduceToNat, Int.cast_ofNat_Int]
    refine wpL_label ?_
    refine wpL_region Tryd.tyOk (by decide) ?_
    simp only [go_sem, ↓reduceIte, Nat.reduceEqDiff, Nat.reduceAdd, Nat.reduceLeDiff, Nat.reduceMul, Nat.reducePow, Nat.reduceLT, Nat.reduceSub, Int.reduceEq, Int.reduceLT, Int.reduceLE, Int.reduceNeg, Int.reduceToNat, Int.cast_ofNat_Int]
    refine wpL_block ?_
    generalize hB0 : blockQ _ _ _ = B0
    simp only [go_sem, ↓reduceIte, Nat.reduceEqDiff]
    refine wpL_loop (fun n s => ∃ (i : Nat) (p : Int), i ≤ l.length ∧ n = l.length - i ∧ 1 ≤ p ∧ p ≤ 65536 ∧ rightG 1 l = rightG p (l.drop i) ∧ s = ⟨[(11, sint .i64 i), (10, sint .i64 l.length), (9, .c (.d (.sl (eInts l)))), (3, sint .i64 p)], []⟩) ?_ ?_
    · refine ⟨_, _, ⟨0, 1, by omega, rfl, by omega, by omega, rfl, rfl⟩, ?_⟩
      refine le_mk ?_ ?_ ?_ <;> (simp only [go_sem, ↓reduceIte, Nat.reduceEqDiff]; try simp [eInt, eStr, rBool, rInt, rStr, rTwo, rIB, eInt]; try simp (disch := omega) only [IntWalk.i64_in, and_self])
    · rintro n s ⟨i, p, hi, rfl, hp1, hp2, hpre, rfl⟩
      simp only [go_sem, ↓reduceIte, Nat.reduceEqDiff, Nat.reduceAdd, Nat.reduceLeDiff, Nat.reduceMul, Nat.reducePow, Nat.reduceLT, Nat.reduceSub, Int.reduceEq, Int.reduceLT, Int.reduceLE, Int.reduceNeg, Int.reduceToNat, Int.cast_ofNat_Int]
      refine wpL_region Tryd.tyOk (by decide) ?_
      simp only [go_sem, ↓reduceIte, Nat.reduceEqDiff, Nat.reduceAdd, Nat.reduceLeDiff, Nat.reduceMul, Nat.reducePow, Nat.reduceLT, Nat.reduceSub, Int.reduceEq, Int.reduceLT, Int.reduceLE, Int.reduceNeg, Int.reduceToNat, Int.cast_ofNat_Int]
      refine wpL_cond (t := decide ((i : Int) < l.length)) (by simp only [go_sem, ↓reduceIte, Nat.reduceEqDiff]) (fun hlt => ?_) (fun hge => ?_)
      · have hlt := lt_of hlt
        obtain ⟨d, hd⟩ := get_ex (l := l) (i := i) (by omega)
        rw [drop_get hd, rightG] at hpre
        simp only [go_sem, ↓reduceIte, Nat.reduceEqDiff, Nat.reduceAdd, Nat.reduceLeDiff, Nat.reduceMul, Nat.reducePow, Nat.reduceLT, Nat.reduceSub, Int.reduceEq, Int.reduceLT, Int.reduceLE, Int.reduceNeg, Int.reduceToNat, Int.cast_ofNat_Int]
        refine wpL_skip ?_
        refine wpL_block ?_
        generalize hB1 : blockQ _ _ _ = B1
        simp only [go_sem, ↓reduceIte, Nat.reduceEqDiff]
        refine wpL_region Tryd.tyOk (by decide) ?_
        simp only [go_sem, ↓reduceIte, Nat.reduceEqDiff, Nat.reduceAdd, Nat.reduceLeDiff, Nat.reduceMul, Nat.reducePow, Nat.reduceLT, Nat.reduceSub, Int.reduceEq, Int.reduceLT, Int.reduceLE, Int.reduceNeg, Int.reduceToNat, Int.cast_ofNat_Int, eInts_get hd]
        refine wpL_block ?_
        generalize hB2 : blockQ _ _ _ = B2
        simp only [go_sem, ↓reduceIte, Nat.reduceEqDiff]
        by_cases h0 : d < 0
        · refine wpL_region Tryd.tyOk (by decide) ?_
          simp only [go_sem, ↓reduceIte, Nat.reduceEqDiff, Nat.reduceAdd, Nat.reduceLeDiff, Nat.reduceMul, Nat.reducePow, Nat.reduceLT, Nat.reduceSub, Int.reduceEq, Int.reduceLT, Int.reduceLE, Int.reduceNeg, Int.reduceToNat, Int.cast_ofNat_Int, h0]
          refine wpL_cond (t := true) (by simp only [go_sem, ↓reduceIte, Nat.reduceEqDiff]) (fun _ => ?_) (fun hf => by cases hf)
          refine wpL_region Tryd.tyOk (by decide) ?_
          simp only [go_sem, ↓reduceIte, Nat.reduceEqDiff, Nat.reduceAdd, Nat.reduceLeDiff, Nat.reduceMul, Nat.reducePow, Nat.reduceLT, Nat.reduceSub, Int.reduceEq, Int.reduceLT, Int.reduceLE, Int.reduceNeg, Int.reduceToNat, Int.cast_ofNat_Int]
          refine wpL_ret ?_
          rw [← hB2]
          try simp only [go_sem, ↓reduceIte, Nat.reduceEqDiff]
          rw [← hB1]
          try simp only [go_sem, ↓reduceIte, Nat.reduceEqDiff]
          rw [← hB0]
          try simp only [go_sem, ↓reduceIte, Nat.reduceEqDiff]
          rw [← hB5]
          try simp only [go_sem, ↓reduceIte, Nat.reduceEqDiff]
          rw [← hBQ]
          try simp only [go_sem, ↓reduceIte, Nat.reduceEqDiff]
          rw [if_pos (.inl h0)] at hpre
          simp [rightS, hpre]
        refine wpL_region Tryd.tyOk (by decide) ?_
        simp only [go_sem, ↓reduceIte, Nat.reduceEqDiff, Nat.reduceAdd, Nat.reduceLeDiff, Nat.reduceMul, Nat.reducePow, Nat.reduceLT, Nat.reduceSub, Int.reduceEq, Int.reduceLT, Int.reduceLE, Int.reduceNeg, Int.reduceToNat, Int.cast_ofNat_Int, h0]
        refine wpL_cond (t := decide (65536 < d)) (by simp only [go_sem, ↓reduceIte, Nat.reduceEqDiff]) (fun h1 => ?_) (fun h1 => ?_)
        · have h1 := lt_of h1
          simp only [go_sem, ↓reduceIte, Nat.reduceEqDiff, Nat.reduceAdd, Nat.reduceLeDiff, Nat.reduceMul, Nat.reducePow, Nat.reduceLT, Nat.reduceSub, Int.reduceEq, Int.reduceLT, Int.reduceLE, Int.reduceNeg, Int.reduceToNat, Int.cast_ofNat_Int]
          refine wpL_region Tryd.tyOk (by decide) ?_
          simp only [go_sem, ↓reduceIte, Nat.reduceEqDiff, Nat.reduceAdd, Nat.reduceLeDiff, Nat.reduceMul, Nat.reducePow, Nat.reduceLT, Nat.reduceSub, Int.reduceEq, Int.reduceLT, Int.reduceLE, Int.reduceNeg, Int.reduceToNat, Int.cast_ofNat_Int]
          refine wpL_ret ?_
          rw [← hB2]
          try simp only [go_sem, ↓reduceIte, Nat.reduceEqDiff]
          rw [← hB1]
          try simp only [go_sem, ↓reduceIte, Nat.reduceEqDiff]
          rw [← hB0]
          try simp only [go_sem, ↓reduceIte, Nat.reduceEqDiff]
          rw [← hB5]
          try simp only [go_sem, ↓reduceIte, Nat.reduceEqDiff]
          rw [← hBQ]
          try simp only [go_sem, ↓reduceIte, Nat.reduceEqDiff]
          rw [if_pos (.inr h1)] at hpre
          simp [rightS, hpre]
        · have h1 := ge_of h1
          rw [if_neg (by omega)] at hpre
          simp only [go_sem, ↓reduceIte, Nat.reduceEqDiff, Nat.reduceAdd, Nat.reduceLeDiff, Nat.reduceMul, Nat.reducePow, Nat.reduceLT, Nat.reduceSub, Int.reduceEq, Int.reduceLT, Int.reduceLE, Int.reduceNeg, Int.reduceToNat, Int.cast_ofNat_Int]
          refine wpL_region Tryd.tyOk (by decide) ?_
          simp only [go_sem, ↓reduceIte, Nat.reduceEqDiff, Nat.reduceAdd, Nat.reduceLeDiff, Nat.reduceMul, Nat.reducePow, Nat.reduceLT, Nat.reduceSub, Int.reduceEq, Int.reduceLT, Int.reduceLE, Int.reduceNeg, Int.reduceToNat, Int.cast_ofNat_Int]
          refine wpL_cond (t := decide (d = 0)) (by simp only [go_sem, ↓reduceIte, Nat.reduceEqDiff]) (fun h2 => ?_) (fun h2 => ?_)
          · have h2 : d = 0 := by simpa using h2
            rw [if_pos h2] at hpre
            refine wpL_exit ?_
            rw [← hB2]
            try simp only [go_sem, ↓reduceIte, Nat.reduceEqDiff]
            rw [← hB1]
            try simp only [go_sem, ↓reduceIte, Nat.reduceEqDiff]
            refine wpL_region Tryd.tyOk (by decide) ?_
            simp only [go_sem, ↓reduceIte, Nat.reduceEqDiff, Nat.reduceAdd, Nat.reduceLeDiff, Nat.reduceMul, Nat.reducePow, Nat.reduceLT, Nat.reduceSub, Int.reduceEq, Int.reduceLT, Int.reduceLE, Int.reduceNeg, Int.reduceToNat, Int.cast_ofNat_Int]
            refine ⟨_, _, ?_, ⟨i + 1, p, by omega, rfl, hp1, hp2, hpre, rfl⟩, ?_⟩
            · omega
            · refine le_mk ?_ ?_ ?_ <;> (simp only [go_sem, ↓reduceIte, Nat.reduceEqDiff]; try simp [eInt, eStr, rBool, rInt, rStr, rTwo, rIB, eInt]; try simp (disch := omega) only [IntWalk.i64_in, and_self])
          · have h2 : ¬ d = 0 := by simpa using h2
            rw [if_neg h2] at hpre
            refine wpL_skip ?_
            try simp only [go_sem, ↓reduceIte, Nat.reduceEqDiff]
            rw [← hB2]
            try simp only [go_sem, ↓reduceIte, Nat.reduceEqDiff]
            have hm := mul_in hp1 hp2 (show 0 ≤ d by omega) h1
            have hm1 := mul_pos1 hp1 (show 1 ≤ d by omega)
            refine wpL_region Tryd.tyOk (by decide) ?_
            simp only [go_sem, ↓reduceIte, Nat.reduceEqDiff, Nat.reduceAdd, Nat.reduceLeDiff, Nat.reduceMul, Nat.reducePow, Nat.reduceLT, Nat.reduceSub, Int.reduceEq, Int.reduceLT, Int.reduceLE, Int.reduceNeg, Int.reduceToNat, Int.cast_ofNat_Int]
            simp (disch := omega) only [IntWalk.i64_in]
            refine wpL_region Tryd.tyOk (by decide) ?_
            simp only [go_sem, ↓reduceIte, Nat.reduceEqDiff, Nat.reduceAdd, Nat.reduceLeDiff, Nat.reduceMul, Nat.reducePow, Nat.reduceLT, Nat.reduceSub, Int.reduceEq, Int.reduceLT, Int.reduceLE, Int.reduceNeg, Int.reduceToNat, Int.cast_ofNat_Int]
            refine wpL_cond (t := decide (65536 < p * d)) (by simp only [go_sem, ↓reduceIte, Nat.reduceEqDiff]) (fun h3 => ?_) (fun h3 => ?_)
            · have h3 := lt_of h3
              simp only [go_sem, ↓reduceIte, Nat.reduceEqDiff, Nat.reduceAdd, Nat.reduceLeDiff, Nat.reduceMul, Nat.reducePow, Nat.reduceLT, Nat.reduceSub, Int.reduceEq, Int.reduceLT, Int.reduceLE, Int.reduceNeg, Int.reduceToNat, Int.cast_ofNat_Int]
              refine wpL_region Tryd.tyOk (by decide) ?_
              simp only [go_sem, ↓reduceIte, Nat.reduceEqDiff, Nat.reduceAdd, Nat.reduceLeDiff, Nat.reduceMul, Nat.reducePow, Nat.reduceLT, Nat.reduceSub, Int.reduceEq, Int.reduceLT, Int.reduceLE, Int.reduceNeg, Int.reduceToNat, Int.cast_ofNat_Int]
              refine wpL_ret ?_
              rw [← hB1]
              try simp only [go_sem, ↓reduceIte, Nat.reduceEqDiff]
              rw [← hB0]
              try simp only [go_sem, ↓reduceIte, Nat.reduceEqDiff]
              rw [← hB5]
              try simp only [go_sem, ↓reduceIte, Nat.reduceEqDiff]
              rw [← hBQ]
              try simp only [go_sem, ↓reduceIte, Nat.reduceEqDiff]
              rw [if_pos h3] at hpre
              simp [rightS, hpre]
            · have h3 := ge_of h3
              rw [if_neg (by omega)] at hpre
              simp only [go_sem, ↓reduceIte, Nat.reduceEqDiff, Nat.reduceAdd, Nat.reduceLeDiff, Nat.reduceMul, Nat.reducePow, Nat.reduceLT, Nat.reduceSub, Int.reduceEq, Int.reduceLT, Int.reduceLE, Int.reduceNeg, Int.reduceToNat, Int.cast_ofNat_Int]
              refine wpL_skip ?_
              simp only [go_sem, ↓reduceIte, Nat.reduceEqDiff, Nat.reduceAdd, Nat.reduceLeDiff, Nat.reduceMul, Nat.reducePow, Nat.reduceLT, Nat.reduceSub, Int.reduceEq, Int.reduceLT, Int.reduceLE, Int.reduceNeg, Int.reduceToNat, Int.cast_ofNat_Int]
              rw [← hB1]
              try simp only [go_sem, ↓reduceIte, Nat.reduceEqDiff]
              refine wpL_region Tryd.tyOk (by decide) ?_
              simp only [go_sem, ↓reduceIte, Nat.reduceEqDiff, Nat.reduceAdd, Nat.reduceLeDiff, Nat.reduceMul, Nat.reducePow, Nat.reduceLT, Nat.reduceSub, Int.reduceEq, Int.reduceLT, Int.reduceLE, Int.reduceNeg, Int.reduceToNat, Int.cast_ofNat_Int]
              refine ⟨_, _, ?_, ⟨i + 1, p * d, by omega, rfl, hm1, h3, hpre, rfl⟩, ?_⟩
              · omega
              · refine le_mk ?_ ?_ ?_ <;> (simp only [go_sem, ↓reduceIte, Nat.reduceEqDiff]; try simp [eInt, eStr, rBool, rInt, rStr, rTwo, rIB, eInt]; try simp (disch := omega) only [IntWalk.i64_in, and_self])
      · have hge := ge_of hge
        refine wpL_exit ?_
        simp only [go_sem, ↓reduceIte, Nat.reduceEqDiff, Nat.reduceAdd, Nat.reduceLeDiff, Nat.reduceMul, Nat.reducePow, Nat.reduceLT, Nat.reduceSub, Int.reduceEq, Int.reduceLT, Int.reduceLE, Int.reduceNeg, Int.reduceToNat, Int.cast_ofNat_Int]
        rw [← hB0]
        try simp only [go_sem, ↓reduceIte, Nat.reduceEqDiff]
        refine wpL_region Tryd.tyOk (by decide) ?_
        simp only [go_sem, ↓reduceIte, Nat.reduceEqDiff, Nat.reduceAdd, Nat.reduceLeDiff, Nat.reduceMul, Nat.reducePow, Nat.reduceLT, Nat.reduceSub, Int.reduceEq, Int.reduceLT, Int.reduceLE, Int.reduceNeg, Int.reduceToNat, Int.cast_ofNat_Int]
        refine wpL_ret ?_
        rw [← hB5]
        try simp only [go_sem, ↓reduceIte, Nat.reduceEqDiff]
        rw [← hBQ]
        try simp only [go_sem, ↓reduceIte, Nat.reduceEqDiff]
        rw [List.drop_of_length_le (by omega)] at hpre
        simp [rightS, hpre, rightG]; omega

theorem right16 (l : List Int) (hl : l.length ≤ 9223372036854775807) : Gives Tryd.prog 42 [.c (.sl (eInts l))] (rBool (rightS l)) := by
  refine Gives.intro Tryd.tyOk Tryd.func42 (by kernel_rfl) rfl (by simp [Tryd.ntmps42]) ?_
  simp only [go_sem, ↓reduceIte, Nat.reduceEqDiff, Nat.reduceAdd, Nat.reduceLeDiff, Nat.reduceMul, Nat.reducePow, Nat.reduceLT, Nat.reduceSub, Int.reduceEq, Int.reduceLT, Int.reduceLE, Int.reduceNeg, Int.reduceToNat, Int.cast_ofNat_Int]
  simp only [Tryd.ntmps42, Tryd.results42, eInt, eStr, rBool, rInt, rStr, rTwo, rIB, List.map_cons, List.map_nil]
  generalize hBQ : retQ _ _ _ = BQ
  iterate 2 (refine wpL_region Tryd.tyOk (by decide) ?_; simp only [go_sem, ↓reduceIte, Nat.reduceEqDiff, Nat.reduceAdd, Nat.reduceLeDiff, Nat.reduceMul, Nat.reducePow, Nat.reduceLT, Nat.reduceSub, Int.reduceEq, Int.reduceLT, Int.reduceLE, Int.reduceNeg, Int.reduceToNat, Int.cast_ofNat_Int])
  refine wpL_cond (t := decide ((8 : Int) < l.length)) (by simp only [go_sem, ↓reduceIte, Nat.reduceEqDiff]) (fun h => ?_) (fun h => ?_)
  · have h := lt_of h
    simp only [go_sem, ↓reduceIte, Nat.reduceEqDiff, Nat.reduceAdd, Nat.reduceLeDiff, Nat.reduceMul, Nat.reducePow, Nat.reduceLT, Nat.reduceSub, Int.reduceEq, Int.reduceLT, Int.reduceLE, Int.reduceNeg, Int.reduceToNat, Int.cast_ofNat_Int]
    refine wpL_region Tryd.tyOk (by decide) ?_
    simp only [go_sem, ↓reduceIte, Nat.reduceEqDiff, Nat.reduceAdd, Nat.reduceLeDiff, Nat.reduceMul, Nat.reducePow, Nat.reduceLT, Nat.reduceSub, Int.reduceEq, Int.reduceLT, Int.reduceLE, Int.reduceNeg, Int.reduceToNat, Int.cast_ofNat_Int]
    refine wpL_ret ?_
    rw [← hBQ]
    try simp only [go_sem, ↓reduceIte, Nat.reduceEqDiff]
    simp [rightS]; omega
  · have h := ge_of h
    simp only [go_sem, ↓reduceIte, Nat.reduceEqDiff, Nat.reduceAdd, Nat.reduceLeDiff, Nat.reduceMul, Nat.reducePow, Nat.reduceLT, Nat.reduceSub, Int.reduceEq, Int.reduceLT, Int.reduceLE, Int.reduceNeg, Int.reduceToNat, Int.cast_ofNat_Int]
    refine wpL_skip ?_
    iterate 2 (refine wpL_region Tryd.tyOk (by decide) ?_; simp only [go_sem, ↓reduceIte, Nat.reduceEqDiff, Nat.reduceAdd, Nat.reduceLeDiff, Nat.reduceMul, Nat.reducePow, Nat.reduceLT, Nat.reduceSub, Int.reduceEq, Int.reduceLT, Int.reduceLE, Int.reduceNeg, Int.reduceToNat, Int.cast_ofNat_Int])
    refine wpL_block ?_
    generalize hB0 : blockQ _ _ _ = B0
    simp only [go_sem, ↓reduceIte, Nat.reduceEqDiff]
    refine wpL_loop (fun n s => ∃ (i : Nat) (p : Int), i ≤ l.length ∧ n = l.length - i ∧ 1 ≤ p ∧ p ≤ 65536 ∧ rightG 1 l = rightG p (l.drop i) ∧ s = ⟨[(4, sint .i64 i), (0, .c (.d (.sl (eInts l)))), (3, sint .i64 p)], []⟩) ?_ ?_
    · refine ⟨_, _, ⟨0, 1, by omega, rfl, by omega, by omega, rfl, rfl⟩, ?_⟩
      refine le_mk ?_ ?_ ?_ <;> (simp only [go_sem, ↓reduceIte, Nat.reduceEqDiff]; try simp [eInt, eStr, rBool, rInt, rStr, rTwo, rIB, eInt]; try simp (disch := omega) only [IntWalk.i64_in, and_self])
    · rintro n s ⟨i, p, hi, rfl, hp1, hp2, hpre, rfl⟩
      simp only [go_sem, ↓reduceIte, Nat.reduceEqDiff, Nat.reduceAdd, Nat.reduceLeDiff, Nat.reduceMul, Nat.reducePow, Nat.reduceLT, Nat.reduceSub, Int.reduceEq, Int.reduceLT, Int.reduceLE, Int.reduceNeg, Int.reduceToNat, Int.cast_ofNat_Int]
      refine wpL_region Tryd.tyOk (by decide) ?_
      simp only [go_sem, ↓reduceIte, Nat.reduceEqDiff, Nat.reduceAdd, Nat.reduceLeDiff, Nat.reduceMul, Nat.reducePow, Nat.reduceLT, Nat.reduceSub, Int.reduceEq, Int.reduceLT, Int.reduceLE, Int.reduceNeg, Int.reduceToNat, Int.cast_ofNat_Int]
      refine wpL_cond (t := decide ((i : Int) < l.length)) (by simp only [go_sem, ↓reduceIte, Nat.reduceEqDiff]) (fun hlt => ?_) (fun hge => ?_)
      · have hlt := lt_of hlt
        obtain ⟨d, hd⟩ := get_ex (l := l) (i := i) (by omega)
        rw [drop_get hd, rightG] at hpre
        simp only [go_sem, ↓reduceIte, Nat.reduceEqDiff, Nat.reduceAdd, Nat.reduceLeDiff, Nat.reduceMul, Nat.reducePow, Nat.reduceLT, Nat.reduceSub, Int.reduceEq, Int.reduceLT, Int.reduceLE, Int.reduceNeg, Int.reduceToNat, Int.cast_ofNat_Int]
        refine wpL_skip ?_
        refine wpL_block ?_
        generalize hB1 : blockQ _ _ _ = B1
        simp only [go_sem, ↓reduceIte, Nat.reduceEqDiff]
        by_cases h0 : d < 0
        · refine wpL_region Tryd.tyOk (by decide) ?_
          simp only [go_sem, ↓reduceIte, Nat.reduceEqDiff, Nat.reduceAdd, Nat.reduceLeDiff, Nat.reduceMul, Nat.reducePow, Nat.reduceLT, Nat.reduceSub, Int.reduceEq, Int.reduceLT, Int.reduceLE, Int.reduceNeg, Int.reduceToNat, Int.cast_ofNat_Int, eInts_get hd, h0]
          refine wpL_cond (t := true) (by simp only [go_sem, ↓reduceIte, Nat.reduceEqDiff]) (fun _ => ?_) (fun hf => by cases hf)
          refine wpL_region Tryd.tyOk (by decide) ?_
          simp only [go_sem, ↓reduceIte, Nat.reduceEqDiff, Nat.reduceAdd, Nat.reduceLeDiff, Nat.reduceMul, Nat.reducePow, Nat.reduceLT, Nat.reduceSub, Int.reduceEq, Int.reduceLT, Int.reduceLE, Int.reduceNeg, Int.reduceToNat, Int.cast_ofNat_Int]
          refine wpL_ret ?_
          rw [← hB1]
          try simp only [go_sem, ↓reduceIte, Nat.reduceEqDiff]
          rw [← hB0]
          try simp only [go_sem, ↓reduceIte, Nat.reduceEqDiff]
          rw [← hBQ]
          try simp only [go_sem, ↓reduceIte, Nat.reduceEqDiff]
          rw [if_pos (.inl h0)] at hpre
          simp [rightS, hpre]
        refine wpL_region Tryd.tyOk (by decide) ?_
        simp only [go_sem, ↓reduceIte, Nat.reduceEqDiff, Nat.reduceAdd, Nat.reduceLeDiff, Nat.reduceMul, Nat.reducePow, Nat.reduceLT, Nat.reduceSub, Int.reduceEq, Int.reduceLT, Int.reduceLE, Int.reduceNeg, Int.reduceToNat, Int.cast_ofNat_Int, eInts_get hd, h0]
        refine wpL_cond (t := decide (65536 < d)) (by simp only [go_sem, ↓reduceIte, Nat.reduceEqDiff]) (fun h1 => ?_) (fun h1 => ?_)
        · have h1 := lt_of h1
          simp only [go_sem, ↓reduceIte, Nat.reduceEqDiff, Nat.reduceAdd, Nat.reduceLeDiff, Nat.reduceMul, Nat.reducePow, Nat.reduceLT, Nat.reduceSub, Int.reduceEq, Int.reduceLT, Int.reduceLE, Int.reduceNeg, Int.reduceToNat, Int.cast_ofNat_Int]
          refine wpL_region Tryd.tyOk (by decide) ?_
          simp only [go_sem, ↓reduceIte, Nat.reduceEqDiff, Nat.reduceAdd, Nat.reduceLeDiff, Nat.reduceMul, Nat.reducePow, Nat.reduceLT, Nat.reduceSub, Int.reduceEq, Int.reduceLT, Int.reduceLE, Int.reduceNeg, Int.reduceToNat, Int.cast_ofNat_Int]
          refine wpL_ret ?_
          rw [← hB1]
          try simp only [go_sem, ↓reduceIte, Nat.reduceEqDiff]
          rw [← hB0]
          try simp only [go_sem, ↓reduceIte, Nat.reduceEqDiff]
          rw [← hBQ]
          try simp only [go_sem, ↓reduceIte, Nat.reduceEqDiff]
          rw [if_pos (.inr h1)] at hpre
          simp [rightS, hpre]
        · have h1 := ge_of h1
          rw [if_neg (by omega)] at hpre
          simp only [go_sem, ↓reduceIte, Nat.reduceEqDiff, Nat.reduceAdd, Nat.reduceLeDiff, Nat.reduceMul, Nat.reducePow, Nat.reduceLT, Nat.reduceSub, Int.reduceEq, Int.reduceLT, Int.reduceLE, Int.reduceNeg, Int.reduceToNat, Int.cast_ofNat_Int]
          refine wpL_skip ?_
          refine wpL_region Tryd.tyOk (by decide) ?_
          simp only [go_sem, ↓reduceIte, Nat.reduceEqDiff, Nat.reduceAdd, Nat.reduceLeDiff, Nat.reduceMul, Nat.reducePow, Nat.reduceLT, Nat.reduceSub, Int.reduceEq, Int.reduceLT, Int.reduceLE, Int.reduceNeg, Int.reduceToNat, Int.cast_ofNat_Int, eInts_get hd]
          refine wpL_cond (t := decide (0 < d)) (by simp only [go_sem, ↓reduceIte, Nat.reduceEqDiff]) (fun h2 => ?_) (fun h2 => ?_)
          · have h2 := lt_of h2
            rw [if_neg (by omega)] at hpre
            have hm := mul_in hp1 hp2 (show 0 ≤ d by omega) h1
            have hm1 := mul_pos1 hp1 (show 1 ≤ d by omega)
            simp only [go_sem, ↓reduceIte, Nat.reduceEqDiff, Nat.reduceAdd, Nat.reduceLeDiff, Nat.reduceMul, Nat.reducePow, Nat.reduceLT, Nat.reduceSub, Int.reduceEq, Int.reduceLT, Int.reduceLE, Int.reduceNeg, Int.reduceToNat, Int.cast_ofNat_Int]
            refine wpL_region Tryd.tyOk (by decide) ?_
            simp only [go_sem, ↓reduceIte, Nat.reduceEqDiff, Nat.reduceAdd, Nat.reduceLeDiff, Nat.reduceMul, Nat.reducePow, Nat.reduceLT, Nat.reduceSub, Int.reduceEq, Int.reduceLT, Int.reduceLE, Int.reduceNeg, Int.reduceToNat, Int.cast_ofNat_Int, eInts_get hd]
            simp (disch := omega) only [IntWalk.i64_in]
            refine wpL_region Tryd.tyOk (by decide) ?_
            simp only [go_sem, ↓reduceIte, Nat.reduceEqDiff, Nat.reduceAdd, Nat.reduceLeDiff, Nat.reduceMul, Nat.reducePow, Nat.reduceLT, Nat.reduceSub, Int.reduceEq, Int.reduceLT, Int.reduceLE, Int.reduceNeg, Int.reduceToNat, Int.cast_ofNat_Int]
            refine wpL_cond (t := decide (65536 < p * d)) (by simp only [go_sem, ↓reduceIte, Nat.reduceEqDiff]) (fun h3 => ?_) (fun h3 => ?_)
            · have h3 := lt_of h3
              simp only [go_sem, ↓reduceIte, Nat.reduceEqDiff, Nat.reduceAdd, Nat.reduceLeDiff, Nat.reduceMul, Nat.reducePow, Nat.reduceLT, Nat.reduceSub, Int.reduceEq, Int.reduceLT, Int.reduceLE, Int.reduceNeg, Int.reduceToNat, Int.cast_ofNat_Int]
              refine wpL_region Tryd.tyOk (by decide) ?_
              simp only [go_sem, ↓reduceIte, Nat.reduceEqDiff, Nat.reduceAdd, Nat.reduceLeDiff, Nat.reduceMul, Nat.reducePow, Nat.reduceLT, Nat.reduceSub, Int.reduceEq, Int.reduceLT, Int.reduceLE, Int.reduceNeg, Int.reduceToNat, Int.cast_ofNat_Int]
              refine wpL_ret ?_
              rw [← hB1]
              try simp only [go_sem, ↓reduceIte, Nat.reduceEqDiff]
              rw [← hB0]
              try simp only [go_sem, ↓reduceIte, Nat.reduceEqDiff]
              rw [← hBQ]
              try simp only [go_sem, ↓reduceIte, Nat.reduceEqDiff]
              rw [if_pos h3] at hpre
              simp [rightS, hpre]
            · have h3 := ge_of h3
              rw [if_neg (by omega)] at hpre
              simp only [go_sem, ↓reduceIte, Nat.reduceEqDiff, Nat.reduceAdd, Nat.reduceLeDiff, Nat.reduceMul, Nat.reducePow, Nat.reduceLT, Nat.reduceSub, Int.reduceEq, Int.reduceLT, Int.reduceLE, Int.reduceNeg, Int.reduceToNat, Int.cast_ofNat_Int]
              refine wpL_skip ?_
              try simp only [go_sem, ↓reduceIte, Nat.reduceEqDiff]
              rw [← hB1]
              try simp only [go_sem, ↓reduceIte, Nat.reduceEqDiff]
              refine wpL_region Tryd.tyOk (by decide) ?_
              simp only [go_sem, ↓reduceIte, Nat.reduceEqDiff, Nat.reduceAdd, Nat.reduceLeDiff, Nat.reduceMul, Nat.reducePow, Nat.reduceLT, Nat.reduceSub, Int.reduceEq, Int.reduceLT, Int.reduceLE, Int.reduceNeg, Int.reduceToNat, Int.cast_ofNat_Int]
              refine ⟨_, _, ?_, ⟨i + 1, p * d, by omega, rfl, hm1, h3, hpre, rfl⟩, ?_⟩
              · omega
              · refine le_mk ?_ ?_ ?_ <;> (simp only [go_sem, ↓reduceIte, Nat.reduceEqDiff]; try simp [eInt, eStr, rBool, rInt, rStr, rTwo, rIB, eInt]; try simp (disch := omega) only [IntWalk.i64_in, and_self])
          · have h2 := ge_of h2
            rw [if_pos (show d = 0 by omega)] at hpre
            simp only [go_sem, ↓reduceIte, Nat.reduceEqDiff, Nat.reduceAdd, Nat.reduceLeDiff, Nat.reduceMul, Nat.reducePow, Nat.reduceLT, Nat.reduceSub, Int.reduceEq, Int.reduceLT, Int.reduceLE, Int.reduceNeg, Int.reduceToNat, Int.cast_ofNat_Int]
            refine wpL_skip ?_
            refine wpL_region Tryd.tyOk (by decide) ?_
            simp only [go_sem, ↓reduceIte, Nat.reduceEqDiff, Nat.reduceAdd, Nat.reduceLeDiff, Nat.reduceMul, Nat.reducePow, Nat.reduceLT, Nat.reduceSub, Int.reduceEq, Int.reduceLT, Int.reduceLE, Int.reduceNeg, Int.reduceToNat, Int.cast_ofNat_Int]
            refine wpL_cond (t := decide (65536 < p)) (by simp only [go_sem, ↓reduceIte, Nat.reduceEqDiff]) (fun h3 => by have := lt_of h3; omega) (fun h3 => ?_)
            simp only [go_sem, ↓reduceIte, Nat.reduceEqDiff, Nat.reduceAdd, Nat.reduceLeDiff, Nat.reduceMul, Nat.reducePow, Nat.reduceLT, Nat.reduceSub, Int.reduceEq, Int.reduceLT, Int.reduceLE, Int.reduceNeg, Int.reduceToNat, Int.cast_ofNat_Int]
            refine wpL_skip ?_
            try simp only [go_sem, ↓reduceIte, Nat.reduceEqDiff]
            rw [← hB1]
            try simp only [go_sem, ↓reduceIte, Nat.reduceEqDiff]
            refine wpL_region Tryd.tyOk (by decide) ?_
            simp only [go_sem, ↓reduceIte, Nat.reduceEqDiff, Nat.reduceAdd, Nat.reduceLeDiff, Nat.reduceMul, Nat.reducePow, Nat.reduceLT, Nat.reduceSub, Int.reduceEq, Int.reduceLT, Int.reduceLE, Int.reduceNeg, Int.reduceToNat, Int.cast_ofNat_Int]
            refine ⟨_, _, ?_, ⟨i + 1, p, by omega, rfl, hp1, hp2, hpre, rfl⟩, ?_⟩
            · omega
            · refine le_mk ?_ ?_ ?_ <;> (simp only [go_sem, ↓reduceIte, Nat.reduceEqDiff]; try simp [eInt, eStr, rBool, rInt, rStr, rTwo, rIB, eInt]; try simp (disch := omega) only [IntWalk.i64_in, and_self])
      · have hge := ge_of hge
        refine wpL_exit ?_
        simp only [go_sem, ↓reduceIte, Nat.reduceEqDiff, Nat.reduceAdd, Nat.reduceLeDiff, Nat.reduceMul, Nat.reducePow, Nat.reduceLT, Nat.reduceSub, Int.reduceEq, Int.reduceLT, Int.reduceLE, Int.reduceNeg, Int.reduceToNat, Int.cast_ofNat_Int]
        rw [← hB0]
        try simp only [go_sem, ↓reduceIte, Nat.reduceEqDiff]
        refine wpL_region Tryd.tyOk (by decide) ?_
        simp only [go_sem, ↓reduceIte, Nat.reduceEqDiff, Nat.reduceAdd, Nat.reduceLeDiff, Nat.reduceMul, Nat.reducePow, Nat.reduceLT, Nat.reduceSub, Int.reduceEq, Int.reduceLT, Int.reduceLE, Int.reduceNeg, Int.reduceToNat, Int.cast_ofNat_Int]
        refine wpL_ret ?_
        rw [← hBQ]
        try simp only [go_sem, ↓reduceIte, Nat.reduceEqDiff]
        rw [List.drop_of_length_le (by omega)] at hpre
        simp [rightS, hpre, rightG]; omega

/-! ### Equality -/
theorem eInts_inj {l m : List Int} : eInts l = eInts m ↔ l = m := by
  constructor
  · intro h
    have : ∀ (l m : List Int), eInts l = eInts m → l = m := by
      intro l
      induction l with
      | nil => intro m h; cases m with | nil => rfl | cons => simp [eInts] at h
      | cons x l ih =>
        intro m h
        cases m with
        | nil => simp [eInts] at h
        | cons y m =>
          simp only [eInts, List.map_cons, List.cons.injEq, eInt, DC.sc.injEq, Value.int.injEq, and_true, true_and] at h
          rw [h.1, ih m h.2]
    exact this l m h
  · rintro rfl; rfl

theorem equal29 (l m : List Int) (hl : l.length ≤ 9223372036854775807) (hm : m.length ≤ 9223372036854775807) : Gives Tryd.prog 41 [.c (.sl (eInts l)), .c (.sl (eInts m))] (rBool (decide (l = m))) := by
  refine Gives.intro Tryd.tyOk Tryd.func41 (by kernel_rfl) rfl (by simp [Tryd.ntmps41]) ?_
  simp only [go_sem, ↓reduceIte, Nat.reduceEqDiff, Nat.reduceAdd, Nat.reduceLeDiff, Nat.reduceMul, Nat.reducePow, Nat.reduceLT, Nat.reduceSub, Int.reduceEq, Int.reduceLT, Int.reduceLE, Int.reduceNeg, Int.reduceToNat, Int.cast_ofNat_Int]
  simp only [Tryd.ntmps41, Tryd.results41, eInt, eStr, rBool, rInt, rStr, rTwo, rIB, List.map_cons, List.map_nil]
  generalize hBQ : retQ _ _ _ = BQ
  iterate 2 (refine wpL_region Tryd.tyOk (by decide) ?_; simp only [go_sem, ↓reduceIte, Nat.reduceEqDiff, Nat.reduceAdd, Nat.reduceLeDiff, Nat.reduceMul, Nat.reducePow, Nat.reduceLT, Nat.reduceSub, Int.reduceEq, Int.reduceLT, Int.reduceLE, Int.reduceNeg, Int.reduceToNat, Int.cast_ofNat_Int])
  refine wpL_cond (t := !decide ((l.length : Int) = m.length)) (by simp only [go_sem, ↓reduceIte, Nat.reduceEqDiff]) (fun h => ?_) (fun h => ?_)
  · have h : ¬ l.length = m.length := by simp at h; omega
    simp only [go_sem, ↓reduceIte, Nat.reduceEqDiff, Nat.reduceAdd, Nat.reduceLeDiff, Nat.reduceMul, Nat.reducePow, Nat.reduceLT, Nat.reduceSub, Int.reduceEq, Int.reduceLT, Int.reduceLE, Int.reduceNeg, Int.reduceToNat, Int.cast_ofNat_Int]
    refine wpL_region Tryd.tyOk (by decide) ?_
    simp only [go_sem, ↓reduceIte, Nat.reduceEqDiff, Nat.reduceAdd, Nat.reduceLeDiff, Nat.reduceMul, Nat.reducePow, Nat.reduceLT, Nat.reduceSub, Int.reduceEq, Int.reduceLT, Int.reduceLE, Int.reduceNeg, Int.reduceToNat, Int.cast_ofNat_Int]
    refine wpL_ret ?_
    rw [← hBQ]
    try simp only [go_sem, ↓reduceIte, Nat.reduceEqDiff]
    simp; intro e; exact h (by rw [e])
  · have h : l.length = m.length := by simp at h; omega
    simp only [go_sem, ↓reduceIte, Nat.reduceEqDiff, Nat.reduceAdd, Nat.reduceLeDiff, Nat.reduceMul, Nat.reducePow, Nat.reduceLT, Nat.reduceSub, Int.reduceEq, Int.reduceLT, Int.reduceLE, Int.reduceNeg, Int.reduceToNat, Int.cast_ofNat_Int]
    refine wpL_skip ?_
    refine wpL_region Tryd.tyOk (by decide) ?_
    simp only [go_sem, ↓reduceIte, Nat.reduceEqDiff, Nat.reduceAdd, Nat.reduceLeDiff, Nat.reduceMul, Nat.reducePow, Nat.reduceLT, Nat.reduceSub, Int.reduceEq, Int.reduceLT, Int.reduceLE, Int.reduceNeg, Int.reduceToNat, Int.cast_ofNat_Int]
    refine wpL_block ?_
    generalize hB0 : blockQ _ _ _ = B0
    simp only [go_sem, ↓reduceIte, Nat.reduceEqDiff]
    refine wpL_loop (fun n s => ∃ i : Nat, i ≤ l.length ∧ n = l.length - i ∧ l.take i = m.take i ∧ s = ⟨[(13, sint .i64 i), (12, sint .i64 l.length), (0, .c (.d (.sl (eInts l)))), (1, .c (.d (.sl (eInts m))))], []⟩) ?_ ?_
    · refine ⟨_, _, ⟨0, by omega, rfl, rfl, rfl⟩, ?_⟩
      refine le_mk ?_ ?_ ?_ <;> (simp only [go_sem, ↓reduceIte, Nat.reduceEqDiff]; try simp [eInt, eStr, rBool, rInt, rStr, rTwo, rIB, eInt]; try simp (disch := omega) only [IntWalk.i64_in, and_self])
    · rintro n s ⟨i, hi, rfl, hpre, rfl⟩
      simp only [go_sem, ↓reduceIte, Nat.reduceEqDiff, Nat.reduceAdd, Nat.reduceLeDiff, Nat.reduceMul, Nat.reducePow, Nat.reduceLT, Nat.reduceSub, Int.reduceEq, Int.reduceLT, Int.reduceLE, Int.reduceNeg, Int.reduceToNat, Int.cast_ofNat_Int]
      refine wpL_region Tryd.tyOk (by decide) ?_
      simp only [go_sem, ↓reduceIte, Nat.reduceEqDiff, Nat.reduceAdd, Nat.reduceLeDiff, Nat.reduceMul, Nat.reducePow, Nat.reduceLT, Nat.reduceSub, Int.reduceEq, Int.reduceLT, Int.reduceLE, Int.reduceNeg, Int.reduceToNat, Int.cast_ofNat_Int]
      refine wpL_cond (t := decide ((i : Int) < l.length)) (by simp only [go_sem, ↓reduceIte, Nat.reduceEqDiff]) (fun hlt => ?_) (fun hge => ?_)
      · have hlt := lt_of hlt
        obtain ⟨d, hd⟩ := get_ex (l := l) (i := i) (by omega)
        obtain ⟨e, he⟩ := get_ex (l := m) (i := i) (by omega)
        simp only [go_sem, ↓reduceIte, Nat.reduceEqDiff, Nat.reduceAdd, Nat.reduceLeDiff, Nat.reduceMul, Nat.reducePow, Nat.reduceLT, Nat.reduceSub, Int.reduceEq, Int.reduceLT, Int.reduceLE, Int.reduceNeg, Int.reduceToNat, Int.cast_ofNat_Int]
        refine wpL_skip ?_
        refine wpL_block ?_
        generalize hB1 : blockQ _ _ _ = B1
        simp only [go_sem, ↓reduceIte, Nat.reduceEqDiff]
        refine wpL_region Tryd.tyOk (by decide) ?_
        simp only [go_sem, ↓reduceIte, Nat.reduceEqDiff, Nat.reduceAdd, Nat.reduceLeDiff, Nat.reduceMul, Nat.reducePow, Nat.reduceLT, Nat.reduceSub, Int.reduceEq, Int.reduceLT, Int.reduceLE, Int.reduceNeg, Int.reduceToNat, Int.cast_ofNat_Int]
        refine wpL_draw Tryd.tyOk (by kernel_rfl) 9 (by decide) (by decide) ?_
        simp only [go_sem, ↓reduceIte, Nat.reduceEqDiff, Nat.reduceAdd, Nat.reduceLeDiff, Nat.reduceMul, Nat.reducePow, Nat.reduceLT, Nat.reduceSub, Int.reduceEq, Int.reduceLT, Int.reduceLE, Int.reduceNeg, Int.reduceToNat, Int.cast_ofNat_Int, eInts_get hd, eInts_get he]
        refine wpL_cond (t := !decide (d = e)) (by simp only [go_sem, ↓reduceIte, Nat.reduceEqDiff]) (fun hne => ?_) (fun heq => ?_)
        · have hne : ¬ d = e := by simpa using hne
          simp only [go_sem, ↓reduceIte, Nat.reduceEqDiff, Nat.reduceAdd, Nat.reduceLeDiff, Nat.reduceMul, Nat.reducePow, Nat.reduceLT, Nat.reduceSub, Int.reduceEq, Int.reduceLT, Int.reduceLE, Int.reduceNeg, Int.reduceToNat, Int.cast_ofNat_Int]
          refine wpL_region Tryd.tyOk (by decide) ?_
          simp only [go_sem, ↓reduceIte, Nat.reduceEqDiff, Nat.reduceAdd, Nat.reduceLeDiff, Nat.reduceMul, Nat.reducePow, Nat.reduceLT, Nat.reduceSub, Int.reduceEq, Int.reduceLT, Int.reduceLE, Int.reduceNeg, Int.reduceToNat, Int.cast_ofNat_Int]
          refine wpL_ret ?_
          rw [← hB1]
          try simp only [go_sem, ↓reduceIte, Nat.reduceEqDiff]
          rw [← hB0]
          try simp only [go_sem, ↓reduceIte, Nat.reduceEqDiff]
          rw [← hBQ]
          try simp only [go_sem, ↓reduceIte, Nat.reduceEqDiff]
          simp
          intro e'
          subst e'
          rw [hd] at he; cases he
          exact hne rfl
        · have heq : d = e := by simpa using heq
          subst heq
          simp only [go_sem, ↓reduceIte, Nat.reduceEqDiff, Nat.reduceAdd, Nat.reduceLeDiff, Nat.reduceMul, Nat.reducePow, Nat.reduceLT, Nat.reduceSub, Int.reduceEq, Int.reduceLT, Int.reduceLE, Int.reduceNeg, Int.reduceToNat, Int.cast_ofNat_Int]
          refine wpL_skip ?_
          try simp only [go_sem, ↓reduceIte, Nat.reduceEqDiff]
          rw [← hB1]
          try simp only [go_sem, ↓reduceIte, Nat.reduceEqDiff]
          refine wpL_region Tryd.tyOk (by decide) ?_
          simp only [go_sem, ↓reduceIte, Nat.reduceEqDiff, Nat.reduceAdd, Nat.reduceLeDiff, Nat.reduceMul, Nat.reducePow, Nat.reduceLT, Nat.reduceSub, Int.reduceEq, Int.reduceLT, Int.reduceLE, Int.reduceNeg, Int.reduceToNat, Int.cast_ofNat_Int]
          refine ⟨_, _, ?_, ⟨i + 1, by omega, rfl, by rw [take_succ_get hd, take_succ_get he, hpre], rfl⟩, ?_⟩
          · omega
          · refine le_mk ?_ ?_ ?_ <;> (simp only [go_sem, ↓reduceIte, Nat.reduceEqDiff]; try simp [eInt, eStr, rBool, rInt, rStr, rTwo, rIB, eInt]; try simp (disch := omega) only [IntWalk.i64_in, and_self])
      · have hge := ge_of hge
        refine wpL_exit ?_
        simp only [go_sem, ↓reduceIte, Nat.reduceEqDiff, Nat.reduceAdd, Nat.reduceLeDiff, Nat.reduceMul, Nat.reducePow, Nat.reduceLT, Nat.reduceSub, Int.reduceEq, Int.reduceLT, Int.reduceLE, Int.reduceNeg, Int.reduceToNat, Int.cast_ofNat_Int]
        rw [← hB0]
        try simp only [go_sem, ↓reduceIte, Nat.reduceEqDiff]
        refine wpL_region Tryd.tyOk (by decide) ?_
        simp only [go_sem, ↓reduceIte, Nat.reduceEqDiff, Nat.reduceAdd, Nat.reduceLeDiff, Nat.reduceMul, Nat.reducePow, Nat.reduceLT, Nat.reduceSub, Int.reduceEq, Int.reduceLT, Int.reduceLE, Int.reduceNeg, Int.reduceToNat, Int.cast_ofNat_Int]
        refine wpL_ret ?_
        rw [← hBQ]
        try simp only [go_sem, ↓reduceIte, Nat.reduceEqDiff]
        rw [List.take_of_length_le (by omega), List.take_of_length_le (by omega)] at hpre
        simp [hpre]

theorem same15 (l m : List Int) (hl : l.length ≤ 9223372036854775807) (hm : m.length ≤ 9223372036854775807) : Gives Tryd.prog 43 [.c (.sl (eInts l)), .c (.sl (eInts m))] (rBool (decide (l = m))) := by
  refine Gives.intro Tryd.tyOk Tryd.func43 (by kernel_rfl) rfl (by simp [Tryd.ntmps43]) ?_
  simp only [go_sem, ↓reduceIte, Nat.reduceEqDiff, Nat.reduceAdd, Nat.reduceLeDiff, Nat.reduceMul, Nat.reducePow, Nat.reduceLT, Nat.reduceSub, Int.reduceEq, Int.reduceLT, Int.reduceLE, Int.reduceNeg, Int.reduceToNat, Int.cast_ofNat_Int]
  simp only [Tryd.ntmps43, Tryd.results43, eInt, eStr, rBool, rInt, rStr, rTwo, rIB, List.map_cons, List.map_nil]
  generalize hBQ : retQ _ _ _ = BQ
  iterate 2 (refine wpL_region Tryd.tyOk (by decide) ?_; simp only [go_sem, ↓reduceIte, Nat.reduceEqDiff, Nat.reduceAdd, Nat.reduceLeDiff, Nat.reduceMul, Nat.reducePow, Nat.reduceLT, Nat.reduceSub, Int.reduceEq, Int.reduceLT, Int.reduceLE, Int.reduceNeg, Int.reduceToNat, Int.cast_ofNat_Int])
  refine wpL_cond (t := !decide ((l.length : Int) = m.length)) (by simp only [go_sem, ↓reduceIte, Nat.reduceEqDiff]) (fun h => ?_) (fun h => ?_)
  · have h : ¬ l.length = m.length := by simp at h; omega
    simp only [go_sem, ↓reduceIte, Nat.reduceEqDiff, Nat.reduceAdd, Nat.reduceLeDiff, Nat.reduceMul, Nat.reducePow, Nat.reduceLT, Nat.reduceSub, Int.reduceEq, Int.reduceLT, Int.reduceLE, Int.reduceNeg, Int.reduceToNat, Int.cast_ofNat_Int]
    refine wpL_region Tryd.tyOk (by decide) ?_
    simp only [go_sem, ↓reduceIte, Nat.reduceEqDiff, Nat.reduceAdd, Nat.reduceLeDiff, Nat.reduceMul, Nat.reducePow, Nat.reduceLT, Nat.reduceSub, Int.reduceEq, Int.reduceLT, Int.reduceLE, Int.reduceNeg, Int.reduceToNat, Int.cast_ofNat_Int]
    refine wpL_ret ?_
    rw [← hBQ]
    try simp only [go_sem, ↓reduceIte, Nat.reduceEqDiff]
    simp; intro e; exact h (by rw [e])
  · have h : l.length = m.length := by simp at h; omega
    simp only [go_sem, ↓reduceIte, Nat.reduceEqDiff, Nat.reduceAdd, Nat.reduceLeDiff, Nat.reduceMul, Nat.reducePow, Nat.reduceLT, Nat.reduceSub, Int.reduceEq, Int.reduceLT, Int.reduceLE, Int.reduceNeg, Int.reduceToNat, Int.cast_ofNat_Int]
    refine wpL_skip ?_
    refine wpL_region Tryd.tyOk (by decide) ?_
    simp only [go_sem, ↓reduceIte, Nat.reduceEqDiff, Nat.reduceAdd, Nat.reduceLeDiff, Nat.reduceMul, Nat.reducePow, Nat.reduceLT, Nat.reduceSub, Int.reduceEq, Int.reduceLT, Int.reduceLE, Int.reduceNeg, Int.reduceToNat, Int.cast_ofNat_Int]
    refine wpL_block ?_
    generalize hB0 : blockQ _ _ _ = B0
    simp only [go_sem, ↓reduceIte, Nat.reduceEqDiff]
    refine wpL_loop (fun n s => ∃ i : Nat, i ≤ l.length ∧ n = l.length - i ∧ l.take i = m.take i ∧ s = ⟨[(5, sint .i64 i), (0, .c (.d (.sl (eInts l)))), (1, .c (.d (.sl (eInts m))))], []⟩) ?_ ?_
    · refine ⟨_, _, ⟨0, by omega, rfl, rfl, rfl⟩, ?_⟩
      refine le_mk ?_ ?_ ?_ <;> (simp only [go_sem, ↓reduceIte, Nat.reduceEqDiff]; try simp [eInt, eStr, rBool, rInt, rStr, rTwo, rIB, eInt]; try simp (disch := omega) only [IntWalk.i64_in, and_self])
    · rintro n s ⟨i, hi, rfl, hpre, rfl⟩
      simp only [go_sem, ↓reduceIte, Nat.reduceEqDiff, Nat.reduceAdd, Nat.reduceLeDiff, Nat.reduceMul, Nat.reducePow, Nat.reduceLT, Nat.reduceSub, Int.reduceEq, Int.reduceLT, Int.reduceLE, Int.reduceNeg, Int.reduceToNat, Int.cast_ofNat_Int]
      refine wpL_region Tryd.tyOk (by decide) ?_
      simp only [go_sem, ↓reduceIte, Nat.reduceEqDiff, Nat.reduceAdd, Nat.reduceLeDiff, Nat.reduceMul, Nat.reducePow, Nat.reduceLT, Nat.reduceSub, Int.reduceEq, Int.reduceLT, Int.reduceLE, Int.reduceNeg, Int.reduceToNat, Int.cast_ofNat_Int]
      refine wpL_cond (t := decide ((i : Int) < l.length)) (by simp only [go_sem, ↓reduceIte, Nat.reduceEqDiff]) (fun hlt => ?_) (fun hge => ?_)
      · have hlt := lt_of hlt
        obtain ⟨d, hd⟩ := get_ex (l := l) (i := i) (by omega)
        obtain ⟨e, he⟩ := get_ex (l := m) (i := i) (by omega)
        simp only [go_sem, ↓reduceIte, Nat.reduceEqDiff, Nat.reduceAdd, Nat.reduceLeDiff, Nat.reduceMul, Nat.reducePow, Nat.reduceLT, Nat.reduceSub, Int.reduceEq, Int.reduceLT, Int.reduceLE, Int.reduceNeg, Int.reduceToNat, Int.cast_ofNat_Int]
        refine wpL_skip ?_
        refine wpL_block ?_
        generalize hB1 : blockQ _ _ _ = B1
        simp only [go_sem, ↓reduceIte, Nat.reduceEqDiff]
        refine wpL_draw Tryd.tyOk (by kernel_rfl) 9 (by decide) (by decide) ?_
        simp only [go_sem, ↓reduceIte, Nat.reduceEqDiff, Nat.reduceAdd, Nat.reduceLeDiff, Nat.reduceMul, Nat.reducePow, Nat.reduceLT, Nat.reduceSub, Int.reduceEq, Int.reduceLT, Int.reduceLE, Int.reduceNeg, Int.reduceToNat, Int.cast_ofNat_Int, eInts_get hd, eInts_get he]
        refine wpL_cond (t := !decide (d = e)) (by simp only [go_sem, ↓reduceIte, Nat.reduceEqDiff]) (fun hne => ?_) (fun heq => ?_)
        · have hne : ¬ d = e := by simpa using hne
          simp only [go_sem, ↓reduceIte, Nat.reduceEqDiff, Nat.reduceAdd, Nat.reduceLeDiff, Nat.reduceMul, Nat.reducePow, Nat.reduceLT, Nat.reduceSub, Int.reduceEq, Int.reduceLT, Int.reduceLE, Int.reduceNeg, Int.reduceToNat, Int.cast_ofNat_Int]
          refine wpL_region Tryd.tyOk (by decide) ?_
          simp only [go_sem, ↓reduceIte, Nat.reduceEqDiff, Nat.reduceAdd, Nat.reduceLeDiff, Nat.reduceMul, Nat.reducePow, Nat.reduceLT, Nat.reduceSub, Int.reduceEq, Int.reduceLT, Int.reduceLE, Int.reduceNeg, Int.reduceToNat, Int.cast_ofNat_Int]
          refine wpL_ret ?_
          rw [← hB1]
          try simp only [go_sem, ↓reduceIte, Nat.reduceEqDiff]
          rw [← hB0]
          try simp only [go_sem, ↓reduceIte, Nat.reduceEqDiff]
          rw [← hBQ]
          try simp only [go_sem, ↓reduceIte, Nat.reduceEqDiff]
          simp
          intro e'
          subst e'
          rw [hd] at he; cases he
          exact hne rfl
        · have heq : d = e := by simpa using heq
          subst heq
          simp only [go_sem, ↓reduceIte, Nat.reduceEqDiff, Nat.reduceAdd, Nat.reduceLeDiff, Nat.reduceMul, Nat.reducePow, Nat.reduceLT, Nat.reduceSub, Int.reduceEq, Int.reduceLT, Int.reduceLE, Int.reduceNeg, Int.reduceToNat, Int.cast_ofNat_Int]
          refine wpL_skip ?_
          try simp only [go_sem, ↓reduceIte, Nat.reduceEqDiff]
          rw [← hB1]
          try simp only [go_sem, ↓reduceIte, Nat.reduceEqDiff]
          refine wpL_region Tryd.tyOk (by decide) ?_
          simp only [go_sem, ↓reduceIte, Nat.reduceEqDiff, Nat.reduceAdd, Nat.reduceLeDiff, Nat.reduceMul, Nat.reducePow, Nat.reduceLT, Nat.reduceSub, Int.reduceEq, Int.reduceLT, Int.reduceLE, Int.reduceNeg, Int.reduceToNat, Int.cast_ofNat_Int]
          refine ⟨_, _, ?_, ⟨i + 1, by omega, rfl, by rw [take_succ_get hd, take_succ_get he, hpre], rfl⟩, ?_⟩
          · omega
          · refine le_mk ?_ ?_ ?_ <;> (simp only [go_sem, ↓reduceIte, Nat.reduceEqDiff]; try simp [eInt, eStr, rBool, rInt, rStr, rTwo, rIB, eInt]; try simp (disch := omega) only [IntWalk.i64_in, and_self])
      · have hge := ge_of hge
        refine wpL_exit ?_
        simp only [go_sem, ↓reduceIte, Nat.reduceEqDiff, Nat.reduceAdd, Nat.reduceLeDiff, Nat.reduceMul, Nat.reducePow, Nat.reduceLT, Nat.reduceSub, Int.reduceEq, Int.reduceLT, Int.reduceLE, Int.reduceNeg, Int.reduceToNat, Int.cast_ofNat_Int]
        rw [← hB0]
        try simp only [go_sem, ↓reduceIte, Nat.reduceEqDiff]
        refine wpL_region Tryd.tyOk (by decide) ?_
        simp only [go_sem, ↓reduceIte, Nat.reduceEqDiff, Nat.reduceAdd, Nat.reduceLeDiff, Nat.reduceMul, Nat.reducePow, Nat.reduceLT, Nat.reduceSub, Int.reduceEq, Int.reduceLT, Int.reduceLE, Int.reduceNeg, Int.reduceToNat, Int.cast_ofNat_Int]
        refine wpL_ret ?_
        rw [← hBQ]
        try simp only [go_sem, ↓reduceIte, Nat.reduceEqDiff]
        rw [List.take_of_length_le (by omega), List.take_of_length_le (by omega)] at hpre
        simp [hpre]

/-! ### Products -/
def idxFrom (v : Int) : Nat → List Int → Int
  | _, [] => -1
  | j, x :: l => if v = x then j else idxFrom v (j + 1) l
theorem idx_nonneg (v : Int) : ∀ (j : Nat) (l : List Int), decide (0 ≤ idxFrom v j l) = decide (v ∈ l)
  | j, [] => by simp [idxFrom]
  | j, x :: l => by
    rw [idxFrom]
    split
    · rename_i h; simp [h]
    · rename_i h; rw [idx_nonneg v (j + 1) l]; simp [h]

theorem index39 (l : List Int) (v : Int) (hl : l.length ≤ 9223372036854775807) : Gives Tryd.prog 89 [.c (.sl (eInts l)), .c (eInt v)] (rInt (idxFrom v 0 l)) := by
  refine Gives.intro Tryd.tyOk Tryd.func89 (by kernel_rfl) rfl (by simp [Tryd.ntmps89]) ?_
  simp only [go_sem, ↓reduceIte, Nat.reduceEqDiff, Nat.reduceAdd, Nat.reduceLeDiff, Nat.reduceMul, Nat.reducePow, Nat.reduceLT, Nat.reduceSub, Int.reduceEq, Int.reduceLT, Int.reduceLE, Int.reduceNeg, Int.reduceToNat, Int.cast_ofNat_Int]
  simp only [Tryd.ntmps89, Tryd.results89, eInt, eStr, rBool, rInt, rStr, rTwo, rIB, List.map_cons, List.map_nil]
  generalize hBQ : retQ _ _ _ = BQ
  iterate 2 (refine wpL_region Tryd.tyOk (by decide) ?_; simp only [go_sem, ↓reduceIte, Nat.reduceEqDiff, Nat.reduceAdd, Nat.reduceLeDiff, Nat.reduceMul, Nat.reducePow, Nat.reduceLT, Nat.reduceSub, Int.reduceEq, Int.reduceLT, Int.reduceLE, Int.reduceNeg, Int.reduceToNat, Int.cast_ofNat_Int])
  refine wpL_block ?_
  generalize hB0 : blockQ _ _ _ = B0
  simp only [go_sem, ↓reduceIte, Nat.reduceEqDiff]
  refine wpL_loop (fun n s => ∃ j : Nat, j ≤ l.length ∧ n = l.length - j ∧ idxFrom v 0 l = idxFrom v j (l.drop j) ∧ s = ⟨[(8, sint .i64 j), (7, sint .i64 l.length), (1, .c (.d (eInt v))), (0, .c (.d (.sl (eInts l))))], []⟩) ?_ ?_
  · refine ⟨_, _, ⟨0, by omega, rfl, rfl, rfl⟩, ?_⟩
    refine le_mk ?_ ?_ ?_ <;> (simp only [go_sem, ↓reduceIte, Nat.reduceEqDiff]; try simp [eInt, eStr, rBool, rInt, rStr, rTwo, rIB, eInt]; try simp (disch := omega) only [IntWalk.i64_in, and_self])
  · rintro n s ⟨j, hj, rfl, hpre, rfl⟩
    simp only [go_sem, ↓reduceIte, Nat.reduceEqDiff, Nat.reduceAdd, Nat.reduceLeDiff, Nat.reduceMul, Nat.reducePow, Nat.reduceLT, Nat.reduceSub, Int.reduceEq, Int.reduceLT, Int.reduceLE, Int.reduceNeg, Int.reduceToNat, Int.cast_ofNat_Int]
    refine wpL_region Tryd.tyOk (by decide) ?_
    simp only [go_sem, ↓reduceIte, Nat.reduceEqDiff, Nat.reduceAdd, Nat.reduceLeDiff, Nat.reduceMul, Nat.reducePow, Nat.reduceLT, Nat.reduceSub, Int.reduceEq, Int.reduceLT, Int.reduceLE, Int.reduceNeg, Int.reduceToNat, Int.cast_ofNat_Int]
    refine wpL_cond (t := decide ((j : Int) < l.length)) (by simp only [go_sem, ↓reduceIte, Nat.reduceEqDiff]) (fun hlt => ?_) (fun hge => ?_)
    · have hlt := lt_of hlt
      obtain ⟨x, hx⟩ := get_ex (l := l) (i := j) (by omega)
      rw [drop_get hx, idxFrom] at hpre
      simp only [go_sem, ↓reduceIte, Nat.reduceEqDiff, Nat.reduceAdd, Nat.reduceLeDiff, Nat.reduceMul, Nat.reducePow, Nat.reduceLT, Nat.reduceSub, Int.reduceEq, Int.reduceLT, Int.reduceLE, Int.reduceNeg, Int.reduceToNat, Int.cast_ofNat_Int]
      refine wpL_skip ?_
      refine wpL_block ?_
      generalize hB1 : blockQ _ _ _ = B1
      simp only [go_sem, ↓reduceIte, Nat.reduceEqDiff]
      iterate 2 (refine wpL_region Tryd.tyOk (by decide) ?_; simp only [go_sem, ↓reduceIte, Nat.reduceEqDiff, Nat.reduceAdd, Nat.reduceLeDiff, Nat.reduceMul, Nat.reducePow, Nat.reduceLT, Nat.reduceSub, Int.reduceEq, Int.reduceLT, Int.reduceLE, Int.reduceNeg, Int.reduceToNat, Int.cast_ofNat_Int, eInts_get hx])
      refine wpL_cond (t := decide (v = x)) (by simp only [go_sem, ↓reduceIte, Nat.reduceEqDiff]) (fun hb => ?_) (fun hb => ?_)
      · have hb : v = x := by simpa using hb
        simp only [go_sem, ↓reduceIte, Nat.reduceEqDiff, Nat.reduceAdd, Nat.reduceLeDiff, Nat.reduceMul, Nat.reducePow, Nat.reduceLT, Nat.reduceSub, Int.reduceEq, Int.reduceLT, Int.reduceLE, Int.reduceNeg, Int.reduceToNat, Int.cast_ofNat_Int]
        refine wpL_region Tryd.tyOk (by decide) ?_
        simp only [go_sem, ↓reduceIte, Nat.reduceEqDiff, Nat.reduceAdd, Nat.reduceLeDiff, Nat.reduceMul, Nat.reducePow, Nat.reduceLT, Nat.reduceSub, Int.reduceEq, Int.reduceLT, Int.reduceLE, Int.reduceNeg, Int.reduceToNat, Int.cast_ofNat_Int]
        refine wpL_ret ?_
        rw [← hB1]
        try simp only [go_sem, ↓reduceIte, Nat.reduceEqDiff]
        rw [← hB0]
        try simp only [go_sem, ↓reduceIte, Nat.reduceEqDiff]
        rw [← hBQ]
        try simp only [go_sem, ↓reduceIte, Nat.reduceEqDiff]
        rw [hpre, if_pos hb]
      · have hb : ¬ v = x := by simpa using hb
        rw [if_neg hb] at hpre
        simp only [go_sem, ↓reduceIte, Nat.reduceEqDiff, Nat.reduceAdd, Nat.reduceLeDiff, Nat.reduceMul, Nat.reducePow, Nat.reduceLT, Nat.reduceSub, Int.reduceEq, Int.reduceLT, Int.reduceLE, Int.reduceNeg, Int.reduceToNat, Int.cast_ofNat_Int]
        refine wpL_skip ?_
        try simp only [go_sem, ↓reduceIte, Nat.reduceEqDiff]
        rw [← hB1]
        try simp only [go_sem, ↓reduceIte, Nat.reduceEqDiff]
        refine wpL_region Tryd.tyOk (by decide) ?_
        simp only [go_sem, ↓reduceIte, Nat.reduceEqDiff, Nat.reduceAdd, Nat.reduceLeDiff, Nat.reduceMul, Nat.reducePow, Nat.reduceLT, Nat.reduceSub, Int.reduceEq, Int.reduceLT, Int.reduceLE, Int.reduceNeg, Int.reduceToNat, Int.cast_ofNat_Int]
        refine ⟨_, _, ?_, ⟨j + 1, by omega, rfl, hpre, rfl⟩, ?_⟩
        · omega
        · refine le_mk ?_ ?_ ?_ <;> (simp only [go_sem, ↓reduceIte, Nat.reduceEqDiff]; try simp [eInt, eStr, rBool, rInt, rStr, rTwo, rIB, eInt]; try simp (disch := omega) only [IntWalk.i64_in, and_self])
    · have hge := ge_of hge
      refine wpL_exit ?_
      simp only [go_sem, ↓reduceIte, Nat.reduceEqDiff, Nat.reduceAdd, Nat.reduceLeDiff, Nat.reduceMul, Nat.reducePow, Nat.reduceLT, Nat.reduceSub, Int.reduceEq, Int.reduceLT, Int.reduceLE, Int.reduceNeg, Int.reduceToNat, Int.cast_ofNat_Int]
      rw [← hB0]
      try simp only [go_sem, ↓reduceIte, Nat.reduceEqDiff]
      refine wpL_region Tryd.tyOk (by decide) ?_
      simp only [go_sem, ↓reduceIte, Nat.reduceEqDiff, Nat.reduceAdd, Nat.reduceLeDiff, Nat.reduceMul, Nat.reducePow, Nat.reduceLT, Nat.reduceSub, Int.reduceEq, Int.reduceLT, Int.reduceLE, Int.reduceNeg, Int.reduceToNat, Int.cast_ofNat_Int]
      refine wpL_ret ?_
      rw [← hBQ]
      try simp only [go_sem, ↓reduceIte, Nat.reduceEqDiff]
      rw [hpre, List.drop_of_length_le (by omega)]; rfl

theorem contains36 (l : List Int) (v : Int) (hl : l.length ≤ 9223372036854775807) : Gives Tryd.prog 83 [.c (.sl (eInts l)), .c (eInt v)] (rBool (decide (v ∈ l))) := by
  refine Gives.intro Tryd.tyOk Tryd.func83 (by kernel_rfl) rfl (by simp [Tryd.ntmps83]) ?_
  simp only [go_sem, ↓reduceIte, Nat.reduceEqDiff, Nat.reduceAdd, Nat.reduceLeDiff, Nat.reduceMul, Nat.reducePow, Nat.reduceLT, Nat.reduceSub, Int.reduceEq, Int.reduceLT, Int.reduceLE, Int.reduceNeg, Int.reduceToNat, Int.cast_ofNat_Int]
  simp only [Tryd.ntmps83, Tryd.results83, eInt, eStr, rBool, rInt, rStr, rTwo, rIB, List.map_cons, List.map_nil]
  generalize hBQ : retQ _ _ _ = BQ
  iterate 2 (refine wpL_region Tryd.tyOk (by decide) ?_; simp only [go_sem, ↓reduceIte, Nat.reduceEqDiff, Nat.reduceAdd, Nat.reduceLeDiff, Nat.reduceMul, Nat.reducePow, Nat.reduceLT, Nat.reduceSub, Int.reduceEq, Int.reduceLT, Int.reduceLE, Int.reduceNeg, Int.reduceToNat, Int.cast_ofNat_Int])
  refine ⟨_, index39 l v hl, ?_⟩
  simp only [go_sem, ↓reduceIte, Nat.reduceEqDiff, Nat.reduceAdd, Nat.reduceLeDiff, Nat.reduceMul, Nat.reducePow, Nat.reduceLT, Nat.reduceSub, Int.reduceEq, Int.reduceLT, Int.reduceLE, Int.reduceNeg, Int.reduceToNat, Int.cast_ofNat_Int]
  refine wpL_ret ?_
  rw [← hBQ]
  try simp only [go_sem, ↓reduceIte, Nat.reduceEqDiff]
  rw [← idx_nonneg v 0 l]

def prodI : List Int → Int
  | [] => 1
  | d :: l => d * prodI l
/-- The product of what is not 0. -/
def nz : List Int → Int
  | [] => 1
  | d :: l => if d = 0 then nz l else d * nz l
def Small (l : List Int) : Prop := (∀ d, d ∈ l → 0 ≤ d ∧ d ≤ 65536) ∧ nz l ≤ 65536

theorem prodI_app : ∀ (a b : List Int), prodI (a ++ b) = prodI a * prodI b
  | [], b => by simp [prodI]
  | d :: a, b => by simp [prodI, prodI_app a b, Int.mul_assoc]
theorem nz_app : ∀ (a b : List Int), nz (a ++ b) = nz a * nz b
  | [], b => by simp [nz]
  | d :: a, b => by
    simp only [List.cons_append, nz, nz_app a b]
    split
    · rfl
    · rw [Int.mul_assoc]
theorem nz_pos : ∀ {l : List Int}, (∀ d, d ∈ l → 0 ≤ d) → 1 ≤ nz l
  | [], _ => by simp [nz]
  | d :: l, h => by
    have ih := nz_pos (l := l) fun x hx => h x (List.mem_cons_of_mem _ hx)
    simp only [nz]
    split
    · exact ih
    · exact mul_pos1 (by have := h d (by simp); omega) ih
theorem prod_zero : ∀ {l : List Int}, (0 : Int) ∈ l → prodI l = 0
  | d :: l, h => by
    simp only [List.mem_cons] at h
    rcases h with h | h
    · simp [prodI, ← h]
    · simp [prodI, prod_zero h]
theorem prod_nz : ∀ {l : List Int}, ¬ (0 : Int) ∈ l → prodI l = nz l
  | [], _ => rfl
  | d :: l, h => by
    simp only [List.mem_cons, not_or] at h
    simp only [prodI, nz]
    rw [if_neg (fun e => h.1 e.symm), prod_nz h.2]
theorem le_mul {a b : Int} (ha : 1 ≤ a) (hb : 1 ≤ b) : a ≤ a * b ∧ b ≤ a * b := by
  have h1 := Int.mul_le_mul (Int.le_refl a) hb (by omega) (by omega)
  have h2 := Int.mul_le_mul ha (Int.le_refl b) (by omega) (by omega)
  omega
theorem Small.app {a b : List Int} (h : Small (a ++ b)) : Small a ∧ Small b := by
  obtain ⟨h1, h2⟩ := h
  rw [nz_app] at h2
  have ha := nz_pos (l := a) fun x hx => (h1 x (by simp [hx])).1
  have hb := nz_pos (l := b) fun x hx => (h1 x (by simp [hx])).1
  have := le_mul ha hb
  exact ⟨⟨fun d hd => h1 d (by simp [hd]), by omega⟩, ⟨fun d hd => h1 d (by simp [hd]), by omega⟩⟩
theorem Small.take {l : List Int} (h : Small l) (n : Nat) : Small (l.take n) := (Small.app (a := l.take n) (b := l.drop n) (by rw [List.take_append_drop]; exact h)).1
theorem Small.drop {l : List Int} (h : Small l) (n : Nat) : Small (l.drop n) := (Small.app (a := l.take n) (b := l.drop n) (by rw [List.take_append_drop]; exact h)).2
theorem Small.pos {l : List Int} (h : Small l) : 1 ≤ nz l := nz_pos fun d hd => (h.1 d hd).1
theorem Small.prod {l : List Int} (h : Small l) : 0 ≤ prodI l ∧ prodI l ≤ 65536 := by
  by_cases h0 : (0 : Int) ∈ l
  · rw [prod_zero h0]; omega
  · rw [prod_nz h0]; have := h.pos; have := h.2; omega
theorem Small.get {l : List Int} (h : Small l) {i : Nat} {d : Int} (hd : l[i]? = some d) : 0 ≤ d ∧ d ≤ 65536 := h.1 d (List.mem_of_getElem? hd)

theorem rightG_iff : ∀ {l : List Int} {p : Int}, 1 ≤ p → p ≤ 65536 → (rightG p l = true ↔ (∀ d, d ∈ l → 0 ≤ d ∧ d ≤ 65536) ∧ p * nz l ≤ 65536)
  | [], p, h1, h2 => by simp [rightG, nz, h2]
  | d :: l, p, h1, h2 => by
    simp only [rightG]
    split
    · rename_i h
      simp only [reduceCtorEq, false_iff, not_and]
      intro hd
      have := hd d (by simp)
      omega
    · rename_i h
      split
      · rename_i h0
        rw [rightG_iff h1 h2]
        simp only [nz, if_pos h0]
        constructor
        · rintro ⟨h3, h4⟩
          exact ⟨fun x hx => by simp only [List.mem_cons] at hx; rcases hx with rfl | hx; omega; exact h3 x hx, h4⟩
        · rintro ⟨h3, h4⟩
          exact ⟨fun x hx => h3 x (List.mem_cons_of_mem _ hx), h4⟩
      · rename_i h0
        have hd1 : 1 ≤ d := by omega
        have hpd := mul_pos1 h1 hd1
        split
        · rename_i h3
          simp only [reduceCtorEq, false_iff, not_and]
          intro hd
          simp only [nz, if_neg h0]
          have := nz_pos (l := l) fun x hx => (hd x (List.mem_cons_of_mem _ hx)).1
          have := (le_mul hpd this).1
          rw [← Int.mul_assoc]
          omega
        · rename_i h3
          rw [rightG_iff hpd (by omega)]
          simp only [nz, if_neg h0, Int.mul_assoc]
          constructor
          · rintro ⟨h4, h5⟩
            exact ⟨fun x hx => by simp only [List.mem_cons] at hx; rcases hx with rfl | hx; omega; exact h4 x hx, h5⟩
          · rintro ⟨h4, h5⟩
            exact ⟨fun x hx => h4 x (List.mem_cons_of_mem _ hx), h5⟩
theorem right_small {l : List Int} (h : rightS l = true) : Small l ∧ l.length ≤ 8 := by
  simp only [rightS, Bool.and_eq_true, decide_eq_true_eq] at h
  have := (rightG_iff (by omega) (by omega)).1 h.2
  exact ⟨⟨this.1, by have := this.2; omega⟩, h.1⟩

def sizeS (l : List Int) : Int := if rightS l then prodI l else -1


abbrev Len (l : List Int) : Prop := l.length ≤ 9223372036854775807

theorem prod_snoc (l : List Int) (d : Int) : prodI (l ++ [d]) = prodI l * d := by rw [prodI_app]; simp [prodI]
theorem nz_snoc {l : List Int} {d : Int} (h : ¬ d = 0) : nz (l ++ [d]) = nz l * d := by rw [nz_app]; simp [nz, h]
theorem prod_step {l : List Int} (hs : Small l) (h0 : ¬ (0 : Int) ∈ l) {i : Nat} {d : Int} (hd : l[i]? = some d) :
    1 ≤ prodI (l.take i) ∧ prodI (l.take i) ≤ 65536 ∧ prodI (l.take (i + 1)) = prodI (l.take i) * d ∧ prodI (l.take i) * d ≤ 65536 := by
  have e : prodI (l.take (i + 1)) = prodI (l.take i) * d := by rw [take_succ_get hd, prod_snoc]
  have n1 : ¬ (0 : Int) ∈ l.take i := fun h => h0 (List.mem_of_mem_take h)
  have h1 := (hs.take i).prod
  have h2 := (hs.take (i + 1)).prod
  have h3 := (hs.take i).pos
  rw [← prod_nz n1] at h3
  rw [e] at h2
  exact ⟨h3, h1.2, e, h2.2⟩

theorem product30 (l : List Int) (hl : Len l) (hs : Small l) : Gives Tryd.prog 76 [.c (.sl (eInts l))] (rInt (prodI l)) := by
  refine Gives.intro Tryd.tyOk Tryd.func76 (by kernel_rfl) rfl (by simp [Tryd.ntmps76]) ?_
  simp only [go_sem, ↓reduceIte, Nat.reduceEqDiff, Nat.reduceAdd, Nat.reduceLeDiff, Nat.reduceMul, Nat.reducePow, Nat.reduceLT, Nat.reduceSub, Int.reduceEq, Int.reduceLT, Int.reduceLE, Int.reduceNeg, Int.reduceToNat, Int.cast_ofNat_Int]
  simp only [Tryd.ntmps76, Tryd.results76, eInt, eStr, rBool, rInt, rStr, rTwo, rIB, List.map_cons, List.map_nil]
  generalize hBQ : retQ _ _ _ = BQ
  iterate 2 (refine wpL_region Tryd.tyOk (by decide) ?_; simp only [go_sem, ↓reduceIte, Nat.reduceEqDiff, Nat.reduceAdd, Nat.reduceLeDiff, Nat.reduceMul, Nat.reducePow, Nat.reduceLT, Nat.reduceSub, Int.reduceEq, Int.reduceLT, Int.reduceLE, Int.reduceNeg, Int.reduceToNat, Int.cast_ofNat_Int])
  refine ⟨_, contains36 l 0 hl, ?_⟩
  simp only [go_sem, ↓reduceIte, Nat.reduceEqDiff, Nat.reduceAdd, Nat.reduceLeDiff, Nat.reduceMul, Nat.reducePow, Nat.reduceLT, Nat.reduceSub, Int.reduceEq, Int.reduceLT, Int.reduceLE, Int.reduceNeg, Int.reduceToNat, Int.cast_ofNat_Int]
  refine wpL_cond (t := decide ((0 : Int) ∈ l)) (by simp only [go_sem, ↓reduceIte, Nat.reduceEqDiff]) (fun h => ?_) (fun h => ?_)
  · have h : (0 : Int) ∈ l := by simpa using h
    simp only [go_sem, ↓reduceIte, Nat.reduceEqDiff, Nat.reduceAdd, Nat.reduceLeDiff, Nat.reduceMul, Nat.reducePow, Nat.reduceLT, Nat.reduceSub, Int.reduceEq, Int.reduceLT, Int.reduceLE, Int.reduceNeg, Int.reduceToNat, Int.cast_ofNat_Int]
    refine wpL_region Tryd.tyOk (by decide) ?_
    simp only [go_sem, ↓reduceIte, Nat.reduceEqDiff, Nat.reduceAdd, Nat.reduceLeDiff, Nat.reduceMul, Nat.reducePow, Nat.reduceLT, Nat.reduceSub, Int.reduceEq, Int.reduceLT, Int.reduceLE, Int.reduceNeg, Int.reduceToNat, Int.cast_ofNat_Int]
    refine wpL_ret ?_
    rw [← hBQ]
    try simp only [go_sem, ↓reduceIte, Nat.reduceEqDiff]
    rw [prod_zero h]
  · have h : ¬ (0 : Int) ∈ l := by simpa using h
    simp only [go_sem, ↓reduceIte, Nat.reduceEqDiff, Nat.reduceAdd, Nat.reduceLeDiff, Nat.reduceMul, Nat.reducePow, Nat.reduceLT, Nat.reduceSub, Int.reduceEq, Int.reduceLT, Int.reduceLE, Int.reduceNeg, Int.reduceToNat, Int.cast_ofNat_Int]
    refine wpL_skip ?_
    iterate 2 (refine wpL_region Tryd.tyOk (by decide) ?_; simp only [go_sem, ↓reduceIte, Nat.reduceEqDiff, Nat.reduceAdd, Nat.reduceLeDiff, Nat.reduceMul, Nat.reducePow, Nat.reduceLT, Nat.reduceSub, Int.reduceEq, Int.reduceLT, Int.reduceLE, Int.reduceNeg, Int.reduceToNat, Int.cast_ofNat_Int])
    refine wpL_block ?_
    generalize hB0 : blockQ _ _ _ = B0
    simp only [go_sem, ↓reduceIte, Nat.reduceEqDiff]
    refine wpL_loop (fun n s => ∃ i : Nat, i ≤ l.length ∧ n = l.length - i ∧ s = ⟨[(10, sint .i64 i), (9, sint .i64 l.length), (8, .c (.d (.sl (eInts l)))), (3, sint .i64 (prodI (l.take i)))], []⟩) ?_ ?_
    · refine ⟨_, _, ⟨0, by omega, rfl, rfl⟩, ?_⟩
      refine le_mk ?_ ?_ ?_ <;> (simp only [go_sem, ↓reduceIte, Nat.reduceEqDiff]; try simp [eInt, eStr, rBool, rInt, rStr, rTwo, rIB, eInt, prodI]; try simp (disch := omega) only [IntWalk.i64_in, and_self])
    · rintro n s ⟨i, hi, rfl, rfl⟩
      simp only [go_sem, ↓reduceIte, Nat.reduceEqDiff, Nat.reduceAdd, Nat.reduceLeDiff, Nat.reduceMul, Nat.reducePow, Nat.reduceLT, Nat.reduceSub, Int.reduceEq, Int.reduceLT, Int.reduceLE, Int.reduceNeg, Int.reduceToNat, Int.cast_ofNat_Int]
      refine wpL_region Tryd.tyOk (by decide) ?_
      simp only [go_sem, ↓reduceIte, Nat.reduceEqDiff, Nat.reduceAdd, Nat.reduceLeDiff, Nat.reduceMul, Nat.reducePow, Nat.reduceLT, Nat.reduceSub, Int.reduceEq, Int.reduceLT, Int.reduceLE, Int.reduceNeg, Int.reduceToNat, Int.cast_ofNat_Int]
      refine wpL_cond (t := decide ((i : Int) < l.length)) (by simp only [go_sem, ↓reduceIte, Nat.reduceEqDiff]) (fun hlt => ?_) (fun hge => ?_)
      · have hlt := lt_of hlt
        obtain ⟨d, hd⟩ := get_ex (l := l) (i := i) (by omega)
        obtain ⟨h1, h2, h3, h4⟩ := prod_step hs h hd
        have hdd := hs.get hd
        have hm := mul_in h1 h2 hdd.1 hdd.2
        simp only [go_sem, ↓reduceIte, Nat.reduceEqDiff, Nat.reduceAdd, Nat.reduceLeDiff, Nat.reduceMul, Nat.reducePow, Nat.reduceLT, Nat.reduceSub, Int.reduceEq, Int.reduceLT, Int.reduceLE, Int.reduceNeg, Int.reduceToNat, Int.cast_ofNat_Int]
        refine wpL_skip ?_
        refine wpL_block ?_
        generalize hB1 : blockQ _ _ _ = B1
        simp only [go_sem, ↓reduceIte, Nat.reduceEqDiff]
        iterate 2 (refine wpL_region Tryd.tyOk (by decide) ?_; simp only [go_sem, ↓reduceIte, Nat.reduceEqDiff, Nat.reduceAdd, Nat.reduceLeDiff, Nat.reduceMul, Nat.reducePow, Nat.reduceLT, Nat.reduceSub, Int.reduceEq, Int.reduceLT, Int.reduceLE, Int.reduceNeg, Int.reduceToNat, Int.cast_ofNat_Int, eInts_get hd])
        rw [← hB1]
        try simp only [go_sem, ↓reduceIte, Nat.reduceEqDiff]
        refine wpL_region Tryd.tyOk (by decide) ?_
        simp only [go_sem, ↓reduceIte, Nat.reduceEqDiff, Nat.reduceAdd, Nat.reduceLeDiff, Nat.reduceMul, Nat.reducePow, Nat.reduceLT, Nat.reduceSub, Int.reduceEq, Int.reduceLT, Int.reduceLE, Int.reduceNeg, Int.reduceToNat, Int.cast_ofNat_Int]
        refine ⟨_, _, ?_, ⟨i + 1, by omega, rfl, rfl⟩, ?_⟩
        · omega
        · refine le_mk ?_ ?_ ?_ <;> (simp only [go_sem, ↓reduceIte, Nat.reduceEqDiff]; try simp [eInt, eStr, rBool, rInt, rStr, rTwo, rIB, eInt, h3]; try simp (disch := omega) only [IntWalk.i64_in, and_self])
      · have hge := ge_of hge
        refine wpL_exit ?_
        simp only [go_sem, ↓reduceIte, Nat.reduceEqDiff, Nat.reduceAdd, Nat.reduceLeDiff, Nat.reduceMul, Nat.reducePow, Nat.reduceLT, Nat.reduceSub, Int.reduceEq, Int.reduceLT, Int.reduceLE, Int.reduceNeg, Int.reduceToNat, Int.cast_ofNat_Int]
        rw [← hB0]
        try simp only [go_sem, ↓reduceIte, Nat.reduceEqDiff]
        refine wpL_region Tryd.tyOk (by decide) ?_
        simp only [go_sem, ↓reduceIte, Nat.reduceEqDiff, Nat.reduceAdd, Nat.reduceLeDiff, Nat.reduceMul, Nat.reducePow, Nat.reduceLT, Nat.reduceSub, Int.reduceEq, Int.reduceLT, Int.reduceLE, Int.reduceNeg, Int.reduceToNat, Int.cast_ofNat_Int]
        refine wpL_ret ?_
        rw [← hBQ]
        try simp only [go_sem, ↓reduceIte, Nat.reduceEqDiff]
        rw [List.take_of_length_le (by omega)]

theorem size25 (l : List Int) (hl : Len l) : Gives Tryd.prog 70 [.c (.sl (eInts l))] (rInt (sizeS l)) := by
  refine Gives.intro Tryd.tyOk Tryd.func70 (by kernel_rfl) rfl (by simp [Tryd.ntmps70]) ?_
  simp only [go_sem, ↓reduceIte, Nat.reduceEqDiff, Nat.reduceAdd, Nat.reduceLeDiff, Nat.reduceMul, Nat.reducePow, Nat.reduceLT, Nat.reduceSub, Int.reduceEq, Int.reduceLT, Int.reduceLE, Int.reduceNeg, Int.reduceToNat, Int.cast_ofNat_Int]
  simp only [Tryd.ntmps70, Tryd.results70, eInt, eStr, rBool, rInt, rStr, rTwo, rIB, List.map_cons, List.map_nil]
  generalize hBQ : retQ _ _ _ = BQ
  iterate 2 (refine wpL_region Tryd.tyOk (by decide) ?_; simp only [go_sem, ↓reduceIte, Nat.reduceEqDiff, Nat.reduceAdd, Nat.reduceLeDiff, Nat.reduceMul, Nat.reducePow, Nat.reduceLT, Nat.reduceSub, Int.reduceEq, Int.reduceLT, Int.reduceLE, Int.reduceNeg, Int.reduceToNat, Int.cast_ofNat_Int])
  refine ⟨_, right24 l hl, ?_⟩
  cases hr : rightS l
  · simp only [go_sem, ↓reduceIte, Nat.reduceEqDiff, Nat.reduceAdd, Nat.reduceLeDiff, Nat.reduceMul, Nat.reducePow, Nat.reduceLT, Nat.reduceSub, Int.reduceEq, Int.reduceLT, Int.reduceLE, Int.reduceNeg, Int.reduceToNat, Int.cast_ofNat_Int]
    refine wpL_cond (t := true) (by simp only [go_sem, ↓reduceIte, Nat.reduceEqDiff]) (fun _ => ?_) (fun h => by cases h)
    refine wpL_region Tryd.tyOk (by decide) ?_
    simp only [go_sem, ↓reduceIte, Nat.reduceEqDiff, Nat.reduceAdd, Nat.reduceLeDiff, Nat.reduceMul, Nat.reducePow, Nat.reduceLT, Nat.reduceSub, Int.reduceEq, Int.reduceLT, Int.reduceLE, Int.reduceNeg, Int.reduceToNat, Int.cast_ofNat_Int]
    refine wpL_ret ?_
    rw [← hBQ]
    try simp only [go_sem, ↓reduceIte, Nat.reduceEqDiff]
    simp [sizeS, hr]
  · simp only [go_sem, ↓reduceIte, Nat.reduceEqDiff, Nat.reduceAdd, Nat.reduceLeDiff, Nat.reduceMul, Nat.reducePow, Nat.reduceLT, Nat.reduceSub, Int.reduceEq, Int.reduceLT, Int.reduceLE, Int.reduceNeg, Int.reduceToNat, Int.cast_ofNat_Int]
    refine wpL_cond (t := false) (by simp only [go_sem, ↓reduceIte, Nat.reduceEqDiff]) (fun h => by cases h) (fun _ => ?_)
    refine wpL_skip ?_
    refine wpL_region Tryd.tyOk (by decide) ?_
    simp only [go_sem, ↓reduceIte, Nat.reduceEqDiff, Nat.reduceAdd, Nat.reduceLeDiff, Nat.reduceMul, Nat.reducePow, Nat.reduceLT, Nat.reduceSub, Int.reduceEq, Int.reduceLT, Int.reduceLE, Int.reduceNeg, Int.reduceToNat, Int.cast_ofNat_Int]
    refine ⟨_, product30 l hl (right_small hr).1, ?_⟩
    simp only [go_sem, ↓reduceIte, Nat.reduceEqDiff, Nat.reduceAdd, Nat.reduceLeDiff, Nat.reduceMul, Nat.reducePow, Nat.reduceLT, Nat.reduceSub, Int.reduceEq, Int.reduceLT, Int.reduceLE, Int.reduceNeg, Int.reduceToNat, Int.cast_ofNat_Int]
    refine wpL_ret ?_
    rw [← hBQ]
    try simp only [go_sem, ↓reduceIte, Nat.reduceEqDiff]
    simp [sizeS, hr]

/-- The part from a to b. -/
def seg (l : List Int) (a b : Nat) : List Int := (l.take b).drop a
theorem seg_self (l : List Int) (a : Nat) : seg l a a = [] := by simp [seg]
theorem seg_succ {l : List Int} {a i : Nat} {d : Int} (ha : a ≤ i) (hd : l[i]? = some d) : seg l a (i + 1) = seg l a i ++ [d] := by
  have hi := (List.getElem?_eq_some_iff.1 hd).1
  unfold seg
  rw [take_succ_get hd, List.drop_append_of_le_length (by simp; omega)]
theorem Small.seg {l : List Int} (h : Small l) (a b : Nat) : Small (seg l a b) := (h.take b).drop a

/-! ### Offsets -/
@[go_sem] def rInts (l : List Int) : Res := .one (.c (.d (.sl (eInts l))))
@[go_sem] def rLB (p : List Int × Bool) : Res := .tup [.c (.d (.sl (eInts p.1))), .c (.d (.sc (.bool p.2)))]
theorem eInts_nil : eInts [] = [] := rfl

theorem clone27 (l : List Int) (hl : l.length ≤ 1000000) : Gives Tryd.prog 31 [.c (.sl (eInts l))] (rInts l) := by
  by_cases h : l = []
  · subst h
    refine Gives.ofNil fun ad c => ?_
    refine Gives.intro Tryd.tyOk Tryd.func31 (by kernel_rfl) rfl (by simp [Tryd.ntmps31]) ?_
    simp only [go_sem, ↓reduceIte, Nat.reduceEqDiff, Nat.reduceAdd, Nat.reduceLeDiff, Nat.reduceMul, Nat.reducePow, Nat.reduceLT, Nat.reduceSub, Int.reduceEq, Int.reduceLT, Int.reduceLE, Int.reduceNeg, Int.reduceToNat, Int.cast_ofNat_Int]
    simp only [Tryd.ntmps31, Tryd.results31, eInt, eStr, rBool, rInt, rStr, rTwo, rIB, rInts, rLB, List.map_cons, List.map_nil]
    generalize hBQ : retQ _ _ _ = BQ
    iterate 2 (refine wpL_region Tryd.tyOk (by decide) ?_; simp only [go_sem, ↓reduceIte, Nat.reduceEqDiff, Nat.reduceAdd, Nat.reduceLeDiff, Nat.reduceMul, Nat.reducePow, Nat.reduceLT, Nat.reduceSub, Int.reduceEq, Int.reduceLT, Int.reduceLE, Int.reduceNeg, Int.reduceToNat, Int.cast_ofNat_Int])
    cases ad with
    | none =>
      refine wpL_cond (t := true) (by simp only [go_sem, ↓reduceIte, Nat.reduceEqDiff]) (fun _ => ?_) (fun h => by cases h)
      refine wpL_region Tryd.tyOk (by decide) ?_
      simp only [go_sem, ↓reduceIte, Nat.reduceEqDiff, Nat.reduceAdd, Nat.reduceLeDiff, Nat.reduceMul, Nat.reducePow, Nat.reduceLT, Nat.reduceSub, Int.reduceEq, Int.reduceLT, Int.reduceLE, Int.reduceNeg, Int.reduceToNat, Int.cast_ofNat_Int]
      refine wpL_ret ?_
      rw [← hBQ]
      try simp only [go_sem, ↓reduceIte, Nat.reduceEqDiff]
      simp [eInts]
    | some ad =>
      refine wpL_cond (t := false) (by simp only [go_sem, ↓reduceIte, Nat.reduceEqDiff]) (fun h => by cases h) (fun _ => ?_)
      refine wpL_skip ?_
      refine wpL_region Tryd.tyOk (by decide) ?_
      simp only [go_sem, ↓reduceIte, Nat.reduceEqDiff, Nat.reduceAdd, Nat.reduceLeDiff, Nat.reduceMul, Nat.reducePow, Nat.reduceLT, Nat.reduceSub, Int.reduceEq, Int.reduceLT, Int.reduceLE, Int.reduceNeg, Int.reduceToNat, Int.cast_ofNat_Int]
      refine ⟨fun z hz => by simp at hz, ?_⟩
      refine wpL_ret ?_
      rw [← hBQ]
      try simp only [go_sem, ↓reduceIte, Nat.reduceEqDiff]
      simp [eInts]
  · have hne : eInts l ≠ [] := by simpa [eInts] using h
    refine Gives.intro Tryd.tyOk Tryd.func31 (by kernel_rfl) rfl (by simp [Tryd.ntmps31]) ?_
    simp only [go_sem, ↓reduceIte, Nat.reduceEqDiff, Nat.reduceAdd, Nat.reduceLeDiff, Nat.reduceMul, Nat.reducePow, Nat.reduceLT, Nat.reduceSub, Int.reduceEq, Int.reduceLT, Int.reduceLE, Int.reduceNeg, Int.reduceToNat, Int.cast_ofNat_Int]
    simp only [Tryd.ntmps31, Tryd.results31, eInt, eStr, rBool, rInt, rStr, rTwo, rIB, rInts, rLB, List.map_cons, List.map_nil]
    generalize hBQ : retQ _ _ _ = BQ
    iterate 2 (refine wpL_region Tryd.tyOk (by decide) ?_; simp only [go_sem, ↓reduceIte, Nat.reduceEqDiff, Nat.reduceAdd, Nat.reduceLeDiff, Nat.reduceMul, Nat.reducePow, Nat.reduceLT, Nat.reduceSub, Int.reduceEq, Int.reduceLT, Int.reduceLE, Int.reduceNeg, Int.reduceToNat, Int.cast_ofNat_Int])
    refine ⟨by simpa using hne, ?_⟩
    refine wpL_cond (t := false) (by simp only [go_sem, ↓reduceIte, Nat.reduceEqDiff]) (fun h => by cases h) (fun _ => ?_)
    refine wpL_skip ?_
    refine wpL_region Tryd.tyOk (by decide) ?_
    simp only [go_sem, ↓reduceIte, Nat.reduceEqDiff, Nat.reduceAdd, Nat.reduceLeDiff, Nat.reduceMul, Nat.reducePow, Nat.reduceLT, Nat.reduceSub, Int.reduceEq, Int.reduceLT, Int.reduceLE, Int.reduceNeg, Int.reduceToNat, Int.cast_ofNat_Int]
    refine ⟨⟨by omega, eInts_one l⟩, ?_⟩
    refine wpL_ret ?_
    rw [← hBQ]
    try simp only [go_sem, ↓reduceIte, Nat.reduceEqDiff]
    try simp only [go_sem, ↓reduceIte, Nat.reduceEqDiff]

end Go.Proofs.YtkkkdfhnpamnkaaDoor
