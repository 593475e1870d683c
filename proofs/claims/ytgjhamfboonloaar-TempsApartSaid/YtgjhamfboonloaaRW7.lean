/-
  The walks of layer 49, continued: common operations of the specification.
-/
import Derived.Test.YtgjhamfboonloaaRW6
set_option linter.unusedSimpArgs false
set_option linter.unusedVariables false
set_option maxRecDepth 100000
set_option maxHeartbeats 4000000
namespace Go.Proofs.YtgjhamfboonloaaR
open Go.Abs Go

theorem eInts_set (l : List Int) (i : Nat) (n : Int) : (eInts l).set i [eInt n] = eInts (l.set i n) := by
  simp [eInts, List.map_set]
def firstSame (x : KOp) : Nat → List KOp → Int → Int
  | _, [], acc => acc
  | j, y :: l, acc => firstSame x (j + 1) l (if acc < 0 ∧ sameKey y x = true then (j : Int) else acc)
def movedOp (o : KOp) (n : Int) (to : List Int) : KOp := { prim := o.prim, a := movedS o.a n to, b := movedS o.b n to, pos := o.pos }
def sameAt (len i : Nat) (x : KOp) (out : List KOp) : Int := if i + 1 < len then firstSame x 0 out (-1) else -1
def commonRFrom (n : Int) (len : Nat) : Nat → List KOp → List Int → List KOp → List KOp
  | i, o :: l, to, out => if 0 ≤ sameAt len i (movedOp o n to) out then commonRFrom n len (i + 1) l (to.set i (n + sameAt len i (movedOp o n to) out)) out
    else commonRFrom n len (i + 1) l (to.set i (n + out.length)) (out ++ [movedOp o n to])
  | _, [], _, out => out
def zeros (n : Nat) : List Int := List.replicate n 0
def commonRS (k : Kernel) : Kernel := if right k = 0 then { inputs := k.inputs, ops := commonRFrom k.inputs k.ops.length 0 k.ops (zeros k.ops.length) [], reduce := k.reduce, pos := k.pos } else zeroK

theorem common19 (k : Kernel) : Gives Try.prog 19 [.agg (eKernel k)] (rKernel (commonRS k)) := by
  refine Gives.intro Try.tyOk Try.func19 (by kernel_rfl) rfl (by simp [Try.ntmps19]) ?_
  simp only [go_sem, ↓reduceIte, Nat.reduceEqDiff, Nat.reduceAdd, Nat.reduceLeDiff, Nat.reduceMul, Nat.reducePow, Nat.reduceLT, Nat.reduceSub, Int.reduceEq, Int.reduceLT, Int.reduceLE, Int.reduceNeg, Int.reduceToNat]
  simp only [Try.ntmps19, Try.results19, eInt, keyOf, eKOp, eKernel, rBool, rInt, rInts, List.map_cons, List.map_nil]
  generalize hBQ : retQ _ _ _ = BQ
  refine wpL_region Try.tyOk (by decide) ?_
  simp only [go_sem, ↓reduceIte, Nat.reduceEqDiff, Nat.reduceAdd, Nat.reduceLeDiff, Nat.reduceMul, Nat.reducePow, Nat.reduceLT, Nat.reduceSub, Int.reduceEq, Int.reduceLT, Int.reduceLE, Int.reduceNeg, Int.reduceToNat]
  refine wpL_region Try.tyOk (by decide) ?_
  simp only [go_sem, ↓reduceIte, Nat.reduceEqDiff, Nat.reduceAdd, Nat.reduceLeDiff, Nat.reduceMul, Nat.reducePow, Nat.reduceLT, Nat.reduceSub, Int.reduceEq, Int.reduceLT, Int.reduceLE, Int.reduceNeg, Int.reduceToNat]
  refine ⟨_, right26 k, ?_⟩
  simp only [go_sem, ↓reduceIte, Nat.reduceEqDiff, Nat.reduceAdd, Nat.reduceLeDiff, Nat.reduceMul, Nat.reducePow, Nat.reduceLT, Nat.reduceSub, Int.reduceEq, Int.reduceLT, Int.reduceLE, Int.reduceNeg, Int.reduceToNat]
  refine wpL_cond (t := !decide (right k = 0)) (by rfl) (fun hb => ?_) (fun hb => ?_)
  · have hr : ¬ right k = 0 := by simpa using hb
    simp only [go_sem, ↓reduceIte, Nat.reduceEqDiff, Nat.reduceAdd, Nat.reduceLeDiff, Nat.reduceMul, Nat.reducePow, Nat.reduceLT, Nat.reduceSub, Int.reduceEq, Int.reduceLT, Int.reduceLE, Int.reduceNeg, Int.reduceToNat]
    refine wpL_region Try.tyOk (by decide) ?_
    simp only [go_sem, ↓reduceIte, Nat.reduceEqDiff, Nat.reduceAdd, Nat.reduceLeDiff, Nat.reduceMul, Nat.reducePow, Nat.reduceLT, Nat.reduceSub, Int.reduceEq, Int.reduceLT, Int.reduceLE, Int.reduceNeg, Int.reduceToNat]
    refine wpL_nilCell 2 1 77 40 4 rfl rfl (by decide) rfl ?_
    refine wpL_ret ?_
    try simp only [go_sem, ↓reduceIte, Nat.reduceEqDiff, Nat.reduceAdd, Nat.reduceLeDiff, Nat.reduceMul, Nat.reducePow, Nat.reduceLT, Nat.reduceSub, Int.reduceEq, Int.reduceLT, Int.reduceLE, Int.reduceNeg, Int.reduceToNat]
    rw [← hBQ]
    try simp only [go_sem, ↓reduceIte, Nat.reduceEqDiff, Nat.reduceAdd, Nat.reduceLeDiff, Nat.reduceMul, Nat.reducePow, Nat.reduceLT, Nat.reduceSub, Int.reduceEq, Int.reduceLT, Int.reduceLE, Int.reduceNeg, Int.reduceToNat]
    simp [commonRS, hr, zeroK]
  have hr : right k = 0 := by simpa using hb
  obtain ⟨⟨hk1, hk2, hk3, hk4⟩, hval⟩ := right_zero hr
  simp only [go_sem, ↓reduceIte, Nat.reduceEqDiff, Nat.reduceAdd, Nat.reduceLeDiff, Nat.reduceMul, Nat.reducePow, Nat.reduceLT, Nat.reduceSub, Int.reduceEq, Int.reduceLT, Int.reduceLE, Int.reduceNeg, Int.reduceToNat]
  refine wpL_skip ?_
  refine wpL_region Try.tyOk (by decide) ?_
  simp only [go_sem, ↓reduceIte, Nat.reduceEqDiff, Nat.reduceAdd, Nat.reduceLeDiff, Nat.reduceMul, Nat.reducePow, Nat.reduceLT, Nat.reduceSub, Int.reduceEq, Int.reduceLT, Int.reduceLE, Int.reduceNeg, Int.reduceToNat]
  refine wpL_region Try.tyOk (by decide) ?_
  simp only [go_sem, ↓reduceIte, Nat.reduceEqDiff, Nat.reduceAdd, Nat.reduceLeDiff, Nat.reduceMul, Nat.reducePow, Nat.reduceLT, Nat.reduceSub, Int.reduceEq, Int.reduceLT, Int.reduceLE, Int.reduceNeg, Int.reduceToNat, List.length_map]
  refine ⟨⟨by omega, by omega⟩, ?_⟩
  refine wpL_region Try.tyOk (by decide) ?_
  simp only [go_sem, ↓reduceIte, Nat.reduceEqDiff, Nat.reduceAdd, Nat.reduceLeDiff, Nat.reduceMul, Nat.reducePow, Nat.reduceLT, Nat.reduceSub, Int.reduceEq, Int.reduceLT, Int.reduceLE, Int.reduceNeg, Int.reduceToNat]
  refine wpL_block ?_
  generalize hB0 : blockQ _ _ _ = B0
  simp only [go_sem, ↓reduceIte, Nat.reduceEqDiff, Nat.reduceAdd, Nat.reduceLeDiff, Nat.reduceMul, Nat.reducePow, Nat.reduceLT, Nat.reduceSub, Int.reduceEq, Int.reduceLT, Int.reduceLE, Int.reduceNeg, Int.reduceToNat]
  refine wpL_nilCell 3 1 77 40 4 rfl rfl (by decide) rfl ?_
  refine wpL_loop (fun n s => ∃ i : Nat, i ≤ k.ops.length ∧ n = k.ops.length - i ∧ ∃ (to : List Int) (out : List KOp), to.length = k.ops.length ∧ out.length ≤ i ∧
    commonRFrom k.inputs k.ops.length 0 k.ops (zeros k.ops.length) [] = commonRFrom k.inputs k.ops.length i (k.ops.drop i) to out ∧
    s = ⟨[(5, sint .i64 i), (4, .c (.row 25)), (3, .c (.ptr 3 0)), (2, .c (.ptr 2 0)), (1, .c (.ptr 1 0))], [(25, .arr 3 1 (eInts to) false), (77, .arr 40 4 (out.map eKOp) false), (3, .box [.d (eInt k.inputs), .row 77, .d (eInt k.reduce), .d (eInt k.pos)]), (2, .box [.d (eInt 0), .nil, .d (eInt 0), .d (eInt 0)]), (1, .box ((eKernel k).map .d))]⟩) ?_ ?_
  · refine ⟨_, _, ⟨0, by omega, rfl, zeros k.ops.length, [], by simp [zeros], by simp, by simp, rfl⟩, ?_⟩
    refine le_mk ?_ ?_ ?_
    · simp only [go_sem, ↓reduceIte, Nat.reduceEqDiff, Nat.reduceAdd, Nat.reduceLeDiff, Nat.reduceMul, Nat.reducePow, Nat.reduceLT, Nat.reduceSub, Int.reduceEq, Int.reduceLT, Int.reduceLE, Int.reduceNeg, Int.reduceToNat]
      try simp [eInt, keyOf, eKOp, eKernel, rBool, rInt, rInts, eInts, zeros]
      try simp (disch := omega) only [IntWalk.i64_in, and_self]
    · simp only [go_sem, ↓reduceIte, Nat.reduceEqDiff, Nat.reduceAdd, Nat.reduceLeDiff, Nat.reduceMul, Nat.reducePow, Nat.reduceLT, Nat.reduceSub, Int.reduceEq, Int.reduceLT, Int.reduceLE, Int.reduceNeg, Int.reduceToNat]
      try simp [eInt, keyOf, eKOp, eKernel, rBool, rInt, rInts, eInts, zeros]
      try simp (disch := omega) only [IntWalk.i64_in, and_self]
    · simp only [go_sem, ↓reduceIte, Nat.reduceEqDiff, Nat.reduceAdd, Nat.reduceLeDiff, Nat.reduceMul, Nat.reducePow, Nat.reduceLT, Nat.reduceSub, Int.reduceEq, Int.reduceLT, Int.reduceLE, Int.reduceNeg, Int.reduceToNat]
      try simp [eInt, keyOf, eKOp, eKernel, rBool, rInt, rInts, eInts, zeros]
      try simp (disch := omega) only [IntWalk.i64_in, and_self]
  · rintro n s ⟨i, hi, rfl, to, out, hto, hout, hpre, rfl⟩
    simp only [go_sem, ↓reduceIte, Nat.reduceEqDiff, Nat.reduceAdd, Nat.reduceLeDiff, Nat.reduceMul, Nat.reducePow, Nat.reduceLT, Nat.reduceSub, Int.reduceEq, Int.reduceLT, Int.reduceLE, Int.reduceNeg, Int.reduceToNat]
    refine wpL_region Try.tyOk (by decide) ?_
    simp only [go_sem, ↓reduceIte, Nat.reduceEqDiff, Nat.reduceAdd, Nat.reduceLeDiff, Nat.reduceMul, Nat.reducePow, Nat.reduceLT, Nat.reduceSub, Int.reduceEq, Int.reduceLT, Int.reduceLE, Int.reduceNeg, Int.reduceToNat, List.length_map]
    refine wpL_cond (t := decide ((i : Int) < k.ops.length)) (by simp only [go_sem, ↓reduceIte, Nat.reduceEqDiff, Nat.reduceAdd, Nat.reduceLeDiff, Nat.reduceMul, Nat.reducePow, Nat.reduceLT, Nat.reduceSub, Int.reduceEq, Int.reduceLT, Int.reduceLE, Int.reduceNeg, Int.reduceToNat]) (fun hlt => ?_) (fun hge => ?_)
    · have hlt := lt_of hlt
      obtain ⟨o, ho⟩ := get_ex (l := k.ops) (i := i) (by omega)
      obtain ⟨hva, hvb⟩ := hval i o ho
      obtain ⟨hb1, hb2, hb3, hb4⟩ := badI_false hvb
      rw [drop_get ho, commonRFrom] at hpre
      simp only [go_sem, ↓reduceIte, Nat.reduceEqDiff, Nat.reduceAdd, Nat.reduceLeDiff, Nat.reduceMul, Nat.reducePow, Nat.reduceLT, Nat.reduceSub, Int.reduceEq, Int.reduceLT, Int.reduceLE, Int.reduceNeg, Int.reduceToNat]
      refine wpL_skip ?_
      refine wpL_block ?_
      generalize hB1 : blockQ _ _ _ = B1
      simp only [go_sem, ↓reduceIte, Nat.reduceEqDiff, Nat.reduceAdd, Nat.reduceLeDiff, Nat.reduceMul, Nat.reducePow, Nat.reduceLT, Nat.reduceSub, Int.reduceEq, Int.reduceLT, Int.reduceLE, Int.reduceNeg, Int.reduceToNat]
      refine wpL_region Try.tyOk (by decide) ?_
      simp only [go_sem, ↓reduceIte, Nat.reduceEqDiff, Nat.reduceAdd, Nat.reduceLeDiff, Nat.reduceMul, Nat.reducePow, Nat.reduceLT, Nat.reduceSub, Int.reduceEq, Int.reduceLT, Int.reduceLE, Int.reduceNeg, Int.reduceToNat, eKOps_get ho]
      refine wpL_draw Try.tyOk (by kernel_rfl) 16 (by decide) (by decide) ?_
      simp only [go_sem, ↓reduceIte, Nat.reduceEqDiff, Nat.reduceAdd, Nat.reduceLeDiff, Nat.reduceMul, Nat.reducePow, Nat.reduceLT, Nat.reduceSub, Int.reduceEq, Int.reduceLT, Int.reduceLE, Int.reduceNeg, Int.reduceToNat]
      refine ⟨_, moved31 o.a k to ⟨hk1, hk2⟩ (by omega) (by omega), ?_⟩
      simp only [go_sem, ↓reduceIte, Nat.reduceEqDiff, Nat.reduceAdd, Nat.reduceLeDiff, Nat.reduceMul, Nat.reducePow, Nat.reduceLT, Nat.reduceSub, Int.reduceEq, Int.reduceLT, Int.reduceLE, Int.reduceNeg, Int.reduceToNat]
      refine ⟨_, moved31 o.b k to ⟨hk1, hk2⟩ (by omega) (by omega), ?_⟩
      simp only [go_sem, ↓reduceIte, Nat.reduceEqDiff, Nat.reduceAdd, Nat.reduceLeDiff, Nat.reduceMul, Nat.reducePow, Nat.reduceLT, Nat.reduceSub, Int.reduceEq, Int.reduceLT, Int.reduceLE, Int.reduceNeg, Int.reduceToNat]
      have hw1 : IntKind.i64.wrap ((k.ops.length : Int) - 1) = (k.ops.length : Int) - 1 := IntWalk.i64_in _ (by omega)
      generalize hx : movedOp o k.inputs to = x at *
      refine wpL_to ⟨[(8, sint .i64 (-1)), (7, .c (.ptr 7 0)), (5, sint .i64 i), (4, .c (.row 25)), (3, .c (.ptr 3 0)), (2, .c (.ptr 2 0)), (1, .c (.ptr 1 0))], [(7, .box ((eKOp x).map .d)), (25, .arr 3 1 (eInts to) false), (77, .arr 40 4 (out.map eKOp) false), (3, .box [.d (eInt k.inputs), .row 77, .d (eInt k.reduce), .d (eInt k.pos)]), (2, .box [.d (eInt 0), .nil, .d (eInt 0), .d (eInt 0)]), (1, .box ((eKernel k).map .d))]⟩ ?_ ?_
      · refine wpL_region Try.tyOk (by decide) ?_
        simp only [go_sem, ↓reduceIte, Nat.reduceEqDiff, Nat.reduceAdd, Nat.reduceLeDiff, Nat.reduceMul, Nat.reducePow, Nat.reduceLT, Nat.reduceSub, Int.reduceEq, Int.reduceLT, Int.reduceLE, Int.reduceNeg, Int.reduceToNat]
        refine le_mk ?_ ?_ ?_
        · simp only [go_sem, ↓reduceIte, Nat.reduceEqDiff, Nat.reduceAdd, Nat.reduceLeDiff, Nat.reduceMul, Nat.reducePow, Nat.reduceLT, Nat.reduceSub, Int.reduceEq, Int.reduceLT, Int.reduceLE, Int.reduceNeg, Int.reduceToNat]
          try simp [eInt, keyOf, eKOp, eKernel, rBool, rInt, rInts, eInts, ← hx, movedOp]
          try simp (disch := omega) only [IntWalk.i64_in, and_self]
        · simp only [go_sem, ↓reduceIte, Nat.reduceEqDiff, Nat.reduceAdd, Nat.reduceLeDiff, Nat.reduceMul, Nat.reducePow, Nat.reduceLT, Nat.reduceSub, Int.reduceEq, Int.reduceLT, Int.reduceLE, Int.reduceNeg, Int.reduceToNat]
          try simp [eInt, keyOf, eKOp, eKernel, rBool, rInt, rInts, eInts, ← hx, movedOp]
          try simp (disch := omega) only [IntWalk.i64_in, and_self]
        · simp only [go_sem, ↓reduceIte, Nat.reduceEqDiff, Nat.reduceAdd, Nat.reduceLeDiff, Nat.reduceMul, Nat.reducePow, Nat.reduceLT, Nat.reduceSub, Int.reduceEq, Int.reduceLT, Int.reduceLE, Int.reduceNeg, Int.reduceToNat]
          try simp [eInt, keyOf, eKOp, eKernel, rBool, rInt, rInts, eInts, ← hx, movedOp]
          try simp (disch := omega) only [IntWalk.i64_in, and_self]
      refine wpL_region Try.tyOk (by decide) ?_
      simp only [go_sem, ↓reduceIte, Nat.reduceEqDiff, Nat.reduceAdd, Nat.reduceLeDiff, Nat.reduceMul, Nat.reducePow, Nat.reduceLT, Nat.reduceSub, Int.reduceEq, Int.reduceLT, Int.reduceLE, Int.reduceNeg, Int.reduceToNat]
      refine wpL_block ?_
      generalize hB2 : blockQ _ _ _ = B2
      simp only [go_sem, ↓reduceIte, Nat.reduceEqDiff, Nat.reduceAdd, Nat.reduceLeDiff, Nat.reduceMul, Nat.reducePow, Nat.reduceLT, Nat.reduceSub, Int.reduceEq, Int.reduceLT, Int.reduceLE, Int.reduceNeg, Int.reduceToNat]
      refine wpL_loop (fun n s => ∃ j : Nat, j ≤ out.length ∧ n = out.length - j ∧ ∃ acc : Int, -1 ≤ acc ∧ acc < out.length ∧ sameAt k.ops.length i x out = (if i + 1 < k.ops.length then firstSame x j (out.drop j) acc else -1) ∧ (¬ i + 1 < k.ops.length → acc = -1) ∧
        s = ⟨[(9, sint .i64 j), (8, sint .i64 acc), (7, .c (.ptr 7 0)), (5, sint .i64 i), (4, .c (.row 25)), (3, .c (.ptr 3 0)), (2, .c (.ptr 2 0)), (1, .c (.ptr 1 0))], [(7, .box ((eKOp x).map .d)), (25, .arr 3 1 (eInts to) false), (77, .arr 40 4 (out.map eKOp) false), (3, .box [.d (eInt k.inputs), .row 77, .d (eInt k.reduce), .d (eInt k.pos)]), (2, .box [.d (eInt 0), .nil, .d (eInt 0), .d (eInt 0)]), (1, .box ((eKernel k).map .d))]⟩) ?_ ?_
      · refine ⟨_, _, ⟨0, by omega, rfl, -1, by omega, by omega, rfl, fun _ => rfl, rfl⟩, ?_⟩
        refine le_mk ?_ ?_ ?_
        · simp only [go_sem, ↓reduceIte, Nat.reduceEqDiff, Nat.reduceAdd, Nat.reduceLeDiff, Nat.reduceMul, Nat.reducePow, Nat.reduceLT, Nat.reduceSub, Int.reduceEq, Int.reduceLT, Int.reduceLE, Int.reduceNeg, Int.reduceToNat]
          try simp [eInt, keyOf, eKOp, eKernel, rBool, rInt, rInts, eInts]
          try simp (disch := omega) only [IntWalk.i64_in, and_self]
        · simp only [go_sem, ↓reduceIte, Nat.reduceEqDiff, Nat.reduceAdd, Nat.reduceLeDiff, Nat.reduceMul, Nat.reducePow, Nat.reduceLT, Nat.reduceSub, Int.reduceEq, Int.reduceLT, Int.reduceLE, Int.reduceNeg, Int.reduceToNat]
          try simp [eInt, keyOf, eKOp, eKernel, rBool, rInt, rInts, eInts]
          try simp (disch := omega) only [IntWalk.i64_in, and_self]
        · simp only [go_sem, ↓reduceIte, Nat.reduceEqDiff, Nat.reduceAdd, Nat.reduceLeDiff, Nat.reduceMul, Nat.reducePow, Nat.reduceLT, Nat.reduceSub, Int.reduceEq, Int.reduceLT, Int.reduceLE, Int.reduceNeg, Int.reduceToNat]
          try simp [eInt, keyOf, eKOp, eKernel, rBool, rInt, rInts, eInts]
          try simp (disch := omega) only [IntWalk.i64_in, and_self]
      · rintro n s ⟨j, hj, rfl, acc, hacc1, hacc2, hsame, hacc, rfl⟩
        simp only [go_sem, ↓reduceIte, Nat.reduceEqDiff, Nat.reduceAdd, Nat.reduceLeDiff, Nat.reduceMul, Nat.reducePow, Nat.reduceLT, Nat.reduceSub, Int.reduceEq, Int.reduceLT, Int.reduceLE, Int.reduceNeg, Int.reduceToNat]
        refine wpL_to ⟨[(65, .c (.d (.sc (.bool (decide ((j : Int) < out.length) && decide ((i : Int) < (k.ops.length : Int) - 1)))))), (9, sint .i64 j), (8, sint .i64 acc), (7, .c (.ptr 7 0)), (5, sint .i64 i), (4, .c (.row 25)), (3, .c (.ptr 3 0)), (2, .c (.ptr 2 0)), (1, .c (.ptr 1 0))], [(7, .box ((eKOp x).map .d)), (25, .arr 3 1 (eInts to) false), (77, .arr 40 4 (out.map eKOp) false), (3, .box [.d (eInt k.inputs), .row 77, .d (eInt k.reduce), .d (eInt k.pos)]), (2, .box [.d (eInt 0), .nil, .d (eInt 0), .d (eInt 0)]), (1, .box ((eKernel k).map .d))]⟩ ?_ ?_
        · by_cases h1 : (j : Int) < out.length
          · refine wpL_region Try.tyOk (by decide) ?_
            simp only [go_sem, ↓reduceIte, Nat.reduceEqDiff, Nat.reduceAdd, Nat.reduceLeDiff, Nat.reduceMul, Nat.reducePow, Nat.reduceLT, Nat.reduceSub, Int.reduceEq, Int.reduceLT, Int.reduceLE, Int.reduceNeg, Int.reduceToNat, h1, List.length_map, hw1]
            refine le_mk ?_ ?_ ?_
            · simp only [go_sem, ↓reduceIte, Nat.reduceEqDiff, Nat.reduceAdd, Nat.reduceLeDiff, Nat.reduceMul, Nat.reducePow, Nat.reduceLT, Nat.reduceSub, Int.reduceEq, Int.reduceLT, Int.reduceLE, Int.reduceNeg, Int.reduceToNat]
              try simp [eInt, keyOf, eKOp, eKernel, rBool, rInt, rInts, eInts, h1]
              try simp (disch := omega) only [IntWalk.i64_in, and_self]
            · simp only [go_sem, ↓reduceIte, Nat.reduceEqDiff, Nat.reduceAdd, Nat.reduceLeDiff, Nat.reduceMul, Nat.reducePow, Nat.reduceLT, Nat.reduceSub, Int.reduceEq, Int.reduceLT, Int.reduceLE, Int.reduceNeg, Int.reduceToNat]
              try simp [eInt, keyOf, eKOp, eKernel, rBool, rInt, rInts, eInts, h1]
              try simp (disch := omega) only [IntWalk.i64_in, and_self]
            · simp only [go_sem, ↓reduceIte, Nat.reduceEqDiff, Nat.reduceAdd, Nat.reduceLeDiff, Nat.reduceMul, Nat.reducePow, Nat.reduceLT, Nat.reduceSub, Int.reduceEq, Int.reduceLT, Int.reduceLE, Int.reduceNeg, Int.reduceToNat]
              try simp [eInt, keyOf, eKOp, eKernel, rBool, rInt, rInts, eInts, h1]
              try simp (disch := omega) only [IntWalk.i64_in, and_self]
          · refine wpL_region Try.tyOk (by decide) ?_
            simp only [go_sem, ↓reduceIte, Nat.reduceEqDiff, Nat.reduceAdd, Nat.reduceLeDiff, Nat.reduceMul, Nat.reducePow, Nat.reduceLT, Nat.reduceSub, Int.reduceEq, Int.reduceLT, Int.reduceLE, Int.reduceNeg, Int.reduceToNat, h1, List.length_map, hw1]
            refine le_mk ?_ ?_ ?_
            · simp only [go_sem, ↓reduceIte, Nat.reduceEqDiff, Nat.reduceAdd, Nat.reduceLeDiff, Nat.reduceMul, Nat.reducePow, Nat.reduceLT, Nat.reduceSub, Int.reduceEq, Int.reduceLT, Int.reduceLE, Int.reduceNeg, Int.reduceToNat]
              try simp [eInt, keyOf, eKOp, eKernel, rBool, rInt, rInts, eInts, h1]
              try simp (disch := omega) only [IntWalk.i64_in, and_self]
            · simp only [go_sem, ↓reduceIte, Nat.reduceEqDiff, Nat.reduceAdd, Nat.reduceLeDiff, Nat.reduceMul, Nat.reducePow, Nat.reduceLT, Nat.reduceSub, Int.reduceEq, Int.reduceLT, Int.reduceLE, Int.reduceNeg, Int.reduceToNat]
              try simp [eInt, keyOf, eKOp, eKernel, rBool, rInt, rInts, eInts, h1]
              try simp (disch := omega) only [IntWalk.i64_in, and_self]
            · simp only [go_sem, ↓reduceIte, Nat.reduceEqDiff, Nat.reduceAdd, Nat.reduceLeDiff, Nat.reduceMul, Nat.reducePow, Nat.reduceLT, Nat.reduceSub, Int.reduceEq, Int.reduceLT, Int.reduceLE, Int.reduceNeg, Int.reduceToNat]
              try simp [eInt, keyOf, eKOp, eKernel, rBool, rInt, rInts, eInts, h1]
              try simp (disch := omega) only [IntWalk.i64_in, and_self]
        refine wpL_cond (t := decide ((j : Int) < out.length) && decide ((i : Int) < (k.ops.length : Int) - 1)) (by rfl) (fun hc => ?_) (fun hc => ?_)
        · have hc' : j < out.length ∧ i + 1 < k.ops.length := by simp at hc; omega
          obtain ⟨y, hy⟩ := get_ex (l := out) (i := j) hc'.1
          rw [if_pos hc'.2, drop_get hy, firstSame] at hsame
          have hlm : (j : Int) < out.length := by omega
          simp only [go_sem, ↓reduceIte, Nat.reduceEqDiff, Nat.reduceAdd, Nat.reduceLeDiff, Nat.reduceMul, Nat.reducePow, Nat.reduceLT, Nat.reduceSub, Int.reduceEq, Int.reduceLT, Int.reduceLE, Int.reduceNeg, Int.reduceToNat]
          refine wpL_skip ?_
          refine wpL_block ?_
          generalize hB3 : blockQ _ _ _ = B3
          simp only [go_sem, ↓reduceIte, Nat.reduceEqDiff, Nat.reduceAdd, Nat.reduceLeDiff, Nat.reduceMul, Nat.reducePow, Nat.reduceLT, Nat.reduceSub, Int.reduceEq, Int.reduceLT, Int.reduceLE, Int.reduceNeg, Int.reduceToNat]
          refine wpL_region Try.tyOk (by decide) ?_
          simp only [go_sem, ↓reduceIte, Nat.reduceEqDiff, Nat.reduceAdd, Nat.reduceLeDiff, Nat.reduceMul, Nat.reducePow, Nat.reduceLT, Nat.reduceSub, Int.reduceEq, Int.reduceLT, Int.reduceLE, Int.reduceNeg, Int.reduceToNat, eKOps_get hy, List.length_map, hlm]
          refine wpL_to ⟨[(95, .c (.d (.sc (.bool (decide (acc < 0) && sameKey y x))))), (9, sint .i64 j), (8, sint .i64 acc), (7, .c (.ptr 7 0)), (5, sint .i64 i), (4, .c (.row 25)), (3, .c (.ptr 3 0)), (2, .c (.ptr 2 0)), (1, .c (.ptr 1 0))], [(10, .box ((eKOp y).map .d)), (7, .box ((eKOp x).map .d)), (25, .arr 3 1 (eInts to) false), (77, .arr 40 4 (out.map eKOp) false), (3, .box [.d (eInt k.inputs), .row 77, .d (eInt k.reduce), .d (eInt k.pos)]), (2, .box [.d (eInt 0), .nil, .d (eInt 0), .d (eInt 0)]), (1, .box ((eKernel k).map .d))]⟩ ?_ ?_
          · by_cases h1 : acc < 0
            · by_cases h2 : y.prim = x.prim
              · by_cases h3 : y.a = x.a
                · refine wpL_region Try.tyOk (by decide) ?_
                  simp only [go_sem, ↓reduceIte, Nat.reduceEqDiff, Nat.reduceAdd, Nat.reduceLeDiff, Nat.reduceMul, Nat.reducePow, Nat.reduceLT, Nat.reduceSub, Int.reduceEq, Int.reduceLT, Int.reduceLE, Int.reduceNeg, Int.reduceToNat, h1, h2, h3]
                  refine le_mk ?_ ?_ ?_
                  · simp only [go_sem, ↓reduceIte, Nat.reduceEqDiff, Nat.reduceAdd, Nat.reduceLeDiff, Nat.reduceMul, Nat.reducePow, Nat.reduceLT, Nat.reduceSub, Int.reduceEq, Int.reduceLT, Int.reduceLE, Int.reduceNeg, Int.reduceToNat]
                    try simp [eInt, keyOf, eKOp, eKernel, rBool, rInt, rInts, eInts, h1, h2, h3, sameKey]
                    try simp (disch := omega) only [IntWalk.i64_in, and_self]
                  · simp only [go_sem, ↓reduceIte, Nat.reduceEqDiff, Nat.reduceAdd, Nat.reduceLeDiff, Nat.reduceMul, Nat.reducePow, Nat.reduceLT, Nat.reduceSub, Int.reduceEq, Int.reduceLT, Int.reduceLE, Int.reduceNeg, Int.reduceToNat]
                    try simp [eInt, keyOf, eKOp, eKernel, rBool, rInt, rInts, eInts, h1, h2, h3, sameKey]
                    try simp (disch := omega) only [IntWalk.i64_in, and_self]
                  · simp only [go_sem, ↓reduceIte, Nat.reduceEqDiff, Nat.reduceAdd, Nat.reduceLeDiff, Nat.reduceMul, Nat.reducePow, Nat.reduceLT, Nat.reduceSub, Int.reduceEq, Int.reduceLT, Int.reduceLE, Int.reduceNeg, Int.reduceToNat]
                    try simp [eInt, keyOf, eKOp, eKernel, rBool, rInt, rInts, eInts, h1, h2, h3, sameKey]
                    try simp (disch := omega) only [IntWalk.i64_in, and_self]
                · refine wpL_region Try.tyOk (by decide) ?_
                  simp only [go_sem, ↓reduceIte, Nat.reduceEqDiff, Nat.reduceAdd, Nat.reduceLeDiff, Nat.reduceMul, Nat.reducePow, Nat.reduceLT, Nat.reduceSub, Int.reduceEq, Int.reduceLT, Int.reduceLE, Int.reduceNeg, Int.reduceToNat, h1, h2, h3]
                  refine le_mk ?_ ?_ ?_
                  · simp only [go_sem, ↓reduceIte, Nat.reduceEqDiff, Nat.reduceAdd, Nat.reduceLeDiff, Nat.reduceMul, Nat.reducePow, Nat.reduceLT, Nat.reduceSub, Int.reduceEq, Int.reduceLT, Int.reduceLE, Int.reduceNeg, Int.reduceToNat]
                    try simp [eInt, keyOf, eKOp, eKernel, rBool, rInt, rInts, eInts, h1, h2, h3, sameKey]
                    try simp (disch := omega) only [IntWalk.i64_in, and_self]
                  · simp only [go_sem, ↓reduceIte, Nat.reduceEqDiff, Nat.reduceAdd, Nat.reduceLeDiff, Nat.reduceMul, Nat.reducePow, Nat.reduceLT, Nat.reduceSub, Int.reduceEq, Int.reduceLT, Int.reduceLE, Int.reduceNeg, Int.reduceToNat]
                    try simp [eInt, keyOf, eKOp, eKernel, rBool, rInt, rInts, eInts, h1, h2, h3, sameKey]
                    try simp (disch := omega) only [IntWalk.i64_in, and_self]
                  · simp only [go_sem, ↓reduceIte, Nat.reduceEqDiff, Nat.reduceAdd, Nat.reduceLeDiff, Nat.reduceMul, Nat.reducePow, Nat.reduceLT, Nat.reduceSub, Int.reduceEq, Int.reduceLT, Int.reduceLE, Int.reduceNeg, Int.reduceToNat]
                    try simp [eInt, keyOf, eKOp, eKernel, rBool, rInt, rInts, eInts, h1, h2, h3, sameKey]
                    try simp (disch := omega) only [IntWalk.i64_in, and_self]
              · refine wpL_region Try.tyOk (by decide) ?_
                simp only [go_sem, ↓reduceIte, Nat.reduceEqDiff, Nat.reduceAdd, Nat.reduceLeDiff, Nat.reduceMul, Nat.reducePow, Nat.reduceLT, Nat.reduceSub, Int.reduceEq, Int.reduceLT, Int.reduceLE, Int.reduceNeg, Int.reduceToNat, h1, h2]
                refine le_mk ?_ ?_ ?_
                · simp only [go_sem, ↓reduceIte, Nat.reduceEqDiff, Nat.reduceAdd, Nat.reduceLeDiff, Nat.reduceMul, Nat.reducePow, Nat.reduceLT, Nat.reduceSub, Int.reduceEq, Int.reduceLT, Int.reduceLE, Int.reduceNeg, Int.reduceToNat]
                  try simp [eInt, keyOf, eKOp, eKernel, rBool, rInt, rInts, eInts, h1, h2, sameKey]
                  try simp (disch := omega) only [IntWalk.i64_in, and_self]
                · simp only [go_sem, ↓reduceIte, Nat.reduceEqDiff, Nat.reduceAdd, Nat.reduceLeDiff, Nat.reduceMul, Nat.reducePow, Nat.reduceLT, Nat.reduceSub, Int.reduceEq, Int.reduceLT, Int.reduceLE, Int.reduceNeg, Int.reduceToNat]
                  try simp [eInt, keyOf, eKOp, eKernel, rBool, rInt, rInts, eInts, h1, h2, sameKey]
                  try simp (disch := omega) only [IntWalk.i64_in, and_self]
                · simp only [go_sem, ↓reduceIte, Nat.reduceEqDiff, Nat.reduceAdd, Nat.reduceLeDiff, Nat.reduceMul, Nat.reducePow, Nat.reduceLT, Nat.reduceSub, Int.reduceEq, Int.reduceLT, Int.reduceLE, Int.reduceNeg, Int.reduceToNat]
                  try simp [eInt, keyOf, eKOp, eKernel, rBool, rInt, rInts, eInts, h1, h2, sameKey]
                  try simp (disch := omega) only [IntWalk.i64_in, and_self]
            · refine wpL_region Try.tyOk (by decide) ?_
              simp only [go_sem, ↓reduceIte, Nat.reduceEqDiff, Nat.reduceAdd, Nat.reduceLeDiff, Nat.reduceMul, Nat.reducePow, Nat.reduceLT, Nat.reduceSub, Int.reduceEq, Int.reduceLT, Int.reduceLE, Int.reduceNeg, Int.reduceToNat, h1]
              refine le_mk ?_ ?_ ?_
              · simp only [go_sem, ↓reduceIte, Nat.reduceEqDiff, Nat.reduceAdd, Nat.reduceLeDiff, Nat.reduceMul, Nat.reducePow, Nat.reduceLT, Nat.reduceSub, Int.reduceEq, Int.reduceLT, Int.reduceLE, Int.reduceNeg, Int.reduceToNat]
                try simp [eInt, keyOf, eKOp, eKernel, rBool, rInt, rInts, eInts, h1]
                try simp (disch := omega) only [IntWalk.i64_in, and_self]
              · simp only [go_sem, ↓reduceIte, Nat.reduceEqDiff, Nat.reduceAdd, Nat.reduceLeDiff, Nat.reduceMul, Nat.reducePow, Nat.reduceLT, Nat.reduceSub, Int.reduceEq, Int.reduceLT, Int.reduceLE, Int.reduceNeg, Int.reduceToNat]
                try simp [eInt, keyOf, eKOp, eKernel, rBool, rInt, rInts, eInts, h1]
                try simp (disch := omega) only [IntWalk.i64_in, and_self]
              · simp only [go_sem, ↓reduceIte, Nat.reduceEqDiff, Nat.reduceAdd, Nat.reduceLeDiff, Nat.reduceMul, Nat.reducePow, Nat.reduceLT, Nat.reduceSub, Int.reduceEq, Int.reduceLT, Int.reduceLE, Int.reduceNeg, Int.reduceToNat]
                try simp [eInt, keyOf, eKOp, eKernel, rBool, rInt, rInts, eInts, h1]
                try simp (disch := omega) only [IntWalk.i64_in, and_self]
          refine wpL_cond (t := decide (acc < 0) && sameKey y x) (by rfl) (fun hd => ?_) (fun hd => ?_)
          · have hd' : acc < 0 ∧ sameKey y x = true := by simpa using hd
            rw [if_pos hd'] at hsame
            simp only [go_sem, ↓reduceIte, Nat.reduceEqDiff, Nat.reduceAdd, Nat.reduceLeDiff, Nat.reduceMul, Nat.reducePow, Nat.reduceLT, Nat.reduceSub, Int.reduceEq, Int.reduceLT, Int.reduceLE, Int.reduceNeg, Int.reduceToNat]
            refine wpL_region Try.tyOk (by decide) ?_
            simp only [go_sem, ↓reduceIte, Nat.reduceEqDiff, Nat.reduceAdd, Nat.reduceLeDiff, Nat.reduceMul, Nat.reducePow, Nat.reduceLT, Nat.reduceSub, Int.reduceEq, Int.reduceLT, Int.reduceLE, Int.reduceNeg, Int.reduceToNat]
            rw [← hB3]
            try simp only [go_sem, ↓reduceIte, Nat.reduceEqDiff, Nat.reduceAdd, Nat.reduceLeDiff, Nat.reduceMul, Nat.reducePow, Nat.reduceLT, Nat.reduceSub, Int.reduceEq, Int.reduceLT, Int.reduceLE, Int.reduceNeg, Int.reduceToNat]
            refine wpL_region Try.tyOk (by decide) ?_
            simp only [go_sem, ↓reduceIte, Nat.reduceEqDiff, Nat.reduceAdd, Nat.reduceLeDiff, Nat.reduceMul, Nat.reducePow, Nat.reduceLT, Nat.reduceSub, Int.reduceEq, Int.reduceLT, Int.reduceLE, Int.reduceNeg, Int.reduceToNat]
            refine ⟨_, _, ?_, ⟨j + 1, by omega, rfl, j, by omega, by omega, ?_, fun h => absurd hc'.2 h, rfl⟩, ?_⟩
            · omega
            · rw [if_pos hc'.2]; exact hsame
            · refine le_mk ?_ ?_ ?_
              · simp only [go_sem, ↓reduceIte, Nat.reduceEqDiff, Nat.reduceAdd, Nat.reduceLeDiff, Nat.reduceMul, Nat.reducePow, Nat.reduceLT, Nat.reduceSub, Int.reduceEq, Int.reduceLT, Int.reduceLE, Int.reduceNeg, Int.reduceToNat]
                try simp [eInt, keyOf, eKOp, eKernel, rBool, rInt, rInts, eInts]
                try simp (disch := omega) only [IntWalk.i64_in, and_self]
              · simp only [go_sem, ↓reduceIte, Nat.reduceEqDiff, Nat.reduceAdd, Nat.reduceLeDiff, Nat.reduceMul, Nat.reducePow, Nat.reduceLT, Nat.reduceSub, Int.reduceEq, Int.reduceLT, Int.reduceLE, Int.reduceNeg, Int.reduceToNat]
                try simp [eInt, keyOf, eKOp, eKernel, rBool, rInt, rInts, eInts]
                try simp (disch := omega) only [IntWalk.i64_in, and_self]
              · simp only [go_sem, ↓reduceIte, Nat.reduceEqDiff, Nat.reduceAdd, Nat.reduceLeDiff, Nat.reduceMul, Nat.reducePow, Nat.reduceLT, Nat.reduceSub, Int.reduceEq, Int.reduceLT, Int.reduceLE, Int.reduceNeg, Int.reduceToNat]
                try simp [eInt, keyOf, eKOp, eKernel, rBool, rInt, rInts, eInts]
                try simp (disch := omega) only [IntWalk.i64_in, and_self]
          · have hd' : ¬ (acc < 0 ∧ sameKey y x = true) := by
              intro h; rw [decide_eq_true h.1, h.2] at hd; cases hd
            rw [if_neg hd'] at hsame
            simp only [go_sem, ↓reduceIte, Nat.reduceEqDiff, Nat.reduceAdd, Nat.reduceLeDiff, Nat.reduceMul, Nat.reducePow, Nat.reduceLT, Nat.reduceSub, Int.reduceEq, Int.reduceLT, Int.reduceLE, Int.reduceNeg, Int.reduceToNat]
            refine wpL_skip ?_
            simp only [go_sem, ↓reduceIte, Nat.reduceEqDiff, Nat.reduceAdd, Nat.reduceLeDiff, Nat.reduceMul, Nat.reducePow, Nat.reduceLT, Nat.reduceSub, Int.reduceEq, Int.reduceLT, Int.reduceLE, Int.reduceNeg, Int.reduceToNat]
            rw [← hB3]
            try simp only [go_sem, ↓reduceIte, Nat.reduceEqDiff, Nat.reduceAdd, Nat.reduceLeDiff, Nat.reduceMul, Nat.reducePow, Nat.reduceLT, Nat.reduceSub, Int.reduceEq, Int.reduceLT, Int.reduceLE, Int.reduceNeg, Int.reduceToNat]
            refine wpL_region Try.tyOk (by decide) ?_
            simp only [go_sem, ↓reduceIte, Nat.reduceEqDiff, Nat.reduceAdd, Nat.reduceLeDiff, Nat.reduceMul, Nat.reducePow, Nat.reduceLT, Nat.reduceSub, Int.reduceEq, Int.reduceLT, Int.reduceLE, Int.reduceNeg, Int.reduceToNat]
            refine ⟨_, _, ?_, ⟨j + 1, by omega, rfl, acc, by omega, by omega, ?_, fun h => absurd hc'.2 h, rfl⟩, ?_⟩
            · omega
            · rw [if_pos hc'.2]; exact hsame
            · refine le_mk ?_ ?_ ?_
              · simp only [go_sem, ↓reduceIte, Nat.reduceEqDiff, Nat.reduceAdd, Nat.reduceLeDiff, Nat.reduceMul, Nat.reducePow, Nat.reduceLT, Nat.reduceSub, Int.reduceEq, Int.reduceLT, Int.reduceLE, Int.reduceNeg, Int.reduceToNat]
                try simp [eInt, keyOf, eKOp, eKernel, rBool, rInt, rInts, eInts]
                try simp (disch := omega) only [IntWalk.i64_in, and_self]
              · simp only [go_sem, ↓reduceIte, Nat.reduceEqDiff, Nat.reduceAdd, Nat.reduceLeDiff, Nat.reduceMul, Nat.reducePow, Nat.reduceLT, Nat.reduceSub, Int.reduceEq, Int.reduceLT, Int.reduceLE, Int.reduceNeg, Int.reduceToNat]
                try simp [eInt, keyOf, eKOp, eKernel, rBool, rInt, rInts, eInts]
                try simp (disch := omega) only [IntWalk.i64_in, and_self]
              · simp only [go_sem, ↓reduceIte, Nat.reduceEqDiff, Nat.reduceAdd, Nat.reduceLeDiff, Nat.reduceMul, Nat.reducePow, Nat.reduceLT, Nat.reduceSub, Int.reduceEq, Int.reduceLT, Int.reduceLE, Int.reduceNeg, Int.reduceToNat]
                try simp [eInt, keyOf, eKOp, eKernel, rBool, rInt, rInts, eInts]
                try simp (disch := omega) only [IntWalk.i64_in, and_self]
        · have hres : sameAt k.ops.length i x out = acc := by
            rw [hsame]
            by_cases h1 : i + 1 < k.ops.length
            · rw [if_pos h1, List.drop_of_length_le (by simp at hc; omega)]; rfl
            · rw [if_neg h1, hacc h1]
          rw [hres] at hpre
          refine wpL_exit ?_
          simp only [go_sem, ↓reduceIte, Nat.reduceEqDiff, Nat.reduceAdd, Nat.reduceLeDiff, Nat.reduceMul, Nat.reducePow, Nat.reduceLT, Nat.reduceSub, Int.reduceEq, Int.reduceLT, Int.reduceLE, Int.reduceNeg, Int.reduceToNat]
          rw [← hB2]
          try simp only [go_sem, ↓reduceIte, Nat.reduceEqDiff, Nat.reduceAdd, Nat.reduceLeDiff, Nat.reduceMul, Nat.reducePow, Nat.reduceLT, Nat.reduceSub, Int.reduceEq, Int.reduceLT, Int.reduceLE, Int.reduceNeg, Int.reduceToNat]
          refine wpL_region Try.tyOk (by decide) ?_
          simp only [go_sem, ↓reduceIte, Nat.reduceEqDiff, Nat.reduceAdd, Nat.reduceLeDiff, Nat.reduceMul, Nat.reducePow, Nat.reduceLT, Nat.reduceSub, Int.reduceEq, Int.reduceLT, Int.reduceLE, Int.reduceNeg, Int.reduceToNat, ge_iff_le]
          have hw2 : IntKind.i64.wrap (k.inputs + acc) = k.inputs + acc := IntWalk.i64_in _ (by omega)
          have hw3 : IntKind.i64.wrap (k.inputs + (out.length : Int)) = k.inputs + (out.length : Int) := IntWalk.i64_in _ (by omega)
          refine wpL_cond (t := decide (0 ≤ acc)) (by rfl) (fun hc => ?_) (fun hc => ?_)
          · have hc : 0 ≤ acc := by simpa using hc
            rw [if_pos hc] at hpre
            simp only [go_sem, ↓reduceIte, Nat.reduceEqDiff, Nat.reduceAdd, Nat.reduceLeDiff, Nat.reduceMul, Nat.reducePow, Nat.reduceLT, Nat.reduceSub, Int.reduceEq, Int.reduceLT, Int.reduceLE, Int.reduceNeg, Int.reduceToNat]
            obtain ⟨z, hz⟩ := get_ex (l := to) (i := i) (by omega)
            refine wpL_region Try.tyOk (by decide) ?_
            simp only [go_sem, ↓reduceIte, Nat.reduceEqDiff, Nat.reduceAdd, Nat.reduceLeDiff, Nat.reduceMul, Nat.reducePow, Nat.reduceLT, Nat.reduceSub, Int.reduceEq, Int.reduceLT, Int.reduceLE, Int.reduceNeg, Int.reduceToNat, hw2, eInts_length, eInts_get hz]
            refine ⟨by omega, ?_⟩
            refine wpL_exit ?_
            rw [← hB1]
            try simp only [go_sem, ↓reduceIte, Nat.reduceEqDiff, Nat.reduceAdd, Nat.reduceLeDiff, Nat.reduceMul, Nat.reducePow, Nat.reduceLT, Nat.reduceSub, Int.reduceEq, Int.reduceLT, Int.reduceLE, Int.reduceNeg, Int.reduceToNat]
            refine wpL_region Try.tyOk (by decide) ?_
            simp only [go_sem, ↓reduceIte, Nat.reduceEqDiff, Nat.reduceAdd, Nat.reduceLeDiff, Nat.reduceMul, Nat.reducePow, Nat.reduceLT, Nat.reduceSub, Int.reduceEq, Int.reduceLT, Int.reduceLE, Int.reduceNeg, Int.reduceToNat]
            refine ⟨_, _, ?_, ⟨i + 1, by omega, rfl, _, _, ?_, ?_, hpre, rfl⟩, ?_⟩
            · omega
            · simp; omega
            · omega
            · refine le_mk ?_ ?_ ?_
              · simp only [go_sem, ↓reduceIte, Nat.reduceEqDiff, Nat.reduceAdd, Nat.reduceLeDiff, Nat.reduceMul, Nat.reducePow, Nat.reduceLT, Nat.reduceSub, Int.reduceEq, Int.reduceLT, Int.reduceLE, Int.reduceNeg, Int.reduceToNat]
                try simp [eInt, keyOf, eKOp, eKernel, rBool, rInt, rInts, eInts, List.map_set]
                try simp (disch := omega) only [IntWalk.i64_in, and_self]
              · simp only [go_sem, ↓reduceIte, Nat.reduceEqDiff, Nat.reduceAdd, Nat.reduceLeDiff, Nat.reduceMul, Nat.reducePow, Nat.reduceLT, Nat.reduceSub, Int.reduceEq, Int.reduceLT, Int.reduceLE, Int.reduceNeg, Int.reduceToNat]
                try simp [eInt, keyOf, eKOp, eKernel, rBool, rInt, rInts, eInts, List.map_set]
                try simp (disch := omega) only [IntWalk.i64_in, and_self]
              · simp only [go_sem, ↓reduceIte, Nat.reduceEqDiff, Nat.reduceAdd, Nat.reduceLeDiff, Nat.reduceMul, Nat.reducePow, Nat.reduceLT, Nat.reduceSub, Int.reduceEq, Int.reduceLT, Int.reduceLE, Int.reduceNeg, Int.reduceToNat]
                try simp [eInt, keyOf, eKOp, eKernel, rBool, rInt, rInts, eInts, List.map_set]
                try simp (disch := omega) only [IntWalk.i64_in, and_self]
          · have hc : ¬ 0 ≤ acc := by simpa using hc
            rw [if_neg hc] at hpre
            obtain ⟨z, hz⟩ := get_ex (l := to) (i := i) (by omega)
            simp only [go_sem, ↓reduceIte, Nat.reduceEqDiff, Nat.reduceAdd, Nat.reduceLeDiff, Nat.reduceMul, Nat.reducePow, Nat.reduceLT, Nat.reduceSub, Int.reduceEq, Int.reduceLT, Int.reduceLE, Int.reduceNeg, Int.reduceToNat]
            refine wpL_skip ?_
            refine wpL_region Try.tyOk (by decide) ?_
            simp only [go_sem, ↓reduceIte, Nat.reduceEqDiff, Nat.reduceAdd, Nat.reduceLeDiff, Nat.reduceMul, Nat.reducePow, Nat.reduceLT, Nat.reduceSub, Int.reduceEq, Int.reduceLT, Int.reduceLE, Int.reduceNeg, Int.reduceToNat, hw3, eInts_length, eInts_get hz, List.length_map]
            refine ⟨by omega, ?_⟩
            refine wpL_region Try.tyOk (by decide) ?_
            simp only [go_sem, ↓reduceIte, Nat.reduceEqDiff, Nat.reduceAdd, Nat.reduceLeDiff, Nat.reduceMul, Nat.reducePow, Nat.reduceLT, Nat.reduceSub, Int.reduceEq, Int.reduceLT, Int.reduceLE, Int.reduceNeg, Int.reduceToNat, List.length_map]
            refine ⟨⟨by omega, by simp⟩, ?_⟩
            rw [← hB1]
            try simp only [go_sem, ↓reduceIte, Nat.reduceEqDiff, Nat.reduceAdd, Nat.reduceLeDiff, Nat.reduceMul, Nat.reducePow, Nat.reduceLT, Nat.reduceSub, Int.reduceEq, Int.reduceLT, Int.reduceLE, Int.reduceNeg, Int.reduceToNat]
            refine wpL_region Try.tyOk (by decide) ?_
            simp only [go_sem, ↓reduceIte, Nat.reduceEqDiff, Nat.reduceAdd, Nat.reduceLeDiff, Nat.reduceMul, Nat.reducePow, Nat.reduceLT, Nat.reduceSub, Int.reduceEq, Int.reduceLT, Int.reduceLE, Int.reduceNeg, Int.reduceToNat]
            refine ⟨_, _, ?_, ⟨i + 1, by omega, rfl, _, _, ?_, ?_, hpre, rfl⟩, ?_⟩
            · omega
            · simp; omega
            · simp; omega
            · refine le_mk ?_ ?_ ?_
              · simp only [go_sem, ↓reduceIte, Nat.reduceEqDiff, Nat.reduceAdd, Nat.reduceLeDiff, Nat.reduceMul, Nat.reducePow, Nat.reduceLT, Nat.reduceSub, Int.reduceEq, Int.reduceLT, Int.reduceLE, Int.reduceNeg, Int.reduceToNat]
                try simp [eInt, keyOf, eKOp, eKernel, rBool, rInt, rInts, eInts, List.map_set]
                try simp (disch := omega) only [IntWalk.i64_in, and_self]
              · simp only [go_sem, ↓reduceIte, Nat.reduceEqDiff, Nat.reduceAdd, Nat.reduceLeDiff, Nat.reduceMul, Nat.reducePow, Nat.reduceLT, Nat.reduceSub, Int.reduceEq, Int.reduceLT, Int.reduceLE, Int.reduceNeg, Int.reduceToNat]
                try simp [eInt, keyOf, eKOp, eKernel, rBool, rInt, rInts, eInts, List.map_set]
                try simp (disch := omega) only [IntWalk.i64_in, and_self]
              · simp only [go_sem, ↓reduceIte, Nat.reduceEqDiff, Nat.reduceAdd, Nat.reduceLeDiff, Nat.reduceMul, Nat.reducePow, Nat.reduceLT, Nat.reduceSub, Int.reduceEq, Int.reduceLT, Int.reduceLE, Int.reduceNeg, Int.reduceToNat]
                try simp [eInt, keyOf, eKOp, eKernel, rBool, rInt, rInts, eInts, List.map_set]
                try simp (disch := omega) only [IntWalk.i64_in, and_self]
    · have hge := ge_of hge
      have hi' : i = k.ops.length := by omega
      subst hi'
      rw [List.drop_length, commonRFrom] at hpre
      refine wpL_exit ?_
      simp only [go_sem, ↓reduceIte, Nat.reduceEqDiff, Nat.reduceAdd, Nat.reduceLeDiff, Nat.reduceMul, Nat.reducePow, Nat.reduceLT, Nat.reduceSub, Int.reduceEq, Int.reduceLT, Int.reduceLE, Int.reduceNeg, Int.reduceToNat]
      rw [← hB0]
      try simp only [go_sem, ↓reduceIte, Nat.reduceEqDiff, Nat.reduceAdd, Nat.reduceLeDiff, Nat.reduceMul, Nat.reducePow, Nat.reduceLT, Nat.reduceSub, Int.reduceEq, Int.reduceLT, Int.reduceLE, Int.reduceNeg, Int.reduceToNat]
      refine wpL_region Try.tyOk (by decide) ?_
      simp only [go_sem, ↓reduceIte, Nat.reduceEqDiff, Nat.reduceAdd, Nat.reduceLeDiff, Nat.reduceMul, Nat.reducePow, Nat.reduceLT, Nat.reduceSub, Int.reduceEq, Int.reduceLT, Int.reduceLE, Int.reduceNeg, Int.reduceToNat]
      refine wpL_ret ?_
      try simp only [go_sem, ↓reduceIte, Nat.reduceEqDiff, Nat.reduceAdd, Nat.reduceLeDiff, Nat.reduceMul, Nat.reducePow, Nat.reduceLT, Nat.reduceSub, Int.reduceEq, Int.reduceLT, Int.reduceLE, Int.reduceNeg, Int.reduceToNat]
      rw [← hBQ]
      try simp only [go_sem, ↓reduceIte, Nat.reduceEqDiff, Nat.reduceAdd, Nat.reduceLeDiff, Nat.reduceMul, Nat.reducePow, Nat.reduceLT, Nat.reduceSub, Int.reduceEq, Int.reduceLT, Int.reduceLE, Int.reduceNeg, Int.reduceToNat]
      simp [commonRS, hr, hpre]
end Go.Proofs.YtgjhamfboonloaaR
