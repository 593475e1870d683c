/-
  The walks of layer 49, continued: the examples.
-/
import Derived.Test.YtgjhamfboonloaaRW15
set_option linter.unusedSimpArgs false
set_option linter.unusedVariables false
set_option maxRecDepth 100000
set_option maxHeartbeats 4000000
namespace Go.Proofs.YtgjhamfboonloaaR
open Go.Abs Go

def mk (p a b : Int) : KOp := { prim := p, a := a, b := b, pos := 0 }
def K1 : Kernel := { inputs := 2, ops := [mk 1 0 1, mk 3 2 2, mk 1 0 1, mk 2 3 4], reduce := 0, pos := 0 }
def K2 : Kernel := { inputs := 2, ops := [mk 1 0 1, mk 3 2 2, mk 2 3 2], reduce := 0, pos := 0 }
def K3 : Kernel := { inputs := 1, ops := [mk 2 (-1) 0, mk 3 (-1) 0], reduce := 0, pos := 0 }
def K4 : Kernel := { inputs := 1, ops := [mk 3 (-1) 0], reduce := 0, pos := 0 }

theorem eK_K1 : [DC.sc (.int .i64 2), .sl [eKOp (mk 1 0 1), eKOp (mk 3 2 2), eKOp (mk 1 0 1), eKOp (mk 2 3 4)], .sc (.int .i64 0), .sc (.int .i64 0)] = eKernel K1 := rfl

theorem l1 : liveS K1 = [[0, 1], [0, 1, 2], [0, 1, 3], [3, 4], [5]] := by decide
theorem b1 : bufsS K1 = [0, 0, 1, 0] := by decide
theorem m1 : mostS K1 = 2 := by decide
theorem c1 : sameK (commonS K1) K2 = true := by decide
theorem t3 : sameK (trimS K3) K4 = true := by decide
theorem t1 : sameK (trimS K1) K1 = true := by decide

theorem lk1 (k : Kernel) {l : List (List Int)} (h : liveS k = l) : Gives Try.prog 10 [.agg (eKernel k)] (rLL l) := h ▸ live10 lastUse25 k
theorem bk1 (k : Kernel) {l : List Int} {n : Int} (h : bufsS k = l) (h2 : mostS k = n) : Gives Try.prog 13 [.agg (eKernel k)] (rBufs l n) := h ▸ h2 ▸ buffers13 lastUse25 k
theorem sk1 (x y : Kernel) (hl : x.ops.length ≤ 1000000000) {b : Bool} (h : sameK x y = b) : Gives Try.prog 15 [.agg (eKernel x), .agg (eKernel y)] (rBool b) := h ▸ same15 x y hl
theorem ik1 (a b : List Int) (ha : a.length ≤ 1000000000) {t : Bool} (h : decide (a = b) = t) : Gives Try.prog 12 [.c (.sl (eInts a)), .c (.sl (eInts b))] (rBool t) := h ▸ ints_pure a b ha

theorem lives9 : Gives Try.prog 9 [] (rBool true) := by
  refine Gives.intro Try.tyOk Try.func9 (by kernel_rfl) rfl (by simp [Try.ntmps9]) ?_
  simp only [go_sem, ↓reduceIte, Nat.reduceEqDiff, Nat.reduceAdd, Nat.reduceLeDiff, Nat.reduceMul, Nat.reducePow, Nat.reduceLT, Nat.reduceSub, Int.reduceEq, Int.reduceLT, Int.reduceLE, Int.reduceNeg, Int.reduceToNat]
  simp only [Try.ntmps9, Try.results9, eInt, keyOf, eKOp, eKernel, rBool, rInt, rInts, rClo, List.map_cons, List.map_nil]
  generalize hBQ : retQ _ _ _ = BQ
  refine wpL_region Try.tyOk (by decide) ?_
  simp only [go_sem, ↓reduceIte, Nat.reduceEqDiff, Nat.reduceAdd, Nat.reduceLeDiff, Nat.reduceMul, Nat.reducePow, Nat.reduceLT, Nat.reduceSub, Int.reduceEq, Int.reduceLT, Int.reduceLE, Int.reduceNeg, Int.reduceToNat]
  refine wpL_region Try.tyOk (by decide) ?_
  simp only [go_sem, ↓reduceIte, Nat.reduceEqDiff, Nat.reduceAdd, Nat.reduceLeDiff, Nat.reduceMul, Nat.reducePow, Nat.reduceLT, Nat.reduceSub, Int.reduceEq, Int.reduceLT, Int.reduceLE, Int.reduceNeg, Int.reduceToNat]
  refine ⟨_, op23 1 0 1, ?_⟩
  simp only [go_sem, ↓reduceIte, Nat.reduceEqDiff, Nat.reduceAdd, Nat.reduceLeDiff, Nat.reduceMul, Nat.reducePow, Nat.reduceLT, Nat.reduceSub, Int.reduceEq, Int.reduceLT, Int.reduceLE, Int.reduceNeg, Int.reduceToNat, rKOp]
  refine ⟨_, op23 3 2 2, ?_⟩
  simp only [go_sem, ↓reduceIte, Nat.reduceEqDiff, Nat.reduceAdd, Nat.reduceLeDiff, Nat.reduceMul, Nat.reducePow, Nat.reduceLT, Nat.reduceSub, Int.reduceEq, Int.reduceLT, Int.reduceLE, Int.reduceNeg, Int.reduceToNat, rKOp]
  refine ⟨_, op23 1 0 1, ?_⟩
  simp only [go_sem, ↓reduceIte, Nat.reduceEqDiff, Nat.reduceAdd, Nat.reduceLeDiff, Nat.reduceMul, Nat.reducePow, Nat.reduceLT, Nat.reduceSub, Int.reduceEq, Int.reduceLT, Int.reduceLE, Int.reduceNeg, Int.reduceToNat, rKOp]
  refine ⟨_, op23 2 3 4, ?_⟩
  simp only [go_sem, ↓reduceIte, Nat.reduceEqDiff, Nat.reduceAdd, Nat.reduceLeDiff, Nat.reduceMul, Nat.reducePow, Nat.reduceLT, Nat.reduceSub, Int.reduceEq, Int.reduceLT, Int.reduceLE, Int.reduceNeg, Int.reduceToNat, rKOp]
  refine wpL_fast 11 rfl ?_
  refine wpL_weaken (s' := ⟨[(1, .c (.ptr 1 0))], [(1, .box [.d (eInt 2), .row 11, .d (eInt 0), .d (eInt 0)]), (11, .arr 40 4 (K1.ops.map eKOp) true)]⟩) ?_ ?_
  · refine le_mk ?_ ?_ ?_
    · simp only [go_sem, ↓reduceIte, Nat.reduceEqDiff, Nat.reduceAdd, Nat.reduceLeDiff, Nat.reduceMul, Nat.reducePow, Nat.reduceLT, Nat.reduceSub, Int.reduceEq, Int.reduceLT, Int.reduceLE, Int.reduceNeg, Int.reduceToNat]
      try simp [eInt, keyOf, eKOp, eKernel, rBool, rInt, rInts, rClo, eInts, K1, mk]
      try simp (disch := omega) only [IntWalk.i64_in, and_self]
    · simp only [go_sem, ↓reduceIte, Nat.reduceEqDiff, Nat.reduceAdd, Nat.reduceLeDiff, Nat.reduceMul, Nat.reducePow, Nat.reduceLT, Nat.reduceSub, Int.reduceEq, Int.reduceLT, Int.reduceLE, Int.reduceNeg, Int.reduceToNat]
      try simp [eInt, keyOf, eKOp, eKernel, rBool, rInt, rInts, rClo, eInts, K1, mk]
      try simp (disch := omega) only [IntWalk.i64_in, and_self]
    · simp only [go_sem, ↓reduceIte, Nat.reduceEqDiff, Nat.reduceAdd, Nat.reduceLeDiff, Nat.reduceMul, Nat.reducePow, Nat.reduceLT, Nat.reduceSub, Int.reduceEq, Int.reduceLT, Int.reduceLE, Int.reduceNeg, Int.reduceToNat]
      try simp [eInt, keyOf, eKOp, eKernel, rBool, rInt, rInts, rClo, eInts, K1, mk]
      try simp (disch := omega) only [IntWalk.i64_in, and_self]
  simp only [go_sem, ↓reduceIte, Nat.reduceEqDiff, Nat.reduceAdd, Nat.reduceLeDiff, Nat.reduceMul, Nat.reducePow, Nat.reduceLT, Nat.reduceSub, Int.reduceEq, Int.reduceLT, Int.reduceLE, Int.reduceNeg, Int.reduceToNat]
  refine wpL_region Try.tyOk (by decide) ?_
  simp only [go_sem, ↓reduceIte, Nat.reduceEqDiff, Nat.reduceAdd, Nat.reduceLeDiff, Nat.reduceMul, Nat.reducePow, Nat.reduceLT, Nat.reduceSub, Int.reduceEq, Int.reduceLT, Int.reduceLE, Int.reduceNeg, Int.reduceToNat]
  refine ⟨_, op23 1 0 1, ?_⟩
  simp only [go_sem, ↓reduceIte, Nat.reduceEqDiff, Nat.reduceAdd, Nat.reduceLeDiff, Nat.reduceMul, Nat.reducePow, Nat.reduceLT, Nat.reduceSub, Int.reduceEq, Int.reduceLT, Int.reduceLE, Int.reduceNeg, Int.reduceToNat, rKOp]
  refine ⟨_, op23 3 2 2, ?_⟩
  simp only [go_sem, ↓reduceIte, Nat.reduceEqDiff, Nat.reduceAdd, Nat.reduceLeDiff, Nat.reduceMul, Nat.reducePow, Nat.reduceLT, Nat.reduceSub, Int.reduceEq, Int.reduceLT, Int.reduceLE, Int.reduceNeg, Int.reduceToNat, rKOp]
  refine ⟨_, op23 2 3 2, ?_⟩
  simp only [go_sem, ↓reduceIte, Nat.reduceEqDiff, Nat.reduceAdd, Nat.reduceLeDiff, Nat.reduceMul, Nat.reducePow, Nat.reduceLT, Nat.reduceSub, Int.reduceEq, Int.reduceLT, Int.reduceLE, Int.reduceNeg, Int.reduceToNat, rKOp]
  refine wpL_fast 16 rfl ?_
  refine wpL_weaken (s' := ⟨[(2, .c (.ptr 2 0)), (1, .c (.ptr 1 0))], [(2, .box [.d (eInt 2), .row 16, .d (eInt 0), .d (eInt 0)]), (16, .arr 40 4 (K2.ops.map eKOp) true), (1, .box [.d (eInt 2), .row 11, .d (eInt 0), .d (eInt 0)]), (11, .arr 40 4 (K1.ops.map eKOp) true)]⟩) ?_ ?_
  · refine le_mk ?_ ?_ ?_
    · simp only [go_sem, ↓reduceIte, Nat.reduceEqDiff, Nat.reduceAdd, Nat.reduceLeDiff, Nat.reduceMul, Nat.reducePow, Nat.reduceLT, Nat.reduceSub, Int.reduceEq, Int.reduceLT, Int.reduceLE, Int.reduceNeg, Int.reduceToNat]
      try simp [eInt, keyOf, eKOp, eKernel, rBool, rInt, rInts, rClo, eInts, K1, K2, mk]
      try simp (disch := omega) only [IntWalk.i64_in, and_self]
    · simp only [go_sem, ↓reduceIte, Nat.reduceEqDiff, Nat.reduceAdd, Nat.reduceLeDiff, Nat.reduceMul, Nat.reducePow, Nat.reduceLT, Nat.reduceSub, Int.reduceEq, Int.reduceLT, Int.reduceLE, Int.reduceNeg, Int.reduceToNat]
      try simp [eInt, keyOf, eKOp, eKernel, rBool, rInt, rInts, rClo, eInts, K1, K2, mk]
      try simp (disch := omega) only [IntWalk.i64_in, and_self]
    · simp only [go_sem, ↓reduceIte, Nat.reduceEqDiff, Nat.reduceAdd, Nat.reduceLeDiff, Nat.reduceMul, Nat.reducePow, Nat.reduceLT, Nat.reduceSub, Int.reduceEq, Int.reduceLT, Int.reduceLE, Int.reduceNeg, Int.reduceToNat]
      try simp [eInt, keyOf, eKOp, eKernel, rBool, rInt, rInts, rClo, eInts, K1, K2, mk]
      try simp (disch := omega) only [IntWalk.i64_in, and_self]
  simp only [go_sem, ↓reduceIte, Nat.reduceEqDiff, Nat.reduceAdd, Nat.reduceLeDiff, Nat.reduceMul, Nat.reducePow, Nat.reduceLT, Nat.reduceSub, Int.reduceEq, Int.reduceLT, Int.reduceLE, Int.reduceNeg, Int.reduceToNat]
  refine wpL_region Try.tyOk (by decide) ?_
  simp only [go_sem, ↓reduceIte, Nat.reduceEqDiff, Nat.reduceAdd, Nat.reduceLeDiff, Nat.reduceMul, Nat.reducePow, Nat.reduceLT, Nat.reduceSub, Int.reduceEq, Int.reduceLT, Int.reduceLE, Int.reduceNeg, Int.reduceToNat]
  refine ⟨_, op23 2 (-1) 0, ?_⟩
  simp only [go_sem, ↓reduceIte, Nat.reduceEqDiff, Nat.reduceAdd, Nat.reduceLeDiff, Nat.reduceMul, Nat.reducePow, Nat.reduceLT, Nat.reduceSub, Int.reduceEq, Int.reduceLT, Int.reduceLE, Int.reduceNeg, Int.reduceToNat, rKOp]
  refine ⟨_, op23 3 (-1) 0, ?_⟩
  simp only [go_sem, ↓reduceIte, Nat.reduceEqDiff, Nat.reduceAdd, Nat.reduceLeDiff, Nat.reduceMul, Nat.reducePow, Nat.reduceLT, Nat.reduceSub, Int.reduceEq, Int.reduceLT, Int.reduceLE, Int.reduceNeg, Int.reduceToNat, rKOp]
  refine wpL_fast 20 rfl ?_
  refine wpL_weaken (s' := ⟨[(3, .c (.ptr 3 0)), (2, .c (.ptr 2 0)), (1, .c (.ptr 1 0))], [(3, .box [.d (eInt 1), .row 20, .d (eInt 0), .d (eInt 0)]), (20, .arr 40 4 (K3.ops.map eKOp) true), (2, .box [.d (eInt 2), .row 16, .d (eInt 0), .d (eInt 0)]), (16, .arr 40 4 (K2.ops.map eKOp) true), (1, .box [.d (eInt 2), .row 11, .d (eInt 0), .d (eInt 0)]), (11, .arr 40 4 (K1.ops.map eKOp) true)]⟩) ?_ ?_
  · refine le_mk ?_ ?_ ?_
    · simp only [go_sem, ↓reduceIte, Nat.reduceEqDiff, Nat.reduceAdd, Nat.reduceLeDiff, Nat.reduceMul, Nat.reducePow, Nat.reduceLT, Nat.reduceSub, Int.reduceEq, Int.reduceLT, Int.reduceLE, Int.reduceNeg, Int.reduceToNat]
      try simp [eInt, keyOf, eKOp, eKernel, rBool, rInt, rInts, rClo, eInts, K1, K2, K3, mk]
      try simp (disch := omega) only [IntWalk.i64_in, and_self]
    · simp only [go_sem, ↓reduceIte, Nat.reduceEqDiff, Nat.reduceAdd, Nat.reduceLeDiff, Nat.reduceMul, Nat.reducePow, Nat.reduceLT, Nat.reduceSub, Int.reduceEq, Int.reduceLT, Int.reduceLE, Int.reduceNeg, Int.reduceToNat]
      try simp [eInt, keyOf, eKOp, eKernel, rBool, rInt, rInts, rClo, eInts, K1, K2, K3, mk]
      try simp (disch := omega) only [IntWalk.i64_in, and_self]
    · simp only [go_sem, ↓reduceIte, Nat.reduceEqDiff, Nat.reduceAdd, Nat.reduceLeDiff, Nat.reduceMul, Nat.reducePow, Nat.reduceLT, Nat.reduceSub, Int.reduceEq, Int.reduceLT, Int.reduceLE, Int.reduceNeg, Int.reduceToNat]
      try simp [eInt, keyOf, eKOp, eKernel, rBool, rInt, rInts, rClo, eInts, K1, K2, K3, mk]
      try simp (disch := omega) only [IntWalk.i64_in, and_self]
  refine wpL_region Try.tyOk (by decide) ?_
  simp only [go_sem, ↓reduceIte, Nat.reduceEqDiff, Nat.reduceAdd, Nat.reduceLeDiff, Nat.reduceMul, Nat.reducePow, Nat.reduceLT, Nat.reduceSub, Int.reduceEq, Int.reduceLT, Int.reduceLE, Int.reduceNeg, Int.reduceToNat]
  refine ⟨_, lk1 K1 l1, ?_⟩
  simp only [go_sem, ↓reduceIte, Nat.reduceEqDiff, Nat.reduceAdd, Nat.reduceLeDiff, Nat.reduceMul, Nat.reducePow, Nat.reduceLT, Nat.reduceSub, Int.reduceEq, Int.reduceLT, Int.reduceLE, Int.reduceNeg, Int.reduceToNat]
  refine wpL_region Try.tyOk (by decide) ?_
  simp only [go_sem, ↓reduceIte, Nat.reduceEqDiff, Nat.reduceAdd, Nat.reduceLeDiff, Nat.reduceMul, Nat.reducePow, Nat.reduceLT, Nat.reduceSub, Int.reduceEq, Int.reduceLT, Int.reduceLE, Int.reduceNeg, Int.reduceToNat]
  refine ⟨_, bk1 K1 b1 m1, ?_⟩
  simp only [go_sem, ↓reduceIte, Nat.reduceEqDiff, Nat.reduceAdd, Nat.reduceLeDiff, Nat.reduceMul, Nat.reducePow, Nat.reduceLT, Nat.reduceSub, Int.reduceEq, Int.reduceLT, Int.reduceLE, Int.reduceNeg, Int.reduceToNat]
  have h5 : ((eLL [[0, 1], [0, 1, 2], [0, 1, 3], [3, 4], [5]]).length : Int) = 5 := rfl
  have g0 : (eLL [[0, 1], [0, 1, 2], [0, 1, 3], [3, 4], [5]])[0]? = some [.sl (eInts [0, 1])] := rfl
  have g2 : (eLL [[0, 1], [0, 1, 2], [0, 1, 3], [3, 4], [5]])[2]? = some [.sl (eInts [0, 1, 3])] := rfl
  have g4 : (eLL [[0, 1], [0, 1, 2], [0, 1, 3], [3, 4], [5]])[4]? = some [.sl (eInts [5])] := rfl
  refine wpL_region Try.tyOk (by decide) ?_
  simp only [go_sem, ↓reduceIte, Nat.reduceEqDiff, Nat.reduceAdd, Nat.reduceLeDiff, Nat.reduceMul, Nat.reducePow, Nat.reduceLT, Nat.reduceSub, Int.reduceEq, Int.reduceLT, Int.reduceLE, Int.reduceNeg, Int.reduceToNat, h5, g0, g2, g4]
  refine ⟨_, ik1 [0, 1] [0, 1] (by decide) (t := true) (by decide), ?_⟩
  simp only [go_sem, ↓reduceIte, Nat.reduceEqDiff, Nat.reduceAdd, Nat.reduceLeDiff, Nat.reduceMul, Nat.reducePow, Nat.reduceLT, Nat.reduceSub, Int.reduceEq, Int.reduceLT, Int.reduceLE, Int.reduceNeg, Int.reduceToNat, h5, g0, g2, g4]
  refine ⟨_, ik1 [0, 1, 3] [0, 1, 3] (by decide) (t := true) (by decide), ?_⟩
  simp only [go_sem, ↓reduceIte, Nat.reduceEqDiff, Nat.reduceAdd, Nat.reduceLeDiff, Nat.reduceMul, Nat.reducePow, Nat.reduceLT, Nat.reduceSub, Int.reduceEq, Int.reduceLT, Int.reduceLE, Int.reduceNeg, Int.reduceToNat, h5, g0, g2, g4]
  refine ⟨_, ik1 [5] [5] (by decide) (t := true) (by decide), ?_⟩
  simp only [go_sem, ↓reduceIte, Nat.reduceEqDiff, Nat.reduceAdd, Nat.reduceLeDiff, Nat.reduceMul, Nat.reducePow, Nat.reduceLT, Nat.reduceSub, Int.reduceEq, Int.reduceLT, Int.reduceLE, Int.reduceNeg, Int.reduceToNat, h5, g0, g2, g4]
  refine ⟨_, ik1 [0, 0, 1, 0] [0, 0, 1, 0] (by decide) (t := true) (by decide), ?_⟩
  simp only [go_sem, ↓reduceIte, Nat.reduceEqDiff, Nat.reduceAdd, Nat.reduceLeDiff, Nat.reduceMul, Nat.reducePow, Nat.reduceLT, Nat.reduceSub, Int.reduceEq, Int.reduceLT, Int.reduceLE, Int.reduceNeg, Int.reduceToNat, h5, g0, g2, g4]
  refine wpL_cond (t := false) (by rfl) (fun h => by cases h) (fun _ => ?_)
  simp only [go_sem, ↓reduceIte, Nat.reduceEqDiff, Nat.reduceAdd, Nat.reduceLeDiff, Nat.reduceMul, Nat.reducePow, Nat.reduceLT, Nat.reduceSub, Int.reduceEq, Int.reduceLT, Int.reduceLE, Int.reduceNeg, Int.reduceToNat]
  refine wpL_skip ?_
  refine wpL_weaken (s' := ⟨[(3, .c (.ptr 3 0)), (2, .c (.ptr 2 0)), (1, .c (.ptr 1 0))], [(3, .box [.d (eInt 1), .row 20, .d (eInt 0), .d (eInt 0)]), (20, .arr 40 4 (K3.ops.map eKOp) true), (2, .box [.d (eInt 2), .row 16, .d (eInt 0), .d (eInt 0)]), (16, .arr 40 4 (K2.ops.map eKOp) true), (1, .box [.d (eInt 2), .row 11, .d (eInt 0), .d (eInt 0)]), (11, .arr 40 4 (K1.ops.map eKOp) true)]⟩) ?_ ?_
  · refine le_mk ?_ ?_ ?_
    · simp only [go_sem, ↓reduceIte, Nat.reduceEqDiff, Nat.reduceAdd, Nat.reduceLeDiff, Nat.reduceMul, Nat.reducePow, Nat.reduceLT, Nat.reduceSub, Int.reduceEq, Int.reduceLT, Int.reduceLE, Int.reduceNeg, Int.reduceToNat]
      try simp [eInt, keyOf, eKOp, eKernel, rBool, rInt, rInts, rClo, eInts]
      try simp (disch := omega) only [IntWalk.i64_in, and_self]
    · simp only [go_sem, ↓reduceIte, Nat.reduceEqDiff, Nat.reduceAdd, Nat.reduceLeDiff, Nat.reduceMul, Nat.reducePow, Nat.reduceLT, Nat.reduceSub, Int.reduceEq, Int.reduceLT, Int.reduceLE, Int.reduceNeg, Int.reduceToNat]
      try simp [eInt, keyOf, eKOp, eKernel, rBool, rInt, rInts, rClo, eInts]
      try simp (disch := omega) only [IntWalk.i64_in, and_self]
    · simp only [go_sem, ↓reduceIte, Nat.reduceEqDiff, Nat.reduceAdd, Nat.reduceLeDiff, Nat.reduceMul, Nat.reducePow, Nat.reduceLT, Nat.reduceSub, Int.reduceEq, Int.reduceLT, Int.reduceLE, Int.reduceNeg, Int.reduceToNat]
      try simp [eInt, keyOf, eKOp, eKernel, rBool, rInt, rInts, rClo, eInts]
      try simp (disch := omega) only [IntWalk.i64_in, and_self]
  refine wpL_draw Try.tyOk (by kernel_rfl) 19 (by decide) (by decide) ?_
  simp only [go_sem, ↓reduceIte, Nat.reduceEqDiff, Nat.reduceAdd, Nat.reduceLeDiff, Nat.reduceMul, Nat.reducePow, Nat.reduceLT, Nat.reduceSub, Int.reduceEq, Int.reduceLT, Int.reduceLE, Int.reduceNeg, Int.reduceToNat]
  refine ⟨_, common18 K1, ?_⟩
  simp only [go_sem, ↓reduceIte, Nat.reduceEqDiff, Nat.reduceAdd, Nat.reduceLeDiff, Nat.reduceMul, Nat.reducePow, Nat.reduceLT, Nat.reduceSub, Int.reduceEq, Int.reduceLT, Int.reduceLE, Int.reduceNeg, Int.reduceToNat]
  refine ⟨_, sk1 (commonS K1) K2 (by decide) (b := true) c1, ?_⟩
  simp only [go_sem, ↓reduceIte, Nat.reduceEqDiff, Nat.reduceAdd, Nat.reduceLeDiff, Nat.reduceMul, Nat.reducePow, Nat.reduceLT, Nat.reduceSub, Int.reduceEq, Int.reduceLT, Int.reduceLE, Int.reduceNeg, Int.reduceToNat]
  refine ⟨_, trim16 K3, ?_⟩
  simp only [go_sem, ↓reduceIte, Nat.reduceEqDiff, Nat.reduceAdd, Nat.reduceLeDiff, Nat.reduceMul, Nat.reducePow, Nat.reduceLT, Nat.reduceSub, Int.reduceEq, Int.reduceLT, Int.reduceLE, Int.reduceNeg, Int.reduceToNat]
  refine ⟨_, op23 3 (-1) 0, ?_⟩
  simp only [go_sem, ↓reduceIte, Nat.reduceEqDiff, Nat.reduceAdd, Nat.reduceLeDiff, Nat.reduceMul, Nat.reducePow, Nat.reduceLT, Nat.reduceSub, Int.reduceEq, Int.reduceLT, Int.reduceLE, Int.reduceNeg, Int.reduceToNat, rKOp]
  refine ⟨_, sk1 (trimS K3) K4 (by decide) (b := true) t3, ?_⟩
  simp only [go_sem, ↓reduceIte, Nat.reduceEqDiff, Nat.reduceAdd, Nat.reduceLeDiff, Nat.reduceMul, Nat.reducePow, Nat.reduceLT, Nat.reduceSub, Int.reduceEq, Int.reduceLT, Int.reduceLE, Int.reduceNeg, Int.reduceToNat]
  refine ⟨_, trim16 K1, ?_⟩
  simp only [go_sem, ↓reduceIte, Nat.reduceEqDiff, Nat.reduceAdd, Nat.reduceLeDiff, Nat.reduceMul, Nat.reducePow, Nat.reduceLT, Nat.reduceSub, Int.reduceEq, Int.reduceLT, Int.reduceLE, Int.reduceNeg, Int.reduceToNat]
  refine ⟨_, sk1 (trimS K1) K1 (by decide) (b := true) t1, ?_⟩
  simp only [go_sem, ↓reduceIte, Nat.reduceEqDiff, Nat.reduceAdd, Nat.reduceLeDiff, Nat.reduceMul, Nat.reducePow, Nat.reduceLT, Nat.reduceSub, Int.reduceEq, Int.reduceLT, Int.reduceLE, Int.reduceNeg, Int.reduceToNat]
  refine wpL_ret ?_
  try simp only [go_sem, ↓reduceIte, Nat.reduceEqDiff, Nat.reduceAdd, Nat.reduceLeDiff, Nat.reduceMul, Nat.reducePow, Nat.reduceLT, Nat.reduceSub, Int.reduceEq, Int.reduceLT, Int.reduceLE, Int.reduceNeg, Int.reduceToNat]
  rw [← hBQ]
  try simp only [go_sem, ↓reduceIte, Nat.reduceEqDiff, Nat.reduceAdd, Nat.reduceLeDiff, Nat.reduceMul, Nat.reducePow, Nat.reduceLT, Nat.reduceSub, Int.reduceEq, Int.reduceLT, Int.reduceLE, Int.reduceNeg, Int.reduceToNat]

end Go.Proofs.YtgjhamfboonloaaR
