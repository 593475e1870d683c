/-
  Literals: strconv.FormatInt at base 16, small numbers.
-/
import Derived.Test.YtldgcpdpebhndaaDoorW3
import Derived.Test.YtldgcpdpebhndaaDoorAbsZB
set_option linter.unusedSimpArgs false
set_option linter.unusedVariables false
set_option maxRecDepth 100000
set_option maxHeartbeats 4000000
namespace Go.Proofs.YtldgcpdpebhndaaDoor
open Go.Abs Go

theorem two46 : Gives Tryd.prog 46 [.c (eInt 16)] (rBool true) := by
  refine Gives.intro Tryd.tyOk Tryd.func46 (by kernel_rfl) rfl (by simp [Tryd.ntmps46]) ?_
  simp only [go_sem, ↓reduceIte, Nat.reduceEqDiff, Nat.reduceAdd, Nat.reduceLeDiff, Nat.reduceMul, Nat.reducePow, Nat.reduceLT, Nat.reduceSub, Int.reduceEq, Int.reduceLT, Int.reduceLE, Int.reduceNeg, Int.reduceToNat, Int.cast_ofNat_Int]
  simp only [Tryd.ntmps46, Tryd.results46, eInt, eRune, eByte, eStr, rBool, rInt, rStr, rTwo, List.map_cons, List.map_nil]
  generalize hBQ : retQ _ _ _ = BQ
  iterate 2 (refine wpL_region Tryd.tyOk (by decide) ?_; simp only [go_sem, ↓reduceIte, Nat.reduceEqDiff, Nat.reduceAdd, Nat.reduceLeDiff, Nat.reduceMul, Nat.reducePow, Nat.reduceLT, Nat.reduceSub, Int.reduceEq, Int.reduceLT, Int.reduceLE, Int.reduceNeg, Int.reduceToNat, Int.cast_ofNat_Int])
  refine wpL_ret ?_
  rw [← hBQ]
  try simp only [go_sem, ↓reduceIte, Nat.reduceEqDiff]
  rfl
def g4 : List DC := [.sc (.int .u8 0), .sc (.int .u8 1), .sc (.int .u8 56), .sc (.int .u8 2), .sc (.int .u8 57), .sc (.int .u8 49), .sc (.int .u8 28), .sc (.int .u8 3), .sc (.int .u8 61), .sc (.int .u8 58), .sc (.int .u8 42), .sc (.int .u8 50), .sc (.int .u8 38), .sc (.int .u8 29), .sc (.int .u8 17), .sc (.int .u8 4), .sc (.int .u8 62), .sc (.int .u8 47), .sc (.int .u8 59), .sc (.int .u8 36), .sc (.int .u8 45), .sc (.int .u8 43), .sc (.int .u8 51), .sc (.int .u8 22), .sc (.int .u8 53), .sc (.int .u8 39), .sc (.int .u8 33), .sc (.int .u8 30), .sc (.int .u8 24), .sc (.int .u8 18), .sc (.int .u8 12), .sc (.int .u8 5), .sc (.int .u8 63), .sc (.int .u8 55), .sc (.int .u8 48), .sc (.int .u8 27), .sc (.int .u8 60), .sc (.int .u8 41), .sc (.int .u8 37), .sc (.int .u8 16), .sc (.int .u8 46), .sc (.int .u8 35), .sc (.int .u8 44), .sc (.int .u8 21), .sc (.int .u8 52), .sc (.int .u8 32), .sc (.int .u8 23), .sc (.int .u8 11), .sc (.int .u8 54), .sc (.int .u8 26), .sc (.int .u8 40), .sc (.int .u8 15), .sc (.int .u8 34), .sc (.int .u8 20), .sc (.int .u8 31), .sc (.int .u8 10), .sc (.int .u8 25), .sc (.int .u8 14), .sc (.int .u8 19), .sc (.int .u8 9), .sc (.int .u8 13), .sc (.int .u8 8), .sc (.int .u8 7), .sc (.int .u8 6)]
theorem good4 : goodAV 4 = .c (.dptr g4) := by rfl
theorem g4_15 : (List.map AC.d (List.drop 15 g4))[0]? = some (.d (.sc (.int .u8 4))) := by rfl
theorem trail_q : (IntKind.u64.wrap (IntKind.u64.wrap ↑(BitVec.ofInt IntKind.u64.bits 16 &&& BitVec.ofInt IntKind.u64.bits (IntKind.u64.wrap (0 - 16))).toNat * 285870213051353865)).fdiv (2 ^ min 58 64) = 15 := by decide
theorem trail49 : Gives Tryd.prog 49 [.c (.sc (.int .u64 16))] (rInt 4) := by
  have q := trail_q
  simp only [go_sem] at q
  refine Gives.intro Tryd.tyOk Tryd.func49 (by kernel_rfl) rfl (by simp [Tryd.ntmps49]) ?_
  simp only [go_sem, ↓reduceIte, Nat.reduceEqDiff, Nat.reduceAdd, Nat.reduceLeDiff, Nat.reduceMul, Nat.reducePow, Nat.reduceLT, Nat.reduceSub, Int.reduceEq, Int.reduceLT, Int.reduceLE, Int.reduceNeg, Int.reduceToNat, Int.cast_ofNat_Int]
  simp only [Tryd.ntmps49, Tryd.results49, eInt, eRune, eByte, eStr, rBool, rInt, rStr, rTwo, List.map_cons, List.map_nil]
  generalize hBQ : retQ _ _ _ = BQ
  iterate 2 (refine wpL_region Tryd.tyOk (by decide) ?_; simp only [go_sem, ↓reduceIte, Nat.reduceEqDiff, Nat.reduceAdd, Nat.reduceLeDiff, Nat.reduceMul, Nat.reducePow, Nat.reduceLT, Nat.reduceSub, Int.reduceEq, Int.reduceLT, Int.reduceLE, Int.reduceNeg, Int.reduceToNat, Int.cast_ofNat_Int])
  refine wpL_cond (t := false) (by simp only [go_sem, ↓reduceIte, Nat.reduceEqDiff]) (fun h => Bool.noConfusion h) (fun _ => ?_)
  try simp only [go_sem, ↓reduceIte, Nat.reduceEqDiff]
  refine wpL_skip ?_
  refine wpL_region Tryd.tyOk (by decide) ?_
  simp only [go_sem, ↓reduceIte, Nat.reduceEqDiff, Nat.reduceAdd, Nat.reduceLeDiff, Nat.reduceMul, Nat.reducePow, Nat.reduceLT, Nat.reduceSub, Int.reduceEq, Int.reduceLT, Int.reduceLE, Int.reduceNeg, Int.reduceToNat, Int.cast_ofNat_Int, good4, q, g4_15]
  refine wpL_ret ?_
  rw [← hBQ]
  try simp only [go_sem, ↓reduceIte, Nat.reduceEqDiff]
  rfl
theorem trail47 : Gives Tryd.prog 47 [.c (.sc (.int .u64 16))] (rInt 4) := by
  refine Gives.intro Tryd.tyOk Tryd.func47 (by kernel_rfl) rfl (by simp [Tryd.ntmps47]) ?_
  simp only [go_sem, ↓reduceIte, Nat.reduceEqDiff, Nat.reduceAdd, Nat.reduceLeDiff, Nat.reduceMul, Nat.reducePow, Nat.reduceLT, Nat.reduceSub, Int.reduceEq, Int.reduceLT, Int.reduceLE, Int.reduceNeg, Int.reduceToNat, Int.cast_ofNat_Int]
  simp only [Tryd.ntmps47, Tryd.results47, eInt, eRune, eByte, eStr, rBool, rInt, rStr, rTwo, List.map_cons, List.map_nil]
  generalize hBQ : retQ _ _ _ = BQ
  refine wpL_region Tryd.tyOk (by decide) ?_
  simp only [go_sem, ↓reduceIte, Nat.reduceEqDiff, Nat.reduceAdd, Nat.reduceLeDiff, Nat.reduceMul, Nat.reducePow, Nat.reduceLT, Nat.reduceSub, Int.reduceEq, Int.reduceLT, Int.reduceLE, Int.reduceNeg, Int.reduceToNat, Int.cast_ofNat_Int]
  refine wpL_cond (t := false) (by simp only [go_sem, ↓reduceIte, Nat.reduceEqDiff]) (fun h => Bool.noConfusion h) (fun _ => ?_)
  try simp only [go_sem, ↓reduceIte, Nat.reduceEqDiff]
  refine wpL_skip ?_
  refine wpL_region Tryd.tyOk (by decide) ?_
  simp only [go_sem, ↓reduceIte, Nat.reduceEqDiff, Nat.reduceAdd, Nat.reduceLeDiff, Nat.reduceMul, Nat.reducePow, Nat.reduceLT, Nat.reduceSub, Int.reduceEq, Int.reduceLT, Int.reduceLE, Int.reduceNeg, Int.reduceToNat, Int.cast_ofNat_Int]
  refine ⟨_, trail49, ?_⟩
  simp only [go_sem, ↓reduceIte, Nat.reduceEqDiff, Nat.reduceAdd, Nat.reduceLeDiff, Nat.reduceMul, Nat.reducePow, Nat.reduceLT, Nat.reduceSub, Int.reduceEq, Int.reduceLT, Int.reduceLE, Int.reduceNeg, Int.reduceToNat, Int.cast_ofNat_Int]
  refine wpL_ret ?_
  rw [← hBQ]
  try simp only [go_sem, ↓reduceIte, Nat.reduceEqDiff]
  done
end Go.Proofs.YtldgcpdpebhndaaDoor
