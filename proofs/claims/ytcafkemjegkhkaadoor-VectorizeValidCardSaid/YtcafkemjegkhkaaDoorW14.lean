/-
  The walks of layer 51, continued: the check of a lane program.
-/
import Derived.Test.YtcafkemjegkhkaaDoorW13
import Derived.Test.YtcafkemjegkhkaaDoorAbsZC
set_option linter.unusedSimpArgs false
set_option linter.unusedVariables false
set_option maxRecDepth 100000
set_option maxHeartbeats 4000000
namespace Go.Proofs.YtcafkemjegkhkaaDoor
open Go.Abs Go

def eBs (ws : List Bool) : List DC := ws.map fun b => .sc (.bool b)
theorem eBs_drop {ws : List Bool} {i : Nat} {b : Bool} (h : ws[i]? = some b) : (eBs ws).drop i = .sc (.bool b) :: (eBs ws).drop (i + 1) := by
  unfold eBs
  rw [← List.map_drop, drop_get h, List.map_cons, List.map_drop]
theorem eBs_splice {ws : List Bool} {i : Nat} (h : i < ws.length) : splice ((eBs ws).map AC.d) i [.d (.sc (.bool true))] = (eBs (ws.set i true)).map .d := by
  unfold splice eBs
  rw [List.set_eq_take_append_cons_drop]
  simp [h, List.map_append, List.map_take, List.map_drop]
def wS (p : Lanes) (i : Nat) : List Bool := (List.range 80).map fun (n : Nat) => writtenS p i (n : Int)
theorem wS_len (p : Lanes) (i : Nat) : (wS p i).length = 80 := by simp [wS]
theorem wS_get {p : Lanes} {i : Nat} {r : Int} (h0 : 0 ≤ r) (h1 : r < 80) : (wS p i)[r.toNat]? = some (writtenS p i r) := by
  have : r.toNat < 80 := by omega
  simp [wS, this, Int.toNat_of_nonneg h0]
theorem wS_zero (p : Lanes) : wS p 0 = List.replicate 80 false := by
  have : ∀ n : Int, writtenS p 0 n = false := fun n => by simp [writtenS]
  simp only [wS, this]
  rfl
theorem written_succ {p : Lanes} {i : Nat} {o : LOp} (h : p.code[i]? = some o) (n : Int) : writtenS p (i + 1) n = (writtenS p i n || writes o n) := by
  unfold writtenS
  rw [take_succ_get h, List.any_append]
  simp
theorem wS_same {p : Lanes} {i : Nat} {o : LOp} (h : p.code[i]? = some o) (h4 : o.kind = 4) : wS p (i + 1) = wS p i := by
  unfold wS
  refine List.map_congr_left fun n _ => ?_
  rw [written_succ h]
  simp [writes, h4]
theorem wS_set {p : Lanes} {i : Nat} {o : LOp} (h : p.code[i]? = some o) (h4 : ¬ o.kind = 4) (h0 : 0 ≤ o.dst) (h1 : o.dst < 80) : wS p (i + 1) = (wS p i).set o.dst.toNat true := by
  apply List.ext_getElem?
  intro n
  rw [List.getElem?_set]
  by_cases hn : n < 80
  · have e1 : (wS p (i + 1))[n]? = some (writtenS p (i + 1) n) := by simp [wS, hn]
    have e2 : (wS p i)[n]? = some (writtenS p i n) := by simp [wS, hn]
    rw [e1, e2, written_succ h, wS_len]
    by_cases hd : o.dst.toNat = n
    · rw [if_pos hd, if_pos (by omega)]
      have : o.dst = n := by omega
      simp [writes, h4, this]
    · rw [if_neg hd]
      have : ¬ o.dst = n := by omega
      simp [writes, h4, this]
  · rw [List.getElem?_eq_none (by rw [wS_len]; omega), List.getElem?_eq_none (by rw [wS_len]; omega)]
    split
    · rw [wS_len, if_neg (by omega)]
    · rfl

theorem register25 (p : Lanes) (r : Int) : Gives Tryd.prog 25 [.c (eInt r), .ptr (eLanes p)] (rBool (regB p r)) := by
  refine Gives.intro Tryd.tyOk Tryd.func25 (by kernel_rfl) rfl (by simp [Tryd.ntmps25]) ?_
  simp only [go_sem, ↓reduceIte, Nat.reduceEqDiff, Nat.reduceAdd, Nat.reduceLeDiff, Nat.reduceMul, Nat.reducePow, Nat.reduceLT, Nat.reduceSub, Int.reduceEq, Int.reduceLT, Int.reduceLE, Int.reduceNeg, Int.reduceToNat, Int.cast_ofNat_Int]
  simp only [Tryd.ntmps25, Tryd.results25, eInt, keyOf, eKOp, eKernel, rBool, rInt, rInts, eLOp, rLOB, eLanes, List.map_cons, List.map_nil]
  generalize hBQ : retQ _ _ _ = BQ
  refine wpL_region Tryd.tyOk (by decide) ?_
  simp only [go_sem, ↓reduceIte, Nat.reduceEqDiff, Nat.reduceAdd, Nat.reduceLeDiff, Nat.reduceMul, Nat.reducePow, Nat.reduceLT, Nat.reduceSub, Int.reduceEq, Int.reduceLT, Int.reduceLE, Int.reduceNeg, Int.reduceToNat, Int.cast_ofNat_Int]
  by_cases h : r ≥ 0
  · refine wpL_region Tryd.tyOk (by decide) ?_
    simp only [go_sem, ↓reduceIte, Nat.reduceEqDiff, Nat.reduceAdd, Nat.reduceLeDiff, Nat.reduceMul, Nat.reducePow, Nat.reduceLT, Nat.reduceSub, Int.reduceEq, Int.reduceLT, Int.reduceLE, Int.reduceNeg, Int.reduceToNat, Int.cast_ofNat_Int, h, decide_true]
    refine wpL_ret ?_
    try simp only [go_sem, ↓reduceIte, Nat.reduceEqDiff, Nat.reduceAdd, Nat.reduceLeDiff, Nat.reduceMul, Nat.reducePow, Nat.reduceLT, Nat.reduceSub, Int.reduceEq, Int.reduceLT, Int.reduceLE, Int.reduceNeg, Int.reduceToNat, Int.cast_ofNat_Int]
    rw [← hBQ]
    try simp only [go_sem, ↓reduceIte, Nat.reduceEqDiff, Nat.reduceAdd, Nat.reduceLeDiff, Nat.reduceMul, Nat.reducePow, Nat.reduceLT, Nat.reduceSub, Int.reduceEq, Int.reduceLT, Int.reduceLE, Int.reduceNeg, Int.reduceToNat, Int.cast_ofNat_Int]
    have : 0 ≤ r := h
    simp [regB, this]
  · refine wpL_region Tryd.tyOk (by decide) ?_
    simp only [go_sem, ↓reduceIte, Nat.reduceEqDiff, Nat.reduceAdd, Nat.reduceLeDiff, Nat.reduceMul, Nat.reducePow, Nat.reduceLT, Nat.reduceSub, Int.reduceEq, Int.reduceLT, Int.reduceLE, Int.reduceNeg, Int.reduceToNat, Int.cast_ofNat_Int, h, decide_false]
    refine wpL_ret ?_
    try simp only [go_sem, ↓reduceIte, Nat.reduceEqDiff, Nat.reduceAdd, Nat.reduceLeDiff, Nat.reduceMul, Nat.reducePow, Nat.reduceLT, Nat.reduceSub, Int.reduceEq, Int.reduceLT, Int.reduceLE, Int.reduceNeg, Int.reduceToNat, Int.cast_ofNat_Int]
    rw [← hBQ]
    try simp only [go_sem, ↓reduceIte, Nat.reduceEqDiff, Nat.reduceAdd, Nat.reduceLeDiff, Nat.reduceMul, Nat.reducePow, Nat.reduceLT, Nat.reduceSub, Int.reduceEq, Int.reduceLT, Int.reduceLE, Int.reduceNeg, Int.reduceToNat, Int.cast_ofNat_Int]
    have : ¬ 0 ≤ r := h
    simp [regB, this]

theorem reads26 (p : Lanes) (b : Bool) (ws : List Bool) (r : Int) (hw : ws.length = 80) (hp : p.regs ≤ 80) (hr : 0 ≤ r → r < 80 → ws[r.toNat]? = some b) : Gives Tryd.prog 26 [.c (eInt r), .ptr [.clo 25 [eLanes p]], .ptr (eBs ws)] (rBool (regB p r && b)) := by
  refine Gives.intro Tryd.tyOk Tryd.func26 (by kernel_rfl) rfl (by simp [Tryd.ntmps26]) ?_
  simp only [go_sem, ↓reduceIte, Nat.reduceEqDiff, Nat.reduceAdd, Nat.reduceLeDiff, Nat.reduceMul, Nat.reducePow, Nat.reduceLT, Nat.reduceSub, Int.reduceEq, Int.reduceLT, Int.reduceLE, Int.reduceNeg, Int.reduceToNat, Int.cast_ofNat_Int]
  simp only [Tryd.ntmps26, Tryd.results26, eInt, keyOf, eKOp, eKernel, rBool, rInt, rInts, eLOp, rLOB, eLanes, List.map_cons, List.map_nil]
  generalize hBQ : retQ _ _ _ = BQ
  refine wpL_region Tryd.tyOk (by decide) ?_
  simp only [go_sem, ↓reduceIte, Nat.reduceEqDiff, Nat.reduceAdd, Nat.reduceLeDiff, Nat.reduceMul, Nat.reducePow, Nat.reduceLT, Nat.reduceSub, Int.reduceEq, Int.reduceLT, Int.reduceLE, Int.reduceNeg, Int.reduceToNat, Int.cast_ofNat_Int]
  refine wpL_region Tryd.tyOk (by decide) ?_
  simp only [go_sem, ↓reduceIte, Nat.reduceEqDiff, Nat.reduceAdd, Nat.reduceLeDiff, Nat.reduceMul, Nat.reducePow, Nat.reduceLT, Nat.reduceSub, Int.reduceEq, Int.reduceLT, Int.reduceLE, Int.reduceNeg, Int.reduceToNat, Int.cast_ofNat_Int]
  refine ⟨_, register25 p r, ?_⟩
  cases hreg : regB p r with
  | false =>
    simp only [go_sem, ↓reduceIte, Nat.reduceEqDiff, Nat.reduceAdd, Nat.reduceLeDiff, Nat.reduceMul, Nat.reducePow, Nat.reduceLT, Nat.reduceSub, Int.reduceEq, Int.reduceLT, Int.reduceLE, Int.reduceNeg, Int.reduceToNat, Int.cast_ofNat_Int]
    refine wpL_ret ?_
    try simp only [go_sem, ↓reduceIte, Nat.reduceEqDiff, Nat.reduceAdd, Nat.reduceLeDiff, Nat.reduceMul, Nat.reducePow, Nat.reduceLT, Nat.reduceSub, Int.reduceEq, Int.reduceLT, Int.reduceLE, Int.reduceNeg, Int.reduceToNat, Int.cast_ofNat_Int]
    rw [← hBQ]
    try simp only [go_sem, ↓reduceIte, Nat.reduceEqDiff, Nat.reduceAdd, Nat.reduceLeDiff, Nat.reduceMul, Nat.reducePow, Nat.reduceLT, Nat.reduceSub, Int.reduceEq, Int.reduceLT, Int.reduceLE, Int.reduceNeg, Int.reduceToNat, Int.cast_ofNat_Int]
    simp [hreg]
  | true =>
    have h2 : 0 ≤ r ∧ r < p.regs := by simpa [regB] using hreg
    have h80 : r < 80 := by omega
    simp only [go_sem, ↓reduceIte, Nat.reduceEqDiff, Nat.reduceAdd, Nat.reduceLeDiff, Nat.reduceMul, Nat.reducePow, Nat.reduceLT, Nat.reduceSub, Int.reduceEq, Int.reduceLT, Int.reduceLE, Int.reduceNeg, Int.reduceToNat, Int.cast_ofNat_Int, eBs_drop (hr h2.1 h80), Nat.mul_one]
    refine ⟨⟨h2.1, h80⟩, ?_⟩
    refine wpL_ret ?_
    try simp only [go_sem, ↓reduceIte, Nat.reduceEqDiff, Nat.reduceAdd, Nat.reduceLeDiff, Nat.reduceMul, Nat.reducePow, Nat.reduceLT, Nat.reduceSub, Int.reduceEq, Int.reduceLT, Int.reduceLE, Int.reduceNeg, Int.reduceToNat, Int.cast_ofNat_Int]
    rw [← hBQ]
    try simp only [go_sem, ↓reduceIte, Nat.reduceEqDiff, Nat.reduceAdd, Nat.reduceLeDiff, Nat.reduceMul, Nat.reducePow, Nat.reduceLT, Nat.reduceSub, Int.reduceEq, Int.reduceLT, Int.reduceLE, Int.reduceNeg, Int.reduceToNat, Int.cast_ofNat_Int]
    simp [hreg]
end Go.Proofs.YtcafkemjegkhkaaDoor
