/-
  The walks of layer 51, continued: the lane program of a kernel, the program's own.
-/
import Derived.Test.YtcafkemjegkhkaaDoorW16
set_option linter.unusedSimpArgs false
set_option linter.unusedVariables false
set_option maxRecDepth 100000
set_option maxHeartbeats 4000000
namespace Go.Proofs.YtcafkemjegkhkaaDoor
open Go.Abs Go

def eBl (ws : List Bool) : List (List DC) := ws.map fun b => [.sc (.bool b)]
@[simp] theorem eBl_length (ws : List Bool) : (eBl ws).length = ws.length := by simp [eBl]
theorem eBl_get {ws : List Bool} {i : Nat} {b : Bool} (h : ws[i]? = some b) : (eBl ws)[i]? = some [.sc (.bool b)] := by simp [eBl, h]
theorem eBl_set (ws : List Bool) (i : Nat) : (eBl ws).set i [.sc (.bool true)] = eBl (ws.set i true) := by simp [eBl, List.map_set]
def uW (k : Kernel) (i : Nat) : List Bool := (List.range k.inputs.toNat).map fun (v : Nat) => (k.ops.take i).any fun o => usesB o (v : Int)
theorem uW_len (k : Kernel) (i : Nat) : (uW k i).length = k.inputs.toNat := by simp [uW]
theorem uW_get (k : Kernel) (i : Nat) {v : Nat} (h : v < k.inputs.toNat) : (uW k i)[v]? = some ((k.ops.take i).any fun o => usesB o (v : Int)) := by simp [uW, h]
def mark (ws : List Bool) (v : Int) : List Bool := if 0 ≤ v then ws.set v.toNat true else ws
theorem mark_len (ws : List Bool) (v : Int) : (mark ws v).length = ws.length := by unfold mark; split <;> simp
theorem mark_get (ws : List Bool) (v : Int) {m : Nat} (h : m < ws.length) : (mark ws v)[m]? = if v = m then some true else ws[m]? := by
  unfold mark
  by_cases h0 : 0 ≤ v
  · rw [if_pos h0, List.getElem?_set]
    by_cases hv : v = m
    · rw [if_pos (by omega), if_pos (by omega), if_pos hv]
    · rw [if_neg (by omega), if_neg hv]
  · rw [if_neg h0, if_neg (by omega)]
theorem mark_big {ws : List Bool} {v : Int} (h : (ws.length : Int) ≤ v) : mark ws v = ws := by
  unfold mark
  split
  · rw [List.set_eq_of_length_le (by omega)]
  · rfl
theorem uW_succ {k : Kernel} {i : Nat} {o : KOp} (h : k.ops[i]? = some o) : mark (mark (uW k i) o.a) o.b = uW k (i + 1) := by
  apply List.ext_getElem?
  intro m
  by_cases hm : m < k.inputs.toNat
  · rw [mark_get _ _ (by rw [mark_len, uW_len]; exact hm), mark_get _ _ (by rw [uW_len]; exact hm), uW_get k i hm, uW_get k (i + 1) hm, take_succ_get h, List.any_append]
    by_cases hb : o.b = m
    · simp [hb, usesB]
    · by_cases ha : o.a = m
      · simp [ha, hb, usesB]
      · simp [ha, hb, usesB]
  · rw [List.getElem?_eq_none (by rw [mark_len, mark_len, uW_len]; omega), List.getElem?_eq_none (by rw [uW_len]; omega)]
theorem uW_all {k : Kernel} {v : Nat} (h : v < k.inputs.toNat) : (uW k k.ops.length)[v]? = some (usedIn k 0 v) := by
  rw [uW_get k _ h, List.take_length]
  rfl
theorem uW_zero (k : Kernel) : List.replicate k.inputs.toNat [DC.sc (Value.bool false)] = eBl (uW k 0) := by
  unfold uW eBl
  exact List.ext_getElem (by simp) (fun i h1 h2 => by simp)

theorem register21 (k : Kernel) (bufs : List Int) (v : Int) (hn : 0 ≤ k.inputs ∧ k.inputs ≤ 16) (hv : v - k.inputs < bufs.length) (hl : bufs.length ≤ 100) (hb : ∀ b, b ∈ bufs → 0 ≤ b ∧ b ≤ 100) :
    Gives Tryd.prog 21 [.c (eInt v), .ptr (eKernel k), .ptr [.sl (eInts bufs)]] (rInt (regS k bufs v)) := by
  refine Gives.intro Tryd.tyOk Tryd.func21 (by kernel_rfl) rfl (by simp [Tryd.ntmps21]) ?_
  simp only [go_sem, ↓reduceIte, Nat.reduceEqDiff, Nat.reduceAdd, Nat.reduceLeDiff, Nat.reduceMul, Nat.reducePow, Nat.reduceLT, Nat.reduceSub, Int.reduceEq, Int.reduceLT, Int.reduceLE, Int.reduceNeg, Int.reduceToNat, Int.cast_ofNat_Int]
  simp only [Tryd.ntmps21, Tryd.results21, eInt, keyOf, eKOp, eKernel, rBool, rInt, rInts, eLOp, rLOB, eLanes, rLanes, List.map_cons, List.map_nil]
  generalize hBQ : retQ _ _ _ = BQ
  iterate 2 (refine wpL_region Tryd.tyOk (by decide) ?_; simp only [go_sem, ↓reduceIte, Nat.reduceEqDiff, Nat.reduceAdd, Nat.reduceLeDiff, Nat.reduceMul, Nat.reducePow, Nat.reduceLT, Nat.reduceSub, Int.reduceEq, Int.reduceLT, Int.reduceLE, Int.reduceNeg, Int.reduceToNat, Int.cast_ofNat_Int])
  refine wpL_cond (t := decide (v < k.inputs)) (by simp only [go_sem, ↓reduceIte, Nat.reduceEqDiff, Nat.reduceAdd, Nat.reduceLeDiff, Nat.reduceMul, Nat.reducePow, Nat.reduceLT, Nat.reduceSub, Int.reduceEq, Int.reduceLT, Int.reduceLE, Int.reduceNeg, Int.reduceToNat, Int.cast_ofNat_Int]) (fun h => ?_) (fun h => ?_)
  · have h : v < k.inputs := of_decide_eq_true h
    simp only [go_sem, ↓reduceIte, Nat.reduceEqDiff, Nat.reduceAdd, Nat.reduceLeDiff, Nat.reduceMul, Nat.reducePow, Nat.reduceLT, Nat.reduceSub, Int.reduceEq, Int.reduceLT, Int.reduceLE, Int.reduceNeg, Int.reduceToNat, Int.cast_ofNat_Int]
    refine wpL_region Tryd.tyOk (by decide) ?_
    simp only [go_sem, ↓reduceIte, Nat.reduceEqDiff, Nat.reduceAdd, Nat.reduceLeDiff, Nat.reduceMul, Nat.reducePow, Nat.reduceLT, Nat.reduceSub, Int.reduceEq, Int.reduceLT, Int.reduceLE, Int.reduceNeg, Int.reduceToNat, Int.cast_ofNat_Int]
    refine wpL_ret ?_
    try simp only [go_sem, ↓reduceIte, Nat.reduceEqDiff, Nat.reduceAdd, Nat.reduceLeDiff, Nat.reduceMul, Nat.reducePow, Nat.reduceLT, Nat.reduceSub, Int.reduceEq, Int.reduceLT, Int.reduceLE, Int.reduceNeg, Int.reduceToNat, Int.cast_ofNat_Int]
    rw [← hBQ]
    try simp only [go_sem, ↓reduceIte, Nat.reduceEqDiff, Nat.reduceAdd, Nat.reduceLeDiff, Nat.reduceMul, Nat.reducePow, Nat.reduceLT, Nat.reduceSub, Int.reduceEq, Int.reduceLT, Int.reduceLE, Int.reduceNeg, Int.reduceToNat, Int.cast_ofNat_Int]
    simp [regS, h]
  · have h : ¬ v < k.inputs := by simpa using h
    have hw : IntKind.i64.wrap (v - k.inputs) = v - k.inputs := IntWalk.i64_in _ (by omega)
    obtain ⟨b, hb'⟩ := get_ex (l := bufs) (i := (v - k.inputs).toNat) (by omega)
    have hbb := hb b (List.mem_of_getElem? hb')
    have hw2 : IntKind.i64.wrap (k.inputs + b) = k.inputs + b := IntWalk.i64_in _ (by omega)
    have h0 : 0 ≤ v - k.inputs := by omega
    simp only [go_sem, ↓reduceIte, Nat.reduceEqDiff, Nat.reduceAdd, Nat.reduceLeDiff, Nat.reduceMul, Nat.reducePow, Nat.reduceLT, Nat.reduceSub, Int.reduceEq, Int.reduceLT, Int.reduceLE, Int.reduceNeg, Int.reduceToNat, Int.cast_ofNat_Int]
    refine wpL_skip ?_
    refine wpL_draw Tryd.tyOk (by kernel_rfl) 10 (by decide) (by decide) ?_
    simp only [go_sem, ↓reduceIte, Nat.reduceEqDiff, Nat.reduceAdd, Nat.reduceLeDiff, Nat.reduceMul, Nat.reducePow, Nat.reduceLT, Nat.reduceSub, Int.reduceEq, Int.reduceLT, Int.reduceLE, Int.reduceNeg, Int.reduceToNat, Int.cast_ofNat_Int, hw, eInts_get hb', h0, hw2]
    refine wpL_ret ?_
    try simp only [go_sem, ↓reduceIte, Nat.reduceEqDiff, Nat.reduceAdd, Nat.reduceLeDiff, Nat.reduceMul, Nat.reducePow, Nat.reduceLT, Nat.reduceSub, Int.reduceEq, Int.reduceLT, Int.reduceLE, Int.reduceNeg, Int.reduceToNat, Int.cast_ofNat_Int]
    rw [← hBQ]
    try simp only [go_sem, ↓reduceIte, Nat.reduceEqDiff, Nat.reduceAdd, Nat.reduceLeDiff, Nat.reduceMul, Nat.reducePow, Nat.reduceLT, Nat.reduceSub, Int.reduceEq, Int.reduceLT, Int.reduceLE, Int.reduceNeg, Int.reduceToNat, Int.cast_ofNat_Int]
    simp [regS, h, hb']

theorem program9 (k : Kernel) : Gives Tryd.prog 9 [.agg (eKernel k)] (rLanes (programS k)) := by
  refine Gives.intro Tryd.tyOk Tryd.func9 (by kernel_rfl) rfl (by simp [Tryd.ntmps9]) ?_
  simp only [go_sem, ↓reduceIte, Nat.reduceEqDiff, Nat.reduceAdd, Nat.reduceLeDiff, Nat.reduceMul, Nat.reducePow, Nat.reduceLT, Nat.reduceSub, Int.reduceEq, Int.reduceLT, Int.reduceLE, Int.reduceNeg, Int.reduceToNat, Int.cast_ofNat_Int]
  simp only [Tryd.ntmps9, Tryd.results9, eInt, keyOf, eKOp, eKernel, rBool, rInt, rInts, eLOp, rLOB, eLanes, rLanes, List.map_cons, List.map_nil]
  generalize hBQ : retQ _ _ _ = BQ
  iterate 2 (refine wpL_region Tryd.tyOk (by decide) ?_; simp only [go_sem, ↓reduceIte, Nat.reduceEqDiff, Nat.reduceAdd, Nat.reduceLeDiff, Nat.reduceMul, Nat.reducePow, Nat.reduceLT, Nat.reduceSub, Int.reduceEq, Int.reduceLT, Int.reduceLE, Int.reduceNeg, Int.reduceToNat, Int.cast_ofNat_Int])
  refine ⟨_, right24 k, ?_⟩
  simp only [go_sem, ↓reduceIte, Nat.reduceEqDiff, Nat.reduceAdd, Nat.reduceLeDiff, Nat.reduceMul, Nat.reducePow, Nat.reduceLT, Nat.reduceSub, Int.reduceEq, Int.reduceLT, Int.reduceLE, Int.reduceNeg, Int.reduceToNat, Int.cast_ofNat_Int]
  refine wpL_cond (t := !decide (right k = 0)) (by rfl) (fun hb => ?_) (fun hb => ?_)
  · have hr : ¬ right k = 0 := by simpa using hb
    simp only [go_sem, ↓reduceIte, Nat.reduceEqDiff, Nat.reduceAdd, Nat.reduceLeDiff, Nat.reduceMul, Nat.reducePow, Nat.reduceLT, Nat.reduceSub, Int.reduceEq, Int.reduceLT, Int.reduceLE, Int.reduceNeg, Int.reduceToNat, Int.cast_ofNat_Int]
    refine wpL_region Tryd.tyOk (by decide) ?_
    simp only [go_sem, ↓reduceIte, Nat.reduceEqDiff, Nat.reduceAdd, Nat.reduceLeDiff, Nat.reduceMul, Nat.reducePow, Nat.reduceLT, Nat.reduceSub, Int.reduceEq, Int.reduceLT, Int.reduceLE, Int.reduceNeg, Int.reduceToNat, Int.cast_ofNat_Int]
    refine wpL_nilCell 2 1 600 41 6 (by rfl) (by rfl) (by decide) (by simp only [go_sem, ↓reduceIte, Nat.reduceEqDiff, Nat.reduceAdd, Nat.reduceLeDiff, Nat.reduceMul, Nat.reducePow, Nat.reduceLT, Nat.reduceSub, Int.reduceEq, Int.reduceLT, Int.reduceLE, Int.reduceNeg, Int.reduceToNat, Int.cast_ofNat_Int]) ?_
    simp only [go_sem, ↓reduceIte, Nat.reduceEqDiff, Nat.reduceAdd, Nat.reduceLeDiff, Nat.reduceMul, Nat.reducePow, Nat.reduceLT, Nat.reduceSub, Int.reduceEq, Int.reduceLT, Int.reduceLE, Int.reduceNeg, Int.reduceToNat, Int.cast_ofNat_Int]
    refine wpL_ret ?_
    try simp only [go_sem, ↓reduceIte, Nat.reduceEqDiff, Nat.reduceAdd, Nat.reduceLeDiff, Nat.reduceMul, Nat.reducePow, Nat.reduceLT, Nat.reduceSub, Int.reduceEq, Int.reduceLT, Int.reduceLE, Int.reduceNeg, Int.reduceToNat, Int.cast_ofNat_Int]
    rw [← hBQ]
    try simp only [go_sem, ↓reduceIte, Nat.reduceEqDiff, Nat.reduceAdd, Nat.reduceLeDiff, Nat.reduceMul, Nat.reducePow, Nat.reduceLT, Nat.reduceSub, Int.reduceEq, Int.reduceLT, Int.reduceLE, Int.reduceNeg, Int.reduceToNat, Int.cast_ofNat_Int]
    simp [programS, hr]
  have hr : right k = 0 := by simpa using hb
  obtain ⟨⟨hk1, hk2, hk3, hk4⟩, hval⟩ := right_zero hr
  obtain ⟨hm0, hm1, hbb⟩ := bufsS_bound hr
  have hbl := bufsS_len hr
  have hwm : IntKind.i64.wrap (k.inputs + mostS k) = k.inputs + mostS k := IntWalk.i64_in _ (by omega)
  simp only [go_sem, ↓reduceIte, Nat.reduceEqDiff, Nat.reduceAdd, Nat.reduceLeDiff, Nat.reduceMul, Nat.reducePow, Nat.reduceLT, Nat.reduceSub, Int.reduceEq, Int.reduceLT, Int.reduceLE, Int.reduceNeg, Int.reduceToNat, Int.cast_ofNat_Int]
  refine wpL_skip ?_
  refine wpL_region Tryd.tyOk (by decide) ?_
  simp only [go_sem, ↓reduceIte, Nat.reduceEqDiff, Nat.reduceAdd, Nat.reduceLeDiff, Nat.reduceMul, Nat.reducePow, Nat.reduceLT, Nat.reduceSub, Int.reduceEq, Int.reduceLT, Int.reduceLE, Int.reduceNeg, Int.reduceToNat, Int.cast_ofNat_Int]
  refine ⟨_, buffers13 lastUse25 k, ?_⟩
  simp only [go_sem, ↓reduceIte, Nat.reduceEqDiff, Nat.reduceAdd, Nat.reduceLeDiff, Nat.reduceMul, Nat.reducePow, Nat.reduceLT, Nat.reduceSub, Int.reduceEq, Int.reduceLT, Int.reduceLE, Int.reduceNeg, Int.reduceToNat, Int.cast_ofNat_Int]
  refine wpL_fast 1023 (by rfl) ?_
  simp only [go_sem, ↓reduceIte, Nat.reduceEqDiff, Nat.reduceAdd, Nat.reduceLeDiff, Nat.reduceMul, Nat.reducePow, Nat.reduceLT, Nat.reduceSub, Int.reduceEq, Int.reduceLT, Int.reduceLE, Int.reduceNeg, Int.reduceToNat, Int.cast_ofNat_Int]
  refine wpL_boxD 3 (xs := [.sl (eInts (bufsS k))]) (by rfl) (by rfl) ?_
  simp only [go_sem, ↓reduceIte, Nat.reduceEqDiff, Nat.reduceAdd, Nat.reduceLeDiff, Nat.reduceMul, Nat.reducePow, Nat.reduceLT, Nat.reduceSub, Int.reduceEq, Int.reduceLT, Int.reduceLE, Int.reduceNeg, Int.reduceToNat, Int.cast_ofNat_Int]
  refine wpL_lend (xs := [.sl (eInts (bufsS k))]) 3 3 (by rfl) (by rfl) ?_
  simp only [go_sem, ↓reduceIte, Nat.reduceEqDiff, Nat.reduceAdd, Nat.reduceLeDiff, Nat.reduceMul, Nat.reducePow, Nat.reduceLT, Nat.reduceSub, Int.reduceEq, Int.reduceLT, Int.reduceLE, Int.reduceNeg, Int.reduceToNat, Int.cast_ofNat_Int]
  refine wpL_lend (xs := eKernel k) 1 1 (by rfl) (by rfl) ?_
  simp only [go_sem, ↓reduceIte, Nat.reduceEqDiff, Nat.reduceAdd, Nat.reduceLeDiff, Nat.reduceMul, Nat.reducePow, Nat.reduceLT, Nat.reduceSub, Int.reduceEq, Int.reduceLT, Int.reduceLE, Int.reduceNeg, Int.reduceToNat, Int.cast_ofNat_Int]
  refine wpL_region Tryd.tyOk (by decide) ?_
  simp only [go_sem, ↓reduceIte, Nat.reduceEqDiff, Nat.reduceAdd, Nat.reduceLeDiff, Nat.reduceMul, Nat.reducePow, Nat.reduceLT, Nat.reduceSub, Int.reduceEq, Int.reduceLT, Int.reduceLE, Int.reduceNeg, Int.reduceToNat, Int.cast_ofNat_Int]
  refine wpL_region Tryd.tyOk (by decide) ?_
  simp only [go_sem, ↓reduceIte, Nat.reduceEqDiff, Nat.reduceAdd, Nat.reduceLeDiff, Nat.reduceMul, Nat.reducePow, Nat.reduceLT, Nat.reduceSub, Int.reduceEq, Int.reduceLT, Int.reduceLE, Int.reduceNeg, Int.reduceToNat, Int.cast_ofNat_Int]
  have hb48 : k.inputs ≤ 1099511627776 := by omega
  refine ⟨⟨hk1, Int.le_refl _, hb48⟩, ?_⟩
  rw [uW_zero]
  refine wpL_region Tryd.tyOk (by decide) ?_
  simp only [go_sem, ↓reduceIte, Nat.reduceEqDiff, Nat.reduceAdd, Nat.reduceLeDiff, Nat.reduceMul, Nat.reducePow, Nat.reduceLT, Nat.reduceSub, Int.reduceEq, Int.reduceLT, Int.reduceLE, Int.reduceNeg, Int.reduceToNat, Int.cast_ofNat_Int, List.length_map]
  refine wpL_block ?_
  generalize hB0 : blockQ _ _ _ = B0
  simp only [go_sem, ↓reduceIte, Nat.reduceEqDiff, Nat.reduceAdd, Nat.reduceLeDiff, Nat.reduceMul, Nat.reducePow, Nat.reduceLT, Nat.reduceSub, Int.reduceEq, Int.reduceLT, Int.reduceLE, Int.reduceNeg, Int.reduceToNat, Int.cast_ofNat_Int]
  have hn16 : k.inputs.toNat ≤ 16 := by omega
  refine wpL_loop (fun n s => ∃ i : Nat, i ≤ k.ops.length ∧ n = k.ops.length - i ∧ s = ⟨[(33, sint .i64 i), (32, sint .i64 k.ops.length), (31, .c (.d (.sl (k.ops.map eKOp)))), (6, .c (.row 29)), (5, .c (.d (.clo 21 [eKernel k, [.sl (eInts (bufsS k))]]))), (4, sint .i64 (mostS k)), (2, .c (.ptr 2 0)), (1, .c (.dptr (eKernel k)))], [(29, .arr 4 1 (eBl (uW k i)) false), (2, .box 30 [.d (eInt 0), .nil])]⟩) ?_ ?_
  · refine ⟨_, _, ⟨0, by omega, rfl, rfl⟩, ?_⟩
    refine le_mk ?_ ?_ ?_ <;> (simp only [go_sem, ↓reduceIte, Nat.reduceEqDiff, Nat.reduceAdd, Nat.reduceLeDiff, Nat.reduceMul, Nat.reducePow, Nat.reduceLT, Nat.reduceSub, Int.reduceEq, Int.reduceLT, Int.reduceLE, Int.reduceNeg, Int.reduceToNat, Int.cast_ofNat_Int]; try simp [eInt, keyOf, eKOp, eKernel, rBool, rInt, rInts, eLOp, rLOB, eLanes, rLanes, eInts]; try simp (disch := omega) only [IntWalk.i64_in, and_self])
  rintro n s ⟨i, hi, rfl, rfl⟩
  simp only [go_sem, ↓reduceIte, Nat.reduceEqDiff, Nat.reduceAdd, Nat.reduceLeDiff, Nat.reduceMul, Nat.reducePow, Nat.reduceLT, Nat.reduceSub, Int.reduceEq, Int.reduceLT, Int.reduceLE, Int.reduceNeg, Int.reduceToNat, Int.cast_ofNat_Int]
  refine wpL_region Tryd.tyOk (by decide) ?_
  simp only [go_sem, ↓reduceIte, Nat.reduceEqDiff, Nat.reduceAdd, Nat.reduceLeDiff, Nat.reduceMul, Nat.reducePow, Nat.reduceLT, Nat.reduceSub, Int.reduceEq, Int.reduceLT, Int.reduceLE, Int.reduceNeg, Int.reduceToNat, Int.cast_ofNat_Int]
  refine wpL_cond (t := decide ((i : Int) < k.ops.length)) (by simp only [go_sem, ↓reduceIte, Nat.reduceEqDiff, Nat.reduceAdd, Nat.reduceLeDiff, Nat.reduceMul, Nat.reducePow, Nat.reduceLT, Nat.reduceSub, Int.reduceEq, Int.reduceLT, Int.reduceLE, Int.reduceNeg, Int.reduceToNat, Int.cast_ofNat_Int]) (fun hlt => ?_) (fun hge => ?_)
  · have hlt := lt_of hlt
    obtain ⟨o, ho⟩ := get_ex (l := k.ops) (i := i) (by omega)
    simp only [go_sem, ↓reduceIte, Nat.reduceEqDiff, Nat.reduceAdd, Nat.reduceLeDiff, Nat.reduceMul, Nat.reducePow, Nat.reduceLT, Nat.reduceSub, Int.reduceEq, Int.reduceLT, Int.reduceLE, Int.reduceNeg, Int.reduceToNat, Int.cast_ofNat_Int]
    refine wpL_skip ?_
    refine wpL_block ?_
    generalize hB1 : blockQ _ _ _ = B1
    simp only [go_sem, ↓reduceIte, Nat.reduceEqDiff, Nat.reduceAdd, Nat.reduceLeDiff, Nat.reduceMul, Nat.reducePow, Nat.reduceLT, Nat.reduceSub, Int.reduceEq, Int.reduceLT, Int.reduceLE, Int.reduceNeg, Int.reduceToNat, Int.cast_ofNat_Int]
    refine wpL_region Tryd.tyOk (by decide) ?_
    simp only [go_sem, ↓reduceIte, Nat.reduceEqDiff, Nat.reduceAdd, Nat.reduceLeDiff, Nat.reduceMul, Nat.reducePow, Nat.reduceLT, Nat.reduceSub, Int.reduceEq, Int.reduceLT, Int.reduceLE, Int.reduceNeg, Int.reduceToNat, Int.cast_ofNat_Int, eKOps_get ho]
    refine wpL_region Tryd.tyOk (by decide) ?_
    simp only [go_sem, ↓reduceIte, Nat.reduceEqDiff, Nat.reduceAdd, Nat.reduceLeDiff, Nat.reduceMul, Nat.reducePow, Nat.reduceLT, Nat.reduceSub, Int.reduceEq, Int.reduceLT, Int.reduceLE, Int.reduceNeg, Int.reduceToNat, Int.cast_ofNat_Int]
    refine wpL_block ?_
    generalize hB2 : blockQ _ _ _ = B2
    simp only [go_sem, ↓reduceIte, Nat.reduceEqDiff, Nat.reduceAdd, Nat.reduceLeDiff, Nat.reduceMul, Nat.reducePow, Nat.reduceLT, Nat.reduceSub, Int.reduceEq, Int.reduceLT, Int.reduceLE, Int.reduceNeg, Int.reduceToNat, Int.cast_ofNat_Int]
    refine wpL_loop (fun n s => ∃ j : Nat, j ≤ 2 ∧ n = 2 - j ∧ s = ⟨[(43, sint .i64 j), (42, sint .i64 2), (41, .c (.row 41)), (33, sint .i64 i), (32, sint .i64 k.ops.length), (31, .c (.d (.sl (k.ops.map eKOp)))), (6, .c (.row 29)), (5, .c (.d (.clo 21 [eKernel k, [.sl (eInts (bufsS k))]]))), (4, sint .i64 (mostS k)), (2, .c (.ptr 2 0)), (1, .c (.dptr (eKernel k)))], [(41, .arr 3 1 (eInts [o.a, o.b]) false), (29, .arr 4 1 (eBl (([o.a, o.b].take j).foldl mark (uW k i))) false), (2, .box 30 [.d (eInt 0), .nil])]⟩) ?_ ?_
    · refine ⟨_, _, ⟨0, by omega, rfl, rfl⟩, ?_⟩
      refine le_mk ?_ ?_ ?_ <;> (simp only [go_sem, ↓reduceIte, Nat.reduceEqDiff, Nat.reduceAdd, Nat.reduceLeDiff, Nat.reduceMul, Nat.reducePow, Nat.reduceLT, Nat.reduceSub, Int.reduceEq, Int.reduceLT, Int.reduceLE, Int.reduceNeg, Int.reduceToNat, Int.cast_ofNat_Int]; try simp [eInt, keyOf, eKOp, eKernel, rBool, rInt, rInts, eLOp, rLOB, eLanes, rLanes, eInts, eInts]; try simp (disch := omega) only [IntWalk.i64_in, and_self])
    rintro n s ⟨j, hj, rfl, rfl⟩
    simp only [go_sem, ↓reduceIte, Nat.reduceEqDiff, Nat.reduceAdd, Nat.reduceLeDiff, Nat.reduceMul, Nat.reducePow, Nat.reduceLT, Nat.reduceSub, Int.reduceEq, Int.reduceLT, Int.reduceLE, Int.reduceNeg, Int.reduceToNat, Int.cast_ofNat_Int]
    refine wpL_region Tryd.tyOk (by decide) ?_
    simp only [go_sem, ↓reduceIte, Nat.reduceEqDiff, Nat.reduceAdd, Nat.reduceLeDiff, Nat.reduceMul, Nat.reducePow, Nat.reduceLT, Nat.reduceSub, Int.reduceEq, Int.reduceLT, Int.reduceLE, Int.reduceNeg, Int.reduceToNat, Int.cast_ofNat_Int]
    refine wpL_cond (t := decide ((j : Int) < 2)) (by simp only [go_sem, ↓reduceIte, Nat.reduceEqDiff, Nat.reduceAdd, Nat.reduceLeDiff, Nat.reduceMul, Nat.reducePow, Nat.reduceLT, Nat.reduceSub, Int.reduceEq, Int.reduceLT, Int.reduceLE, Int.reduceNeg, Int.reduceToNat, Int.cast_ofNat_Int]) (fun hlt2 => ?_) (fun hge2 => ?_)
    · have hlt2 := lt_of hlt2
      obtain ⟨v, hv⟩ := get_ex (l := [o.a, o.b]) (i := j) (by simp; omega)
      have hnext : ([o.a, o.b].take (j + 1)).foldl mark (uW k i) = mark (([o.a, o.b].take j).foldl mark (uW k i)) v := by
        rw [take_succ_get hv, List.foldl_append]; rfl
      have hjl : (j : Int) < (eInts [o.a, o.b]).length := by simp; omega
      have hlen : (([o.a, o.b].take j).foldl mark (uW k i)).length = k.inputs.toNat := by
        have : ∀ (l : List Int) (ws : List Bool), (l.foldl mark ws).length = ws.length := by
          intro l
          induction l with
          | nil => intro ws; rfl
          | cons x l ih => intro ws; rw [List.foldl_cons, ih, mark_len]
        rw [this, uW_len]
      generalize hws : ([o.a, o.b].take j).foldl mark (uW k i) = ws at *
      simp only [go_sem, ↓reduceIte, Nat.reduceEqDiff, Nat.reduceAdd, Nat.reduceLeDiff, Nat.reduceMul, Nat.reducePow, Nat.reduceLT, Nat.reduceSub, Int.reduceEq, Int.reduceLT, Int.reduceLE, Int.reduceNeg, Int.reduceToNat, Int.cast_ofNat_Int]
      refine wpL_skip ?_
      refine wpL_block ?_
      generalize hB3 : blockQ _ _ _ = B3
      simp only [go_sem, ↓reduceIte, Nat.reduceEqDiff, Nat.reduceAdd, Nat.reduceLeDiff, Nat.reduceMul, Nat.reducePow, Nat.reduceLT, Nat.reduceSub, Int.reduceEq, Int.reduceLT, Int.reduceLE, Int.reduceNeg, Int.reduceToNat, Int.cast_ofNat_Int]
      refine wpL_region Tryd.tyOk (by decide) ?_
      simp only [go_sem, ↓reduceIte, Nat.reduceEqDiff, Nat.reduceAdd, Nat.reduceLeDiff, Nat.reduceMul, Nat.reducePow, Nat.reduceLT, Nat.reduceSub, Int.reduceEq, Int.reduceLT, Int.reduceLE, Int.reduceNeg, Int.reduceToNat, Int.cast_ofNat_Int, eInts_get hv, hjl]
      by_cases h0 : v ≥ 0
      · by_cases h1 : v < k.inputs
        · refine wpL_region Tryd.tyOk (by decide) ?_
          simp only [go_sem, ↓reduceIte, Nat.reduceEqDiff, Nat.reduceAdd, Nat.reduceLeDiff, Nat.reduceMul, Nat.reducePow, Nat.reduceLT, Nat.reduceSub, Int.reduceEq, Int.reduceLT, Int.reduceLE, Int.reduceNeg, Int.reduceToNat, Int.cast_ofNat_Int, h0, h1, decide_true]
          refine wpL_cond (t := true) (by simp only [go_sem, ↓reduceIte, Nat.reduceEqDiff, Nat.reduceAdd, Nat.reduceLeDiff, Nat.reduceMul, Nat.reducePow, Nat.reduceLT, Nat.reduceSub, Int.reduceEq, Int.reduceLT, Int.reduceLE, Int.reduceNeg, Int.reduceToNat, Int.cast_ofNat_Int]) (fun _ => ?_) (fun h => by cases h)
          simp only [go_sem, ↓reduceIte, Nat.reduceEqDiff, Nat.reduceAdd, Nat.reduceLeDiff, Nat.reduceMul, Nat.reducePow, Nat.reduceLT, Nat.reduceSub, Int.reduceEq, Int.reduceLT, Int.reduceLE, Int.reduceNeg, Int.reduceToNat, Int.cast_ofNat_Int]
          obtain ⟨b0, hb0⟩ := get_ex (l := ws) (i := v.toNat) (by omega)
          have h0' : 0 ≤ v := h0
          have hvl : v < (ws.length : Int) := by omega
          refine wpL_region Tryd.tyOk (by decide) ?_
          simp only [go_sem, ↓reduceIte, Nat.reduceEqDiff, Nat.reduceAdd, Nat.reduceLeDiff, Nat.reduceMul, Nat.reducePow, Nat.reduceLT, Nat.reduceSub, Int.reduceEq, Int.reduceLT, Int.reduceLE, Int.reduceNeg, Int.reduceToNat, Int.cast_ofNat_Int, eBl_get hb0, eBl_length, h0', hvl, and_self, eBl_set]
          rw [← hB3]
          try simp only [go_sem, ↓reduceIte, Nat.reduceEqDiff, Nat.reduceAdd, Nat.reduceLeDiff, Nat.reduceMul, Nat.reducePow, Nat.reduceLT, Nat.reduceSub, Int.reduceEq, Int.reduceLT, Int.reduceLE, Int.reduceNeg, Int.reduceToNat, Int.cast_ofNat_Int]
          refine wpL_region Tryd.tyOk (by decide) ?_
          simp only [go_sem, ↓reduceIte, Nat.reduceEqDiff, Nat.reduceAdd, Nat.reduceLeDiff, Nat.reduceMul, Nat.reducePow, Nat.reduceLT, Nat.reduceSub, Int.reduceEq, Int.reduceLT, Int.reduceLE, Int.reduceNeg, Int.reduceToNat, Int.cast_ofNat_Int]
          refine ⟨_, _, ?_, ⟨j + 1, by omega, rfl, rfl⟩, ?_⟩
          · omega
          · rw [hnext, show mark ws v = ws.set v.toNat true by unfold mark; rw [if_pos h0']]
            refine le_mk ?_ ?_ ?_ <;> (simp only [go_sem, ↓reduceIte, Nat.reduceEqDiff, Nat.reduceAdd, Nat.reduceLeDiff, Nat.reduceMul, Nat.reducePow, Nat.reduceLT, Nat.reduceSub, Int.reduceEq, Int.reduceLT, Int.reduceLE, Int.reduceNeg, Int.reduceToNat, Int.cast_ofNat_Int]; try simp [eInt, keyOf, eKOp, eKernel, rBool, rInt, rInts, eLOp, rLOB, eLanes, rLanes, eInts]; try simp (disch := omega) only [IntWalk.i64_in, and_self])
        · refine wpL_region Tryd.tyOk (by decide) ?_
          simp only [go_sem, ↓reduceIte, Nat.reduceEqDiff, Nat.reduceAdd, Nat.reduceLeDiff, Nat.reduceMul, Nat.reducePow, Nat.reduceLT, Nat.reduceSub, Int.reduceEq, Int.reduceLT, Int.reduceLE, Int.reduceNeg, Int.reduceToNat, Int.cast_ofNat_Int, h0, h1, decide_true, decide_false]
          refine wpL_cond (t := false) (by simp only [go_sem, ↓reduceIte, Nat.reduceEqDiff, Nat.reduceAdd, Nat.reduceLeDiff, Nat.reduceMul, Nat.reducePow, Nat.reduceLT, Nat.reduceSub, Int.reduceEq, Int.reduceLT, Int.reduceLE, Int.reduceNeg, Int.reduceToNat, Int.cast_ofNat_Int]) (fun h => by cases h) (fun _ => ?_)
          simp only [go_sem, ↓reduceIte, Nat.reduceEqDiff, Nat.reduceAdd, Nat.reduceLeDiff, Nat.reduceMul, Nat.reducePow, Nat.reduceLT, Nat.reduceSub, Int.reduceEq, Int.reduceLT, Int.reduceLE, Int.reduceNeg, Int.reduceToNat, Int.cast_ofNat_Int]
          refine wpL_skip ?_
          try simp only [go_sem, ↓reduceIte, Nat.reduceEqDiff, Nat.reduceAdd, Nat.reduceLeDiff, Nat.reduceMul, Nat.reducePow, Nat.reduceLT, Nat.reduceSub, Int.reduceEq, Int.reduceLT, Int.reduceLE, Int.reduceNeg, Int.reduceToNat, Int.cast_ofNat_Int]
          rw [← hB3]
          try simp only [go_sem, ↓reduceIte, Nat.reduceEqDiff, Nat.reduceAdd, Nat.reduceLeDiff, Nat.reduceMul, Nat.reducePow, Nat.reduceLT, Nat.reduceSub, Int.reduceEq, Int.reduceLT, Int.reduceLE, Int.reduceNeg, Int.reduceToNat, Int.cast_ofNat_Int]
          refine wpL_region Tryd.tyOk (by decide) ?_
          simp only [go_sem, ↓reduceIte, Nat.reduceEqDiff, Nat.reduceAdd, Nat.reduceLeDiff, Nat.reduceMul, Nat.reducePow, Nat.reduceLT, Nat.reduceSub, Int.reduceEq, Int.reduceLT, Int.reduceLE, Int.reduceNeg, Int.reduceToNat, Int.cast_ofNat_Int]
          refine ⟨_, _, ?_, ⟨j + 1, by omega, rfl, rfl⟩, ?_⟩
          · omega
          · rw [hnext, mark_big (by rw [hlen]; omega)]
            refine le_mk ?_ ?_ ?_ <;> (simp only [go_sem, ↓reduceIte, Nat.reduceEqDiff, Nat.reduceAdd, Nat.reduceLeDiff, Nat.reduceMul, Nat.reducePow, Nat.reduceLT, Nat.reduceSub, Int.reduceEq, Int.reduceLT, Int.reduceLE, Int.reduceNeg, Int.reduceToNat, Int.cast_ofNat_Int]; try simp [eInt, keyOf, eKOp, eKernel, rBool, rInt, rInts, eLOp, rLOB, eLanes, rLanes, eInts]; try simp (disch := omega) only [IntWalk.i64_in, and_self])
      · refine wpL_region Tryd.tyOk (by decide) ?_
        simp only [go_sem, ↓reduceIte, Nat.reduceEqDiff, Nat.reduceAdd, Nat.reduceLeDiff, Nat.reduceMul, Nat.reducePow, Nat.reduceLT, Nat.reduceSub, Int.reduceEq, Int.reduceLT, Int.reduceLE, Int.reduceNeg, Int.reduceToNat, Int.cast_ofNat_Int, h0, decide_false]
        refine wpL_cond (t := false) (by simp only [go_sem, ↓reduceIte, Nat.reduceEqDiff, Nat.reduceAdd, Nat.reduceLeDiff, Nat.reduceMul, Nat.reducePow, Nat.reduceLT, Nat.reduceSub, Int.reduceEq, Int.reduceLT, Int.reduceLE, Int.reduceNeg, Int.reduceToNat, Int.cast_ofNat_Int]) (fun h => by cases h) (fun _ => ?_)
        simp only [go_sem, ↓reduceIte, Nat.reduceEqDiff, Nat.reduceAdd, Nat.reduceLeDiff, Nat.reduceMul, Nat.reducePow, Nat.reduceLT, Nat.reduceSub, Int.reduceEq, Int.reduceLT, Int.reduceLE, Int.reduceNeg, Int.reduceToNat, Int.cast_ofNat_Int]
        refine wpL_skip ?_
        try simp only [go_sem, ↓reduceIte, Nat.reduceEqDiff, Nat.reduceAdd, Nat.reduceLeDiff, Nat.reduceMul, Nat.reducePow, Nat.reduceLT, Nat.reduceSub, Int.reduceEq, Int.reduceLT, Int.reduceLE, Int.reduceNeg, Int.reduceToNat, Int.cast_ofNat_Int]
        rw [← hB3]
        try simp only [go_sem, ↓reduceIte, Nat.reduceEqDiff, Nat.reduceAdd, Nat.reduceLeDiff, Nat.reduceMul, Nat.reducePow, Nat.reduceLT, Nat.reduceSub, Int.reduceEq, Int.reduceLT, Int.reduceLE, Int.reduceNeg, Int.reduceToNat, Int.cast_ofNat_Int]
        refine wpL_region Tryd.tyOk (by decide) ?_
        simp only [go_sem, ↓reduceIte, Nat.reduceEqDiff, Nat.reduceAdd, Nat.reduceLeDiff, Nat.reduceMul, Nat.reducePow, Nat.reduceLT, Nat.reduceSub, Int.reduceEq, Int.reduceLT, Int.reduceLE, Int.reduceNeg, Int.reduceToNat, Int.cast_ofNat_Int]
        refine ⟨_, _, ?_, ⟨j + 1, by omega, rfl, rfl⟩, ?_⟩
        · omega
        · rw [hnext, show mark ws v = ws by unfold mark; rw [if_neg h0]]
          refine le_mk ?_ ?_ ?_ <;> (simp only [go_sem, ↓reduceIte, Nat.reduceEqDiff, Nat.reduceAdd, Nat.reduceLeDiff, Nat.reduceMul, Nat.reducePow, Nat.reduceLT, Nat.reduceSub, Int.reduceEq, Int.reduceLT, Int.reduceLE, Int.reduceNeg, Int.reduceToNat, Int.cast_ofNat_Int]; try simp [eInt, keyOf, eKOp, eKernel, rBool, rInt, rInts, eLOp, rLOB, eLanes, rLanes, eInts]; try simp (disch := omega) only [IntWalk.i64_in, and_self])
    · have hge2 := ge_of hge2
      have hj2 : j = 2 := by omega
      subst hj2
      have hall : ([o.a, o.b].take 2).foldl mark (uW k i) = uW k (i + 1) := uW_succ ho
      rw [hall]
      refine wpL_exit ?_
      simp only [go_sem, ↓reduceIte, Nat.reduceEqDiff, Nat.reduceAdd, Nat.reduceLeDiff, Nat.reduceMul, Nat.reducePow, Nat.reduceLT, Nat.reduceSub, Int.reduceEq, Int.reduceLT, Int.reduceLE, Int.reduceNeg, Int.reduceToNat, Int.cast_ofNat_Int]
      rw [← hB2]
      try simp only [go_sem, ↓reduceIte, Nat.reduceEqDiff, Nat.reduceAdd, Nat.reduceLeDiff, Nat.reduceMul, Nat.reducePow, Nat.reduceLT, Nat.reduceSub, Int.reduceEq, Int.reduceLT, Int.reduceLE, Int.reduceNeg, Int.reduceToNat, Int.cast_ofNat_Int]
      rw [← hB1]
      try simp only [go_sem, ↓reduceIte, Nat.reduceEqDiff, Nat.reduceAdd, Nat.reduceLeDiff, Nat.reduceMul, Nat.reducePow, Nat.reduceLT, Nat.reduceSub, Int.reduceEq, Int.reduceLT, Int.reduceLE, Int.reduceNeg, Int.reduceToNat, Int.cast_ofNat_Int]
      refine wpL_region Tryd.tyOk (by decide) ?_
      simp only [go_sem, ↓reduceIte, Nat.reduceEqDiff, Nat.reduceAdd, Nat.reduceLeDiff, Nat.reduceMul, Nat.reducePow, Nat.reduceLT, Nat.reduceSub, Int.reduceEq, Int.reduceLT, Int.reduceLE, Int.reduceNeg, Int.reduceToNat, Int.cast_ofNat_Int]
      refine ⟨_, _, ?_, ⟨i + 1, by omega, rfl, rfl⟩, ?_⟩
      · omega
      · refine le_mk ?_ ?_ ?_ <;> (simp only [go_sem, ↓reduceIte, Nat.reduceEqDiff, Nat.reduceAdd, Nat.reduceLeDiff, Nat.reduceMul, Nat.reducePow, Nat.reduceLT, Nat.reduceSub, Int.reduceEq, Int.reduceLT, Int.reduceLE, Int.reduceNeg, Int.reduceToNat, Int.cast_ofNat_Int]; try simp [eInt, keyOf, eKOp, eKernel, rBool, rInt, rInts, eLOp, rLOB, eLanes, rLanes, eInts]; try simp (disch := omega) only [IntWalk.i64_in, and_self])
  have hge := ge_of hge
  have hi' : i = k.ops.length := by omega
  subst hi'
  refine wpL_exit ?_
  simp only [go_sem, ↓reduceIte, Nat.reduceEqDiff, Nat.reduceAdd, Nat.reduceLeDiff, Nat.reduceMul, Nat.reducePow, Nat.reduceLT, Nat.reduceSub, Int.reduceEq, Int.reduceLT, Int.reduceLE, Int.reduceNeg, Int.reduceToNat, Int.cast_ofNat_Int]
  rw [← hB0]
  try simp only [go_sem, ↓reduceIte, Nat.reduceEqDiff, Nat.reduceAdd, Nat.reduceLeDiff, Nat.reduceMul, Nat.reducePow, Nat.reduceLT, Nat.reduceSub, Int.reduceEq, Int.reduceLT, Int.reduceLE, Int.reduceNeg, Int.reduceToNat, Int.cast_ofNat_Int]
  refine wpL_region Tryd.tyOk (by decide) ?_
  simp only [go_sem, ↓reduceIte, Nat.reduceEqDiff, Nat.reduceAdd, Nat.reduceLeDiff, Nat.reduceMul, Nat.reducePow, Nat.reduceLT, Nat.reduceSub, Int.reduceEq, Int.reduceLT, Int.reduceLE, Int.reduceNeg, Int.reduceToNat, Int.cast_ofNat_Int, hwm]
  refine wpL_nilCell 11 1 500 41 6 (by rfl) (by rfl) (by decide) (by simp only [go_sem, ↓reduceIte, Nat.reduceEqDiff, Nat.reduceAdd, Nat.reduceLeDiff, Nat.reduceMul, Nat.reducePow, Nat.reduceLT, Nat.reduceSub, Int.reduceEq, Int.reduceLT, Int.reduceLE, Int.reduceNeg, Int.reduceToNat, Int.cast_ofNat_Int]) ?_
  simp only [go_sem, ↓reduceIte, Nat.reduceEqDiff, Nat.reduceAdd, Nat.reduceLeDiff, Nat.reduceMul, Nat.reducePow, Nat.reduceLT, Nat.reduceSub, Int.reduceEq, Int.reduceLT, Int.reduceLE, Int.reduceNeg, Int.reduceToNat, Int.cast_ofNat_Int]
  refine wpL_region Tryd.tyOk (by decide) ?_
  simp only [go_sem, ↓reduceIte, Nat.reduceEqDiff, Nat.reduceAdd, Nat.reduceLeDiff, Nat.reduceMul, Nat.reducePow, Nat.reduceLT, Nat.reduceSub, Int.reduceEq, Int.reduceLT, Int.reduceLE, Int.reduceNeg, Int.reduceToNat, Int.cast_ofNat_Int, eBl_length, uW_len]
  refine wpL_block ?_
  generalize hB4 : blockQ _ _ _ = B4
  simp only [go_sem, ↓reduceIte, Nat.reduceEqDiff, Nat.reduceAdd, Nat.reduceLeDiff, Nat.reduceMul, Nat.reducePow, Nat.reduceLT, Nat.reduceSub, Int.reduceEq, Int.reduceLT, Int.reduceLE, Int.reduceNeg, Int.reduceToNat, Int.cast_ofNat_Int]
  refine wpL_loop (fun n s => ∃ i : Nat, i ≤ k.inputs.toNat ∧ n = k.inputs.toNat - i ∧ s = ⟨[(67, sint .i64 i), (66, sint .i64 k.inputs.toNat), (65, .c (.row 29)), (11, .c (.ptr 11 0)), (5, .c (.d (.clo 21 [eKernel k, [.sl (eInts (bufsS k))]]))), (2, .c (.ptr 2 0)), (1, .c (.dptr (eKernel k)))], [(11, .box 30 [.d (eInt (k.inputs + mostS k)), .row 500]), (500, .arr 41 6 ((loadsUpto k i).map eLOp) false), (29, .arr 4 1 (eBl (uW k k.ops.length)) false), (2, .box 30 [.d (eInt 0), .nil])]⟩) ?_ ?_
  · refine ⟨_, _, ⟨0, by omega, rfl, rfl⟩, ?_⟩
    refine le_mk ?_ ?_ ?_ <;> (simp only [go_sem, ↓reduceIte, Nat.reduceEqDiff, Nat.reduceAdd, Nat.reduceLeDiff, Nat.reduceMul, Nat.reducePow, Nat.reduceLT, Nat.reduceSub, Int.reduceEq, Int.reduceLT, Int.reduceLE, Int.reduceNeg, Int.reduceToNat, Int.cast_ofNat_Int]; try simp [eInt, keyOf, eKOp, eKernel, rBool, rInt, rInts, eLOp, rLOB, eLanes, rLanes, eInts, loadsUpto]; try simp (disch := omega) only [IntWalk.i64_in, and_self])
  rintro n s ⟨i, hi, rfl, rfl⟩
  simp only [go_sem, ↓reduceIte, Nat.reduceEqDiff, Nat.reduceAdd, Nat.reduceLeDiff, Nat.reduceMul, Nat.reducePow, Nat.reduceLT, Nat.reduceSub, Int.reduceEq, Int.reduceLT, Int.reduceLE, Int.reduceNeg, Int.reduceToNat, Int.cast_ofNat_Int]
  refine wpL_region Tryd.tyOk (by decide) ?_
  simp only [go_sem, ↓reduceIte, Nat.reduceEqDiff, Nat.reduceAdd, Nat.reduceLeDiff, Nat.reduceMul, Nat.reducePow, Nat.reduceLT, Nat.reduceSub, Int.reduceEq, Int.reduceLT, Int.reduceLE, Int.reduceNeg, Int.reduceToNat, Int.cast_ofNat_Int]
  refine wpL_cond (t := decide ((i : Int) < k.inputs.toNat)) (by simp only [go_sem, ↓reduceIte, Nat.reduceEqDiff, Nat.reduceAdd, Nat.reduceLeDiff, Nat.reduceMul, Nat.reducePow, Nat.reduceLT, Nat.reduceSub, Int.reduceEq, Int.reduceLT, Int.reduceLE, Int.reduceNeg, Int.reduceToNat, Int.cast_ofNat_Int]) (fun hlt => ?_) (fun hge => ?_)
  · have hlt := lt_of hlt
    have hui := eBl_get (uW_all (k := k) (v := i) (by omega))
    have hil : (i : Int) < ((uW k k.ops.length).length : Int) := by rw [uW_len]; exact hlt
    have hlt' : (i : Int) < (k.inputs.toNat : Int) := hlt
    have hll := loads_len k i
    simp only [go_sem, ↓reduceIte, Nat.reduceEqDiff, Nat.reduceAdd, Nat.reduceLeDiff, Nat.reduceMul, Nat.reducePow, Nat.reduceLT, Nat.reduceSub, Int.reduceEq, Int.reduceLT, Int.reduceLE, Int.reduceNeg, Int.reduceToNat, Int.cast_ofNat_Int]
    refine wpL_skip ?_
    refine wpL_block ?_
    generalize hB5 : blockQ _ _ _ = B5
    simp only [go_sem, ↓reduceIte, Nat.reduceEqDiff, Nat.reduceAdd, Nat.reduceLeDiff, Nat.reduceMul, Nat.reducePow, Nat.reduceLT, Nat.reduceSub, Int.reduceEq, Int.reduceLT, Int.reduceLE, Int.reduceNeg, Int.reduceToNat, Int.cast_ofNat_Int]
    iterate 2 (refine wpL_region Tryd.tyOk (by decide) ?_; simp only [go_sem, ↓reduceIte, Nat.reduceEqDiff, Nat.reduceAdd, Nat.reduceLeDiff, Nat.reduceMul, Nat.reducePow, Nat.reduceLT, Nat.reduceSub, Int.reduceEq, Int.reduceLT, Int.reduceLE, Int.reduceNeg, Int.reduceToNat, Int.cast_ofNat_Int, hui, hil, eBl_length, hlt'])
    cases hu : usedIn k 0 i with
    | true =>
      refine wpL_cond (t := true) (by simp only [go_sem, ↓reduceIte, Nat.reduceEqDiff, Nat.reduceAdd, Nat.reduceLeDiff, Nat.reduceMul, Nat.reducePow, Nat.reduceLT, Nat.reduceSub, Int.reduceEq, Int.reduceLT, Int.reduceLE, Int.reduceNeg, Int.reduceToNat, Int.cast_ofNat_Int]) (fun _ => ?_) (fun h => by cases h)
      simp only [go_sem, ↓reduceIte, Nat.reduceEqDiff, Nat.reduceAdd, Nat.reduceLeDiff, Nat.reduceMul, Nat.reducePow, Nat.reduceLT, Nat.reduceSub, Int.reduceEq, Int.reduceLT, Int.reduceLE, Int.reduceNeg, Int.reduceToNat, Int.cast_ofNat_Int]
      refine wpL_region Tryd.tyOk (by decide) ?_
      simp only [go_sem, ↓reduceIte, Nat.reduceEqDiff, Nat.reduceAdd, Nat.reduceLeDiff, Nat.reduceMul, Nat.reducePow, Nat.reduceLT, Nat.reduceSub, Int.reduceEq, Int.reduceLT, Int.reduceLE, Int.reduceNeg, Int.reduceToNat, Int.cast_ofNat_Int]
      refine ⟨⟨by rw [List.length_map]; omega, by simp⟩, ?_⟩
      rw [← hB5]
      try simp only [go_sem, ↓reduceIte, Nat.reduceEqDiff, Nat.reduceAdd, Nat.reduceLeDiff, Nat.reduceMul, Nat.reducePow, Nat.reduceLT, Nat.reduceSub, Int.reduceEq, Int.reduceLT, Int.reduceLE, Int.reduceNeg, Int.reduceToNat, Int.cast_ofNat_Int]
      refine wpL_region Tryd.tyOk (by decide) ?_
      simp only [go_sem, ↓reduceIte, Nat.reduceEqDiff, Nat.reduceAdd, Nat.reduceLeDiff, Nat.reduceMul, Nat.reducePow, Nat.reduceLT, Nat.reduceSub, Int.reduceEq, Int.reduceLT, Int.reduceLE, Int.reduceNeg, Int.reduceToNat, Int.cast_ofNat_Int]
      refine ⟨_, _, ?_, ⟨i + 1, by omega, rfl, rfl⟩, ?_⟩
      · omega
      · refine le_mk ?_ ?_ ?_ <;> (simp only [go_sem, ↓reduceIte, Nat.reduceEqDiff, Nat.reduceAdd, Nat.reduceLeDiff, Nat.reduceMul, Nat.reducePow, Nat.reduceLT, Nat.reduceSub, Int.reduceEq, Int.reduceLT, Int.reduceLE, Int.reduceNeg, Int.reduceToNat, Int.cast_ofNat_Int]; try simp [eInt, keyOf, eKOp, eKernel, rBool, rInt, rInts, eLOp, rLOB, eLanes, rLanes, eInts, loads_succ, hu, loadOf]; try simp (disch := omega) only [IntWalk.i64_in, and_self])
    | false =>
      refine wpL_cond (t := false) (by simp only [go_sem, ↓reduceIte, Nat.reduceEqDiff, Nat.reduceAdd, Nat.reduceLeDiff, Nat.reduceMul, Nat.reducePow, Nat.reduceLT, Nat.reduceSub, Int.reduceEq, Int.reduceLT, Int.reduceLE, Int.reduceNeg, Int.reduceToNat, Int.cast_ofNat_Int]) (fun h => by cases h) (fun _ => ?_)
      simp only [go_sem, ↓reduceIte, Nat.reduceEqDiff, Nat.reduceAdd, Nat.reduceLeDiff, Nat.reduceMul, Nat.reducePow, Nat.reduceLT, Nat.reduceSub, Int.reduceEq, Int.reduceLT, Int.reduceLE, Int.reduceNeg, Int.reduceToNat, Int.cast_ofNat_Int]
      refine wpL_skip ?_
      try simp only [go_sem, ↓reduceIte, Nat.reduceEqDiff, Nat.reduceAdd, Nat.reduceLeDiff, Nat.reduceMul, Nat.reducePow, Nat.reduceLT, Nat.reduceSub, Int.reduceEq, Int.reduceLT, Int.reduceLE, Int.reduceNeg, Int.reduceToNat, Int.cast_ofNat_Int]
      rw [← hB5]
      try simp only [go_sem, ↓reduceIte, Nat.reduceEqDiff, Nat.reduceAdd, Nat.reduceLeDiff, Nat.reduceMul, Nat.reducePow, Nat.reduceLT, Nat.reduceSub, Int.reduceEq, Int.reduceLT, Int.reduceLE, Int.reduceNeg, Int.reduceToNat, Int.cast_ofNat_Int]
      refine wpL_region Tryd.tyOk (by decide) ?_
      simp only [go_sem, ↓reduceIte, Nat.reduceEqDiff, Nat.reduceAdd, Nat.reduceLeDiff, Nat.reduceMul, Nat.reducePow, Nat.reduceLT, Nat.reduceSub, Int.reduceEq, Int.reduceLT, Int.reduceLE, Int.reduceNeg, Int.reduceToNat, Int.cast_ofNat_Int]
      refine ⟨_, _, ?_, ⟨i + 1, by omega, rfl, rfl⟩, ?_⟩
      · omega
      · refine le_mk ?_ ?_ ?_ <;> (simp only [go_sem, ↓reduceIte, Nat.reduceEqDiff, Nat.reduceAdd, Nat.reduceLeDiff, Nat.reduceMul, Nat.reducePow, Nat.reduceLT, Nat.reduceSub, Int.reduceEq, Int.reduceLT, Int.reduceLE, Int.reduceNeg, Int.reduceToNat, Int.cast_ofNat_Int]; try simp [eInt, keyOf, eKOp, eKernel, rBool, rInt, rInts, eLOp, rLOB, eLanes, rLanes, eInts, loads_succ, hu, loadOf]; try simp (disch := omega) only [IntWalk.i64_in, and_self])
  have hge := ge_of hge
  have hi' : i = k.inputs.toNat := by omega
  subst hi'
  generalize hld : loadsUpto k k.inputs.toNat = ld
  have hll : ld.length ≤ 16 := by have := loads_len k k.inputs.toNat; rw [hld] at this; omega
  refine wpL_exit ?_
  simp only [go_sem, ↓reduceIte, Nat.reduceEqDiff, Nat.reduceAdd, Nat.reduceLeDiff, Nat.reduceMul, Nat.reducePow, Nat.reduceLT, Nat.reduceSub, Int.reduceEq, Int.reduceLT, Int.reduceLE, Int.reduceNeg, Int.reduceToNat, Int.cast_ofNat_Int]
  rw [← hB4]
  try simp only [go_sem, ↓reduceIte, Nat.reduceEqDiff, Nat.reduceAdd, Nat.reduceLeDiff, Nat.reduceMul, Nat.reducePow, Nat.reduceLT, Nat.reduceSub, Int.reduceEq, Int.reduceLT, Int.reduceLE, Int.reduceNeg, Int.reduceToNat, Int.cast_ofNat_Int]
  refine wpL_region Tryd.tyOk (by decide) ?_
  simp only [go_sem, ↓reduceIte, Nat.reduceEqDiff, Nat.reduceAdd, Nat.reduceLeDiff, Nat.reduceMul, Nat.reducePow, Nat.reduceLT, Nat.reduceSub, Int.reduceEq, Int.reduceLT, Int.reduceLE, Int.reduceNeg, Int.reduceToNat, Int.cast_ofNat_Int, List.length_map]
  refine wpL_block ?_
  generalize hB6 : blockQ _ _ _ = B6
  simp only [go_sem, ↓reduceIte, Nat.reduceEqDiff, Nat.reduceAdd, Nat.reduceLeDiff, Nat.reduceMul, Nat.reducePow, Nat.reduceLT, Nat.reduceSub, Int.reduceEq, Int.reduceLT, Int.reduceLE, Int.reduceNeg, Int.reduceToNat, Int.cast_ofNat_Int]
  have hreg : ∀ v, v < k.inputs + k.ops.length → Gives Tryd.prog 21 [.c (eInt v), .ptr (eKernel k), .ptr [.sl (eInts (bufsS k))]] (rInt (regS k (bufsS k) v)) := fun v hv =>
    register21 k (bufsS k) v ⟨hk1, hk2⟩ (by rw [hbl]; omega) (by rw [hbl]; omega) (fun b hb => by have := hbb b hb; omega)
  refine wpL_loop (fun n s => ∃ i : Nat, i ≤ k.ops.length ∧ n = k.ops.length - i ∧ s = ⟨[(85, sint .i64 i), (84, sint .i64 k.ops.length), (83, .c (.d (.sl (k.ops.map eKOp)))), (11, .c (.ptr 11 0)), (5, .c (.d (.clo 21 [eKernel k, [.sl (eInts (bufsS k))]]))), (2, .c (.ptr 2 0)), (1, .c (.dptr (eKernel k)))], [(11, .box 30 [.d (eInt (k.inputs + mostS k)), .row 500]), (500, .arr 41 6 ((ld ++ opsUpto k (bufsS k) i).map eLOp) false), (2, .box 30 [.d (eInt 0), .nil])]⟩) ?_ ?_
  · refine ⟨_, _, ⟨0, by omega, rfl, rfl⟩, ?_⟩
    refine le_mk ?_ ?_ ?_ <;> (simp only [go_sem, ↓reduceIte, Nat.reduceEqDiff, Nat.reduceAdd, Nat.reduceLeDiff, Nat.reduceMul, Nat.reducePow, Nat.reduceLT, Nat.reduceSub, Int.reduceEq, Int.reduceLT, Int.reduceLE, Int.reduceNeg, Int.reduceToNat, Int.cast_ofNat_Int]; try simp [eInt, keyOf, eKOp, eKernel, rBool, rInt, rInts, eLOp, rLOB, eLanes, rLanes, eInts, opsUpto]; try simp (disch := omega) only [IntWalk.i64_in, and_self])
  rintro n s ⟨i, hi, rfl, rfl⟩
  have hol := ops_len k (bufsS k) i
  simp only [go_sem, ↓reduceIte, Nat.reduceEqDiff, Nat.reduceAdd, Nat.reduceLeDiff, Nat.reduceMul, Nat.reducePow, Nat.reduceLT, Nat.reduceSub, Int.reduceEq, Int.reduceLT, Int.reduceLE, Int.reduceNeg, Int.reduceToNat, Int.cast_ofNat_Int]
  refine wpL_region Tryd.tyOk (by decide) ?_
  simp only [go_sem, ↓reduceIte, Nat.reduceEqDiff, Nat.reduceAdd, Nat.reduceLeDiff, Nat.reduceMul, Nat.reducePow, Nat.reduceLT, Nat.reduceSub, Int.reduceEq, Int.reduceLT, Int.reduceLE, Int.reduceNeg, Int.reduceToNat, Int.cast_ofNat_Int]
  refine wpL_cond (t := decide ((i : Int) < k.ops.length)) (by simp only [go_sem, ↓reduceIte, Nat.reduceEqDiff, Nat.reduceAdd, Nat.reduceLeDiff, Nat.reduceMul, Nat.reducePow, Nat.reduceLT, Nat.reduceSub, Int.reduceEq, Int.reduceLT, Int.reduceLE, Int.reduceNeg, Int.reduceToNat, Int.cast_ofNat_Int]) (fun hlt => ?_) (fun hge => ?_)
  · have hlt := lt_of hlt
    obtain ⟨o, ho⟩ := get_ex (l := k.ops) (i := i) (by omega)
    obtain ⟨ha1, ha2, hb1, hb2⟩ := badI_false (hval i o ho).2
    have hw1 : IntKind.i64.wrap (k.inputs + i) = k.inputs + i := IntWalk.i64_in _ (by omega)
    simp only [go_sem, ↓reduceIte, Nat.reduceEqDiff, Nat.reduceAdd, Nat.reduceLeDiff, Nat.reduceMul, Nat.reducePow, Nat.reduceLT, Nat.reduceSub, Int.reduceEq, Int.reduceLT, Int.reduceLE, Int.reduceNeg, Int.reduceToNat, Int.cast_ofNat_Int]
    refine wpL_skip ?_
    refine wpL_block ?_
    generalize hB7 : blockQ _ _ _ = B7
    simp only [go_sem, ↓reduceIte, Nat.reduceEqDiff, Nat.reduceAdd, Nat.reduceLeDiff, Nat.reduceMul, Nat.reducePow, Nat.reduceLT, Nat.reduceSub, Int.reduceEq, Int.reduceLT, Int.reduceLE, Int.reduceNeg, Int.reduceToNat, Int.cast_ofNat_Int]
    refine wpL_region Tryd.tyOk (by decide) ?_
    simp only [go_sem, ↓reduceIte, Nat.reduceEqDiff, Nat.reduceAdd, Nat.reduceLeDiff, Nat.reduceMul, Nat.reducePow, Nat.reduceLT, Nat.reduceSub, Int.reduceEq, Int.reduceLT, Int.reduceLE, Int.reduceNeg, Int.reduceToNat, Int.cast_ofNat_Int, eKOps_get ho]
    refine wpL_draw Tryd.tyOk (by kernel_rfl) 14 (by decide) (by decide) ?_
    simp only [go_sem, ↓reduceIte, Nat.reduceEqDiff, Nat.reduceAdd, Nat.reduceLeDiff, Nat.reduceMul, Nat.reducePow, Nat.reduceLT, Nat.reduceSub, Int.reduceEq, Int.reduceLT, Int.reduceLE, Int.reduceNeg, Int.reduceToNat, Int.cast_ofNat_Int, hw1]
    refine ⟨_, hreg (k.inputs + i) (by omega), ?_⟩
    simp only [go_sem, ↓reduceIte, Nat.reduceEqDiff, Nat.reduceAdd, Nat.reduceLeDiff, Nat.reduceMul, Nat.reducePow, Nat.reduceLT, Nat.reduceSub, Int.reduceEq, Int.reduceLT, Int.reduceLE, Int.reduceNeg, Int.reduceToNat, Int.cast_ofNat_Int]
    refine ⟨_, hreg o.b (by omega), ?_⟩
    simp only [go_sem, ↓reduceIte, Nat.reduceEqDiff, Nat.reduceAdd, Nat.reduceLeDiff, Nat.reduceMul, Nat.reducePow, Nat.reduceLT, Nat.reduceSub, Int.reduceEq, Int.reduceLT, Int.reduceLE, Int.reduceNeg, Int.reduceToNat, Int.cast_ofNat_Int]
    have hop := ops_succ k (bufsS k) ho
    by_cases ha : o.a ≥ 0
    · have ha' : 0 ≤ o.a := ha
      refine wpL_region Tryd.tyOk (by decide) ?_
      simp only [go_sem, ↓reduceIte, Nat.reduceEqDiff, Nat.reduceAdd, Nat.reduceLeDiff, Nat.reduceMul, Nat.reducePow, Nat.reduceLT, Nat.reduceSub, Int.reduceEq, Int.reduceLT, Int.reduceLE, Int.reduceNeg, Int.reduceToNat, Int.cast_ofNat_Int, ha, decide_true]
      refine wpL_cond (t := true) (by simp only [go_sem, ↓reduceIte, Nat.reduceEqDiff, Nat.reduceAdd, Nat.reduceLeDiff, Nat.reduceMul, Nat.reducePow, Nat.reduceLT, Nat.reduceSub, Int.reduceEq, Int.reduceLT, Int.reduceLE, Int.reduceNeg, Int.reduceToNat, Int.cast_ofNat_Int]) (fun _ => ?_) (fun h => by cases h)
      simp only [go_sem, ↓reduceIte, Nat.reduceEqDiff, Nat.reduceAdd, Nat.reduceLeDiff, Nat.reduceMul, Nat.reducePow, Nat.reduceLT, Nat.reduceSub, Int.reduceEq, Int.reduceLT, Int.reduceLE, Int.reduceNeg, Int.reduceToNat, Int.cast_ofNat_Int]
      refine wpL_region Tryd.tyOk (by decide) ?_
      simp only [go_sem, ↓reduceIte, Nat.reduceEqDiff, Nat.reduceAdd, Nat.reduceLeDiff, Nat.reduceMul, Nat.reducePow, Nat.reduceLT, Nat.reduceSub, Int.reduceEq, Int.reduceLT, Int.reduceLE, Int.reduceNeg, Int.reduceToNat, Int.cast_ofNat_Int]
      refine ⟨_, hreg o.a (by omega), ?_⟩
      simp only [go_sem, ↓reduceIte, Nat.reduceEqDiff, Nat.reduceAdd, Nat.reduceLeDiff, Nat.reduceMul, Nat.reducePow, Nat.reduceLT, Nat.reduceSub, Int.reduceEq, Int.reduceLT, Int.reduceLE, Int.reduceNeg, Int.reduceToNat, Int.cast_ofNat_Int]
      refine wpL_region Tryd.tyOk (by decide) ?_
      simp only [go_sem, ↓reduceIte, Nat.reduceEqDiff, Nat.reduceAdd, Nat.reduceLeDiff, Nat.reduceMul, Nat.reducePow, Nat.reduceLT, Nat.reduceSub, Int.reduceEq, Int.reduceLT, Int.reduceLE, Int.reduceNeg, Int.reduceToNat, Int.cast_ofNat_Int]
      refine ⟨⟨by simp only [List.length_append, List.length_map]; omega, by simp⟩, ?_⟩
      rw [← hB7]
      try simp only [go_sem, ↓reduceIte, Nat.reduceEqDiff, Nat.reduceAdd, Nat.reduceLeDiff, Nat.reduceMul, Nat.reducePow, Nat.reduceLT, Nat.reduceSub, Int.reduceEq, Int.reduceLT, Int.reduceLE, Int.reduceNeg, Int.reduceToNat, Int.cast_ofNat_Int]
      refine wpL_region Tryd.tyOk (by decide) ?_
      simp only [go_sem, ↓reduceIte, Nat.reduceEqDiff, Nat.reduceAdd, Nat.reduceLeDiff, Nat.reduceMul, Nat.reducePow, Nat.reduceLT, Nat.reduceSub, Int.reduceEq, Int.reduceLT, Int.reduceLE, Int.reduceNeg, Int.reduceToNat, Int.cast_ofNat_Int]
      refine ⟨_, _, ?_, ⟨i + 1, by omega, rfl, rfl⟩, ?_⟩
      · omega
      · refine le_mk ?_ ?_ ?_ <;> (simp only [go_sem, ↓reduceIte, Nat.reduceEqDiff, Nat.reduceAdd, Nat.reduceLeDiff, Nat.reduceMul, Nat.reducePow, Nat.reduceLT, Nat.reduceSub, Int.reduceEq, Int.reduceLT, Int.reduceLE, Int.reduceNeg, Int.reduceToNat, Int.cast_ofNat_Int]; try simp [eInt, keyOf, eKOp, eKernel, rBool, rInt, rInts, eLOp, rLOB, eLanes, rLanes, eInts, hop, opOf, ha']; try simp (disch := omega) only [IntWalk.i64_in, and_self])
    · have ha' : ¬ 0 ≤ o.a := ha
      refine wpL_region Tryd.tyOk (by decide) ?_
      simp only [go_sem, ↓reduceIte, Nat.reduceEqDiff, Nat.reduceAdd, Nat.reduceLeDiff, Nat.reduceMul, Nat.reducePow, Nat.reduceLT, Nat.reduceSub, Int.reduceEq, Int.reduceLT, Int.reduceLE, Int.reduceNeg, Int.reduceToNat, Int.cast_ofNat_Int, ha, decide_false]
      refine wpL_cond (t := false) (by simp only [go_sem, ↓reduceIte, Nat.reduceEqDiff, Nat.reduceAdd, Nat.reduceLeDiff, Nat.reduceMul, Nat.reducePow, Nat.reduceLT, Nat.reduceSub, Int.reduceEq, Int.reduceLT, Int.reduceLE, Int.reduceNeg, Int.reduceToNat, Int.cast_ofNat_Int]) (fun h => by cases h) (fun _ => ?_)
      simp only [go_sem, ↓reduceIte, Nat.reduceEqDiff, Nat.reduceAdd, Nat.reduceLeDiff, Nat.reduceMul, Nat.reducePow, Nat.reduceLT, Nat.reduceSub, Int.reduceEq, Int.reduceLT, Int.reduceLE, Int.reduceNeg, Int.reduceToNat, Int.cast_ofNat_Int]
      refine wpL_skip ?_
      refine wpL_region Tryd.tyOk (by decide) ?_
      simp only [go_sem, ↓reduceIte, Nat.reduceEqDiff, Nat.reduceAdd, Nat.reduceLeDiff, Nat.reduceMul, Nat.reducePow, Nat.reduceLT, Nat.reduceSub, Int.reduceEq, Int.reduceLT, Int.reduceLE, Int.reduceNeg, Int.reduceToNat, Int.cast_ofNat_Int]
      refine ⟨⟨by simp only [List.length_append, List.length_map]; omega, by simp⟩, ?_⟩
      rw [← hB7]
      try simp only [go_sem, ↓reduceIte, Nat.reduceEqDiff, Nat.reduceAdd, Nat.reduceLeDiff, Nat.reduceMul, Nat.reducePow, Nat.reduceLT, Nat.reduceSub, Int.reduceEq, Int.reduceLT, Int.reduceLE, Int.reduceNeg, Int.reduceToNat, Int.cast_ofNat_Int]
      refine wpL_region Tryd.tyOk (by decide) ?_
      simp only [go_sem, ↓reduceIte, Nat.reduceEqDiff, Nat.reduceAdd, Nat.reduceLeDiff, Nat.reduceMul, Nat.reducePow, Nat.reduceLT, Nat.reduceSub, Int.reduceEq, Int.reduceLT, Int.reduceLE, Int.reduceNeg, Int.reduceToNat, Int.cast_ofNat_Int]
      refine ⟨_, _, ?_, ⟨i + 1, by omega, rfl, rfl⟩, ?_⟩
      · omega
      · refine le_mk ?_ ?_ ?_ <;> (simp only [go_sem, ↓reduceIte, Nat.reduceEqDiff, Nat.reduceAdd, Nat.reduceLeDiff, Nat.reduceMul, Nat.reducePow, Nat.reduceLT, Nat.reduceSub, Int.reduceEq, Int.reduceLT, Int.reduceLE, Int.reduceNeg, Int.reduceToNat, Int.cast_ofNat_Int]; try simp [eInt, keyOf, eKOp, eKernel, rBool, rInt, rInts, eLOp, rLOB, eLanes, rLanes, eInts, hop, opOf, ha']; try simp (disch := omega) only [IntWalk.i64_in, and_self])
  have hge := ge_of hge
  have hi' : i = k.ops.length := by omega
  subst hi'
  have hw1 : IntKind.i64.wrap (k.inputs + k.ops.length) = k.inputs + k.ops.length := IntWalk.i64_in _ (by omega)
  have hw2 : IntKind.i64.wrap (k.inputs + k.ops.length - 1) = k.inputs + k.ops.length - 1 := IntWalk.i64_in _ (by omega)
  refine wpL_exit ?_
  simp only [go_sem, ↓reduceIte, Nat.reduceEqDiff, Nat.reduceAdd, Nat.reduceLeDiff, Nat.reduceMul, Nat.reducePow, Nat.reduceLT, Nat.reduceSub, Int.reduceEq, Int.reduceLT, Int.reduceLE, Int.reduceNeg, Int.reduceToNat, Int.cast_ofNat_Int]
  rw [← hB6]
  try simp only [go_sem, ↓reduceIte, Nat.reduceEqDiff, Nat.reduceAdd, Nat.reduceLeDiff, Nat.reduceMul, Nat.reducePow, Nat.reduceLT, Nat.reduceSub, Int.reduceEq, Int.reduceLT, Int.reduceLE, Int.reduceNeg, Int.reduceToNat, Int.cast_ofNat_Int]
  refine wpL_drawF Tryd.tyOk (by kernel_rfl) [0,1] 15 (by decide) (by decide) ?_
  simp only [go_sem, ↓reduceIte, Nat.reduceEqDiff, Nat.reduceAdd, Nat.reduceLeDiff, Nat.reduceMul, Nat.reducePow, Nat.reduceLT, Nat.reduceSub, Int.reduceEq, Int.reduceLT, Int.reduceLE, Int.reduceNeg, Int.reduceToNat, Int.cast_ofNat_Int, List.length_map, hw1, hw2]
  refine ⟨_, hreg (k.inputs + k.ops.length - 1) (by omega), ?_⟩
  simp only [go_sem, ↓reduceIte, Nat.reduceEqDiff, Nat.reduceAdd, Nat.reduceLeDiff, Nat.reduceMul, Nat.reducePow, Nat.reduceLT, Nat.reduceSub, Int.reduceEq, Int.reduceLT, Int.reduceLE, Int.reduceNeg, Int.reduceToNat, Int.cast_ofNat_Int]
  refine floatK_two ?_ ?_ ?_
  · simp only [go_sem, ↓reduceIte, Nat.reduceEqDiff, Nat.reduceAdd, Nat.reduceLeDiff, Nat.reduceMul, Nat.reducePow, Nat.reduceLT, Nat.reduceSub, Int.reduceEq, Int.reduceLT, Int.reduceLE, Int.reduceNeg, Int.reduceToNat, Int.cast_ofNat_Int]
    refine ⟨⟨by simp only [List.length_append, List.length_map]; omega, by simp⟩, ?_⟩
    refine wpL_ret ?_
    try simp only [go_sem, ↓reduceIte, Nat.reduceEqDiff, Nat.reduceAdd, Nat.reduceLeDiff, Nat.reduceMul, Nat.reducePow, Nat.reduceLT, Nat.reduceSub, Int.reduceEq, Int.reduceLT, Int.reduceLE, Int.reduceNeg, Int.reduceToNat, Int.cast_ofNat_Int]
    rw [← hBQ]
    try simp only [go_sem, ↓reduceIte, Nat.reduceEqDiff, Nat.reduceAdd, Nat.reduceLeDiff, Nat.reduceMul, Nat.reducePow, Nat.reduceLT, Nat.reduceSub, Int.reduceEq, Int.reduceLT, Int.reduceLE, Int.reduceNeg, Int.reduceToNat, Int.cast_ofNat_Int]
    simp [programS, hr, hld, storeOf]
    rfl
  · simp only [go_sem, ↓reduceIte, Nat.reduceEqDiff, Nat.reduceAdd, Nat.reduceLeDiff, Nat.reduceMul, Nat.reducePow, Nat.reduceLT, Nat.reduceSub, Int.reduceEq, Int.reduceLT, Int.reduceLE, Int.reduceNeg, Int.reduceToNat, Int.cast_ofNat_Int]
    refine ⟨⟨by simp only [List.length_append, List.length_map]; omega, by simp⟩, ?_⟩
    refine wpL_ret ?_
    try simp only [go_sem, ↓reduceIte, Nat.reduceEqDiff, Nat.reduceAdd, Nat.reduceLeDiff, Nat.reduceMul, Nat.reducePow, Nat.reduceLT, Nat.reduceSub, Int.reduceEq, Int.reduceLT, Int.reduceLE, Int.reduceNeg, Int.reduceToNat, Int.cast_ofNat_Int]
    rw [← hBQ]
    try simp only [go_sem, ↓reduceIte, Nat.reduceEqDiff, Nat.reduceAdd, Nat.reduceLeDiff, Nat.reduceMul, Nat.reducePow, Nat.reduceLT, Nat.reduceSub, Int.reduceEq, Int.reduceLT, Int.reduceLE, Int.reduceNeg, Int.reduceToNat, Int.cast_ofNat_Int]
    simp [programS, hr, hld, storeOf]
    rfl
  · simp only [go_sem, ↓reduceIte, Nat.reduceEqDiff, Nat.reduceAdd, Nat.reduceLeDiff, Nat.reduceMul, Nat.reducePow, Nat.reduceLT, Nat.reduceSub, Int.reduceEq, Int.reduceLT, Int.reduceLE, Int.reduceNeg, Int.reduceToNat, Int.cast_ofNat_Int]
    refine ⟨⟨by simp only [List.length_append, List.length_map]; omega, by simp⟩, ?_⟩
    refine wpL_ret ?_
    try simp only [go_sem, ↓reduceIte, Nat.reduceEqDiff, Nat.reduceAdd, Nat.reduceLeDiff, Nat.reduceMul, Nat.reducePow, Nat.reduceLT, Nat.reduceSub, Int.reduceEq, Int.reduceLT, Int.reduceLE, Int.reduceNeg, Int.reduceToNat, Int.cast_ofNat_Int]
    rw [← hBQ]
    try simp only [go_sem, ↓reduceIte, Nat.reduceEqDiff, Nat.reduceAdd, Nat.reduceLeDiff, Nat.reduceMul, Nat.reducePow, Nat.reduceLT, Nat.reduceSub, Int.reduceEq, Int.reduceLT, Int.reduceLE, Int.reduceNeg, Int.reduceToNat, Int.cast_ofNat_Int]
    simp [programS, hr, hld, storeOf]
    rfl
end Go.Proofs.YtcafkemjegkhkaaDoor
