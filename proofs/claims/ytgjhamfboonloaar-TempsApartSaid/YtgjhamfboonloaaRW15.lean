/-
  The walks of layer 49, continued: temps.Trim.
-/
import Derived.Test.YtgjhamfboonloaaRW14
set_option linter.unusedSimpArgs false
set_option linter.unusedVariables false
set_option maxRecDepth 100000
set_option maxHeartbeats 4000000
namespace Go.Proofs.YtgjhamfboonloaaR
open Go.Abs Go

def needOpT (o : KOp) (need : List Bool) : List Bool := if 0 ≤ o.a then (need.set o.b.toNat true).set o.a.toNat true else need.set o.b.toNat true
@[simp] theorem needOpT_length (o : KOp) (need : List Bool) : (needOpT o need).length = need.length := by unfold needOpT; split <;> simp
def stepT (n : Nat) (ops : List KOp) (m : Nat) (need : List Bool) : List Bool := if need[n + m]?.getD false then (match ops[m]? with | some o => needOpT o need | none => need) else need
@[simp] theorem stepT_length (n : Nat) (ops : List KOp) (m : Nat) (need : List Bool) : (stepT n ops m need).length = need.length := by
  unfold stepT; split
  · split <;> simp
  · rfl
def needTs (n : Nat) (ops : List KOp) : Nat → List Bool
  | 0 => (List.replicate (n + ops.length) false).set (n + ops.length - 1) true
  | k + 1 => stepT n ops (ops.length - 1 - k) (needTs n ops k)
@[simp] theorem needTs_length (n : Nat) (ops : List KOp) : ∀ k, (needTs n ops k).length = n + ops.length
  | 0 => by simp [needTs]
  | k + 1 => by rw [needTs, stepT_length, needTs_length n ops k]
def trimFrom (n : Int) (need : List Bool) : Nat → List KOp → List Int → List KOp → List KOp
  | i, o :: l, num, out => if need[(n + i).toNat]?.getD false then trimFrom n need (i + 1) l (num ++ [n + out.length]) (out ++ [renum o (num ++ [n + out.length])]) else trimFrom n need (i + 1) l (num ++ [n + out.length]) out
  | _, [], _, out => out
def trimS (k : Kernel) : Kernel := if right k = 0 then { inputs := k.inputs, ops := trimFrom k.inputs (needTs k.inputs.toNat k.ops k.ops.length) 0 k.ops (nums k.inputs) [], reduce := k.reduce, pos := k.pos } else zeroK

theorem eBools_set (l : List Bool) (i : Nat) (b : Bool) : (eBools l).set i [DC.sc (Value.bool b)] = eBools (l.set i b) := by simp [eBools, List.map_set]

theorem trim16 (k : Kernel) : Gives Try.prog 16 [.agg (eKernel k)] (rKernel (trimS k)) := by
  refine Gives.intro Try.tyOk Try.func16 (by kernel_rfl) rfl (by simp [Try.ntmps16]) ?_
  simp only [go_sem, ↓reduceIte, Nat.reduceEqDiff, Nat.reduceAdd, Nat.reduceLeDiff, Nat.reduceMul, Nat.reducePow, Nat.reduceLT, Nat.reduceSub, Int.reduceEq, Int.reduceLT, Int.reduceLE, Int.reduceNeg, Int.reduceToNat]
  simp only [Try.ntmps16, Try.results16, eInt, keyOf, eKOp, eKernel, rBool, rInt, rInts, rClo, List.map_cons, List.map_nil]
  generalize hBQ : retQ _ _ _ = BQ
  refine wpL_region Try.tyOk (by decide) ?_
  simp only [go_sem, ↓reduceIte, Nat.reduceEqDiff, Nat.reduceAdd, Nat.reduceLeDiff, Nat.reduceMul, Nat.reducePow, Nat.reduceLT, Nat.reduceSub, Int.reduceEq, Int.reduceLT, Int.reduceLE, Int.reduceNeg, Int.reduceToNat]
  refine wpL_region Try.tyOk (by decide) ?_
  simp only [go_sem, ↓reduceIte, Nat.reduceEqDiff, Nat.reduceAdd, Nat.reduceLeDiff, Nat.reduceMul, Nat.reducePow, Nat.reduceLT, Nat.reduceSub, Int.reduceEq, Int.reduceLT, Int.reduceLE, Int.reduceNeg, Int.reduceToNat]
  refine ⟨_, right24 k, ?_⟩
  simp only [go_sem, ↓reduceIte, Nat.reduceEqDiff, Nat.reduceAdd, Nat.reduceLeDiff, Nat.reduceMul, Nat.reducePow, Nat.reduceLT, Nat.reduceSub, Int.reduceEq, Int.reduceLT, Int.reduceLE, Int.reduceNeg, Int.reduceToNat]
  refine wpL_cond (t := !decide (right k = 0)) (by rfl) (fun hb => ?_) (fun hb => ?_)
  · have hr : ¬ right k = 0 := by simpa using hb
    simp only [go_sem, ↓reduceIte, Nat.reduceEqDiff, Nat.reduceAdd, Nat.reduceLeDiff, Nat.reduceMul, Nat.reducePow, Nat.reduceLT, Nat.reduceSub, Int.reduceEq, Int.reduceLT, Int.reduceLE, Int.reduceNeg, Int.reduceToNat]
    refine wpL_region Try.tyOk (by decide) ?_
    simp only [go_sem, ↓reduceIte, Nat.reduceEqDiff, Nat.reduceAdd, Nat.reduceLeDiff, Nat.reduceMul, Nat.reducePow, Nat.reduceLT, Nat.reduceSub, Int.reduceEq, Int.reduceLT, Int.reduceLE, Int.reduceNeg, Int.reduceToNat]
    refine wpL_nilCell 2 1 77 40 4 rfl rfl (by decide) rfl ?_
    refine wpL_ret ?_
    try simp only [go_sem, ↓reduceIte, Nat.reduceEqDiff, Nat.reduceAdd, Nat.reduceLeDiff, Nat.reduceMul, Nat.reducePow, Nat.reduceLT, Nat.reduceSub, Int.reduceEq, Int.reduceLT, Int.reduceLE, Int.reduceNeg, Int.reduceToNat]
    rw [← hBQ]
    try simp only [go_sem, ↓reduceIte, Nat.reduceEqDiff, Nat.reduceAdd, Nat.reduceLeDiff, Nat.reduceMul, Nat.reducePow, Nat.reduceLT, Nat.reduceSub, Int.reduceEq, Int.reduceLT, Int.reduceLE, Int.reduceNeg, Int.reduceToNat]
    simp [trimS, hr, zeroK]
  have hr : right k = 0 := by simpa using hb
  obtain ⟨⟨hk1, hk2, hk3, hk4⟩, hval⟩ := right_zero hr
  obtain ⟨N, hN⟩ : ∃ N : Nat, (N : Int) = k.inputs := ⟨k.inputs.toNat, by omega⟩
  have hw0 : IntKind.i64.wrap (k.inputs + (k.ops.length : Int)) = ((N + k.ops.length : Nat) : Int) := by rw [IntWalk.i64_in _ (by omega)]; omega
  have hw1 : IntKind.i64.wrap (((N + k.ops.length : Nat) : Int) - 1) = ((N + k.ops.length - 1 : Nat) : Int) := by rw [IntWalk.i64_in _ (by omega)]; omega
  have hg1 : (List.replicate (N + k.ops.length) [DC.sc (Value.bool false)])[N + k.ops.length - 1]? = some [DC.sc (Value.bool false)] := by
    rw [List.getElem?_replicate, if_pos (by omega)]
  have hlm : ((N + k.ops.length - 1 : Nat) : Int) < ((N + k.ops.length : Nat) : Int) := by omega
  simp only [go_sem, ↓reduceIte, Nat.reduceEqDiff, Nat.reduceAdd, Nat.reduceLeDiff, Nat.reduceMul, Nat.reducePow, Nat.reduceLT, Nat.reduceSub, Int.reduceEq, Int.reduceLT, Int.reduceLE, Int.reduceNeg, Int.reduceToNat]
  refine wpL_skip ?_
  refine wpL_region Try.tyOk (by decide) ?_
  simp only [go_sem, ↓reduceIte, Nat.reduceEqDiff, Nat.reduceAdd, Nat.reduceLeDiff, Nat.reduceMul, Nat.reducePow, Nat.reduceLT, Nat.reduceSub, Int.reduceEq, Int.reduceLT, Int.reduceLE, Int.reduceNeg, Int.reduceToNat, List.length_map, hw0]
  refine ⟨⟨by omega, by omega⟩, ?_⟩
  refine wpL_region Try.tyOk (by decide) ?_
  simp only [go_sem, ↓reduceIte, Nat.reduceEqDiff, Nat.reduceAdd, Nat.reduceLeDiff, Nat.reduceMul, Nat.reducePow, Nat.reduceLT, Nat.reduceSub, Int.reduceEq, Int.reduceLT, Int.reduceLE, Int.reduceNeg, Int.reduceToNat, hw1, hg1, hlm, List.length_replicate]
  refine wpL_region Try.tyOk (by decide) ?_
  simp only [go_sem, ↓reduceIte, Nat.reduceEqDiff, Nat.reduceAdd, Nat.reduceLeDiff, Nat.reduceMul, Nat.reducePow, Nat.reduceLT, Nat.reduceSub, Int.reduceEq, Int.reduceLT, Int.reduceLE, Int.reduceNeg, Int.reduceToNat]
  refine ⟨_, backward_pure (k.ops.map eKOp), ?_⟩
  simp only [go_sem, ↓reduceIte, Nat.reduceEqDiff, Nat.reduceAdd, Nat.reduceLeDiff, Nat.reduceMul, Nat.reducePow, Nat.reduceLT, Nat.reduceSub, Int.reduceEq, Int.reduceLT, Int.reduceLE, Int.reduceNeg, Int.reduceToNat]
  refine wpL_block ?_
  generalize hB0 : blockQ _ _ _ = B0
  simp only [go_sem, ↓reduceIte, Nat.reduceEqDiff, Nat.reduceAdd, Nat.reduceLeDiff, Nat.reduceMul, Nat.reducePow, Nat.reduceLT, Nat.reduceSub, Int.reduceEq, Int.reduceLT, Int.reduceLE, Int.reduceNeg, Int.reduceToNat]
  refine wpL_range (f := 39) (fn0 := Try.f39) (xss := [[.sl (k.ops.map eKOp)]]) (els := backEls (k.ops.map eKOp))
    (fun n s => n ≤ k.ops.length ∧ s = ⟨[(28, .c (.d (.clo 39 [[.sl (k.ops.map eKOp)]]))), (3, .c (.ptr 3 0)), (2, .c (.ptr 2 0)), (1, .c (.ptr 1 0))],
      [(20, .arr 4 1 (eBools (needTs N k.ops n)) false), (3, .box [.row 20]), (2, .box [.d (eInt 0), .nil, .d (eInt 0), .d (eInt 0)]), (1, .box ((eKernel k).map .d))]⟩)
    (fun s => False)
    (by kernel_rfl) (by kernel_rfl) (by kernel_rfl) (backward_ranges _ (eKOps_four _) (by simp; omega)) ?_ ?_ ?_ (by decide) (by decide) ?_ ?_ ?_ ?_
  · refine ⟨_, ⟨by omega, rfl⟩, ?_⟩
    refine le_mk ?_ ?_ ?_
    · simp only [go_sem, ↓reduceIte, Nat.reduceEqDiff, Nat.reduceAdd, Nat.reduceLeDiff, Nat.reduceMul, Nat.reducePow, Nat.reduceLT, Nat.reduceSub, Int.reduceEq, Int.reduceLT, Int.reduceLE, Int.reduceNeg, Int.reduceToNat]
      try simp [eInt, keyOf, eKOp, eKernel, rBool, rInt, rInts, rClo, eInts, needTs, eBools, List.map_set]
      try simp (disch := omega) only [IntWalk.i64_in, and_self]
    · simp only [go_sem, ↓reduceIte, Nat.reduceEqDiff, Nat.reduceAdd, Nat.reduceLeDiff, Nat.reduceMul, Nat.reducePow, Nat.reduceLT, Nat.reduceSub, Int.reduceEq, Int.reduceLT, Int.reduceLE, Int.reduceNeg, Int.reduceToNat]
      try simp [eInt, keyOf, eKOp, eKernel, rBool, rInt, rInts, rClo, eInts, needTs, eBools, List.map_set]
      try simp (disch := omega) only [IntWalk.i64_in, and_self]
    · simp only [go_sem, ↓reduceIte, Nat.reduceEqDiff, Nat.reduceAdd, Nat.reduceLeDiff, Nat.reduceMul, Nat.reducePow, Nat.reduceLT, Nat.reduceSub, Int.reduceEq, Int.reduceLT, Int.reduceLE, Int.reduceNeg, Int.reduceToNat]
      try simp [eInt, keyOf, eKOp, eKernel, rBool, rInt, rInts, rClo, eInts, needTs, eBools, List.map_set]
      try simp (disch := omega) only [IntWalk.i64_in, and_self]
  · rintro n s ⟨_, rfl⟩
    simp only [go_sem, ↓reduceIte, Nat.reduceEqDiff, Nat.reduceAdd, Nat.reduceLeDiff, Nat.reduceMul, Nat.reducePow, Nat.reduceLT, Nat.reduceSub, Int.reduceEq, Int.reduceLT, Int.reduceLE, Int.reduceNeg, Int.reduceToNat]
  · intro s h; exact h.elim
  · intro n x hx
    rw [(backEls_get hx).2]; rfl
  · rintro n s x ⟨hn, rfl⟩ hx E L1 L2 l
    obtain ⟨hlt, rfl⟩ := backEls_get hx
    simp only [List.length_map] at hlt
    obtain ⟨m, hm⟩ : ∃ m, m = k.ops.length - 1 - n := ⟨_, rfl⟩
    simp only [List.length_map]
    rw [← hm]
    obtain ⟨o, ho⟩ := get_ex (l := k.ops) (i := m) (by omega)
    have hg : (k.ops.map eKOp).getD m [] = eKOp o := by rw [List.getD_eq_getElem?_getD, List.getElem?_map, ho]; rfl
    rw [hg]
    obtain ⟨hva, hvb⟩ := hval m o ho
    obtain ⟨hb1, hb2, hb3, hb4⟩ := badI_false hvb
    have hst : needTs N k.ops (n + 1) = stepT N k.ops m (needTs N k.ops n) := by rw [needTs, hm]
    have hlen := needTs_length N k.ops n
    have hlen1 := needTs_length N k.ops (n + 1)
    generalize needTs N k.ops (n + 1) = need1 at *
    generalize needTs N k.ops n = need at *
    obtain ⟨z, hz⟩ := get_ex (l := need) (i := N + m) (by omega)
    obtain ⟨q1, hq1⟩ := get_ex (l := need) (i := o.b.toNat) (by omega)
    have hw2 : IntKind.i64.wrap (k.inputs + (m : Int)) = ((N + m : Nat) : Int) := by rw [IntWalk.i64_in _ (by omega)]; omega
    have hi1 : ((N + m : Nat) : Int) < ((need.length : Nat) : Int) := by omega
    have hi2 : 0 ≤ o.b := hb3
    have hi3 : o.b < ((need.length : Nat) : Int) := by omega
    generalize hB1 : thenL _ _ = B1
    simp only [go_sem, ↓reduceIte, Nat.reduceEqDiff, Nat.reduceAdd, Nat.reduceLeDiff, Nat.reduceMul, Nat.reducePow, Nat.reduceLT, Nat.reduceSub, Int.reduceEq, Int.reduceLT, Int.reduceLE, Int.reduceNeg, Int.reduceToNat]
    refine wpL_region Try.tyOk (by decide) ?_
    simp only [go_sem, ↓reduceIte, Nat.reduceEqDiff, Nat.reduceAdd, Nat.reduceLeDiff, Nat.reduceMul, Nat.reducePow, Nat.reduceLT, Nat.reduceSub, Int.reduceEq, Int.reduceLT, Int.reduceLE, Int.reduceNeg, Int.reduceToNat]
    refine wpL_region Try.tyOk (by decide) ?_
    simp only [go_sem, ↓reduceIte, Nat.reduceEqDiff, Nat.reduceAdd, Nat.reduceLeDiff, Nat.reduceMul, Nat.reducePow, Nat.reduceLT, Nat.reduceSub, Int.reduceEq, Int.reduceLT, Int.reduceLE, Int.reduceNeg, Int.reduceToNat]
    rw [← hB1]
    try simp only [go_sem, ↓reduceIte, Nat.reduceEqDiff, Nat.reduceAdd, Nat.reduceLeDiff, Nat.reduceMul, Nat.reducePow, Nat.reduceLT, Nat.reduceSub, Int.reduceEq, Int.reduceLT, Int.reduceLE, Int.reduceNeg, Int.reduceToNat]
    generalize hB2 : roundQ _ _ _ _ = B2
    refine wpL_block ?_
    generalize hB3 : blockQ _ _ _ = B3
    simp only [go_sem, ↓reduceIte, Nat.reduceEqDiff, Nat.reduceAdd, Nat.reduceLeDiff, Nat.reduceMul, Nat.reducePow, Nat.reduceLT, Nat.reduceSub, Int.reduceEq, Int.reduceLT, Int.reduceLE, Int.reduceNeg, Int.reduceToNat]
    refine wpL_region Try.tyOk (by decide) ?_
    simp only [go_sem, ↓reduceIte, Nat.reduceEqDiff, Nat.reduceAdd, Nat.reduceLeDiff, Nat.reduceMul, Nat.reducePow, Nat.reduceLT, Nat.reduceSub, Int.reduceEq, Int.reduceLT, Int.reduceLE, Int.reduceNeg, Int.reduceToNat, hw2, eBools_get hz, eBools_length, hi1]
    rw [stepT, hz, ho] at hst
    refine wpL_cond (t := z) (by simp only [go_sem, ↓reduceIte, Nat.reduceEqDiff, Nat.reduceAdd, Nat.reduceLeDiff, Nat.reduceMul, Nat.reducePow, Nat.reduceLT, Nat.reduceSub, Int.reduceEq, Int.reduceLT, Int.reduceLE, Int.reduceNeg, Int.reduceToNat]) (fun hzt => ?_) (fun hzf => ?_)
    · subst hzt
      simp only [Option.getD_some, if_true] at hst
      simp only [go_sem, ↓reduceIte, Nat.reduceEqDiff, Nat.reduceAdd, Nat.reduceLeDiff, Nat.reduceMul, Nat.reducePow, Nat.reduceLT, Nat.reduceSub, Int.reduceEq, Int.reduceLT, Int.reduceLE, Int.reduceNeg, Int.reduceToNat]
      refine wpL_region Try.tyOk (by decide) ?_
      simp only [go_sem, ↓reduceIte, Nat.reduceEqDiff, Nat.reduceAdd, Nat.reduceLeDiff, Nat.reduceMul, Nat.reducePow, Nat.reduceLT, Nat.reduceSub, Int.reduceEq, Int.reduceLT, Int.reduceLE, Int.reduceNeg, Int.reduceToNat, eBools_get hq1, eBools_length, hi2, hi3, eBools_set]
      refine wpL_region Try.tyOk (by decide) ?_
      simp only [go_sem, ↓reduceIte, Nat.reduceEqDiff, Nat.reduceAdd, Nat.reduceLeDiff, Nat.reduceMul, Nat.reducePow, Nat.reduceLT, Nat.reduceSub, Int.reduceEq, Int.reduceLT, Int.reduceLE, Int.reduceNeg, Int.reduceToNat, ge_iff_le]
      have hgen : ∀ b, wpL (some l) Try.prog 92 [] B3 b = B3 .normal b := fun b => rfl
      refine wpL_cond (t := decide (0 ≤ o.a)) (by rfl) (fun hc => ?_) (fun hc => ?_)
      · have hc : 0 ≤ o.a := by simpa using hc
        obtain ⟨q2, hq2⟩ := get_ex (l := need.set o.b.toNat true) (i := o.a.toNat) (by simp; omega)
        have hi4 : o.a < (((need.set o.b.toNat true).length : Nat) : Int) := by simp; omega
        simp only [go_sem, ↓reduceIte, Nat.reduceEqDiff, Nat.reduceAdd, Nat.reduceLeDiff, Nat.reduceMul, Nat.reducePow, Nat.reduceLT, Nat.reduceSub, Int.reduceEq, Int.reduceLT, Int.reduceLE, Int.reduceNeg, Int.reduceToNat]
        refine wpL_region Try.tyOk (by decide) ?_
        simp only [go_sem, ↓reduceIte, Nat.reduceEqDiff, Nat.reduceAdd, Nat.reduceLeDiff, Nat.reduceMul, Nat.reducePow, Nat.reduceLT, Nat.reduceSub, Int.reduceEq, Int.reduceLT, Int.reduceLE, Int.reduceNeg, Int.reduceToNat, eBools_get hq2, eBools_length, hc, hi4, eBools_set]
        rw [← hB3]
        try simp only [go_sem, ↓reduceIte, Nat.reduceEqDiff, Nat.reduceAdd, Nat.reduceLeDiff, Nat.reduceMul, Nat.reducePow, Nat.reduceLT, Nat.reduceSub, Int.reduceEq, Int.reduceLT, Int.reduceLE, Int.reduceNeg, Int.reduceToNat]
        rw [← hB2]
        try simp only [go_sem, ↓reduceIte, Nat.reduceEqDiff, Nat.reduceAdd, Nat.reduceLeDiff, Nat.reduceMul, Nat.reducePow, Nat.reduceLT, Nat.reduceSub, Int.reduceEq, Int.reduceLT, Int.reduceLE, Int.reduceNeg, Int.reduceToNat]
        refine ⟨_, ⟨by omega, rfl⟩, ung_mk ?_ ?_ ?_⟩
        · simp only [go_sem, ↓reduceIte, Nat.reduceEqDiff, Nat.reduceAdd, Nat.reduceLeDiff, Nat.reduceMul, Nat.reducePow, Nat.reduceLT, Nat.reduceSub, Int.reduceEq, Int.reduceLT, Int.reduceLE, Int.reduceNeg, Int.reduceToNat]
        · simp only [go_sem, ↓reduceIte, Nat.reduceEqDiff, Nat.reduceAdd, Nat.reduceLeDiff, Nat.reduceMul, Nat.reducePow, Nat.reduceLT, Nat.reduceSub, Int.reduceEq, Int.reduceLT, Int.reduceLE, Int.reduceNeg, Int.reduceToNat]
          rw [hst, needOpT, if_pos hc]
        · simp only [go_sem, ↓reduceIte, Nat.reduceEqDiff, Nat.reduceAdd, Nat.reduceLeDiff, Nat.reduceMul, Nat.reducePow, Nat.reduceLT, Nat.reduceSub, Int.reduceEq, Int.reduceLT, Int.reduceLE, Int.reduceNeg, Int.reduceToNat]
      · have hc : ¬ 0 ≤ o.a := by simpa using hc
        simp only [go_sem, ↓reduceIte, Nat.reduceEqDiff, Nat.reduceAdd, Nat.reduceLeDiff, Nat.reduceMul, Nat.reducePow, Nat.reduceLT, Nat.reduceSub, Int.reduceEq, Int.reduceLT, Int.reduceLE, Int.reduceNeg, Int.reduceToNat]
        refine wpL_skip ?_
        rw [← hB3]
        try simp only [go_sem, ↓reduceIte, Nat.reduceEqDiff, Nat.reduceAdd, Nat.reduceLeDiff, Nat.reduceMul, Nat.reducePow, Nat.reduceLT, Nat.reduceSub, Int.reduceEq, Int.reduceLT, Int.reduceLE, Int.reduceNeg, Int.reduceToNat]
        rw [← hB2]
        try simp only [go_sem, ↓reduceIte, Nat.reduceEqDiff, Nat.reduceAdd, Nat.reduceLeDiff, Nat.reduceMul, Nat.reducePow, Nat.reduceLT, Nat.reduceSub, Int.reduceEq, Int.reduceLT, Int.reduceLE, Int.reduceNeg, Int.reduceToNat]
        refine ⟨_, ⟨by omega, rfl⟩, ung_mk ?_ ?_ ?_⟩
        · simp only [go_sem, ↓reduceIte, Nat.reduceEqDiff, Nat.reduceAdd, Nat.reduceLeDiff, Nat.reduceMul, Nat.reducePow, Nat.reduceLT, Nat.reduceSub, Int.reduceEq, Int.reduceLT, Int.reduceLE, Int.reduceNeg, Int.reduceToNat]
        · simp only [go_sem, ↓reduceIte, Nat.reduceEqDiff, Nat.reduceAdd, Nat.reduceLeDiff, Nat.reduceMul, Nat.reducePow, Nat.reduceLT, Nat.reduceSub, Int.reduceEq, Int.reduceLT, Int.reduceLE, Int.reduceNeg, Int.reduceToNat]
          rw [hst, needOpT, if_neg hc]
        · simp only [go_sem, ↓reduceIte, Nat.reduceEqDiff, Nat.reduceAdd, Nat.reduceLeDiff, Nat.reduceMul, Nat.reducePow, Nat.reduceLT, Nat.reduceSub, Int.reduceEq, Int.reduceLT, Int.reduceLE, Int.reduceNeg, Int.reduceToNat]
    · subst hzf
      simp only [Option.getD_some, Bool.false_eq_true, if_false] at hst
      simp only [go_sem, ↓reduceIte, Nat.reduceEqDiff, Nat.reduceAdd, Nat.reduceLeDiff, Nat.reduceMul, Nat.reducePow, Nat.reduceLT, Nat.reduceSub, Int.reduceEq, Int.reduceLT, Int.reduceLE, Int.reduceNeg, Int.reduceToNat]
      refine wpL_skip ?_
      rw [← hB3]
      try simp only [go_sem, ↓reduceIte, Nat.reduceEqDiff, Nat.reduceAdd, Nat.reduceLeDiff, Nat.reduceMul, Nat.reducePow, Nat.reduceLT, Nat.reduceSub, Int.reduceEq, Int.reduceLT, Int.reduceLE, Int.reduceNeg, Int.reduceToNat]
      rw [← hB2]
      try simp only [go_sem, ↓reduceIte, Nat.reduceEqDiff, Nat.reduceAdd, Nat.reduceLeDiff, Nat.reduceMul, Nat.reducePow, Nat.reduceLT, Nat.reduceSub, Int.reduceEq, Int.reduceLT, Int.reduceLE, Int.reduceNeg, Int.reduceToNat]
      refine ⟨_, ⟨by omega, rfl⟩, ung_mk ?_ ?_ ?_⟩
      · simp only [go_sem, ↓reduceIte, Nat.reduceEqDiff, Nat.reduceAdd, Nat.reduceLeDiff, Nat.reduceMul, Nat.reducePow, Nat.reduceLT, Nat.reduceSub, Int.reduceEq, Int.reduceLT, Int.reduceLE, Int.reduceNeg, Int.reduceToNat]
      · simp only [go_sem, ↓reduceIte, Nat.reduceEqDiff, Nat.reduceAdd, Nat.reduceLeDiff, Nat.reduceMul, Nat.reducePow, Nat.reduceLT, Nat.reduceSub, Int.reduceEq, Int.reduceLT, Int.reduceLE, Int.reduceNeg, Int.reduceToNat]
        rw [hst]
      · simp only [go_sem, ↓reduceIte, Nat.reduceEqDiff, Nat.reduceAdd, Nat.reduceLeDiff, Nat.reduceMul, Nat.reducePow, Nat.reduceLT, Nat.reduceSub, Int.reduceEq, Int.reduceLT, Int.reduceLE, Int.reduceNeg, Int.reduceToNat]
  · rintro s ⟨_, rfl⟩
    have hbl : (backEls (k.ops.map eKOp)).length = k.ops.length := by simp [backEls]
    rw [hbl]
    have hlen := needTs_length N k.ops k.ops.length
    have hneed : needTs k.inputs.toNat k.ops k.ops.length = needTs N k.ops k.ops.length := by rw [show k.inputs.toNat = N by omega]
    generalize needTs N k.ops k.ops.length = need at *
    rw [← hB0]
    try simp only [go_sem, ↓reduceIte, Nat.reduceEqDiff, Nat.reduceAdd, Nat.reduceLeDiff, Nat.reduceMul, Nat.reducePow, Nat.reduceLT, Nat.reduceSub, Int.reduceEq, Int.reduceLT, Int.reduceLE, Int.reduceNeg, Int.reduceToNat]
    refine wpL_region Try.tyOk (by decide) ?_
    simp only [go_sem, ↓reduceIte, Nat.reduceEqDiff, Nat.reduceAdd, Nat.reduceLeDiff, Nat.reduceMul, Nat.reducePow, Nat.reduceLT, Nat.reduceSub, Int.reduceEq, Int.reduceLT, Int.reduceLE, Int.reduceNeg, Int.reduceToNat]
    refine wpL_region Try.tyOk (by decide) ?_
    simp only [go_sem, ↓reduceIte, Nat.reduceEqDiff, Nat.reduceAdd, Nat.reduceLeDiff, Nat.reduceMul, Nat.reducePow, Nat.reduceLT, Nat.reduceSub, Int.reduceEq, Int.reduceLT, Int.reduceLE, Int.reduceNeg, Int.reduceToNat]
    refine ⟨_, inputs_pure k hk1 hk2, ?_⟩
    simp only [go_sem, ↓reduceIte, Nat.reduceEqDiff, Nat.reduceAdd, Nat.reduceLeDiff, Nat.reduceMul, Nat.reducePow, Nat.reduceLT, Nat.reduceSub, Int.reduceEq, Int.reduceLT, Int.reduceLE, Int.reduceNeg, Int.reduceToNat]
    refine wpL_region Try.tyOk (by decide) ?_
    simp only [go_sem, ↓reduceIte, Nat.reduceEqDiff, Nat.reduceAdd, Nat.reduceLeDiff, Nat.reduceMul, Nat.reducePow, Nat.reduceLT, Nat.reduceSub, Int.reduceEq, Int.reduceLT, Int.reduceLE, Int.reduceNeg, Int.reduceToNat, List.length_map]
    refine wpL_block ?_
    generalize hB2 : blockQ _ _ _ = B2
    simp only [go_sem, ↓reduceIte, Nat.reduceEqDiff, Nat.reduceAdd, Nat.reduceLeDiff, Nat.reduceMul, Nat.reducePow, Nat.reduceLT, Nat.reduceSub, Int.reduceEq, Int.reduceLT, Int.reduceLE, Int.reduceNeg, Int.reduceToNat]
    refine wpL_nilCell 6 1 77 40 4 rfl rfl (by decide) rfl ?_
    refine wpL_loop (fun n s => ∃ i : Nat, i ≤ k.ops.length ∧ n = k.ops.length - i ∧ ∃ (num : List Int) (out : List KOp), (num.length : Int) = k.inputs + i ∧ out.length ≤ i ∧
      trimFrom k.inputs need 0 k.ops (nums k.inputs) [] = trimFrom k.inputs need i (k.ops.drop i) num out ∧
      s = ⟨[(61, sint .i64 i), (60, sint .i64 k.ops.length), (59, .c (.d (.sl (k.ops.map eKOp)))), (7, .c (.row 1057)), (6, .c (.ptr 6 0)), (3, .c (.ptr 3 0)), (2, .c (.ptr 2 0)), (1, .c (.ptr 1 0))],
        [(1057, .arr 3 1 (eInts num) false), (77, .arr 40 4 (out.map eKOp) false), (6, .box [.d (eInt k.inputs), .row 77, .d (eInt k.reduce), .d (eInt k.pos)]),
         (20, .arr 4 1 (eBools need) false), (3, .box [.row 20]), (2, .box [.d (eInt 0), .nil, .d (eInt 0), .d (eInt 0)]), (1, .box ((eKernel k).map .d))]⟩) ?_ ?_
    · refine ⟨_, _, ⟨0, by omega, rfl, nums k.inputs, [], by simp [nums]; omega, by simp, by simp, rfl⟩, ?_⟩
      refine le_mk ?_ ?_ ?_
      · simp only [go_sem, ↓reduceIte, Nat.reduceEqDiff, Nat.reduceAdd, Nat.reduceLeDiff, Nat.reduceMul, Nat.reducePow, Nat.reduceLT, Nat.reduceSub, Int.reduceEq, Int.reduceLT, Int.reduceLE, Int.reduceNeg, Int.reduceToNat]
        try simp [eInt, keyOf, eKOp, eKernel, rBool, rInt, rInts, rClo, eInts, nums]
        try simp (disch := omega) only [IntWalk.i64_in, and_self]
      · simp only [go_sem, ↓reduceIte, Nat.reduceEqDiff, Nat.reduceAdd, Nat.reduceLeDiff, Nat.reduceMul, Nat.reducePow, Nat.reduceLT, Nat.reduceSub, Int.reduceEq, Int.reduceLT, Int.reduceLE, Int.reduceNeg, Int.reduceToNat]
        try simp [eInt, keyOf, eKOp, eKernel, rBool, rInt, rInts, rClo, eInts, nums]
        try simp (disch := omega) only [IntWalk.i64_in, and_self]
      · simp only [go_sem, ↓reduceIte, Nat.reduceEqDiff, Nat.reduceAdd, Nat.reduceLeDiff, Nat.reduceMul, Nat.reducePow, Nat.reduceLT, Nat.reduceSub, Int.reduceEq, Int.reduceLT, Int.reduceLE, Int.reduceNeg, Int.reduceToNat]
        try simp [eInt, keyOf, eKOp, eKernel, rBool, rInt, rInts, rClo, eInts, nums]
        try simp (disch := omega) only [IntWalk.i64_in, and_self]
    rintro n s ⟨i, hi, rfl, num, out, hnum, hout, hpre, rfl⟩
    simp only [go_sem, ↓reduceIte, Nat.reduceEqDiff, Nat.reduceAdd, Nat.reduceLeDiff, Nat.reduceMul, Nat.reducePow, Nat.reduceLT, Nat.reduceSub, Int.reduceEq, Int.reduceLT, Int.reduceLE, Int.reduceNeg, Int.reduceToNat]
    refine wpL_region Try.tyOk (by decide) ?_
    simp only [go_sem, ↓reduceIte, Nat.reduceEqDiff, Nat.reduceAdd, Nat.reduceLeDiff, Nat.reduceMul, Nat.reducePow, Nat.reduceLT, Nat.reduceSub, Int.reduceEq, Int.reduceLT, Int.reduceLE, Int.reduceNeg, Int.reduceToNat]
    refine wpL_cond (t := decide ((i : Int) < k.ops.length)) (by rfl) (fun hlt => ?_) (fun hge => ?_)
    · have hlt := lt_of hlt
      obtain ⟨o, ho⟩ := get_ex (l := k.ops) (i := i) (by omega)
      obtain ⟨hva, hvb⟩ := hval i o ho
      obtain ⟨hb1, hb2, hb3, hb4⟩ := badI_false hvb
      obtain ⟨z, hz⟩ := get_ex (l := need) (i := N + i) (by omega)
      have hw2 : IntKind.i64.wrap (k.inputs + (i : Int)) = ((N + i : Nat) : Int) := by rw [IntWalk.i64_in _ (by omega)]; omega
      have hw3 : IntKind.i64.wrap (k.inputs + (out.length : Int)) = k.inputs + (out.length : Int) := IntWalk.i64_in _ (by omega)
      have hi1 : ((N + i : Nat) : Int) < ((need.length : Nat) : Int) := by omega
      rw [drop_get ho, trimFrom, show (k.inputs + (i : Int)).toNat = N + i by omega, hz] at hpre
      simp only [go_sem, ↓reduceIte, Nat.reduceEqDiff, Nat.reduceAdd, Nat.reduceLeDiff, Nat.reduceMul, Nat.reducePow, Nat.reduceLT, Nat.reduceSub, Int.reduceEq, Int.reduceLT, Int.reduceLE, Int.reduceNeg, Int.reduceToNat]
      refine wpL_skip ?_
      refine wpL_block ?_
      generalize hB3 : blockQ _ _ _ = B3
      simp only [go_sem, ↓reduceIte, Nat.reduceEqDiff, Nat.reduceAdd, Nat.reduceLeDiff, Nat.reduceMul, Nat.reducePow, Nat.reduceLT, Nat.reduceSub, Int.reduceEq, Int.reduceLT, Int.reduceLE, Int.reduceNeg, Int.reduceToNat]
      refine wpL_region Try.tyOk (by decide) ?_
      simp only [go_sem, ↓reduceIte, Nat.reduceEqDiff, Nat.reduceAdd, Nat.reduceLeDiff, Nat.reduceMul, Nat.reducePow, Nat.reduceLT, Nat.reduceSub, Int.reduceEq, Int.reduceLT, Int.reduceLE, Int.reduceNeg, Int.reduceToNat, eKOps_get ho]
      refine wpL_region Try.tyOk (by decide) ?_
      simp only [go_sem, ↓reduceIte, Nat.reduceEqDiff, Nat.reduceAdd, Nat.reduceLeDiff, Nat.reduceMul, Nat.reducePow, Nat.reduceLT, Nat.reduceSub, Int.reduceEq, Int.reduceLT, Int.reduceLE, Int.reduceNeg, Int.reduceToNat, hw3, eInts_length, List.length_map]
      refine ⟨⟨by omega, by simp⟩, ?_⟩
      refine wpL_region Try.tyOk (by decide) ?_
      simp only [go_sem, ↓reduceIte, Nat.reduceEqDiff, Nat.reduceAdd, Nat.reduceLeDiff, Nat.reduceMul, Nat.reducePow, Nat.reduceLT, Nat.reduceSub, Int.reduceEq, Int.reduceLT, Int.reduceLE, Int.reduceNeg, Int.reduceToNat, hw2, eBools_get hz, eBools_length, hi1]
      have hnum2 : ((num ++ [k.inputs + (out.length : Int)]).length : Int) = k.inputs + (i + 1 : Nat) := by simp; omega
      have hst : eInts num ++ [[DC.sc (Value.int .i64 (k.inputs + (out.length : Int)))]] = eInts (num ++ [k.inputs + (out.length : Int)]) := by simp [eInts, eInt]
      rw [hst]
      generalize num ++ [k.inputs + (out.length : Int)] = num2 at *
      cases z with
      | true =>
        simp only [Option.getD_some, if_true] at hpre
        refine wpL_cond (t := true) (by rfl) (fun _ => ?_) (fun h => by cases h)
        simp only [go_sem, ↓reduceIte, Nat.reduceEqDiff, Nat.reduceAdd, Nat.reduceLeDiff, Nat.reduceMul, Nat.reducePow, Nat.reduceLT, Nat.reduceSub, Int.reduceEq, Int.reduceLT, Int.reduceLE, Int.reduceNeg, Int.reduceToNat]
        refine wpL_draw Try.tyOk (by kernel_rfl) 6 (by decide) (by decide) ?_
        simp only [go_sem, ↓reduceIte, Nat.reduceEqDiff, Nat.reduceAdd, Nat.reduceLeDiff, Nat.reduceMul, Nat.reducePow, Nat.reduceLT, Nat.reduceSub, Int.reduceEq, Int.reduceLT, Int.reduceLE, Int.reduceNeg, Int.reduceToNat]
        refine ⟨_, renum30 o num2 (by omega) hb3 (by omega), ?_⟩
        simp only [go_sem, ↓reduceIte, Nat.reduceEqDiff, Nat.reduceAdd, Nat.reduceLeDiff, Nat.reduceMul, Nat.reducePow, Nat.reduceLT, Nat.reduceSub, Int.reduceEq, Int.reduceLT, Int.reduceLE, Int.reduceNeg, Int.reduceToNat]
        refine ⟨⟨by simp; omega, by simp⟩, ?_⟩
        rw [← hB3]
        try simp only [go_sem, ↓reduceIte, Nat.reduceEqDiff, Nat.reduceAdd, Nat.reduceLeDiff, Nat.reduceMul, Nat.reducePow, Nat.reduceLT, Nat.reduceSub, Int.reduceEq, Int.reduceLT, Int.reduceLE, Int.reduceNeg, Int.reduceToNat]
        refine wpL_region Try.tyOk (by decide) ?_
        simp only [go_sem, ↓reduceIte, Nat.reduceEqDiff, Nat.reduceAdd, Nat.reduceLeDiff, Nat.reduceMul, Nat.reducePow, Nat.reduceLT, Nat.reduceSub, Int.reduceEq, Int.reduceLT, Int.reduceLE, Int.reduceNeg, Int.reduceToNat]
        refine ⟨_, _, ?_, ⟨i + 1, by omega, rfl, _, _, hnum2, ?_, hpre, rfl⟩, ?_⟩
        · omega
        · simp; omega
        · refine le_mk ?_ ?_ ?_
          · simp only [go_sem, ↓reduceIte, Nat.reduceEqDiff, Nat.reduceAdd, Nat.reduceLeDiff, Nat.reduceMul, Nat.reducePow, Nat.reduceLT, Nat.reduceSub, Int.reduceEq, Int.reduceLT, Int.reduceLE, Int.reduceNeg, Int.reduceToNat]
            try simp [eInt, keyOf, eKOp, eKernel, rBool, rInt, rInts, rClo, eInts]
            try simp (disch := omega) only [IntWalk.i64_in, and_self]
          · simp only [go_sem, ↓reduceIte, Nat.reduceEqDiff, Nat.reduceAdd, Nat.reduceLeDiff, Nat.reduceMul, Nat.reducePow, Nat.reduceLT, Nat.reduceSub, Int.reduceEq, Int.reduceLT, Int.reduceLE, Int.reduceNeg, Int.reduceToNat]
            try simp [eInt, keyOf, eKOp, eKernel, rBool, rInt, rInts, rClo, eInts]
            try simp (disch := omega) only [IntWalk.i64_in, and_self]
          · simp only [go_sem, ↓reduceIte, Nat.reduceEqDiff, Nat.reduceAdd, Nat.reduceLeDiff, Nat.reduceMul, Nat.reducePow, Nat.reduceLT, Nat.reduceSub, Int.reduceEq, Int.reduceLT, Int.reduceLE, Int.reduceNeg, Int.reduceToNat]
            try simp [eInt, keyOf, eKOp, eKernel, rBool, rInt, rInts, rClo, eInts]
            try simp (disch := omega) only [IntWalk.i64_in, and_self]
      | false =>
        simp only [Option.getD_some, Bool.false_eq_true, if_false] at hpre
        refine wpL_cond (t := false) (by rfl) (fun h => by cases h) (fun _ => ?_)
        simp only [go_sem, ↓reduceIte, Nat.reduceEqDiff, Nat.reduceAdd, Nat.reduceLeDiff, Nat.reduceMul, Nat.reducePow, Nat.reduceLT, Nat.reduceSub, Int.reduceEq, Int.reduceLT, Int.reduceLE, Int.reduceNeg, Int.reduceToNat]
        refine wpL_skip ?_
        simp only [go_sem, ↓reduceIte, Nat.reduceEqDiff, Nat.reduceAdd, Nat.reduceLeDiff, Nat.reduceMul, Nat.reducePow, Nat.reduceLT, Nat.reduceSub, Int.reduceEq, Int.reduceLT, Int.reduceLE, Int.reduceNeg, Int.reduceToNat]
        rw [← hB3]
        try simp only [go_sem, ↓reduceIte, Nat.reduceEqDiff, Nat.reduceAdd, Nat.reduceLeDiff, Nat.reduceMul, Nat.reducePow, Nat.reduceLT, Nat.reduceSub, Int.reduceEq, Int.reduceLT, Int.reduceLE, Int.reduceNeg, Int.reduceToNat]
        refine wpL_region Try.tyOk (by decide) ?_
        simp only [go_sem, ↓reduceIte, Nat.reduceEqDiff, Nat.reduceAdd, Nat.reduceLeDiff, Nat.reduceMul, Nat.reducePow, Nat.reduceLT, Nat.reduceSub, Int.reduceEq, Int.reduceLT, Int.reduceLE, Int.reduceNeg, Int.reduceToNat]
        refine ⟨_, _, ?_, ⟨i + 1, by omega, rfl, _, _, hnum2, by omega, hpre, rfl⟩, ?_⟩
        · omega
        · refine le_mk ?_ ?_ ?_
          · simp only [go_sem, ↓reduceIte, Nat.reduceEqDiff, Nat.reduceAdd, Nat.reduceLeDiff, Nat.reduceMul, Nat.reducePow, Nat.reduceLT, Nat.reduceSub, Int.reduceEq, Int.reduceLT, Int.reduceLE, Int.reduceNeg, Int.reduceToNat]
            try simp [eInt, keyOf, eKOp, eKernel, rBool, rInt, rInts, rClo, eInts]
            try simp (disch := omega) only [IntWalk.i64_in, and_self]
          · simp only [go_sem, ↓reduceIte, Nat.reduceEqDiff, Nat.reduceAdd, Nat.reduceLeDiff, Nat.reduceMul, Nat.reducePow, Nat.reduceLT, Nat.reduceSub, Int.reduceEq, Int.reduceLT, Int.reduceLE, Int.reduceNeg, Int.reduceToNat]
            try simp [eInt, keyOf, eKOp, eKernel, rBool, rInt, rInts, rClo, eInts]
            try simp (disch := omega) only [IntWalk.i64_in, and_self]
          · simp only [go_sem, ↓reduceIte, Nat.reduceEqDiff, Nat.reduceAdd, Nat.reduceLeDiff, Nat.reduceMul, Nat.reducePow, Nat.reduceLT, Nat.reduceSub, Int.reduceEq, Int.reduceLT, Int.reduceLE, Int.reduceNeg, Int.reduceToNat]
            try simp [eInt, keyOf, eKOp, eKernel, rBool, rInt, rInts, rClo, eInts]
            try simp (disch := omega) only [IntWalk.i64_in, and_self]
    · have hge := ge_of hge
      have hi' : i = k.ops.length := by omega
      subst hi'
      rw [List.drop_length, trimFrom] at hpre
      refine wpL_exit ?_
      simp only [go_sem, ↓reduceIte, Nat.reduceEqDiff, Nat.reduceAdd, Nat.reduceLeDiff, Nat.reduceMul, Nat.reducePow, Nat.reduceLT, Nat.reduceSub, Int.reduceEq, Int.reduceLT, Int.reduceLE, Int.reduceNeg, Int.reduceToNat]
      rw [← hB2]
      try simp only [go_sem, ↓reduceIte, Nat.reduceEqDiff, Nat.reduceAdd, Nat.reduceLeDiff, Nat.reduceMul, Nat.reducePow, Nat.reduceLT, Nat.reduceSub, Int.reduceEq, Int.reduceLT, Int.reduceLE, Int.reduceNeg, Int.reduceToNat]
      refine wpL_region Try.tyOk (by decide) ?_
      simp only [go_sem, ↓reduceIte, Nat.reduceEqDiff, Nat.reduceAdd, Nat.reduceLeDiff, Nat.reduceMul, Nat.reducePow, Nat.reduceLT, Nat.reduceSub, Int.reduceEq, Int.reduceLT, Int.reduceLE, Int.reduceNeg, Int.reduceToNat]
      refine wpL_ret ?_
      try simp only [go_sem, ↓reduceIte, Nat.reduceEqDiff, Nat.reduceAdd, Nat.reduceLeDiff, Nat.reduceMul, Nat.reducePow, Nat.reduceLT, Nat.reduceSub, Int.reduceEq, Int.reduceLT, Int.reduceLE, Int.reduceNeg, Int.reduceToNat]
      rw [← hBQ]
      try simp only [go_sem, ↓reduceIte, Nat.reduceEqDiff, Nat.reduceAdd, Nat.reduceLeDiff, Nat.reduceMul, Nat.reducePow, Nat.reduceLT, Nat.reduceSub, Int.reduceEq, Int.reduceLT, Int.reduceLE, Int.reduceNeg, Int.reduceToNat]
      simp [trimS, hr, hpre, hneed]
  · intro s h; exact h.elim

end Go.Proofs.YtgjhamfboonloaaR
