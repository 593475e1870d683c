/-
  The walks of layer 49, continued: dead operations.
-/
import Derived.Test.YtgjhamfboonloaaRW7
set_option linter.unusedSimpArgs false
set_option linter.unusedVariables false
set_option maxRecDepth 100000
set_option maxHeartbeats 4000000
namespace Go.Proofs.YtgjhamfboonloaaR
open Go.Abs Go

def eBools (l : List Bool) : List (List DC) := l.map fun b => [.sc (.bool b)]
@[simp] theorem eBools_length (l : List Bool) : (eBools l).length = l.length := by simp [eBools]
theorem eBools_get {l : List Bool} {i : Nat} {x : Bool} (h : l[i]? = some x) : (eBools l)[i]? = some [.sc (.bool x)] := by simp [eBools, h]
def needSet (n v : Int) (need : List Bool) : List Bool := if n ≤ v then need.set (v - n).toNat true else need
def needOp (n : Int) (o : KOp) (need : List Bool) : List Bool := needSet n o.b (needSet n o.a need)
def needFrom (n : Int) (ops : List KOp) : Nat → List Bool → List Bool
  | 0, need => need
  | i + 1, need => needFrom n ops i (if need[i]?.getD false then (match ops[i]? with | some o => needOp n o need | none => need) else need)
@[simp] theorem needSet_length (n v : Int) (need : List Bool) : (needSet n v need).length = need.length := by unfold needSet; split <;> simp
@[simp] theorem needOp_length (n : Int) (o : KOp) (need : List Bool) : (needOp n o need).length = need.length := by simp [needOp]
theorem needFrom_length (n : Int) (ops : List KOp) : ∀ (i : Nat) (need : List Bool), (needFrom n ops i need).length = need.length
  | 0, need => rfl
  | i + 1, need => by
    unfold needFrom
    rw [needFrom_length n ops i]
    split
    · split
      · simp
      · rfl
    · rfl
def needS (n : Int) (ops : List KOp) : List Bool := needFrom n ops ops.length ((List.replicate ops.length false).set (ops.length - 1) true)
def trimRFrom (n : Int) (need : List Bool) : Nat → List KOp → List Int → List KOp → List KOp
  | i, o :: l, to, out => if need[i]?.getD false then trimRFrom n need (i + 1) l (to.set i (n + out.length)) (out ++ [movedOp o n (to.set i (n + out.length))]) else trimRFrom n need (i + 1) l to out
  | _, [], _, out => out
def trimRS (k : Kernel) : Kernel := if right k = 0 then { inputs := k.inputs, ops := trimRFrom k.inputs (needS k.inputs k.ops) 0 k.ops (zeros k.ops.length) [], reduce := k.reduce, pos := k.pos } else zeroK

theorem trim17 (k : Kernel) : Gives Try.prog 17 [.agg (eKernel k)] (rKernel (trimRS k)) := by
  refine Gives.intro Try.tyOk Try.func17 (by kernel_rfl) rfl (by simp [Try.ntmps17]) ?_
  simp only [go_sem, ↓reduceIte, Nat.reduceEqDiff, Nat.reduceAdd, Nat.reduceLeDiff, Nat.reduceMul, Nat.reducePow, Nat.reduceLT, Nat.reduceSub, Int.reduceEq, Int.reduceLT, Int.reduceLE, Int.reduceNeg, Int.reduceToNat]
  simp only [Try.ntmps17, Try.results17, eInt, keyOf, eKOp, eKernel, rBool, rInt, rInts, List.map_cons, List.map_nil]
  generalize hBQ : retQ _ _ _ = BQ
  refine wpL_region Try.tyOk (by decide) ?_
  simp only [go_sem, ↓reduceIte, Nat.reduceEqDiff, Nat.reduceAdd, Nat.reduceLeDiff, Nat.reduceMul, Nat.reducePow, Nat.reduceLT, Nat.reduceSub, Int.reduceEq, Int.reduceLT, Int.reduceLE, Int.reduceNeg, Int.reduceToNat]
  refine wpL_region Try.tyOk (by decide) ?_
  simp only [go_sem, ↓reduceIte, Nat.reduceEqDiff, Nat.reduceAdd, Nat.reduceLeDiff, Nat.reduceMul, Nat.reducePow, Nat.reduceLT, Nat.reduceSub, Int.reduceEq, Int.reduceLT, Int.reduceLE, Int.reduceNeg, Int.reduceToNat]
  refine ⟨_, right26 k, ?_⟩
  simp only [go_sem, ↓reduceIte, Nat.reduceEqDiff, Nat.reduceAdd, Nat.reduceLeDiff, Nat.reduceMul, Nat.reducePow, Nat.reduceLT, Nat.reduceSub, Int.reduceEq, Int.reduceLT, Int.reduceLE, Int.reduceNeg, Int.reduceToNat]
  refine wpL_cond (t := !decide (right k = 0)) (by rfl) (fun hb => ?_) (fun hb => ?_)
  · have hr : ¬ right k = 0 := by simpa using hb
    simp only [go_sem, ↓reduceIte, Nat.reduceEqDiff, Nat.reduceAdd, Nat.reduceLeDiff, Nat.reduceMul, Nat.reducePow, Nat.reduceLT, Nat.reduceSub, Int.reduceEq, Int.reduceLT, Int.reduceLE, Int.reduceNeg, Int.reduceToNat]
    refine wpL_region Try.tyOk (by decide) ?_
    simp only [go_sem, ↓reduceIte, Nat.reduceEqDiff, Nat.reduceAdd, Nat.reduceLeDiff, Nat.reduceMul, Nat.reducePow, Nat.reduceLT, Nat.reduceSub, Int.reduceEq, Int.reduceLT, Int.reduceLE, Int.reduceNeg, Int.reduceToNat]
    refine wpL_nilCell 2 1 77 40 4 rfl rfl (by decide) rfl ?_
    refine wpL_ret ?_
    try simp only [go_sem, ↓reduceIte, Nat.reduceEqDiff, Nat.reduceAdd, Nat.reduceLeDiff, Nat.reduceMul, Nat.reducePow, Nat.reduceLT, Nat.reduceSub, Int.reduceEq, Int.reduceLT, Int.reduceLE, Int.reduceNeg, Int.reduceToNat]
    rw [← hBQ]
    try simp only [go_sem, ↓reduceIte, Nat.reduceEqDiff, Nat.reduceAdd, Nat.reduceLeDiff, Nat.reduceMul, Nat.reducePow, Nat.reduceLT, Nat.reduceSub, Int.reduceEq, Int.reduceLT, Int.reduceLE, Int.reduceNeg, Int.reduceToNat]
    simp [trimRS, hr, zeroK]
  have hr : right k = 0 := by simpa using hb
  obtain ⟨⟨hk1, hk2, hk3, hk4⟩, hval⟩ := right_zero hr
  have hw1 : IntKind.i64.wrap ((k.ops.length : Int) - 1) = ((k.ops.length - 1 : Nat) : Int) := by rw [IntWalk.i64_in _ (by omega)]; omega
  have hg1 : (List.replicate k.ops.length [DC.sc (Value.bool false)])[k.ops.length - 1]? = some [DC.sc (Value.bool false)] := by
    rw [List.getElem?_replicate, if_pos (by omega)]
  have hlm : ((k.ops.length - 1 : Nat) : Int) < k.ops.length := by omega
  simp only [go_sem, ↓reduceIte, Nat.reduceEqDiff, Nat.reduceAdd, Nat.reduceLeDiff, Nat.reduceMul, Nat.reducePow, Nat.reduceLT, Nat.reduceSub, Int.reduceEq, Int.reduceLT, Int.reduceLE, Int.reduceNeg, Int.reduceToNat]
  refine wpL_skip ?_
  refine wpL_region Try.tyOk (by decide) ?_
  simp only [go_sem, ↓reduceIte, Nat.reduceEqDiff, Nat.reduceAdd, Nat.reduceLeDiff, Nat.reduceMul, Nat.reducePow, Nat.reduceLT, Nat.reduceSub, Int.reduceEq, Int.reduceLT, Int.reduceLE, Int.reduceNeg, Int.reduceToNat, List.length_map]
  refine wpL_region Try.tyOk (by decide) ?_
  simp only [go_sem, ↓reduceIte, Nat.reduceEqDiff, Nat.reduceAdd, Nat.reduceLeDiff, Nat.reduceMul, Nat.reducePow, Nat.reduceLT, Nat.reduceSub, Int.reduceEq, Int.reduceLT, Int.reduceLE, Int.reduceNeg, Int.reduceToNat]
  refine ⟨⟨by omega, by omega⟩, ?_⟩
  refine wpL_region Try.tyOk (by decide) ?_
  simp only [go_sem, ↓reduceIte, Nat.reduceEqDiff, Nat.reduceAdd, Nat.reduceLeDiff, Nat.reduceMul, Nat.reducePow, Nat.reduceLT, Nat.reduceSub, Int.reduceEq, Int.reduceLT, Int.reduceLE, Int.reduceNeg, Int.reduceToNat, hw1, hg1, hlm, List.length_replicate]
  refine wpL_region Try.tyOk (by decide) ?_
  simp only [go_sem, ↓reduceIte, Nat.reduceEqDiff, Nat.reduceAdd, Nat.reduceLeDiff, Nat.reduceMul, Nat.reducePow, Nat.reduceLT, Nat.reduceSub, Int.reduceEq, Int.reduceLT, Int.reduceLE, Int.reduceNeg, Int.reduceToNat, hw1]
  refine wpL_block ?_
  generalize hB0 : blockQ _ _ _ = B0
  simp only [go_sem, ↓reduceIte, Nat.reduceEqDiff, Nat.reduceAdd, Nat.reduceLeDiff, Nat.reduceMul, Nat.reducePow, Nat.reduceLT, Nat.reduceSub, Int.reduceEq, Int.reduceLT, Int.reduceLE, Int.reduceNeg, Int.reduceToNat]
  refine wpL_loop (fun n s => n ≤ k.ops.length ∧ ∃ need : List Bool, need.length = k.ops.length ∧ needS k.inputs k.ops = needFrom k.inputs k.ops n need ∧
    s = ⟨[(5, sint .i64 ((n : Int) - 1)), (4, .c (.row 18)), (3, sint .i64 k.ops.length), (2, .c (.ptr 2 0)), (1, .c (.ptr 1 0))],
      [(18, .arr 4 1 (eBools need) false), (2, .box [.d (eInt 0), .nil, .d (eInt 0), .d (eInt 0)]), (1, .box ((eKernel k).map .d))]⟩) ?_ ?_
  · refine ⟨_, _, ⟨Nat.le_refl _, _, ?_, rfl, rfl⟩, ?_⟩
    · simp
    · have he : ((k.ops.length - 1 : Nat) : Int) = (k.ops.length : Int) - 1 := by omega
      refine le_mk ?_ ?_ ?_
      · simp only [go_sem, ↓reduceIte, Nat.reduceEqDiff, Nat.reduceAdd, Nat.reduceLeDiff, Nat.reduceMul, Nat.reducePow, Nat.reduceLT, Nat.reduceSub, Int.reduceEq, Int.reduceLT, Int.reduceLE, Int.reduceNeg, Int.reduceToNat]
        try simp [eInt, keyOf, eKOp, eKernel, rBool, rInt, rInts, eInts, eBools, List.map_set, he]
        try simp (disch := omega) only [IntWalk.i64_in, and_self]
      · simp only [go_sem, ↓reduceIte, Nat.reduceEqDiff, Nat.reduceAdd, Nat.reduceLeDiff, Nat.reduceMul, Nat.reducePow, Nat.reduceLT, Nat.reduceSub, Int.reduceEq, Int.reduceLT, Int.reduceLE, Int.reduceNeg, Int.reduceToNat]
        try simp [eInt, keyOf, eKOp, eKernel, rBool, rInt, rInts, eInts, eBools, List.map_set, he]
        try simp (disch := omega) only [IntWalk.i64_in, and_self]
      · simp only [go_sem, ↓reduceIte, Nat.reduceEqDiff, Nat.reduceAdd, Nat.reduceLeDiff, Nat.reduceMul, Nat.reducePow, Nat.reduceLT, Nat.reduceSub, Int.reduceEq, Int.reduceLT, Int.reduceLE, Int.reduceNeg, Int.reduceToNat]
        try simp [eInt, keyOf, eKOp, eKernel, rBool, rInt, rInts, eInts, eBools, List.map_set, he]
        try simp (disch := omega) only [IntWalk.i64_in, and_self]
  · rintro i s ⟨hi, need, hneed, hpre, rfl⟩
    simp only [go_sem, ↓reduceIte, Nat.reduceEqDiff, Nat.reduceAdd, Nat.reduceLeDiff, Nat.reduceMul, Nat.reducePow, Nat.reduceLT, Nat.reduceSub, Int.reduceEq, Int.reduceLT, Int.reduceLE, Int.reduceNeg, Int.reduceToNat]
    refine wpL_region Try.tyOk (by decide) ?_
    simp only [go_sem, ↓reduceIte, Nat.reduceEqDiff, Nat.reduceAdd, Nat.reduceLeDiff, Nat.reduceMul, Nat.reducePow, Nat.reduceLT, Nat.reduceSub, Int.reduceEq, Int.reduceLT, Int.reduceLE, Int.reduceNeg, Int.reduceToNat, ge_iff_le]
    cases i with
    | zero =>
      refine wpL_cond (t := false) (by rfl) (fun h => by cases h) (fun _ => ?_)
      simp only [go_sem, ↓reduceIte, Nat.reduceEqDiff, Nat.reduceAdd, Nat.reduceLeDiff, Nat.reduceMul, Nat.reducePow, Nat.reduceLT, Nat.reduceSub, Int.reduceEq, Int.reduceLT, Int.reduceLE, Int.reduceNeg, Int.reduceToNat]
      refine wpL_exit ?_
      simp only [go_sem, ↓reduceIte, Nat.reduceEqDiff, Nat.reduceAdd, Nat.reduceLeDiff, Nat.reduceMul, Nat.reducePow, Nat.reduceLT, Nat.reduceSub, Int.reduceEq, Int.reduceLT, Int.reduceLE, Int.reduceNeg, Int.reduceToNat]
      rw [← hB0]
      try simp only [go_sem, ↓reduceIte, Nat.reduceEqDiff, Nat.reduceAdd, Nat.reduceLeDiff, Nat.reduceMul, Nat.reducePow, Nat.reduceLT, Nat.reduceSub, Int.reduceEq, Int.reduceLT, Int.reduceLE, Int.reduceNeg, Int.reduceToNat]
      have hneed2 : needS k.inputs k.ops = need := by rw [hpre]; rfl
      clear hpre
      refine wpL_region Try.tyOk (by decide) ?_
      simp only [go_sem, ↓reduceIte, Nat.reduceEqDiff, Nat.reduceAdd, Nat.reduceLeDiff, Nat.reduceMul, Nat.reducePow, Nat.reduceLT, Nat.reduceSub, Int.reduceEq, Int.reduceLT, Int.reduceLE, Int.reduceNeg, Int.reduceToNat]
      refine wpL_region Try.tyOk (by decide) ?_
      simp only [go_sem, ↓reduceIte, Nat.reduceEqDiff, Nat.reduceAdd, Nat.reduceLeDiff, Nat.reduceMul, Nat.reducePow, Nat.reduceLT, Nat.reduceSub, Int.reduceEq, Int.reduceLT, Int.reduceLE, Int.reduceNeg, Int.reduceToNat]
      refine ⟨⟨by omega, by omega⟩, ?_⟩
      refine wpL_region Try.tyOk (by decide) ?_
      simp only [go_sem, ↓reduceIte, Nat.reduceEqDiff, Nat.reduceAdd, Nat.reduceLeDiff, Nat.reduceMul, Nat.reducePow, Nat.reduceLT, Nat.reduceSub, Int.reduceEq, Int.reduceLT, Int.reduceLE, Int.reduceNeg, Int.reduceToNat]
      refine wpL_block ?_
      generalize hB2 : blockQ _ _ _ = B2
      simp only [go_sem, ↓reduceIte, Nat.reduceEqDiff, Nat.reduceAdd, Nat.reduceLeDiff, Nat.reduceMul, Nat.reducePow, Nat.reduceLT, Nat.reduceSub, Int.reduceEq, Int.reduceLT, Int.reduceLE, Int.reduceNeg, Int.reduceToNat]
      refine wpL_nilCell 6 1 77 40 4 rfl rfl (by decide) rfl ?_
      refine wpL_loop (fun n s => ∃ i : Nat, i ≤ k.ops.length ∧ n = k.ops.length - i ∧ ∃ (to : List Int) (out : List KOp), to.length = k.ops.length ∧ out.length ≤ i ∧
        trimRFrom k.inputs need 0 k.ops (zeros k.ops.length) [] = trimRFrom k.inputs need i (k.ops.drop i) to out ∧ s = ⟨[(8, sint .i64 i), (7, .c (.row 82)), (6, .c (.ptr 6 0)), (4, .c (.row 18)), (3, sint .i64 k.ops.length), (2, .c (.ptr 2 0)), (1, .c (.ptr 1 0))], [(18, .arr 4 1 (eBools need) false), (82, .arr 3 1 (eInts to) false), (77, .arr 40 4 (out.map eKOp) false), (6, .box [.d (eInt k.inputs), .row 77, .d (eInt k.reduce), .d (eInt k.pos)]), (2, .box [.d (eInt 0), .nil, .d (eInt 0), .d (eInt 0)]), (1, .box ((eKernel k).map .d))]⟩) ?_ ?_
      · refine ⟨_, _, ⟨0, by omega, rfl, zeros k.ops.length, [], by simp [zeros], by simp, by simp, rfl⟩, ?_⟩
        refine le_mk ?_ ?_ ?_
        · simp only [go_sem, ↓reduceIte, Nat.reduceEqDiff, Nat.reduceAdd, Nat.reduceLeDiff, Nat.reduceMul, Nat.reducePow, Nat.reduceLT, Nat.reduceSub, Int.reduceEq, Int.reduceLT, Int.reduceLE, Int.reduceNeg, Int.reduceToNat]
          try simp [eInt, keyOf, eKOp, eKernel, rBool, rInt, rInts, eInts, zeros]
          try simp (disch := omega) only [IntWalk.i64_in, and_self]
        · simp only [go_sem, ↓reduceIte, Nat.reduceEqDiff, Nat.reduceAdd, Nat.reduceLeDiff, Nat.reduceMul, Nat.reducePow, Nat.reduceLT, Nat.reduceSub, Int.reduceEq, Int.reduceLT, Int.reduceLE, Int.reduceNeg, Int.reduceToNat]
          try simp [eInt, keyOf, eKOp, eKernel, rBool, rInt, rInts, eInts, zeros]
          try simp (disch := omega) only [IntWalk.i64_in, and_self]
        · simp only [go_sem, ↓reduceIte, Nat.reduceEqDiff, Nat.reduceAdd, Nat.reduceLeDiff, Nat.reduceMul, Nat.reducePow, Nat.reduceLT, Nat.reduceSub, Int.reduceEq, Int.reduceLT, Int.reduceLE, Int.reduceNeg, Int.reduceToNat]
          try simp [eInt, keyOf, eKOp, eKernel, rBool, rInt, rInts, eInts, zeros]
          try simp (disch := omega) only [IntWalk.i64_in, and_self]
      rintro n s ⟨i, hi, rfl, to, out, hto, hout, hpre, rfl⟩
      simp only [go_sem, ↓reduceIte, Nat.reduceEqDiff, Nat.reduceAdd, Nat.reduceLeDiff, Nat.reduceMul, Nat.reducePow, Nat.reduceLT, Nat.reduceSub, Int.reduceEq, Int.reduceLT, Int.reduceLE, Int.reduceNeg, Int.reduceToNat]
      refine wpL_region Try.tyOk (by decide) ?_
      simp only [go_sem, ↓reduceIte, Nat.reduceEqDiff, Nat.reduceAdd, Nat.reduceLeDiff, Nat.reduceMul, Nat.reducePow, Nat.reduceLT, Nat.reduceSub, Int.reduceEq, Int.reduceLT, Int.reduceLE, Int.reduceNeg, Int.reduceToNat]
      refine wpL_cond (t := decide ((i : Int) < k.ops.length)) (by rfl) (fun hlt => ?_) (fun hge => ?_)
      · have hlt := lt_of hlt
        obtain ⟨z, hz⟩ := get_ex (l := need) (i := i) (by omega)
        obtain ⟨o, ho⟩ := get_ex (l := k.ops) (i := i) (by omega)
        obtain ⟨hva, hvb⟩ := hval i o ho
        obtain ⟨hb1, hb2, hb3, hb4⟩ := badI_false hvb
        have hmn : (i : Int) < need.length := by omega
        rw [drop_get ho, trimRFrom, hz] at hpre
        simp only [go_sem, ↓reduceIte, Nat.reduceEqDiff, Nat.reduceAdd, Nat.reduceLeDiff, Nat.reduceMul, Nat.reducePow, Nat.reduceLT, Nat.reduceSub, Int.reduceEq, Int.reduceLT, Int.reduceLE, Int.reduceNeg, Int.reduceToNat]
        refine wpL_skip ?_
        refine wpL_block ?_
        generalize hB3 : blockQ _ _ _ = B3
        simp only [go_sem, ↓reduceIte, Nat.reduceEqDiff, Nat.reduceAdd, Nat.reduceLeDiff, Nat.reduceMul, Nat.reducePow, Nat.reduceLT, Nat.reduceSub, Int.reduceEq, Int.reduceLT, Int.reduceLE, Int.reduceNeg, Int.reduceToNat]
        refine wpL_region Try.tyOk (by decide) ?_
        simp only [go_sem, ↓reduceIte, Nat.reduceEqDiff, Nat.reduceAdd, Nat.reduceLeDiff, Nat.reduceMul, Nat.reducePow, Nat.reduceLT, Nat.reduceSub, Int.reduceEq, Int.reduceLT, Int.reduceLE, Int.reduceNeg, Int.reduceToNat, eBools_get hz, eBools_length, hmn]
        cases z with
        | false =>
          refine wpL_cond (t := true) (by rfl) (fun _ => ?_) (fun h => by cases h)
          simp only [go_sem, ↓reduceIte, Nat.reduceEqDiff, Nat.reduceAdd, Nat.reduceLeDiff, Nat.reduceMul, Nat.reducePow, Nat.reduceLT, Nat.reduceSub, Int.reduceEq, Int.reduceLT, Int.reduceLE, Int.reduceNeg, Int.reduceToNat]
          refine wpL_exit ?_
          rw [← hB3]
          try simp only [go_sem, ↓reduceIte, Nat.reduceEqDiff, Nat.reduceAdd, Nat.reduceLeDiff, Nat.reduceMul, Nat.reducePow, Nat.reduceLT, Nat.reduceSub, Int.reduceEq, Int.reduceLT, Int.reduceLE, Int.reduceNeg, Int.reduceToNat]
          refine wpL_region Try.tyOk (by decide) ?_
          simp only [go_sem, ↓reduceIte, Nat.reduceEqDiff, Nat.reduceAdd, Nat.reduceLeDiff, Nat.reduceMul, Nat.reducePow, Nat.reduceLT, Nat.reduceSub, Int.reduceEq, Int.reduceLT, Int.reduceLE, Int.reduceNeg, Int.reduceToNat]
          refine ⟨_, _, ?_, ⟨i + 1, by omega, rfl, to, out, hto, by omega, by simpa using hpre, rfl⟩, ?_⟩
          · omega
          · refine le_mk ?_ ?_ ?_
            · simp only [go_sem, ↓reduceIte, Nat.reduceEqDiff, Nat.reduceAdd, Nat.reduceLeDiff, Nat.reduceMul, Nat.reducePow, Nat.reduceLT, Nat.reduceSub, Int.reduceEq, Int.reduceLT, Int.reduceLE, Int.reduceNeg, Int.reduceToNat]
              try simp [eInt, keyOf, eKOp, eKernel, rBool, rInt, rInts, eInts]
              try simp (disch := omega) only [IntWalk.i64_in, and_self]
            · simp only [go_sem, ↓reduceIte, Nat.reduceEqDiff, Nat.reduceAdd, Nat.reduceLeDiff, Nat.reduceMul, Nat.reducePow, Nat.reduceLT, Nat.reduceSub, Int.reduceEq, Int.reduceLT, Int.reduceLE, Int.reduceNeg, Int.reduceToNat]
              try simp [eInt, keyOf, eKOp, eKernel, rBool, rInt, rInts, eInts]
              try simp (disch := omega) only [IntWalk.i64_in, and_self]
            · simp only [go_sem, ↓reduceIte, Nat.reduceEqDiff, Nat.reduceAdd, Nat.reduceLeDiff, Nat.reduceMul, Nat.reducePow, Nat.reduceLT, Nat.reduceSub, Int.reduceEq, Int.reduceLT, Int.reduceLE, Int.reduceNeg, Int.reduceToNat]
              try simp [eInt, keyOf, eKOp, eKernel, rBool, rInt, rInts, eInts]
              try simp (disch := omega) only [IntWalk.i64_in, and_self]
        | true =>
          simp only [Option.getD_some, if_true] at hpre
          refine wpL_cond (t := false) (by rfl) (fun h => by cases h) (fun _ => ?_)
          simp only [go_sem, ↓reduceIte, Nat.reduceEqDiff, Nat.reduceAdd, Nat.reduceLeDiff, Nat.reduceMul, Nat.reducePow, Nat.reduceLT, Nat.reduceSub, Int.reduceEq, Int.reduceLT, Int.reduceLE, Int.reduceNeg, Int.reduceToNat]
          refine wpL_skip ?_
          obtain ⟨q, hq⟩ := get_ex (l := to) (i := i) (by omega)
          have hq2 : (i : Int) < to.length := by omega
          have hw3 : IntKind.i64.wrap (k.inputs + (out.length : Int)) = k.inputs + (out.length : Int) := IntWalk.i64_in _ (by omega)
          refine wpL_region Try.tyOk (by decide) ?_
          simp only [go_sem, ↓reduceIte, Nat.reduceEqDiff, Nat.reduceAdd, Nat.reduceLeDiff, Nat.reduceMul, Nat.reducePow, Nat.reduceLT, Nat.reduceSub, Int.reduceEq, Int.reduceLT, Int.reduceLE, Int.reduceNeg, Int.reduceToNat, eKOps_get ho]
          refine wpL_region Try.tyOk (by decide) ?_
          simp only [go_sem, ↓reduceIte, Nat.reduceEqDiff, Nat.reduceAdd, Nat.reduceLeDiff, Nat.reduceMul, Nat.reducePow, Nat.reduceLT, Nat.reduceSub, Int.reduceEq, Int.reduceLT, Int.reduceLE, Int.reduceNeg, Int.reduceToNat, eInts_get hq, eInts_length, hq2, hw3, List.length_map]
          have hst : (eInts to).set i [DC.sc (Value.int .i64 (k.inputs + (out.length : Int)))] = eInts (to.set i (k.inputs + out.length)) := by simp [eInts, eInt, List.map_set]
          rw [hst]
          have hto2 : (to.set i (k.inputs + (out.length : Int))).length = k.ops.length := by simp [hto]
          generalize to.set i (k.inputs + (out.length : Int)) = to2 at *
          refine wpL_draw Try.tyOk (by kernel_rfl) 18 (by decide) (by decide) ?_
          simp only [go_sem, ↓reduceIte, Nat.reduceEqDiff, Nat.reduceAdd, Nat.reduceLeDiff, Nat.reduceMul, Nat.reducePow, Nat.reduceLT, Nat.reduceSub, Int.reduceEq, Int.reduceLT, Int.reduceLE, Int.reduceNeg, Int.reduceToNat]
          refine ⟨_, moved31 o.a k to2 ⟨hk1, hk2⟩ (by omega) (by omega), ?_⟩
          simp only [go_sem, ↓reduceIte, Nat.reduceEqDiff, Nat.reduceAdd, Nat.reduceLeDiff, Nat.reduceMul, Nat.reducePow, Nat.reduceLT, Nat.reduceSub, Int.reduceEq, Int.reduceLT, Int.reduceLE, Int.reduceNeg, Int.reduceToNat]
          refine ⟨_, moved31 o.b k to2 ⟨hk1, hk2⟩ (by omega) (by omega), ?_⟩
          simp only [go_sem, ↓reduceIte, Nat.reduceEqDiff, Nat.reduceAdd, Nat.reduceLeDiff, Nat.reduceMul, Nat.reducePow, Nat.reduceLT, Nat.reduceSub, Int.reduceEq, Int.reduceLT, Int.reduceLE, Int.reduceNeg, Int.reduceToNat]
          refine ⟨⟨by simp; omega, by simp⟩, ?_⟩
          rw [← hB3]
          try simp only [go_sem, ↓reduceIte, Nat.reduceEqDiff, Nat.reduceAdd, Nat.reduceLeDiff, Nat.reduceMul, Nat.reducePow, Nat.reduceLT, Nat.reduceSub, Int.reduceEq, Int.reduceLT, Int.reduceLE, Int.reduceNeg, Int.reduceToNat]
          refine wpL_region Try.tyOk (by decide) ?_
          simp only [go_sem, ↓reduceIte, Nat.reduceEqDiff, Nat.reduceAdd, Nat.reduceLeDiff, Nat.reduceMul, Nat.reducePow, Nat.reduceLT, Nat.reduceSub, Int.reduceEq, Int.reduceLT, Int.reduceLE, Int.reduceNeg, Int.reduceToNat]
          refine ⟨_, _, ?_, ⟨i + 1, by omega, rfl, _, _, hto2, ?_, hpre, rfl⟩, ?_⟩
          · omega
          · simp; omega
          · refine le_mk ?_ ?_ ?_
            · simp only [go_sem, ↓reduceIte, Nat.reduceEqDiff, Nat.reduceAdd, Nat.reduceLeDiff, Nat.reduceMul, Nat.reducePow, Nat.reduceLT, Nat.reduceSub, Int.reduceEq, Int.reduceLT, Int.reduceLE, Int.reduceNeg, Int.reduceToNat]
              try simp [eInt, keyOf, eKOp, eKernel, rBool, rInt, rInts, eInts, movedOp]
              try simp (disch := omega) only [IntWalk.i64_in, and_self]
            · simp only [go_sem, ↓reduceIte, Nat.reduceEqDiff, Nat.reduceAdd, Nat.reduceLeDiff, Nat.reduceMul, Nat.reducePow, Nat.reduceLT, Nat.reduceSub, Int.reduceEq, Int.reduceLT, Int.reduceLE, Int.reduceNeg, Int.reduceToNat]
              try simp [eInt, keyOf, eKOp, eKernel, rBool, rInt, rInts, eInts, movedOp]
              try simp (disch := omega) only [IntWalk.i64_in, and_self]
            · simp only [go_sem, ↓reduceIte, Nat.reduceEqDiff, Nat.reduceAdd, Nat.reduceLeDiff, Nat.reduceMul, Nat.reducePow, Nat.reduceLT, Nat.reduceSub, Int.reduceEq, Int.reduceLT, Int.reduceLE, Int.reduceNeg, Int.reduceToNat]
              try simp [eInt, keyOf, eKOp, eKernel, rBool, rInt, rInts, eInts, movedOp]
              try simp (disch := omega) only [IntWalk.i64_in, and_self]
      · have hge := ge_of hge
        have hi' : i = k.ops.length := by omega
        subst hi'
        rw [List.drop_length, trimRFrom] at hpre
        refine wpL_exit ?_
        simp only [go_sem, ↓reduceIte, Nat.reduceEqDiff, Nat.reduceAdd, Nat.reduceLeDiff, Nat.reduceMul, Nat.reducePow, Nat.reduceLT, Nat.reduceSub, Int.reduceEq, Int.reduceLT, Int.reduceLE, Int.reduceNeg, Int.reduceToNat]
        rw [← hB2]
        try simp only [go_sem, ↓reduceIte, Nat.reduceEqDiff, Nat.reduceAdd, Nat.reduceLeDiff, Nat.reduceMul, Nat.reducePow, Nat.reduceLT, Nat.reduceSub, Int.reduceEq, Int.reduceLT, Int.reduceLE, Int.reduceNeg, Int.reduceToNat]
        refine wpL_region Try.tyOk (by decide) ?_
        simp only [go_sem, ↓reduceIte, Nat.reduceEqDiff, Nat.reduceAdd, Nat.reduceLeDiff, Nat.reduceMul, Nat.reducePow, Nat.reduceLT, Nat.reduceSub, Int.reduceEq, Int.reduceLT, Int.reduceLE, Int.reduceNeg, Int.reduceToNat]
        refine wpL_ret ?_
        try simp only [go_sem, ↓reduceIte, Nat.reduceEqDiff, Nat.reduceAdd, Nat.reduceLeDiff, Nat.reduceMul, Nat.reducePow, Nat.reduceLT, Nat.reduceSub, Int.reduceEq, Int.reduceLT, Int.reduceLE, Int.reduceNeg, Int.reduceToNat]
        rw [← hBQ]
        try simp only [go_sem, ↓reduceIte, Nat.reduceEqDiff, Nat.reduceAdd, Nat.reduceLeDiff, Nat.reduceMul, Nat.reducePow, Nat.reduceLT, Nat.reduceSub, Int.reduceEq, Int.reduceLT, Int.reduceLE, Int.reduceNeg, Int.reduceToNat]
        simp [trimRS, hr, hpre, hneed2]
    | succ m =>
      have hc1 : ((m + 1 : Nat) : Int) - 1 = (m : Int) := by omega
      have hc2 : IntKind.i64.wrap ((m : Int) - 1) = (m : Int) - 1 := IntWalk.i64_in _ (by omega)
      rw [hc1]
      obtain ⟨z, hz⟩ := get_ex (l := need) (i := m) (by omega)
      obtain ⟨o, ho⟩ := get_ex (l := k.ops) (i := m) (by omega)
      obtain ⟨hva, hvb⟩ := hval m o ho
      obtain ⟨hb1, hb2, hb3, hb4⟩ := badI_false hvb
      have hmn : (m : Int) < need.length := by omega
      rw [needFrom, hz, ho] at hpre
      refine wpL_cond (t := decide ((0 : Int) ≤ m)) (by rfl) (fun _ => ?_) (fun h => by simp at h)
      simp only [go_sem, ↓reduceIte, Nat.reduceEqDiff, Nat.reduceAdd, Nat.reduceLeDiff, Nat.reduceMul, Nat.reducePow, Nat.reduceLT, Nat.reduceSub, Int.reduceEq, Int.reduceLT, Int.reduceLE, Int.reduceNeg, Int.reduceToNat]
      refine wpL_skip ?_
      refine wpL_block ?_
      generalize hB1 : blockQ _ _ _ = B1
      simp only [go_sem, ↓reduceIte, Nat.reduceEqDiff, Nat.reduceAdd, Nat.reduceLeDiff, Nat.reduceMul, Nat.reducePow, Nat.reduceLT, Nat.reduceSub, Int.reduceEq, Int.reduceLT, Int.reduceLE, Int.reduceNeg, Int.reduceToNat]
      refine wpL_region Try.tyOk (by decide) ?_
      simp only [go_sem, ↓reduceIte, Nat.reduceEqDiff, Nat.reduceAdd, Nat.reduceLeDiff, Nat.reduceMul, Nat.reducePow, Nat.reduceLT, Nat.reduceSub, Int.reduceEq, Int.reduceLT, Int.reduceLE, Int.reduceNeg, Int.reduceToNat, eBools_get hz, eBools_length, hmn]
      cases z with
      | false =>
        refine wpL_cond (t := true) (by rfl) (fun _ => ?_) (fun h => by cases h)
        simp only [go_sem, ↓reduceIte, Nat.reduceEqDiff, Nat.reduceAdd, Nat.reduceLeDiff, Nat.reduceMul, Nat.reducePow, Nat.reduceLT, Nat.reduceSub, Int.reduceEq, Int.reduceLT, Int.reduceLE, Int.reduceNeg, Int.reduceToNat]
        refine wpL_exit ?_
        rw [← hB1]
        try simp only [go_sem, ↓reduceIte, Nat.reduceEqDiff, Nat.reduceAdd, Nat.reduceLeDiff, Nat.reduceMul, Nat.reducePow, Nat.reduceLT, Nat.reduceSub, Int.reduceEq, Int.reduceLT, Int.reduceLE, Int.reduceNeg, Int.reduceToNat]
        refine wpL_region Try.tyOk (by decide) ?_
        simp only [go_sem, ↓reduceIte, Nat.reduceEqDiff, Nat.reduceAdd, Nat.reduceLeDiff, Nat.reduceMul, Nat.reducePow, Nat.reduceLT, Nat.reduceSub, Int.reduceEq, Int.reduceLT, Int.reduceLE, Int.reduceNeg, Int.reduceToNat, hc2]
        refine ⟨m, _, by omega, ⟨by omega, need, hneed, by simpa using hpre, rfl⟩, ?_⟩
        refine le_mk ?_ ?_ ?_
        · simp only [go_sem, ↓reduceIte, Nat.reduceEqDiff, Nat.reduceAdd, Nat.reduceLeDiff, Nat.reduceMul, Nat.reducePow, Nat.reduceLT, Nat.reduceSub, Int.reduceEq, Int.reduceLT, Int.reduceLE, Int.reduceNeg, Int.reduceToNat]
          try simp [eInt, keyOf, eKOp, eKernel, rBool, rInt, rInts, eInts]
          try simp (disch := omega) only [IntWalk.i64_in, and_self]
        · simp only [go_sem, ↓reduceIte, Nat.reduceEqDiff, Nat.reduceAdd, Nat.reduceLeDiff, Nat.reduceMul, Nat.reducePow, Nat.reduceLT, Nat.reduceSub, Int.reduceEq, Int.reduceLT, Int.reduceLE, Int.reduceNeg, Int.reduceToNat]
          try simp [eInt, keyOf, eKOp, eKernel, rBool, rInt, rInts, eInts]
          try simp (disch := omega) only [IntWalk.i64_in, and_self]
        · simp only [go_sem, ↓reduceIte, Nat.reduceEqDiff, Nat.reduceAdd, Nat.reduceLeDiff, Nat.reduceMul, Nat.reducePow, Nat.reduceLT, Nat.reduceSub, Int.reduceEq, Int.reduceLT, Int.reduceLE, Int.reduceNeg, Int.reduceToNat]
          try simp [eInt, keyOf, eKOp, eKernel, rBool, rInt, rInts, eInts]
          try simp (disch := omega) only [IntWalk.i64_in, and_self]
      | true =>
        simp only [Option.getD_some, if_true] at hpre
        refine wpL_cond (t := false) (by rfl) (fun h => by cases h) (fun _ => ?_)
        simp only [go_sem, ↓reduceIte, Nat.reduceEqDiff, Nat.reduceAdd, Nat.reduceLeDiff, Nat.reduceMul, Nat.reducePow, Nat.reduceLT, Nat.reduceSub, Int.reduceEq, Int.reduceLT, Int.reduceLE, Int.reduceNeg, Int.reduceToNat]
        refine wpL_skip ?_
        refine wpL_to ⟨[(42, .c (.d (.sc (.bool (decide (k.inputs ≤ o.a)))))), (5, sint .i64 m), (4, .c (.row 18)), (3, sint .i64 k.ops.length), (2, .c (.ptr 2 0)), (1, .c (.ptr 1 0))], [(18, .arr 4 1 (eBools need) false), (2, .box [.d (eInt 0), .nil, .d (eInt 0), .d (eInt 0)]), (1, .box ((eKernel k).map .d))]⟩ ?_ ?_
        · refine wpL_draw Try.tyOk (by kernel_rfl) 9 (by decide) (by decide) ?_
          simp only [go_sem, ↓reduceIte, Nat.reduceEqDiff, Nat.reduceAdd, Nat.reduceLeDiff, Nat.reduceMul, Nat.reducePow, Nat.reduceLT, Nat.reduceSub, Int.reduceEq, Int.reduceLT, Int.reduceLE, Int.reduceNeg, Int.reduceToNat, eKOps_get ho, ge_iff_le]
          refine le_mk ?_ ?_ ?_
          · simp only [go_sem, ↓reduceIte, Nat.reduceEqDiff, Nat.reduceAdd, Nat.reduceLeDiff, Nat.reduceMul, Nat.reducePow, Nat.reduceLT, Nat.reduceSub, Int.reduceEq, Int.reduceLT, Int.reduceLE, Int.reduceNeg, Int.reduceToNat]
            try simp [eInt, keyOf, eKOp, eKernel, rBool, rInt, rInts, eInts]
            try simp (disch := omega) only [IntWalk.i64_in, and_self]
          · simp only [go_sem, ↓reduceIte, Nat.reduceEqDiff, Nat.reduceAdd, Nat.reduceLeDiff, Nat.reduceMul, Nat.reducePow, Nat.reduceLT, Nat.reduceSub, Int.reduceEq, Int.reduceLT, Int.reduceLE, Int.reduceNeg, Int.reduceToNat]
            try simp [eInt, keyOf, eKOp, eKernel, rBool, rInt, rInts, eInts]
            try simp (disch := omega) only [IntWalk.i64_in, and_self]
          · simp only [go_sem, ↓reduceIte, Nat.reduceEqDiff, Nat.reduceAdd, Nat.reduceLeDiff, Nat.reduceMul, Nat.reducePow, Nat.reduceLT, Nat.reduceSub, Int.reduceEq, Int.reduceLT, Int.reduceLE, Int.reduceNeg, Int.reduceToNat]
            try simp [eInt, keyOf, eKOp, eKernel, rBool, rInt, rInts, eInts]
            try simp (disch := omega) only [IntWalk.i64_in, and_self]
        refine wpL_to ⟨[(5, sint .i64 m), (4, .c (.row 18)), (3, sint .i64 k.ops.length), (2, .c (.ptr 2 0)), (1, .c (.ptr 1 0))], [(18, .arr 4 1 (eBools (needSet k.inputs o.a need)) false), (2, .box [.d (eInt 0), .nil, .d (eInt 0), .d (eInt 0)]), (1, .box ((eKernel k).map .d))]⟩ ?_ ?_
        · refine wpL_cond (t := decide (k.inputs ≤ o.a)) (by rfl) (fun hc => ?_) (fun hc => ?_)
          · have hc : k.inputs ≤ o.a := by simpa using hc
            have hwa : IntKind.i64.wrap (o.a - k.inputs) = o.a - k.inputs := IntWalk.i64_in _ (by omega)
            obtain ⟨q, hq⟩ := get_ex (l := need) (i := (o.a - k.inputs).toNat) (by omega)
            have hq1 : 0 ≤ o.a - k.inputs := by omega
            have hq2 : o.a - k.inputs < need.length := by omega
            simp only [go_sem, ↓reduceIte, Nat.reduceEqDiff, Nat.reduceAdd, Nat.reduceLeDiff, Nat.reduceMul, Nat.reducePow, Nat.reduceLT, Nat.reduceSub, Int.reduceEq, Int.reduceLT, Int.reduceLE, Int.reduceNeg, Int.reduceToNat]
            refine wpL_draw Try.tyOk (by kernel_rfl) 11 (by decide) (by decide) ?_
            simp only [go_sem, ↓reduceIte, Nat.reduceEqDiff, Nat.reduceAdd, Nat.reduceLeDiff, Nat.reduceMul, Nat.reducePow, Nat.reduceLT, Nat.reduceSub, Int.reduceEq, Int.reduceLT, Int.reduceLE, Int.reduceNeg, Int.reduceToNat, eKOps_get ho, hwa, eBools_get hq, eBools_length, hq1, hq2]
            refine le_mk ?_ ?_ ?_
            · simp only [go_sem, ↓reduceIte, Nat.reduceEqDiff, Nat.reduceAdd, Nat.reduceLeDiff, Nat.reduceMul, Nat.reducePow, Nat.reduceLT, Nat.reduceSub, Int.reduceEq, Int.reduceLT, Int.reduceLE, Int.reduceNeg, Int.reduceToNat]
              try simp [eInt, keyOf, eKOp, eKernel, rBool, rInt, rInts, eInts, needSet, hc, eBools, List.map_set]
              try simp (disch := omega) only [IntWalk.i64_in, and_self]
            · simp only [go_sem, ↓reduceIte, Nat.reduceEqDiff, Nat.reduceAdd, Nat.reduceLeDiff, Nat.reduceMul, Nat.reducePow, Nat.reduceLT, Nat.reduceSub, Int.reduceEq, Int.reduceLT, Int.reduceLE, Int.reduceNeg, Int.reduceToNat]
              try simp [eInt, keyOf, eKOp, eKernel, rBool, rInt, rInts, eInts, needSet, hc, eBools, List.map_set]
              try simp (disch := omega) only [IntWalk.i64_in, and_self]
            · simp only [go_sem, ↓reduceIte, Nat.reduceEqDiff, Nat.reduceAdd, Nat.reduceLeDiff, Nat.reduceMul, Nat.reducePow, Nat.reduceLT, Nat.reduceSub, Int.reduceEq, Int.reduceLT, Int.reduceLE, Int.reduceNeg, Int.reduceToNat]
              try simp [eInt, keyOf, eKOp, eKernel, rBool, rInt, rInts, eInts, needSet, hc, eBools, List.map_set]
              try simp (disch := omega) only [IntWalk.i64_in, and_self]
          · have hc : ¬ k.inputs ≤ o.a := by simpa using hc
            simp only [go_sem, ↓reduceIte, Nat.reduceEqDiff, Nat.reduceAdd, Nat.reduceLeDiff, Nat.reduceMul, Nat.reducePow, Nat.reduceLT, Nat.reduceSub, Int.reduceEq, Int.reduceLT, Int.reduceLE, Int.reduceNeg, Int.reduceToNat]
            refine wpL_skip ?_
            simp only [go_sem, ↓reduceIte, Nat.reduceEqDiff, Nat.reduceAdd, Nat.reduceLeDiff, Nat.reduceMul, Nat.reducePow, Nat.reduceLT, Nat.reduceSub, Int.reduceEq, Int.reduceLT, Int.reduceLE, Int.reduceNeg, Int.reduceToNat]
            refine le_mk ?_ ?_ ?_
            · simp only [go_sem, ↓reduceIte, Nat.reduceEqDiff, Nat.reduceAdd, Nat.reduceLeDiff, Nat.reduceMul, Nat.reducePow, Nat.reduceLT, Nat.reduceSub, Int.reduceEq, Int.reduceLT, Int.reduceLE, Int.reduceNeg, Int.reduceToNat]
              try simp [eInt, keyOf, eKOp, eKernel, rBool, rInt, rInts, eInts, needSet, hc]
              try simp (disch := omega) only [IntWalk.i64_in, and_self]
            · simp only [go_sem, ↓reduceIte, Nat.reduceEqDiff, Nat.reduceAdd, Nat.reduceLeDiff, Nat.reduceMul, Nat.reducePow, Nat.reduceLT, Nat.reduceSub, Int.reduceEq, Int.reduceLT, Int.reduceLE, Int.reduceNeg, Int.reduceToNat]
              try simp [eInt, keyOf, eKOp, eKernel, rBool, rInt, rInts, eInts, needSet, hc]
              try simp (disch := omega) only [IntWalk.i64_in, and_self]
            · simp only [go_sem, ↓reduceIte, Nat.reduceEqDiff, Nat.reduceAdd, Nat.reduceLeDiff, Nat.reduceMul, Nat.reducePow, Nat.reduceLT, Nat.reduceSub, Int.reduceEq, Int.reduceLT, Int.reduceLE, Int.reduceNeg, Int.reduceToNat]
              try simp [eInt, keyOf, eKOp, eKernel, rBool, rInt, rInts, eInts, needSet, hc]
              try simp (disch := omega) only [IntWalk.i64_in, and_self]
        have hneedA : (needSet k.inputs o.a need).length = k.ops.length := by simp [hneed]
        generalize hA : needSet k.inputs o.a need = needA at *
        have hpre2 : needS k.inputs k.ops = needFrom k.inputs k.ops m (needSet k.inputs o.b needA) := by rw [hpre, needOp, hA]
        refine wpL_to ⟨[(62, .c (.d (.sc (.bool (decide (k.inputs ≤ o.b)))))), (5, sint .i64 m), (4, .c (.row 18)), (3, sint .i64 k.ops.length), (2, .c (.ptr 2 0)), (1, .c (.ptr 1 0))], [(18, .arr 4 1 (eBools needA) false), (2, .box [.d (eInt 0), .nil, .d (eInt 0), .d (eInt 0)]), (1, .box ((eKernel k).map .d))]⟩ ?_ ?_
        · refine wpL_draw Try.tyOk (by kernel_rfl) 9 (by decide) (by decide) ?_
          simp only [go_sem, ↓reduceIte, Nat.reduceEqDiff, Nat.reduceAdd, Nat.reduceLeDiff, Nat.reduceMul, Nat.reducePow, Nat.reduceLT, Nat.reduceSub, Int.reduceEq, Int.reduceLT, Int.reduceLE, Int.reduceNeg, Int.reduceToNat, eKOps_get ho, ge_iff_le]
          refine le_mk ?_ ?_ ?_
          · simp only [go_sem, ↓reduceIte, Nat.reduceEqDiff, Nat.reduceAdd, Nat.reduceLeDiff, Nat.reduceMul, Nat.reducePow, Nat.reduceLT, Nat.reduceSub, Int.reduceEq, Int.reduceLT, Int.reduceLE, Int.reduceNeg, Int.reduceToNat]
            try simp [eInt, keyOf, eKOp, eKernel, rBool, rInt, rInts, eInts]
            try simp (disch := omega) only [IntWalk.i64_in, and_self]
          · simp only [go_sem, ↓reduceIte, Nat.reduceEqDiff, Nat.reduceAdd, Nat.reduceLeDiff, Nat.reduceMul, Nat.reducePow, Nat.reduceLT, Nat.reduceSub, Int.reduceEq, Int.reduceLT, Int.reduceLE, Int.reduceNeg, Int.reduceToNat]
            try simp [eInt, keyOf, eKOp, eKernel, rBool, rInt, rInts, eInts]
            try simp (disch := omega) only [IntWalk.i64_in, and_self]
          · simp only [go_sem, ↓reduceIte, Nat.reduceEqDiff, Nat.reduceAdd, Nat.reduceLeDiff, Nat.reduceMul, Nat.reducePow, Nat.reduceLT, Nat.reduceSub, Int.reduceEq, Int.reduceLT, Int.reduceLE, Int.reduceNeg, Int.reduceToNat]
            try simp [eInt, keyOf, eKOp, eKernel, rBool, rInt, rInts, eInts]
            try simp (disch := omega) only [IntWalk.i64_in, and_self]
        refine wpL_cond (t := decide (k.inputs ≤ o.b)) (by rfl) (fun hc => ?_) (fun hc => ?_)
        · have hc : k.inputs ≤ o.b := by simpa using hc
          have hwa : IntKind.i64.wrap (o.b - k.inputs) = o.b - k.inputs := IntWalk.i64_in _ (by omega)
          obtain ⟨q, hq⟩ := get_ex (l := needA) (i := (o.b - k.inputs).toNat) (by omega)
          have hq1 : 0 ≤ o.b - k.inputs := by omega
          have hq2 : o.b - k.inputs < needA.length := by omega
          simp only [go_sem, ↓reduceIte, Nat.reduceEqDiff, Nat.reduceAdd, Nat.reduceLeDiff, Nat.reduceMul, Nat.reducePow, Nat.reduceLT, Nat.reduceSub, Int.reduceEq, Int.reduceLT, Int.reduceLE, Int.reduceNeg, Int.reduceToNat]
          refine wpL_draw Try.tyOk (by kernel_rfl) 11 (by decide) (by decide) ?_
          simp only [go_sem, ↓reduceIte, Nat.reduceEqDiff, Nat.reduceAdd, Nat.reduceLeDiff, Nat.reduceMul, Nat.reducePow, Nat.reduceLT, Nat.reduceSub, Int.reduceEq, Int.reduceLT, Int.reduceLE, Int.reduceNeg, Int.reduceToNat, eKOps_get ho, hwa, eBools_get hq, eBools_length, hq1, hq2]
          rw [← hB1]
          try simp only [go_sem, ↓reduceIte, Nat.reduceEqDiff, Nat.reduceAdd, Nat.reduceLeDiff, Nat.reduceMul, Nat.reducePow, Nat.reduceLT, Nat.reduceSub, Int.reduceEq, Int.reduceLT, Int.reduceLE, Int.reduceNeg, Int.reduceToNat]
          refine wpL_region Try.tyOk (by decide) ?_
          simp only [go_sem, ↓reduceIte, Nat.reduceEqDiff, Nat.reduceAdd, Nat.reduceLeDiff, Nat.reduceMul, Nat.reducePow, Nat.reduceLT, Nat.reduceSub, Int.reduceEq, Int.reduceLT, Int.reduceLE, Int.reduceNeg, Int.reduceToNat, hc2]
          refine ⟨m, _, by omega, ⟨by omega, needSet k.inputs o.b needA, by simp [hneedA], hpre2, rfl⟩, ?_⟩
          refine le_mk ?_ ?_ ?_
          · simp only [go_sem, ↓reduceIte, Nat.reduceEqDiff, Nat.reduceAdd, Nat.reduceLeDiff, Nat.reduceMul, Nat.reducePow, Nat.reduceLT, Nat.reduceSub, Int.reduceEq, Int.reduceLT, Int.reduceLE, Int.reduceNeg, Int.reduceToNat]
            try simp [eInt, keyOf, eKOp, eKernel, rBool, rInt, rInts, eInts, needSet, hc, eBools, List.map_set]
            try simp (disch := omega) only [IntWalk.i64_in, and_self]
          · simp only [go_sem, ↓reduceIte, Nat.reduceEqDiff, Nat.reduceAdd, Nat.reduceLeDiff, Nat.reduceMul, Nat.reducePow, Nat.reduceLT, Nat.reduceSub, Int.reduceEq, Int.reduceLT, Int.reduceLE, Int.reduceNeg, Int.reduceToNat]
            try simp [eInt, keyOf, eKOp, eKernel, rBool, rInt, rInts, eInts, needSet, hc, eBools, List.map_set]
            try simp (disch := omega) only [IntWalk.i64_in, and_self]
          · simp only [go_sem, ↓reduceIte, Nat.reduceEqDiff, Nat.reduceAdd, Nat.reduceLeDiff, Nat.reduceMul, Nat.reducePow, Nat.reduceLT, Nat.reduceSub, Int.reduceEq, Int.reduceLT, Int.reduceLE, Int.reduceNeg, Int.reduceToNat]
            try simp [eInt, keyOf, eKOp, eKernel, rBool, rInt, rInts, eInts, needSet, hc, eBools, List.map_set]
            try simp (disch := omega) only [IntWalk.i64_in, and_self]
        · have hc : ¬ k.inputs ≤ o.b := by simpa using hc
          simp only [go_sem, ↓reduceIte, Nat.reduceEqDiff, Nat.reduceAdd, Nat.reduceLeDiff, Nat.reduceMul, Nat.reducePow, Nat.reduceLT, Nat.reduceSub, Int.reduceEq, Int.reduceLT, Int.reduceLE, Int.reduceNeg, Int.reduceToNat]
          refine wpL_skip ?_
          simp only [go_sem, ↓reduceIte, Nat.reduceEqDiff, Nat.reduceAdd, Nat.reduceLeDiff, Nat.reduceMul, Nat.reducePow, Nat.reduceLT, Nat.reduceSub, Int.reduceEq, Int.reduceLT, Int.reduceLE, Int.reduceNeg, Int.reduceToNat]
          rw [← hB1]
          try simp only [go_sem, ↓reduceIte, Nat.reduceEqDiff, Nat.reduceAdd, Nat.reduceLeDiff, Nat.reduceMul, Nat.reducePow, Nat.reduceLT, Nat.reduceSub, Int.reduceEq, Int.reduceLT, Int.reduceLE, Int.reduceNeg, Int.reduceToNat]
          refine wpL_region Try.tyOk (by decide) ?_
          simp only [go_sem, ↓reduceIte, Nat.reduceEqDiff, Nat.reduceAdd, Nat.reduceLeDiff, Nat.reduceMul, Nat.reducePow, Nat.reduceLT, Nat.reduceSub, Int.reduceEq, Int.reduceLT, Int.reduceLE, Int.reduceNeg, Int.reduceToNat, hc2]
          refine ⟨m, _, by omega, ⟨by omega, needSet k.inputs o.b needA, by simp [hneedA], hpre2, rfl⟩, ?_⟩
          refine le_mk ?_ ?_ ?_
          · simp only [go_sem, ↓reduceIte, Nat.reduceEqDiff, Nat.reduceAdd, Nat.reduceLeDiff, Nat.reduceMul, Nat.reducePow, Nat.reduceLT, Nat.reduceSub, Int.reduceEq, Int.reduceLT, Int.reduceLE, Int.reduceNeg, Int.reduceToNat]
            try simp [eInt, keyOf, eKOp, eKernel, rBool, rInt, rInts, eInts, needSet, hc]
            try simp (disch := omega) only [IntWalk.i64_in, and_self]
          · simp only [go_sem, ↓reduceIte, Nat.reduceEqDiff, Nat.reduceAdd, Nat.reduceLeDiff, Nat.reduceMul, Nat.reducePow, Nat.reduceLT, Nat.reduceSub, Int.reduceEq, Int.reduceLT, Int.reduceLE, Int.reduceNeg, Int.reduceToNat]
            try simp [eInt, keyOf, eKOp, eKernel, rBool, rInt, rInts, eInts, needSet, hc]
            try simp (disch := omega) only [IntWalk.i64_in, and_self]
          · simp only [go_sem, ↓reduceIte, Nat.reduceEqDiff, Nat.reduceAdd, Nat.reduceLeDiff, Nat.reduceMul, Nat.reducePow, Nat.reduceLT, Nat.reduceSub, Int.reduceEq, Int.reduceLT, Int.reduceLE, Int.reduceNeg, Int.reduceToNat]
            try simp [eInt, keyOf, eKOp, eKernel, rBool, rInt, rInts, eInts, needSet, hc]
            try simp (disch := omega) only [IntWalk.i64_in, and_self]
end Go.Proofs.YtgjhamfboonloaaR
