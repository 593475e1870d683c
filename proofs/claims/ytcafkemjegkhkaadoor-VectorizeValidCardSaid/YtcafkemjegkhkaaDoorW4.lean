/-
  The walks of layer 51, continued: last uses.
-/
import Derived.Test.YtcafkemjegkhkaaDoorW3
set_option linter.unusedSimpArgs false
set_option linter.unusedVariables false
set_option maxRecDepth 100000
set_option maxHeartbeats 4000000
namespace Go.Proofs.YtcafkemjegkhkaaDoor
open Go.Abs Go

theorem get_int {l : List Int} {v : Int} (h0 : 0 ≤ v) (h1 : v < l.length) : l[v.toNat]? = some (l[v.toNat]?.getD 0) := by
  obtain ⟨x, hx⟩ := get_ex (l := l) (i := v.toNat) (by omega)
  rw [hx]; rfl

theorem right26 (k : Kernel) : Gives Tryd.prog 44 [.agg (eKernel k)] (rBool (decide (right k = 0))) := by
  refine Gives.intro Tryd.tyOk Tryd.func44 (by kernel_rfl) rfl (by simp [Tryd.ntmps44]) ?_
  simp only [go_sem, ↓reduceIte, Nat.reduceEqDiff, Nat.reduceAdd, Nat.reduceLeDiff, Nat.reduceMul, Nat.reducePow, Nat.reduceLT, Nat.reduceSub, Int.reduceEq, Int.reduceLT, Int.reduceLE, Int.reduceNeg, Int.reduceToNat, Int.cast_ofNat_Int]
  simp only [Tryd.ntmps44, Tryd.results44, eKernel, rBool, rInt, rInts, List.map_cons, List.map_nil]
  generalize hBQ : retQ _ _ _ = BQ
  iterate 2 (refine wpL_region Tryd.tyOk (by decide) ?_; simp only [go_sem, ↓reduceIte, Nat.reduceEqDiff, Nat.reduceAdd, Nat.reduceLeDiff, Nat.reduceMul, Nat.reducePow, Nat.reduceLT, Nat.reduceSub, Int.reduceEq, Int.reduceLT, Int.reduceLE, Int.reduceNeg, Int.reduceToNat, Int.cast_ofNat_Int])
  refine ⟨_, right20 k, ?_⟩
  simp only [go_sem, ↓reduceIte, Nat.reduceEqDiff, Nat.reduceAdd, Nat.reduceLeDiff, Nat.reduceMul, Nat.reducePow, Nat.reduceLT, Nat.reduceSub, Int.reduceEq, Int.reduceLT, Int.reduceLE, Int.reduceNeg, Int.reduceToNat, Int.cast_ofNat_Int]
  refine wpL_ret ?_
  try simp only [go_sem, ↓reduceIte, Nat.reduceEqDiff, Nat.reduceAdd, Nat.reduceLeDiff, Nat.reduceMul, Nat.reducePow, Nat.reduceLT, Nat.reduceSub, Int.reduceEq, Int.reduceLT, Int.reduceLE, Int.reduceNeg, Int.reduceToNat, Int.cast_ofNat_Int]
  rw [← hBQ]
  try simp only [go_sem, ↓reduceIte, Nat.reduceEqDiff, Nat.reduceAdd, Nat.reduceLeDiff, Nat.reduceMul, Nat.reducePow, Nat.reduceLT, Nat.reduceSub, Int.reduceEq, Int.reduceLT, Int.reduceLE, Int.reduceNeg, Int.reduceToNat, Int.cast_ofNat_Int]
  try simp

theorem right_zero {k : Kernel} (h : right k = 0) : (0 ≤ k.inputs ∧ k.inputs ≤ 16 ∧ 1 ≤ k.ops.length ∧ k.ops.length ≤ 64) ∧ ∀ (i : Nat) (o : KOp), k.ops[i]? = some o → badP o = false ∧ badI (k.inputs + i) o = false := by
  unfold right at h
  cases hb : badK k with
  | true => rw [hb, if_pos rfl] at h; cases h
  | false =>
    rw [hb] at h
    simp only [Bool.false_eq_true, if_false] at h
    refine ⟨by simp [badK] at hb; omega, ?_⟩
    have h0 : rightFrom k.inputs 0 k.ops = 0 := by
      by_cases h1 : rightFrom k.inputs 0 k.ops = 0
      · exact h1
      · rw [if_pos h1] at h; exact absurd h h1
    have key : ∀ (l : List KOp) (j : Nat), rightFrom k.inputs j l = 0 → ∀ (i : Nat) (o : KOp), l[i]? = some o → badP o = false ∧ badI (k.inputs + (j + i : Nat)) o = false := by
      intro l
      induction l with
      | nil => intro j _ i o ho; simp at ho
      | cons x l ih =>
        intro j hj i o ho
        unfold rightFrom at hj
        cases hp : badP x with
        | true => rw [hp, if_pos rfl] at hj; cases hj
        | false =>
          rw [hp] at hj
          simp only [Bool.false_eq_true, if_false] at hj
          cases hi : badI (k.inputs + j) x with
          | true => rw [hi, if_pos rfl] at hj; cases hj
          | false =>
            rw [hi] at hj
            simp only [Bool.false_eq_true, if_false] at hj
            cases i with
            | zero => simp at ho; subst ho; exact ⟨hp, hi⟩
            | succ i =>
              have := ih (j + 1) hj i o (by simpa using ho)
              rw [show j + (i + 1) = j + 1 + i by omega]
              exact this
    intro i o ho
    have := key k.ops 0 h0 i o ho
    rwa [Nat.zero_add] at this

theorem badI_false {n : Int} {o : KOp} (h : badI n o = false) : -1 ≤ o.a ∧ o.a < n ∧ 0 ≤ o.b ∧ o.b < n := by
  simp [badI] at h
  omega

def usesB (o : KOp) (v : Int) : Bool := decide (o.a = v) || decide (o.b = v)
def lastFrom (v : Int) : Nat → List KOp → Int → Int
  | j, o :: l, acc => lastFrom v (j + 1) l (if usesB o v then (j : Int) - 1 else acc)
  | _, [], acc => acc
def lastS (k : Kernel) (i : Nat) : Int := lastFrom (k.inputs + i) (i + 1) (k.ops.drop (i + 1)) i

theorem last21 (k : Kernel) (i : Nat) (hn : 0 ≤ k.inputs ∧ k.inputs ≤ 16) (hl : k.ops.length ≤ 100) (hi : i ≤ 100) : Gives Tryd.prog 45 [.agg (eKernel k), .c (eInt i)] (rInt (lastS k i)) := by
  have hw1 : IntKind.i64.wrap ((i : Int) + 1) = ((i + 1 : Nat) : Int) := by rw [IntWalk.i64_in _ (by omega)]; rfl
  have hw2 : IntKind.i64.wrap (k.inputs + i) = k.inputs + i := IntWalk.i64_in _ (by omega)
  refine Gives.intro Tryd.tyOk Tryd.func45 (by kernel_rfl) rfl (by simp [Tryd.ntmps45]) ?_
  simp only [go_sem, ↓reduceIte, Nat.reduceEqDiff, Nat.reduceAdd, Nat.reduceLeDiff, Nat.reduceMul, Nat.reducePow, Nat.reduceLT, Nat.reduceSub, Int.reduceEq, Int.reduceLT, Int.reduceLE, Int.reduceNeg, Int.reduceToNat, Int.cast_ofNat_Int]
  simp only [Tryd.ntmps45, Tryd.results45, eKernel, rBool, rInt, rInts, List.map_cons, List.map_nil]
  generalize hBQ : retQ _ _ _ = BQ
  refine wpL_region Tryd.tyOk (by decide) ?_
  simp only [go_sem, ↓reduceIte, Nat.reduceEqDiff, Nat.reduceAdd, Nat.reduceLeDiff, Nat.reduceMul, Nat.reducePow, Nat.reduceLT, Nat.reduceSub, Int.reduceEq, Int.reduceLT, Int.reduceLE, Int.reduceNeg, Int.reduceToNat, Int.cast_ofNat_Int]
  refine wpL_region Tryd.tyOk (by decide) ?_
  simp only [go_sem, ↓reduceIte, Nat.reduceEqDiff, Nat.reduceAdd, Nat.reduceLeDiff, Nat.reduceMul, Nat.reducePow, Nat.reduceLT, Nat.reduceSub, Int.reduceEq, Int.reduceLT, Int.reduceLE, Int.reduceNeg, Int.reduceToNat, Int.cast_ofNat_Int]
  refine wpL_region Tryd.tyOk (by decide) ?_
  simp only [go_sem, ↓reduceIte, Nat.reduceEqDiff, Nat.reduceAdd, Nat.reduceLeDiff, Nat.reduceMul, Nat.reducePow, Nat.reduceLT, Nat.reduceSub, Int.reduceEq, Int.reduceLT, Int.reduceLE, Int.reduceNeg, Int.reduceToNat, Int.cast_ofNat_Int, hw1]
  refine wpL_block ?_
  generalize hB0 : blockQ _ _ _ = B0
  simp only [go_sem, ↓reduceIte, Nat.reduceEqDiff, Nat.reduceAdd, Nat.reduceLeDiff, Nat.reduceMul, Nat.reducePow, Nat.reduceLT, Nat.reduceSub, Int.reduceEq, Int.reduceLT, Int.reduceLE, Int.reduceNeg, Int.reduceToNat, Int.cast_ofNat_Int]
  refine wpL_loop (fun n s => ∃ j : Nat, j ≤ 101 ∧ n = 101 - j ∧ ∃ acc : Int, lastS k i = lastFrom (k.inputs + i) j (k.ops.drop j) acc ∧ s = ⟨[(6, sint .i64 j), (5, sint .i64 acc), (2, .c (.ptr 2 0)), (1, sint .i64 i)], [(2, .box 25 ((eKernel k).map .d))]⟩) ?_ ?_
  · refine ⟨_, _, ⟨i + 1, by omega, rfl, i, rfl, rfl⟩, ?_⟩
    refine le_mk ?_ ?_ ?_ <;> (simp only [go_sem, ↓reduceIte, Nat.reduceEqDiff, Nat.reduceAdd, Nat.reduceLeDiff, Nat.reduceMul, Nat.reducePow, Nat.reduceLT, Nat.reduceSub, Int.reduceEq, Int.reduceLT, Int.reduceLE, Int.reduceNeg, Int.reduceToNat, Int.cast_ofNat_Int]; try simp [eKernel, rBool, rInt, rInts, eInts]; try simp (disch := omega) only [IntWalk.i64_in, and_self])
  · rintro n s ⟨j, hj, rfl, acc, hpre, rfl⟩
    simp only [go_sem, ↓reduceIte, Nat.reduceEqDiff, Nat.reduceAdd, Nat.reduceLeDiff, Nat.reduceMul, Nat.reducePow, Nat.reduceLT, Nat.reduceSub, Int.reduceEq, Int.reduceLT, Int.reduceLE, Int.reduceNeg, Int.reduceToNat, Int.cast_ofNat_Int]
    refine wpL_region Tryd.tyOk (by decide) ?_
    simp only [go_sem, ↓reduceIte, Nat.reduceEqDiff, Nat.reduceAdd, Nat.reduceLeDiff, Nat.reduceMul, Nat.reducePow, Nat.reduceLT, Nat.reduceSub, Int.reduceEq, Int.reduceLT, Int.reduceLE, Int.reduceNeg, Int.reduceToNat, Int.cast_ofNat_Int, List.length_map]
    refine wpL_cond (t := decide ((j : Int) < k.ops.length)) (by simp only [go_sem, ↓reduceIte, Nat.reduceEqDiff, Nat.reduceAdd, Nat.reduceLeDiff, Nat.reduceMul, Nat.reducePow, Nat.reduceLT, Nat.reduceSub, Int.reduceEq, Int.reduceLT, Int.reduceLE, Int.reduceNeg, Int.reduceToNat, Int.cast_ofNat_Int]) (fun hlt => ?_) (fun hge => ?_)
    · have hlt := lt_of hlt
      obtain ⟨o, ho⟩ := get_ex (l := k.ops) (i := j) (by omega)
      rw [drop_get ho, lastFrom] at hpre
      have hw3 : IntKind.i64.wrap ((j : Int) - 1) = (j : Int) - 1 := IntWalk.i64_in _ (by omega)
      simp only [go_sem, ↓reduceIte, Nat.reduceEqDiff, Nat.reduceAdd, Nat.reduceLeDiff, Nat.reduceMul, Nat.reducePow, Nat.reduceLT, Nat.reduceSub, Int.reduceEq, Int.reduceLT, Int.reduceLE, Int.reduceNeg, Int.reduceToNat, Int.cast_ofNat_Int]
      refine wpL_skip ?_
      refine wpL_block ?_
      generalize hB1 : blockQ _ _ _ = B1
      simp only [go_sem, ↓reduceIte, Nat.reduceEqDiff, Nat.reduceAdd, Nat.reduceLeDiff, Nat.reduceMul, Nat.reducePow, Nat.reduceLT, Nat.reduceSub, Int.reduceEq, Int.reduceLT, Int.reduceLE, Int.reduceNeg, Int.reduceToNat, Int.cast_ofNat_Int]
      refine wpL_draw Tryd.tyOk (by kernel_rfl) 10 (by decide) (by decide) ?_
      simp only [go_sem, ↓reduceIte, Nat.reduceEqDiff, Nat.reduceAdd, Nat.reduceLeDiff, Nat.reduceMul, Nat.reducePow, Nat.reduceLT, Nat.reduceSub, Int.reduceEq, Int.reduceLT, Int.reduceLE, Int.reduceNeg, Int.reduceToNat, Int.cast_ofNat_Int, eKOps_get ho, hw2]
      refine ⟨_, uses_pure o _, ?_⟩
      simp only [go_sem, ↓reduceIte, Nat.reduceEqDiff, Nat.reduceAdd, Nat.reduceLeDiff, Nat.reduceMul, Nat.reducePow, Nat.reduceLT, Nat.reduceSub, Int.reduceEq, Int.reduceLT, Int.reduceLE, Int.reduceNeg, Int.reduceToNat, Int.cast_ofNat_Int]
      refine wpL_cond (t := usesB o (k.inputs + i)) (by rfl) (fun hb => ?_) (fun hb => ?_)
      · simp only [go_sem, ↓reduceIte, Nat.reduceEqDiff, Nat.reduceAdd, Nat.reduceLeDiff, Nat.reduceMul, Nat.reducePow, Nat.reduceLT, Nat.reduceSub, Int.reduceEq, Int.reduceLT, Int.reduceLE, Int.reduceNeg, Int.reduceToNat, Int.cast_ofNat_Int]
        refine wpL_region Tryd.tyOk (by decide) ?_
        simp only [go_sem, ↓reduceIte, Nat.reduceEqDiff, Nat.reduceAdd, Nat.reduceLeDiff, Nat.reduceMul, Nat.reducePow, Nat.reduceLT, Nat.reduceSub, Int.reduceEq, Int.reduceLT, Int.reduceLE, Int.reduceNeg, Int.reduceToNat, Int.cast_ofNat_Int, hw3]
        rw [← hB1]
        try simp only [go_sem, ↓reduceIte, Nat.reduceEqDiff, Nat.reduceAdd, Nat.reduceLeDiff, Nat.reduceMul, Nat.reducePow, Nat.reduceLT, Nat.reduceSub, Int.reduceEq, Int.reduceLT, Int.reduceLE, Int.reduceNeg, Int.reduceToNat, Int.cast_ofNat_Int]
        refine wpL_region Tryd.tyOk (by decide) ?_
        simp only [go_sem, ↓reduceIte, Nat.reduceEqDiff, Nat.reduceAdd, Nat.reduceLeDiff, Nat.reduceMul, Nat.reducePow, Nat.reduceLT, Nat.reduceSub, Int.reduceEq, Int.reduceLT, Int.reduceLE, Int.reduceNeg, Int.reduceToNat, Int.cast_ofNat_Int]
        refine ⟨_, _, ?_, ⟨j + 1, by omega, rfl, _, hpre, rfl⟩, ?_⟩
        · omega
        · refine le_mk ?_ ?_ ?_ <;> (simp only [go_sem, ↓reduceIte, Nat.reduceEqDiff, Nat.reduceAdd, Nat.reduceLeDiff, Nat.reduceMul, Nat.reducePow, Nat.reduceLT, Nat.reduceSub, Int.reduceEq, Int.reduceLT, Int.reduceLE, Int.reduceNeg, Int.reduceToNat, Int.cast_ofNat_Int]; try simp [eKernel, rBool, rInt, rInts, eInts, hb]; try simp (disch := omega) only [IntWalk.i64_in, and_self])
      · simp only [go_sem, ↓reduceIte, Nat.reduceEqDiff, Nat.reduceAdd, Nat.reduceLeDiff, Nat.reduceMul, Nat.reducePow, Nat.reduceLT, Nat.reduceSub, Int.reduceEq, Int.reduceLT, Int.reduceLE, Int.reduceNeg, Int.reduceToNat, Int.cast_ofNat_Int]
        refine wpL_skip ?_
        simp only [go_sem, ↓reduceIte, Nat.reduceEqDiff, Nat.reduceAdd, Nat.reduceLeDiff, Nat.reduceMul, Nat.reducePow, Nat.reduceLT, Nat.reduceSub, Int.reduceEq, Int.reduceLT, Int.reduceLE, Int.reduceNeg, Int.reduceToNat, Int.cast_ofNat_Int]
        rw [← hB1]
        try simp only [go_sem, ↓reduceIte, Nat.reduceEqDiff, Nat.reduceAdd, Nat.reduceLeDiff, Nat.reduceMul, Nat.reducePow, Nat.reduceLT, Nat.reduceSub, Int.reduceEq, Int.reduceLT, Int.reduceLE, Int.reduceNeg, Int.reduceToNat, Int.cast_ofNat_Int]
        refine wpL_region Tryd.tyOk (by decide) ?_
        simp only [go_sem, ↓reduceIte, Nat.reduceEqDiff, Nat.reduceAdd, Nat.reduceLeDiff, Nat.reduceMul, Nat.reducePow, Nat.reduceLT, Nat.reduceSub, Int.reduceEq, Int.reduceLT, Int.reduceLE, Int.reduceNeg, Int.reduceToNat, Int.cast_ofNat_Int]
        refine ⟨_, _, ?_, ⟨j + 1, by omega, rfl, _, hpre, rfl⟩, ?_⟩
        · omega
        · refine le_mk ?_ ?_ ?_ <;> (simp only [go_sem, ↓reduceIte, Nat.reduceEqDiff, Nat.reduceAdd, Nat.reduceLeDiff, Nat.reduceMul, Nat.reducePow, Nat.reduceLT, Nat.reduceSub, Int.reduceEq, Int.reduceLT, Int.reduceLE, Int.reduceNeg, Int.reduceToNat, Int.cast_ofNat_Int]; try simp [eKernel, rBool, rInt, rInts, eInts, hb]; try simp (disch := omega) only [IntWalk.i64_in, and_self])
    · have hge := ge_of hge
      refine wpL_exit ?_
      simp only [go_sem, ↓reduceIte, Nat.reduceEqDiff, Nat.reduceAdd, Nat.reduceLeDiff, Nat.reduceMul, Nat.reducePow, Nat.reduceLT, Nat.reduceSub, Int.reduceEq, Int.reduceLT, Int.reduceLE, Int.reduceNeg, Int.reduceToNat, Int.cast_ofNat_Int]
      rw [← hB0]
      try simp only [go_sem, ↓reduceIte, Nat.reduceEqDiff, Nat.reduceAdd, Nat.reduceLeDiff, Nat.reduceMul, Nat.reducePow, Nat.reduceLT, Nat.reduceSub, Int.reduceEq, Int.reduceLT, Int.reduceLE, Int.reduceNeg, Int.reduceToNat, Int.cast_ofNat_Int]
      refine wpL_region Tryd.tyOk (by decide) ?_
      simp only [go_sem, ↓reduceIte, Nat.reduceEqDiff, Nat.reduceAdd, Nat.reduceLeDiff, Nat.reduceMul, Nat.reducePow, Nat.reduceLT, Nat.reduceSub, Int.reduceEq, Int.reduceLT, Int.reduceLE, Int.reduceNeg, Int.reduceToNat, Int.cast_ofNat_Int]
      refine wpL_ret ?_
      try simp only [go_sem, ↓reduceIte, Nat.reduceEqDiff, Nat.reduceAdd, Nat.reduceLeDiff, Nat.reduceMul, Nat.reducePow, Nat.reduceLT, Nat.reduceSub, Int.reduceEq, Int.reduceLT, Int.reduceLE, Int.reduceNeg, Int.reduceToNat, Int.cast_ofNat_Int]
      rw [← hBQ]
      try simp only [go_sem, ↓reduceIte, Nat.reduceEqDiff, Nat.reduceAdd, Nat.reduceLeDiff, Nat.reduceMul, Nat.reducePow, Nat.reduceLT, Nat.reduceSub, Int.reduceEq, Int.reduceLT, Int.reduceLE, Int.reduceNeg, Int.reduceToNat, Int.cast_ofNat_Int]
      rw [hpre, List.drop_of_length_le (by omega)]; rfl

def usedIn (k : Kernel) (i : Nat) (v : Int) : Bool := (k.ops.drop i).any fun o => usesB o v
def lastUseFrom (v : Int) : Nat → List KOp → Int → Int
  | j, o :: l, acc => lastUseFrom v (j + 1) l (if usesB o v then (j : Int) else acc)
  | _, [], acc => acc
def lastUseS (k : Kernel) (v : Int) : Int := lastUseFrom v 0 k.ops (-1)

theorem lastUseFrom_ge (v : Int) : ∀ (l : List KOp) (j : Nat) (acc : Int), acc ≤ lastUseFrom v j l acc ∨ (j : Int) ≤ lastUseFrom v j l acc
  | [], j, acc => .inl (Int.le_refl _)
  | o :: l, j, acc => by
    unfold lastUseFrom
    rcases lastUseFrom_ge v l (j + 1) (if usesB o v then (j : Int) else acc) with h | h
    · split at h
      · rename_i hu; rw [if_pos hu]; exact .inr h
      · rename_i hu; rw [if_neg hu]; exact .inl h
    · exact .inr (by omega)

theorem lastUseFrom_iff (v : Int) (i : Nat) : ∀ (l : List KOp) (j : Nat) (acc : Int), acc < j → ((i : Int) ≤ lastUseFrom v j l acc ↔ (l.drop (i - j)).any (fun o => usesB o v) = true ∨ (i : Int) ≤ acc)
  | [], j, acc, _ => by simp [lastUseFrom]
  | o :: l, j, acc, hacc => by
    unfold lastUseFrom
    rw [lastUseFrom_iff v i l (j + 1) (if usesB o v then (j : Int) else acc) (by split <;> omega)]
    by_cases hij : i ≤ j
    · rw [show i - j = 0 by omega, show i - (j + 1) = 0 by omega, List.drop_zero, List.drop_zero, List.any_cons]
      cases hu : usesB o v
      · simp
      · simp; omega
    · rw [show i - j = (i - (j + 1)) + 1 by omega, List.drop_succ_cons]
      constructor
      · rintro (h | h)
        · exact .inl h
        · split at h
          · omega
          · exact .inr h
      · rintro (h | h)
        · exact .inl h
        · exact absurd h (by omega)

theorem lastUse_iff (k : Kernel) (v : Int) (i : Nat) : decide (lastUseS k v ≥ i) = usedIn k i v := by
  have := lastUseFrom_iff v i k.ops 0 (-1) (by omega)
  rw [Nat.sub_zero] at this
  rw [Bool.eq_iff_iff, decide_eq_true_iff]
  unfold lastUseS usedIn
  constructor
  · intro h
    rcases this.1 h with h1 | h1
    · exact h1
    · omega
  · intro h
    exact this.2 (.inl h)

/-- What temps.lastUse gives. -/
def LastUse25 : Prop := ∀ (k : Kernel) (v : Int), k.ops.length ≤ 100 → Gives Tryd.prog 43 [.agg (eKernel k), .c (eInt v)] (rInt (lastUseS k v))


end Go.Proofs.YtcafkemjegkhkaaDoor
