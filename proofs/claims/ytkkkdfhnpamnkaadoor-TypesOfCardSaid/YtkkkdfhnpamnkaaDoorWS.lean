/-
  Numbers as text.
-/
import Derived.Test.YtkkkdfhnpamnkaaDoorW18
import Derived.Test.YtkkkdfhnpamnkaaDoorItoa
set_option linter.unusedSimpArgs false
set_option linter.unusedVariables false
set_option maxRecDepth 100000
set_option maxHeartbeats 4000000
namespace Go.Proofs.YtkkkdfhnpamnkaaDoor
open Go.Abs Go

theorem tdiv_le (a b : Int) : (a.tdiv b).natAbs ≤ a.natAbs := by
  rw [Int.natAbs_tdiv]; exact Nat.div_le_self _ _
theorem tmod_lt (a : Int) {b : Int} (h : b ≠ 0) : (a.tmod b).natAbs < b.natAbs := by
  rw [Int.natAbs_tmod]; exact Nat.mod_lt _ (by omega)
theorem abs30 (n : Int) (h0 : -9223372036854775807 ≤ n) (h1 : n ≤ 9223372036854775807) : Gives Tryd.prog 66 [.c (eInt n)] (rInt n.natAbs) := by
  refine Gives.intro Tryd.tyOk Tryd.func66 (by kernel_rfl) rfl (by simp [Tryd.ntmps66]) ?_
  simp only [go_sem, ↓reduceIte, Nat.reduceEqDiff, Nat.reduceAdd, Nat.reduceLeDiff, Nat.reduceLT, Int.reduceEq, Int.reduceLT, Int.reduceLE, Int.reduceNeg, Int.reduceToNat, Int.cast_ofNat_Int]
  simp only [Tryd.ntmps66, Tryd.results66, eInt, eStr, rBool, rInt, rStr, List.map_cons, List.map_nil]
  generalize hBQ : retQ _ _ _ = BQ
  iterate 2 (refine wpL_region Tryd.tyOk (by decide) ?_; simp only [go_sem, ↓reduceIte, Nat.reduceEqDiff, Nat.reduceAdd, Nat.reduceLeDiff, Nat.reduceLT, Int.reduceEq, Int.reduceLT, Int.reduceLE, Int.reduceNeg, Int.reduceToNat, Int.cast_ofNat_Int])
  refine wpL_cond (t := decide (n < 0)) (by rfl) (fun h => ?_) (fun h => ?_)
  · have h := lt_of h
    simp only [go_sem, ↓reduceIte, Nat.reduceEqDiff, Nat.reduceAdd, Nat.reduceLeDiff, Nat.reduceLT, Int.reduceEq, Int.reduceLT, Int.reduceLE, Int.reduceNeg, Int.reduceToNat, Int.cast_ofNat_Int]
    refine wpL_region Tryd.tyOk (by decide) ?_
    simp only [go_sem, ↓reduceIte, Nat.reduceEqDiff, Nat.reduceAdd, Nat.reduceLeDiff, Nat.reduceLT, Int.reduceEq, Int.reduceLT, Int.reduceLE, Int.reduceNeg, Int.reduceToNat, Int.cast_ofNat_Int]
    refine wpL_ret ?_
    rw [← hBQ]
    try simp only [go_sem, ↓reduceIte, Nat.reduceEqDiff]
    simp (disch := omega) only [IntWalk.i64_in]
    simp; omega
  · have h := ge_of h
    simp only [go_sem, ↓reduceIte, Nat.reduceEqDiff, Nat.reduceAdd, Nat.reduceLeDiff, Nat.reduceLT, Int.reduceEq, Int.reduceLT, Int.reduceLE, Int.reduceNeg, Int.reduceToNat, Int.cast_ofNat_Int]
    refine wpL_skip ?_
    refine wpL_region Tryd.tyOk (by decide) ?_
    simp only [go_sem, ↓reduceIte, Nat.reduceEqDiff, Nat.reduceAdd, Nat.reduceLeDiff, Nat.reduceLT, Int.reduceEq, Int.reduceLT, Int.reduceLE, Int.reduceNeg, Int.reduceToNat, Int.cast_ofNat_Int]
    refine wpL_ret ?_
    rw [← hBQ]
    try simp only [go_sem, ↓reduceIte, Nat.reduceEqDiff]
    simp; omega

theorem tab_of {S : Nat → Nat → Prop} {w : World} (h : TabGood S w) : Lib.TabIs Tryd.prog w "internal/strconv.uint64pow10" .u64 Lib.pow10Tab := by
  obtain ⟨_, T, fr, h2⟩ := h (1, Lib.pow10Tab.map fun z => Value.int .u64 z) (by simp [goodTab])
  unfold Lib.TabIs World.var?
  rw [show Tryd.prog.globalNamed "internal/strconv.uint64pow10" = some 1 by kernel_rfl]
  simp only [Option.bind_some]
  rw [h2]

def itoaS (n : Int) : ByteArray := ⟨(Lib.itoa n).toArray⟩
theorem itoa29 (n : Int) (h0 : -9223372036854775808 ≤ n) (h1 : n ≤ 9223372036854775807) : Gives Tryd.prog 47 [.c (eInt n)] (rStr (itoaS n)) := by
  intro S w vs hgood hvs
  left
  have hv : vs = [.int .i64 n] := by
    cases hvs with
    | cons h1 h2 =>
      cases h2
      unfold RelDV at h1
      obtain ⟨_, h1⟩ := h1
      cases h1; rfl
  subst hv
  refine ⟨by simp [callFunc, Tryd.func47, Tryd.f47], ?_⟩
  refine (Any.strconv_Itoa Tryd.laysItoa n h0 h1 w (tab_of hgood)).mono ?_
  rintro e w' ⟨rfl, k, os, rfl⟩
  refine ⟨_, fun _ => none, rfl, ⟨rfl, rfl, rfl, ?_, ?_⟩, ?_, ?_, ?_⟩
  · simp [«Sort».grow, World.drewN]
  · intro j hj
    simp only [«Sort».grow, World.drewN]
    rw [Array.getElem?_append_left hj]
  · intro _ _ _ hp; cases hp
  · intro _ _ _ _ _ hp; cases hp
  · exact ⟨rfl, RelC.sc _ rfl⟩

/-! ### Digits -/
theorem digits_all : ∀ (u : Nat) (b : UInt8), b ∈ Lib.decDigits u → 48 ≤ b.toNat ∧ b.toNat ≤ 57 := by
  intro u
  induction u using Nat.strongRecOn with
  | _ u ih =>
    intro b hb
    rw [Lib.decDigits] at hb
    split at hb
    · simp only [List.mem_singleton] at hb; subst hb
      rename_i h
      have : (UInt8.ofNat (48 + u)).toNat = 48 + u := by simp; omega
      omega
    · rename_i h
      simp only [List.mem_append, List.mem_singleton] at hb
      rcases hb with hb | hb
      · exact ih (u / 10) (by omega) b hb
      · subst hb
        have : (UInt8.ofNat (48 + u % 10)).toNat = 48 + u % 10 := by simp; omega
        omega
theorem digits_len : ∀ (k u : Nat), u < 10 ^ (k + 1) → (Lib.decDigits u).length ≤ k + 1
  | 0, u, h => by rw [Lib.decDigits, dif_pos (by simpa using h)]; simp
  | k + 1, u, h => by
    rw [Lib.decDigits]
    split
    · simp
    · have := digits_len k (u / 10) (by rw [Nat.div_lt_iff_lt_mul (by decide)]; rw [Nat.pow_succ] at h; exact h)
      simp; omega
theorem digits_ne (u : Nat) : Lib.decDigits u ≠ [] := by
  rw [Lib.decDigits]; split <;> simp

theorem ba_size (l : List UInt8) : (⟨l.toArray⟩ : ByteArray).size = l.length := by simp [ByteArray.size]
theorem ba_cut (a : UInt8) (l : List UInt8) : (⟨(a :: l).toArray⟩ : ByteArray).extract 1 (l.length + 1) = ⟨l.toArray⟩ := by
  apply ByteArray.ext
  rw [ByteArray.data_extract]
  apply Array.ext'
  simp
theorem ba_cons (a : UInt8) (l : List UInt8) : (⟨#[a]⟩ : ByteArray) ++ ⟨l.toArray⟩ = ⟨(a :: l).toArray⟩ := by
  apply ByteArray.ext
  rw [ByteArray.data_append]
  apply Array.ext'
  simp

def showL (n : Int) : List UInt8 := if n < 0 then 95 :: Lib.decDigits n.natAbs else Lib.decDigits n.toNat
def showS (n : Int) : ByteArray := ⟨(showL n).toArray⟩

def digs : ByteArray := ⟨#[48, 49, 50, 51, 52, 53, 54, 55, 56, 57]⟩
theorem digs_cut {k : Nat} (h : k < 10) : digs.extract k (k + 1) = ⟨#[UInt8.ofNat (48 + k)]⟩ := by
  have : k = 0 ∨ k = 1 ∨ k = 2 ∨ k = 3 ∨ k = 4 ∨ k = 5 ∨ k = 6 ∨ k = 7 ∨ k = 8 ∨ k = 9 := by omega
  rcases this with rfl | rfl | rfl | rfl | rfl | rfl | rfl | rfl | rfl | rfl <;> decide

theorem dec_small {u : Nat} (h : u < 10) : Lib.decDigits u = [UInt8.ofNat (48 + u)] := by rw [Lib.decDigits, dif_pos h]
theorem dec_big {u : Nat} (h : ¬ u < 10) : Lib.decDigits u = Lib.decDigits (u / 10) ++ [UInt8.ofNat (48 + u % 10)] := by rw [Lib.decDigits, dif_neg h]

theorem showL_big {n : Int} (h : ¬ n.natAbs < 10) : showL n = showL (n.tdiv 10) ++ [UInt8.ofNat (48 + n.natAbs % 10)] := by
  have h1 : (n.tdiv 10).natAbs = n.natAbs / 10 := by rw [Int.natAbs_tdiv]; rfl
  unfold showL
  by_cases hn : n < 0
  · have h2 : n.tdiv 10 < 0 := by
      have := Int.neg_tdiv (-n) 10
      rw [Int.neg_neg] at this
      have h3 := Int.tdiv_eq_ediv_of_nonneg (a := -n) (b := 10) (by omega)
      omega
    rw [if_pos hn, if_pos h2, h1, dec_big h]; rfl
  · have h3 := Int.tdiv_eq_ediv_of_nonneg (a := n) (b := 10) (by omega)
    have h2 : ¬ n.tdiv 10 < 0 := by omega
    rw [if_neg hn, if_neg h2, show n.toNat = n.natAbs by omega, show (n.tdiv 10).toNat = n.natAbs / 10 by omega, dec_big h]
theorem ba_snoc (l : List UInt8) (a : UInt8) : (⟨l.toArray⟩ : ByteArray) ++ ⟨#[a]⟩ = ⟨(l ++ [a]).toArray⟩ := by
  apply ByteArray.ext
  rw [ByteArray.data_append]
  apply Array.ext'
  simp
theorem showL_len {n : Int} (h0 : -9223372036854775808 ≤ n) (h1 : n ≤ 9223372036854775807) : (showL n).length ≤ 20 := by
  unfold showL
  split
  · have := digits_len 18 n.natAbs (by omega)
    simp; omega
  · have := digits_len 18 n.toNat (by omega)
    omega
theorem tmod_abs (n : Int) : ((n.tmod 10).natAbs : Int) = ((n.natAbs % 10 : Nat) : Int) := by rw [Int.natAbs_tmod]; rfl

theorem show11 : ∀ (m : Nat) (n : Int), n.natAbs ≤ m → -9223372036854775808 ≤ n → n ≤ 9223372036854775807 → Gives Tryd.prog 48 [.c (eInt n)] (rStr (showS n)) := by
  intro m
  induction m using Nat.strongRecOn with
  | _ m ih =>
  intro n hnm h0 h1
  have hds : digs.size = 10 := rfl
  have hmax : 1000 ≤ maxLen := by decide
  refine Gives.intro Tryd.tyOk Tryd.func48 (by kernel_rfl) rfl (by simp [Tryd.ntmps48]) ?_
  simp only [go_sem, ↓reduceIte, Nat.reduceEqDiff, Nat.reduceAdd, Nat.reduceLeDiff, Nat.reduceLT, Int.reduceEq, Int.reduceLT, Int.reduceLE, Int.reduceNeg, Int.reduceToNat, Int.cast_ofNat_Int]
  simp only [Tryd.ntmps48, Tryd.results48, eInt, eStr, rBool, rInt, rStr, List.map_cons, List.map_nil]
  generalize hBQ : retQ _ _ _ = BQ
  iterate 2 (refine wpL_region Tryd.tyOk (by decide) ?_; simp only [go_sem, ↓reduceIte, Nat.reduceEqDiff, Nat.reduceAdd, Nat.reduceLeDiff, Nat.reduceLT, Int.reduceEq, Int.reduceLT, Int.reduceLE, Int.reduceNeg, Int.reduceToNat, Int.cast_ofNat_Int])
  refine wpL_to ⟨[(10, sbool (decide (n > -10 ∧ n < 0))), (3, .c (.d (eStr digs))), (0, .c (.d (eInt n)))], []⟩ ?_ ?_
  · by_cases hn : n > -10
    · refine wpL_region Tryd.tyOk (by decide) ?_
      simp only [go_sem, ↓reduceIte, Nat.reduceEqDiff, Nat.reduceAdd, Nat.reduceLeDiff, Nat.reduceLT, Int.reduceEq, Int.reduceLT, Int.reduceLE, Int.reduceNeg, Int.reduceToNat, Int.cast_ofNat_Int, hn]
      refine le_mk ?_ ?_ ?_ <;> (simp only [go_sem, ↓reduceIte, Nat.reduceEqDiff]; try simp [eInt, eStr, rBool, rInt, rStr, eInt, eStr, hn, digs]; try simp (disch := omega) only [IntWalk.i64_in, and_self])
    · refine wpL_region Tryd.tyOk (by decide) ?_
      simp only [go_sem, ↓reduceIte, Nat.reduceEqDiff, Nat.reduceAdd, Nat.reduceLeDiff, Nat.reduceLT, Int.reduceEq, Int.reduceLT, Int.reduceLE, Int.reduceNeg, Int.reduceToNat, Int.cast_ofNat_Int, hn]
      refine le_mk ?_ ?_ ?_ <;> (simp only [go_sem, ↓reduceIte, Nat.reduceEqDiff]; try simp [eInt, eStr, rBool, rInt, rStr, eInt, eStr, hn, digs]; try simp (disch := omega) only [IntWalk.i64_in, and_self])
  refine wpL_cond (t := decide (n > -10 ∧ n < 0)) (by rfl) (fun h => ?_) (fun h => ?_)
  · obtain ⟨h2, h3⟩ := of_decide_eq_true h
    have hc := digs_cut (k := (-n).toNat) (by omega)
    simp only [go_sem, ↓reduceIte, Nat.reduceEqDiff, Nat.reduceAdd, Nat.reduceLeDiff, Nat.reduceLT, Int.reduceEq, Int.reduceLT, Int.reduceLE, Int.reduceNeg, Int.reduceToNat, Int.cast_ofNat_Int]
    refine wpL_region Tryd.tyOk (by decide) ?_
    simp only [go_sem, ↓reduceIte, Nat.reduceEqDiff, Nat.reduceAdd, Nat.reduceLeDiff, Nat.reduceLT, Int.reduceEq, Int.reduceLT, Int.reduceLE, Int.reduceNeg, Int.reduceToNat, Int.cast_ofNat_Int, hds]
    simp (disch := omega) only [IntWalk.i64_in]
    have e1 : (0 - n).toNat = (-n).toNat := by omega
    have e2 : (1 - n).toNat = (-n).toNat + 1 := by omega
    rw [e1, e2, hc]
    refine ⟨⟨by omega, by omega, by omega, fun m hm => by cases hm⟩, ?_, ?_⟩
    · show 1 + 1 ≤ maxLen
      omega
    refine wpL_ret ?_
    rw [← hBQ]
    try simp only [go_sem, ↓reduceIte, Nat.reduceEqDiff]
    rw [show showS n = ⟨#[95]⟩ ++ ⟨#[UInt8.ofNat (48 + (-n).toNat)]⟩ by
      unfold showS showL
      rw [if_pos h3, dec_small (by omega), show n.natAbs = (-n).toNat by omega]
      rfl]
  have h2 := of_decide_eq_false h
  simp only [go_sem, ↓reduceIte, Nat.reduceEqDiff, Nat.reduceAdd, Nat.reduceLeDiff, Nat.reduceLT, Int.reduceEq, Int.reduceLT, Int.reduceLE, Int.reduceNeg, Int.reduceToNat, Int.cast_ofNat_Int]
  refine wpL_skip ?_
  refine wpL_to ⟨[(23, sbool (decide (n ≥ 0 ∧ n < 10))), (3, .c (.d (eStr digs))), (0, .c (.d (eInt n)))], []⟩ ?_ ?_
  · by_cases hn : n ≥ 0
    · refine wpL_region Tryd.tyOk (by decide) ?_
      simp only [go_sem, ↓reduceIte, Nat.reduceEqDiff, Nat.reduceAdd, Nat.reduceLeDiff, Nat.reduceLT, Int.reduceEq, Int.reduceLT, Int.reduceLE, Int.reduceNeg, Int.reduceToNat, Int.cast_ofNat_Int, hn]
      refine le_mk ?_ ?_ ?_ <;> (simp only [go_sem, ↓reduceIte, Nat.reduceEqDiff]; try simp [eInt, eStr, rBool, rInt, rStr, eInt, eStr, hn]; try simp (disch := omega) only [IntWalk.i64_in, and_self])
    · refine wpL_region Tryd.tyOk (by decide) ?_
      simp only [go_sem, ↓reduceIte, Nat.reduceEqDiff, Nat.reduceAdd, Nat.reduceLeDiff, Nat.reduceLT, Int.reduceEq, Int.reduceLT, Int.reduceLE, Int.reduceNeg, Int.reduceToNat, Int.cast_ofNat_Int, hn]
      refine le_mk ?_ ?_ ?_ <;> (simp only [go_sem, ↓reduceIte, Nat.reduceEqDiff]; try simp [eInt, eStr, rBool, rInt, rStr, eInt, eStr, hn]; try simp (disch := omega) only [IntWalk.i64_in, and_self])
  refine wpL_cond (t := decide (n ≥ 0 ∧ n < 10)) (by rfl) (fun h => ?_) (fun h => ?_)
  · obtain ⟨h3, h4⟩ := of_decide_eq_true h
    have hc := digs_cut (k := n.toNat) (by omega)
    simp only [go_sem, ↓reduceIte, Nat.reduceEqDiff, Nat.reduceAdd, Nat.reduceLeDiff, Nat.reduceLT, Int.reduceEq, Int.reduceLT, Int.reduceLE, Int.reduceNeg, Int.reduceToNat, Int.cast_ofNat_Int]
    refine wpL_region Tryd.tyOk (by decide) ?_
    simp only [go_sem, ↓reduceIte, Nat.reduceEqDiff, Nat.reduceAdd, Nat.reduceLeDiff, Nat.reduceLT, Int.reduceEq, Int.reduceLT, Int.reduceLE, Int.reduceNeg, Int.reduceToNat, Int.cast_ofNat_Int, hds]
    simp (disch := omega) only [IntWalk.i64_in]
    have e2 : (n + 1).toNat = n.toNat + 1 := by omega
    rw [e2, hc]
    refine ⟨⟨by omega, by omega, by omega, fun m hm => by cases hm⟩, ?_⟩
    refine wpL_ret ?_
    rw [← hBQ]
    try simp only [go_sem, ↓reduceIte, Nat.reduceEqDiff]
    rw [show showS n = ⟨#[UInt8.ofNat (48 + n.toNat)]⟩ by
      unfold showS showL
      rw [if_neg (by omega), dec_small (by omega)]]
  have h3 := of_decide_eq_false h
  simp only [go_sem, ↓reduceIte, Nat.reduceEqDiff, Nat.reduceAdd, Nat.reduceLeDiff, Nat.reduceLT, Int.reduceEq, Int.reduceLT, Int.reduceLE, Int.reduceNeg, Int.reduceToNat, Int.cast_ofNat_Int]
  refine wpL_skip ?_
  have ht := tmod_lt n (b := 10) (by decide)
  have hq := tdiv_le n 10
  have hqd : (n.tdiv 10).natAbs = n.natAbs / 10 := by rw [Int.natAbs_tdiv]; rfl
  refine wpL_region Tryd.tyOk (by decide) ?_
  simp only [go_sem, ↓reduceIte, Nat.reduceEqDiff, Nat.reduceAdd, Nat.reduceLeDiff, Nat.reduceLT, Int.reduceEq, Int.reduceLT, Int.reduceLE, Int.reduceNeg, Int.reduceToNat, Int.cast_ofNat_Int]
  refine ⟨_, abs30 (n.tmod 10) (by omega) (by omega), ?_⟩
  simp only [go_sem, ↓reduceIte, Nat.reduceEqDiff, Nat.reduceAdd, Nat.reduceLeDiff, Nat.reduceLT, Int.reduceEq, Int.reduceLT, Int.reduceLE, Int.reduceNeg, Int.reduceToNat, Int.cast_ofNat_Int]
  rw [tmod_abs]
  refine wpL_draw Tryd.tyOk (by kernel_rfl) 9 (by decide) (by decide) ?_
  simp only [go_sem, ↓reduceIte, Nat.reduceEqDiff, Nat.reduceAdd, Nat.reduceLeDiff, Nat.reduceLT, Int.reduceEq, Int.reduceLT, Int.reduceLE, Int.reduceNeg, Int.reduceToNat, Int.cast_ofNat_Int, hds]
  simp (disch := omega) only [IntWalk.i64_in]
  refine ⟨_, ih (n.tdiv 10).natAbs (by omega) (n.tdiv 10) (Nat.le_refl _) (by omega) (by omega), ?_⟩
  have hc := digs_cut (k := n.natAbs % 10) (by omega)
  simp only [go_sem, ↓reduceIte, Nat.reduceEqDiff, Nat.reduceAdd, Nat.reduceLeDiff, Nat.reduceLT, Int.reduceEq, Int.reduceLT, Int.reduceLE, Int.reduceNeg, Int.reduceToNat, Int.cast_ofNat_Int, hds]
  simp (disch := omega) only [IntWalk.i64_in]
  have e2 : (((n.natAbs % 10 : Nat) : Int) + 1).toNat = n.natAbs % 10 + 1 := by omega
  have hlen := showL_len (n := n.tdiv 10) (by omega) (by omega)
  rw [e2, hc]
  refine ⟨⟨by omega, by omega, fun m hm => by cases hm⟩, ?_, ?_⟩
  · unfold showS
    rw [ba_size]
    show (showL (n.tdiv 10)).length + 1 ≤ maxLen
    omega
  refine wpL_ret ?_
  rw [← hBQ]
  try simp only [go_sem, ↓reduceIte, Nat.reduceEqDiff]
  rw [show showS n = showS (n.tdiv 10) ++ ⟨#[UInt8.ofNat (48 + n.natAbs % 10)]⟩ by
    unfold showS
    rw [showL_big (by omega), ba_snoc]]

end Go.Proofs.YtkkkdfhnpamnkaaDoor
