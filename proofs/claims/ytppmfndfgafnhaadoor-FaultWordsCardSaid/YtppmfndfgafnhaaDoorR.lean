/-
  What the arguments of layer 7 read as.
-/
import Derived.Test.YtppmfndfgafnhaaDoorW4
import Derived.Test.YtppmfndfgafnhaaDoorAbsW
set_option linter.unusedSimpArgs false
set_option linter.unusedVariables false
set_option maxRecDepth 100000
namespace Go.Proofs.YtppmfndfgafnhaaDoor
open Go.Abs Go

theorem wf64 {n : Int} (h : (Lit.int .i64 n).wf = true) : -9223372036854775808 ≤ n ∧ n ≤ 9223372036854775807 := by
  simp [Lit.wf, IntKind.min, IntKind.max, IntKind.signed, IntKind.bits] at h
  omega
theorem read_ints {ys : List DC} (h : Typed Tryd.prog 29 ys) : ∃ l, ys = [.sl (eInts l)] ∧ l.length ≤ maxLen ∧ Ins l := by
  obtain ⟨xs, rfl, hl, hx⟩ := h.sl_inv Tryd.underlying29
  have : ∀ xs : List (List DC), (∀ x, x ∈ xs → Typed Tryd.prog 3 x) → ∃ l, xs = eInts l ∧ Ins l := by
    intro xs
    induction xs with
    | nil => intro _; exact ⟨[], rfl, by simp [Ins]⟩
    | cons x xs ih =>
      intro hx
      obtain ⟨l, rfl, hl⟩ := ih fun y hy => hx y (List.mem_cons_of_mem _ hy)
      obtain ⟨n, rfl, hn⟩ := (hx x (by simp)).int_inv Tryd.underlying3
      refine ⟨n :: l, rfl, fun m hm => ?_⟩
      simp only [List.mem_cons] at hm
      rcases hm with rfl | hm
      · exact wf64 hn
      · exact hl m hm
  obtain ⟨l, rfl, h2⟩ := this xs hx
  refine ⟨l, rfl, ?_, h2⟩
  rw [eInts_len] at hl
  exact hl
theorem read_fault {ys : List DC} (h : Typed Tryd.prog 31 ys) : ∃ f : Fault, ys = eFault f ∧ f.left.length ≤ maxLen ∧ Ins f.left ∧ f.right.length ≤ maxLen ∧ Ins f.right ∧ f.name.length ≤ maxLen := by
  obtain ⟨parts, rfl, hl, hp⟩ := h.st_inv Tryd.underlying31
  match parts, hl with
  | [a, b, c, d, e], _ =>
    obtain ⟨k, rfl, _⟩ := (hp 0 _ a rfl rfl).int_inv Tryd.underlying23
    obtain ⟨p, rfl, _⟩ := (hp 1 _ b rfl rfl).int_inv Tryd.underlying3
    obtain ⟨l, rfl, hl1, hl2⟩ := read_ints (hp 2 _ c rfl rfl)
    obtain ⟨r, rfl, hr1, hr2⟩ := read_ints (hp 3 _ d rfl rfl)
    obtain ⟨s, rfl, hs⟩ := (hp 4 _ e rfl rfl).str_inv Tryd.underlying9
    refine ⟨⟨k, p, l, r, s.data.toList⟩, ?_, hl1, hl2, hr1, hr2, ?_⟩
    · simp [eFault, eInt]
    · simpa using hs
theorem agg3 : aggB Tryd.prog 3 = false := by simp [aggB, Tryd.underlying3]
theorem agg9 : aggB Tryd.prog 9 = false := by simp [aggB, Tryd.underlying9]
theorem agg23 : aggB Tryd.prog 23 = false := by simp [aggB, Tryd.underlying23]
theorem agg31 : aggB Tryd.prog 31 = true := by simp [aggB, Tryd.underlying31]
theorem maxLen_lt : maxLen ≤ 9223372036854775807 := by decide

theorem one_kind {f : Nat} (h : ∀ e : Int, Gives Tryd.prog f [.c (eInt e)] (rBool true)) (yss : List (List DC)) (hy : All2 (fun t ys => Typed Tryd.prog t ys) [3] yss) : Gives Tryd.prog f (handedAll Tryd.prog [3] yss) (rBool true) := by
  cases hy with
  | cons h1 h2 =>
    cases h2
    obtain ⟨k, rfl, _⟩ := h1.int_inv Tryd.underlying3
    simp only [handedAll, handed, agg3]
    exact h k
theorem str_int {f : Nat} (h : ∀ s n, Gives Tryd.prog f [.c (eStr s), .c (eInt n)] (rBool true)) (yss : List (List DC)) (hy : All2 (fun t ys => Typed Tryd.prog t ys) [9, 3] yss) : Gives Tryd.prog f (handedAll Tryd.prog [9, 3] yss) (rBool true) := by
  cases hy with
  | cons h1 h2 =>
    cases h2 with
    | cons h2 h3 =>
      cases h3
      obtain ⟨a, rfl, _⟩ := h1.str_inv Tryd.underlying9
      obtain ⟨b, rfl, _⟩ := h2.int_inv Tryd.underlying3
      simp only [handedAll, handed, agg9, agg3]
      exact h a b
theorem two_faults {f : Nat} (h : ∀ a b, FLen a → FLen b → Gives Tryd.prog f [.agg (eFault a), .agg (eFault b)] (rBool true)) (yss : List (List DC)) (hy : All2 (fun t ys => Typed Tryd.prog t ys) [31, 31] yss) : Gives Tryd.prog f (handedAll Tryd.prog [31, 31] yss) (rBool true) := by
  cases hy with
  | cons h1 h2 =>
    cases h2 with
    | cons h2 h3 =>
      cases h3
      obtain ⟨a, rfl, ha⟩ := read_fault h1
      obtain ⟨b, rfl, hb⟩ := read_fault h2
      have := maxLen_lt
      simp only [handedAll, handed, agg31]
      exact h a b ⟨Nat.le_trans ha.1 this, Nat.le_trans ha.2.2.1 this⟩ ⟨Nat.le_trans hb.1 this, Nat.le_trans hb.2.2.1 this⟩
theorem bulk_ints (l : List Int) : l.length ≤ bulkLL (eInts l) := by
  have := bulkLL_len (eInts l) (by intro x hx; obtain ⟨n, _, rfl⟩ := List.mem_map.1 hx; simp)
  rw [eInts_len] at this
  exact this
theorem str_fault {f K : Nat} (hK : K ≤ 2000000) (h : ∀ s a, FOk a → Gives Tryd.prog f [.c (eStr s), .agg (eFault a)] (rBool true)) (yss : List (List DC)) (hy : All2 (fun t ys => Typed Tryd.prog t ys) [9, 31] yss) (hb : bulkLL yss ≤ K) : Gives Tryd.prog f (handedAll Tryd.prog [9, 31] yss) (rBool true) := by
  cases hy with
  | cons h1 h2 =>
    cases h2 with
    | cons h2 h3 =>
      cases h3
      obtain ⟨s, rfl, _⟩ := h1.str_inv Tryd.underlying9
      obtain ⟨a, rfl, ha⟩ := read_fault h2
      have h1 := bulk_ints a.left
      have h2 := bulk_ints a.right
      simp only [bulkLL, eFault, bulkL, DC.bulk] at hb
      simp only [handedAll, handed, agg9, agg31]
      refine h s a ⟨⟨by omega, ha.2.1⟩, ⟨by omega, ha.2.2.2.1⟩, ?_⟩
      have : a.name.length ≤ 2000000 := by
        have e : (⟨a.name.toArray⟩ : ByteArray).size = a.name.length := rfl
        omega
      omega
end Go.Proofs.YtppmfndfgafnhaaDoor
