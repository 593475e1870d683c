/-
  What the arguments of layer 2 read as.
-/
import Derived.Test.YtnmbbcodaekbaaaDoorW6
import Derived.Test.YtnmbbcodaekbaaaDoorAbsV
set_option linter.unusedSimpArgs false
set_option linter.unusedVariables false
set_option maxRecDepth 100000
namespace Go.Proofs.YtnmbbcodaekbaaaDoor
open Go.Abs Go

theorem wf64 {n : Int} (h : (Lit.int .i64 n).wf = true) : In64 n := by
  simp [Lit.wf, IntKind.min, IntKind.max, IntKind.signed, IntKind.bits] at h
  unfold In64
  omega
theorem read_ints {ys : List DC} (h : Typed Tryd.prog 22 ys) : ∃ l, ys = [.sl (eInts l)] ∧ Ins l := by
  obtain ⟨xs, rfl, hl, hx⟩ := h.sl_inv Tryd.underlying22
  have : ∀ xs : List (List DC), (∀ x, x ∈ xs → Typed Tryd.prog 3 x) → ∃ l, xs = eInts l ∧ ∀ n, n ∈ l → In64 n := by
    intro xs
    induction xs with
    | nil => intro _; exact ⟨[], rfl, by simp⟩
    | cons x xs ih =>
      intro hx
      obtain ⟨l, rfl, hl⟩ := ih fun y hy => hx y (List.mem_cons_of_mem _ hy)
      obtain ⟨n, rfl, hn⟩ := (hx x (by simp)).int_inv Tryd.underlying3
      refine ⟨n :: l, rfl, fun m hm => ?_⟩
      simp only [List.mem_cons] at hm
      rcases hm with rfl | hm
      · exact wf64 hn
      · exact hl m hm
  obtain ⟨l, rfl, h2⟩ := this xs hx
  refine ⟨l, rfl, ?_, h2⟩
  rw [eInts_len] at hl
  exact hl
theorem agg3 : aggB Tryd.prog 3 = false := by simp [aggB, Tryd.underlying3]
theorem agg22 : aggB Tryd.prog 22 = false := by simp [aggB, Tryd.underlying22]

theorem one_list {f : Nat} (h : ∀ s, Ins s → Gives Tryd.prog f [.c (.sl (eInts s))] (rBool true)) (yss : List (List DC)) (hy : All2 (fun t ys => Typed Tryd.prog t ys) [22] yss) : Gives Tryd.prog f (handedAll Tryd.prog [22] yss) (rBool true) := by
  cases hy with
  | cons h1 h2 =>
    cases h2
    obtain ⟨a, rfl, ha⟩ := read_ints h1
    simp only [handedAll, handed, agg22]
    exact h a ha
theorem two_lists {f : Nat} (h : ∀ s t, Ins s → Ins t → Gives Tryd.prog f [.c (.sl (eInts s)), .c (.sl (eInts t))] (rBool true)) (yss : List (List DC)) (hy : All2 (fun t ys => Typed Tryd.prog t ys) [22, 22] yss) : Gives Tryd.prog f (handedAll Tryd.prog [22, 22] yss) (rBool true) := by
  cases hy with
  | cons h1 h2 =>
    cases h2 with
    | cons h2 h3 =>
      cases h3
      obtain ⟨a, rfl, ha⟩ := read_ints h1
      obtain ⟨b, rfl, hb⟩ := read_ints h2
      simp only [handedAll, handed, agg22]
      exact h a b ha hb
theorem list_int {f : Nat} (h : ∀ s n, Ins s → In64 n → Gives Tryd.prog f [.c (.sl (eInts s)), .c (eInt n)] (rBool true)) (yss : List (List DC)) (hy : All2 (fun t ys => Typed Tryd.prog t ys) [22, 3] yss) : Gives Tryd.prog f (handedAll Tryd.prog [22, 3] yss) (rBool true) := by
  cases hy with
  | cons h1 h2 =>
    cases h2 with
    | cons h2 h3 =>
      cases h3
      obtain ⟨a, rfl, ha⟩ := read_ints h1
      obtain ⟨b, rfl, hb⟩ := h2.int_inv Tryd.underlying3
      simp only [handedAll, handed, agg22, agg3]
      exact h a b ha (wf64 hb)
end Go.Proofs.YtnmbbcodaekbaaaDoor
