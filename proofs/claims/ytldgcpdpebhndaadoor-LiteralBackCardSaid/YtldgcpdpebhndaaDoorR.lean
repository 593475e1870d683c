/-
  What the arguments of layer 9 read as.
-/
import Derived.Test.YtldgcpdpebhndaaDoorW23
import Derived.Test.YtldgcpdpebhndaaDoorAbsW
set_option linter.unusedSimpArgs false
set_option linter.unusedVariables false
set_option maxRecDepth 100000
namespace Go.Proofs.YtldgcpdpebhndaaDoor
open Go.Abs Go

theorem wf32 {n : Int} (h : (Lit.int .i32 n).wf = true) : -2147483648 ≤ n ∧ n ≤ 2147483647 := by
  simp [Lit.wf, IntKind.min, IntKind.max, IntKind.signed, IntKind.bits] at h
  omega
theorem read_runes {ys : List DC} (h : Typed Tryd.prog 31 ys) : ∃ l, ys = [.sl (eRunes l)] ∧ ∀ n, n ∈ l → -2147483648 ≤ n ∧ n ≤ 2147483647 := by
  obtain ⟨xs, rfl, hl, hx⟩ := h.sl_inv Tryd.underlying31
  have : ∀ xs : List (List DC), (∀ x, x ∈ xs → Typed Tryd.prog 21 x) → ∃ l, xs = eRunes l ∧ ∀ n, n ∈ l → -2147483648 ≤ n ∧ n ≤ 2147483647 := by
    intro xs
    induction xs with
    | nil => intro _; exact ⟨[], rfl, fun n hn => by cases hn⟩
    | cons x xs ih =>
      intro hx
      obtain ⟨l, rfl, hl⟩ := ih fun y hy => hx y (List.mem_cons_of_mem _ hy)
      obtain ⟨n, rfl, hn⟩ := (hx x (by simp)).int_inv Tryd.underlying21
      refine ⟨n :: l, rfl, fun m hm => ?_⟩
      simp only [List.mem_cons] at hm
      rcases hm with rfl | hm
      · exact wf32 hn
      · exact hl m hm
  obtain ⟨l, rfl, h2⟩ := this xs hx
  exact ⟨l, rfl, h2⟩
theorem agg9 : aggB Tryd.prog 9 = false := by simp [aggB, Tryd.underlying9]
theorem agg21 : aggB Tryd.prog 21 = false := by simp [aggB, Tryd.underlying21]
theorem agg31 : aggB Tryd.prog 31 = false := by simp [aggB, Tryd.underlying31]
theorem one_str {f : Nat} (h : ∀ s : ByteArray, Gives Tryd.prog f [.c (eStr s)] (rBool true)) (yss : List (List DC)) (hy : All2 (fun t ys => Typed Tryd.prog t ys) [9] yss) : Gives Tryd.prog f (handedAll Tryd.prog [9] yss) (rBool true) := by
  cases hy with
  | cons h1 h2 =>
    cases h2
    obtain ⟨s, rfl, hs⟩ := h1.str_inv Tryd.underlying9
    simp only [handedAll, handed, agg9]
    exact h s
theorem rune_str {f : Nat} (h : ∀ (r : Int) (s : ByteArray), -2147483648 ≤ r → r ≤ 2147483647 → Gives Tryd.prog f [.c (eRune r), .c (eStr s)] (rBool true)) (yss : List (List DC)) (hy : All2 (fun t ys => Typed Tryd.prog t ys) [21, 9] yss) : Gives Tryd.prog f (handedAll Tryd.prog [21, 9] yss) (rBool true) := by
  cases hy with
  | cons h1 h2 =>
    cases h2 with
    | cons h2 h3 =>
      cases h3
      obtain ⟨r, rfl, hr⟩ := h1.int_inv Tryd.underlying21
      obtain ⟨s, rfl, _⟩ := h2.str_inv Tryd.underlying9
      simp only [handedAll, handed, agg9, agg21]
      exact h r s (wf32 hr).1 (wf32 hr).2
theorem runes_str {f : Nat} (h : ∀ (l : List Int) (s : ByteArray), (∀ n, n ∈ l → -2147483648 ≤ n ∧ n ≤ 2147483647) → Gives Tryd.prog f [.c (.sl (eRunes l)), .c (eStr s)] (rBool true)) (yss : List (List DC)) (hy : All2 (fun t ys => Typed Tryd.prog t ys) [31, 9] yss) : Gives Tryd.prog f (handedAll Tryd.prog [31, 9] yss) (rBool true) := by
  cases hy with
  | cons h1 h2 =>
    cases h2 with
    | cons h2 h3 =>
      cases h3
      obtain ⟨l, rfl, hl⟩ := read_runes h1
      obtain ⟨s, rfl, _⟩ := h2.str_inv Tryd.underlying9
      simp only [handedAll, handed, agg9, agg31]
      exact h l s hl
end Go.Proofs.YtldgcpdpebhndaaDoor
