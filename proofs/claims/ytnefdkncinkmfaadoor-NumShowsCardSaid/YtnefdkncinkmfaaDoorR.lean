/-
  What the arguments of layer 1 read as.
-/
import Derived.Test.YtnefdkncinkmfaaDoorW1
import Derived.Test.YtnefdkncinkmfaaDoorAbsV
set_option linter.unusedSimpArgs false
set_option linter.unusedVariables false
set_option maxRecDepth 100000
namespace Go.Proofs.YtnefdkncinkmfaaDoor
open Go.Abs Go

theorem wf64 {n : Int} (h : (Lit.int .i64 n).wf = true) : -9223372036854775808 ≤ n ∧ n ≤ 9223372036854775807 := by
  simp [Lit.wf, IntKind.min, IntKind.max, IntKind.signed, IntKind.bits] at h
  omega
theorem wf16 {n : Int} (h : (Lit.int .i16 n).wf = true) : -32768 ≤ n ∧ n ≤ 32767 := by
  simp [Lit.wf, IntKind.min, IntKind.max, IntKind.signed, IntKind.bits] at h
  omega

def In64 (n : Int) : Prop := -9223372036854775808 ≤ n ∧ n ≤ 9223372036854775807
def In16 (n : Int) : Prop := -32768 ≤ n ∧ n ≤ 32767

theorem one_int {f : Nat} (h : ∀ a, In64 a → Gives Tryd.prog f [.c (eInt a)] (rBool true)) (yss : List (List DC)) (hy : All2 (fun t ys => Typed Tryd.prog t ys) [3] yss) : Gives Tryd.prog f (handedAll Tryd.prog [3] yss) (rBool true) := by
  cases hy with
  | cons h1 h2 =>
    cases h2
    obtain ⟨a, rfl, ha⟩ := h1.int_inv Tryd.underlying3
    have hg : aggB Tryd.prog 3 = false := by simp [aggB, Tryd.underlying3]
    simp only [handedAll, handed, hg]
    exact h a (wf64 ha)
theorem two_ints {f : Nat} (h : ∀ a b, In64 a → In64 b → Gives Tryd.prog f [.c (eInt a), .c (eInt b)] (rBool true)) (yss : List (List DC)) (hy : All2 (fun t ys => Typed Tryd.prog t ys) [3, 3] yss) : Gives Tryd.prog f (handedAll Tryd.prog [3, 3] yss) (rBool true) := by
  cases hy with
  | cons h1 h2 =>
    cases h2 with
    | cons h2 h3 =>
      cases h3
      obtain ⟨a, rfl, ha⟩ := h1.int_inv Tryd.underlying3
      obtain ⟨b, rfl, hb⟩ := h2.int_inv Tryd.underlying3
      have hg : aggB Tryd.prog 3 = false := by simp [aggB, Tryd.underlying3]
      simp only [handedAll, handed, hg]
      exact h a b (wf64 ha) (wf64 hb)
theorem three_ints {f : Nat} (h : ∀ a b c, In64 a → In64 b → In64 c → Gives Tryd.prog f [.c (eInt a), .c (eInt b), .c (eInt c)] (rBool true)) (yss : List (List DC)) (hy : All2 (fun t ys => Typed Tryd.prog t ys) [3, 3, 3] yss) : Gives Tryd.prog f (handedAll Tryd.prog [3, 3, 3] yss) (rBool true) := by
  cases hy with
  | cons h1 h2 =>
    cases h2 with
    | cons h2 h3 =>
      cases h3 with
      | cons h3 h4 =>
        cases h4
        obtain ⟨a, rfl, ha⟩ := h1.int_inv Tryd.underlying3
        obtain ⟨b, rfl, hb⟩ := h2.int_inv Tryd.underlying3
        obtain ⟨c, rfl, hc⟩ := h3.int_inv Tryd.underlying3
        have hg : aggB Tryd.prog 3 = false := by simp [aggB, Tryd.underlying3]
        simp only [handedAll, handed, hg]
        exact h a b c (wf64 ha) (wf64 hb) (wf64 hc)
theorem pows_ints {f : Nat} (h : ∀ a b c, In64 a → In16 b → In16 c → Gives Tryd.prog f [.c (eInt a), .c (.sc (.int .i16 b)), .c (.sc (.int .i16 c))] (rBool true)) (yss : List (List DC)) (hy : All2 (fun t ys => Typed Tryd.prog t ys) [3, 32, 32] yss) : Gives Tryd.prog f (handedAll Tryd.prog [3, 32, 32] yss) (rBool true) := by
  cases hy with
  | cons h1 h2 =>
    cases h2 with
    | cons h2 h3 =>
      cases h3 with
      | cons h3 h4 =>
        cases h4
        obtain ⟨a, rfl, ha⟩ := h1.int_inv Tryd.underlying3
        obtain ⟨b, rfl, hb⟩ := h2.int_inv Tryd.underlying32
        obtain ⟨c, rfl, hc⟩ := h3.int_inv Tryd.underlying32
        have hg : aggB Tryd.prog 3 = false := by simp [aggB, Tryd.underlying3]
        have hg2 : aggB Tryd.prog 32 = false := by simp [aggB, Tryd.underlying32]
        simp only [handedAll, handed, hg, hg2]
        exact h a b c (wf64 ha) (wf16 hb) (wf16 hc)
theorem one_str {f : Nat} (h : ∀ s : ByteArray, s.size ≤ maxLen → Gives Tryd.prog f [.c (eStr s)] (rBool true)) (yss : List (List DC)) (hy : All2 (fun t ys => Typed Tryd.prog t ys) [9] yss) : Gives Tryd.prog f (handedAll Tryd.prog [9] yss) (rBool true) := by
  cases hy with
  | cons h1 h2 =>
    cases h2
    obtain ⟨s, rfl, hs⟩ := h1.str_inv Tryd.underlying9
    have hg : aggB Tryd.prog 9 = false := by simp [aggB, Tryd.underlying9]
    simp only [handedAll, handed, hg]
    exact h s hs

end Go.Proofs.YtnefdkncinkmfaaDoor
