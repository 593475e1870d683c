/-
  What the arguments of layer 50 read as.
-/
import Derived.Test.YtamohkabkjfakaaRRW7
import Derived.Test.YtamohkabkjfakaaRRAbsV
set_option linter.unusedSimpArgs false
set_option linter.unusedVariables false
set_option maxRecDepth 100000
namespace Go.Proofs.YtamohkabkjfakaaRR
open Go.Abs Go

def Lty : List TypeId := [3, 5, 22, 24]
theorem plain : plainSet Try.prog Lty = true := by kernel_rfl
theorem own : ownKnob Try.prog.godebug = none := by kernel_rfl
theorem laid : laidOutB Try.prog = true := by kernel_rfl
theorem noTabs {W : World} : TabGood (fun _ _ => True) W := fun p hp => by simp [goodTab] at hp

theorem wf64 {n : Int} (h : (Lit.int .i64 n).wf = true) : -9223372036854775808 ≤ n ∧ n ≤ 9223372036854775807 := by
  simp [Lit.wf, IntKind.min, IntKind.max, IntKind.signed, IntKind.bits] at h
  omega
theorem read_ints {ys : List DC} (h : Typed Try.prog 22 ys) : ∃ l, ys = [.sl (eInts l)] := by
  obtain ⟨xs, rfl, hl, hx⟩ := h.sl_inv Try.underlying22
  have : ∀ xs : List (List DC), (∀ x, x ∈ xs → Typed Try.prog 3 x) → ∃ l, xs = eInts l := by
    intro xs
    induction xs with
    | nil => intro _; exact ⟨[], rfl⟩
    | cons x xs ih =>
      intro hx
      obtain ⟨l, rfl⟩ := ih fun y hy => hx y (List.mem_cons_of_mem _ hy)
      obtain ⟨n, rfl, hn⟩ := (hx x (by simp)).int_inv Try.underlying3
      exact ⟨n :: l, rfl⟩
  obtain ⟨l, rfl⟩ := this xs hx
  exact ⟨l, rfl⟩
theorem read_vec {ys : List DC} (h : Typed Try.prog 24 ys) : ∃ v, ys = eV v := by
  obtain ⟨parts, rfl, hl, hx⟩ := h.arr_inv Try.underlying24
  match parts, hl with
  | [a, b, c, d], _ =>
    obtain ⟨a, rfl, _⟩ := (hx a (by simp)).int_inv Try.underlying3
    obtain ⟨b, rfl, _⟩ := (hx b (by simp)).int_inv Try.underlying3
    obtain ⟨c, rfl, _⟩ := (hx c (by simp)).int_inv Try.underlying3
    obtain ⟨d, rfl, _⟩ := (hx d (by simp)).int_inv Try.underlying3
    exact ⟨fun k => match k with | 0 => a | 1 => b | 2 => c | _ => d, rfl⟩
theorem agg3 : aggB Try.prog 3 = false := by simp [aggB, Try.underlying3]
theorem agg5 : aggB Try.prog 5 = false := by simp [aggB, Try.underlying5]
theorem agg22 : aggB Try.prog 22 = false := by simp [aggB, Try.underlying22]
theorem agg24 : aggB Try.prog 24 = true := by simp [aggB, Try.underlying24]

theorem list_int {f : Nat} (h : ∀ l n, (-9223372036854775808 ≤ n ∧ n ≤ 9223372036854775807) → Gives Try.prog f [.c (.sl (eInts l)), .c (eInt n)] (rBool true)) (yss : List (List DC)) (hy : All2 (fun t ys => Typed Try.prog t ys) [22, 3] yss) : Gives Try.prog f (handedAll Try.prog [22, 3] yss) (rBool true) := by
  cases hy with
  | cons h1 h2 =>
    cases h2 with
    | cons h2 h3 =>
      cases h3
      obtain ⟨a, rfl⟩ := read_ints h1
      obtain ⟨b, rfl, hb⟩ := h2.int_inv Try.underlying3
      simp only [handedAll, handed, agg22, agg3]
      exact h a b (wf64 hb)
theorem list_int_vec {f : Nat} (h : ∀ l n v m, Gives Try.prog f [.c (.sl (eInts l)), .c (eInt n), .agg (eV v), .c (.sc (.int .u8 m))] (rBool true)) (yss : List (List DC)) (hy : All2 (fun t ys => Typed Try.prog t ys) [22, 3, 24, 5] yss) : Gives Try.prog f (handedAll Try.prog [22, 3, 24, 5] yss) (rBool true) := by
  cases hy with
  | cons h1 h2 =>
    cases h2 with
    | cons h2 h3 =>
      cases h3 with
      | cons h3 h4 =>
        cases h4 with
        | cons h4 h5 =>
          cases h5
          obtain ⟨a, rfl⟩ := read_ints h1
          obtain ⟨b, rfl, hb⟩ := h2.int_inv Try.underlying3
          obtain ⟨v, rfl⟩ := read_vec h3
          obtain ⟨m, rfl, _⟩ := h4.int_inv Try.underlying5
          simp only [handedAll, handed, agg22, agg3, agg24, agg5]
          exact h a b v m
end Go.Proofs.YtamohkabkjfakaaRR
