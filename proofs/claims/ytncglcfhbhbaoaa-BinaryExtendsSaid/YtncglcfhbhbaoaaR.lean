/-
  What the arguments of layer 16 read as.
-/
import Derived.Test.YtncglcfhbhbaoaaW22
import Derived.Test.YtncglcfhbhbaoaaAbsV
set_option linter.unusedSimpArgs false
set_option linter.unusedVariables false
set_option maxRecDepth 100000
namespace Go.Proofs.Ytncglcfhbhbaoaa
open Go.Abs Go

def Lty : List TypeId := [3, 22, 29, 30, 31, 33]
theorem plain : plainSet Try.prog Lty = true := by kernel_rfl
theorem own : ownKnob Try.prog.godebug = none := by kernel_rfl
theorem laid : laidOutB Try.prog = true := by kernel_rfl
theorem noTabs {W : World} : TabGood (fun _ _ => True) W := fun p hp => by simp [goodTab] at hp

theorem read_ints {ys : List DC} (h : Typed Try.prog 30 ys) : ∃ l, ys = [.sl (eInts l)] ∧ l.length ≤ maxLen := by
  obtain ⟨xs, rfl, hl, hx⟩ := h.sl_inv Try.underlying30
  have : ∀ xs : List (List DC), (∀ x, x ∈ xs → Typed Try.prog 3 x) → ∃ l, xs = eInts l := by
    intro xs
    induction xs with
    | nil => intro _; exact ⟨[], rfl⟩
    | cons x xs ih =>
      intro hx
      obtain ⟨l, rfl⟩ := ih fun y hy => hx y (List.mem_cons_of_mem _ hy)
      obtain ⟨n, rfl, hn⟩ := (hx x (by simp)).int_inv Try.underlying3
      exact ⟨n :: l, rfl⟩
  obtain ⟨l, rfl⟩ := this xs hx
  exact ⟨l, rfl, by simpa [eInts] using hl⟩
theorem four {α : Type} {l : List α} (h : l.length = 4) : ∃ a b c d, l = [a, b, c, d] := by
  match l, h with
  | [a, b, c, d], _ => exact ⟨a, b, c, d, rfl⟩
theorem max_le : maxLen ≤ 9223372036854775807 := by unfold maxLen; decide
theorem read_both {t : TypeId} {ys : List DC} (h : Typed Try.prog t ys) : (t = 33 → ∃ a, ys = eArr a ∧ Fine a) ∧ (t = 31 → ∃ l, ys = [.sl (l.map eArr)] ∧ Fines l ∧ l.length ≤ maxLen) := by
  induction h with
  | int hu hw => constructor <;> rintro rfl <;> simp [Try.underlying33, Try.underlying31] at hu
  | bool hu => constructor <;> rintro rfl <;> simp [Try.underlying33, Try.underlying31] at hu
  | str hu hs => constructor <;> rintro rfl <;> simp [Try.underlying33, Try.underlying31] at hu
  | arr hu hl hp ih => constructor <;> rintro rfl <;> simp [Try.underlying33, Try.underlying31] at hu
  | @sl t e xs hu hl hx ih =>
    constructor
    · rintro rfl; simp [Try.underlying33] at hu
    · rintro rfl
      rw [Try.underlying31] at hu
      cases hu
      have : ∀ zs : List (List DC), (∀ z, z ∈ zs → ∃ a, z = eArr a ∧ Fine a) → ∃ l, zs = l.map eArr ∧ Fines l := by
        intro zs
        induction zs with
        | nil => intro _; exact ⟨[], rfl, by rw [Fines]; trivial⟩
        | cons z zs ihz =>
          intro hz
          obtain ⟨l, rfl, hl⟩ := ihz fun y hy => hz y (List.mem_cons_of_mem _ hy)
          obtain ⟨a, rfl, ha⟩ := hz z (by simp)
          exact ⟨a :: l, rfl, by rw [Fines]; exact ⟨ha, hl⟩⟩
      obtain ⟨l, rfl, hf⟩ := this xs fun x hm => (ih x hm).1 rfl
      exact ⟨l, rfl, hf, by simpa using hl⟩
  | @st t fs parts hu hl hp ih =>
    constructor
    · rintro rfl
      rw [Try.underlying33] at hu
      cases hu
      obtain ⟨p0, p1, p2, p3, rfl⟩ := four hl
      obtain ⟨a, rfl, _⟩ := (hp 0 _ _ rfl rfl).int_inv Try.underlying29
      obtain ⟨s, rfl, hs⟩ := read_ints (hp 1 _ _ rfl rfl)
      obtain ⟨n, rfl, hn⟩ := read_ints (hp 2 _ _ rfl rfl)
      obtain ⟨l, rfl, hf, hll⟩ := (ih 3 _ _ rfl rfl).2 rfl
      have hm := max_le
      refine ⟨.mk a s n l, ?_, ?_⟩
      · rw [eArr, eArrs_map]; rfl
      · rw [Fine]; exact ⟨by omega, by omega, by omega, hf⟩
    · rintro rfl; simp [Try.underlying31] at hu
theorem read_arr {ys : List DC} (h : Typed Try.prog 33 ys) : ∃ a, ys = eArr a ∧ Fine a := (read_both h).1 rfl

theorem agg3 : aggB Try.prog 3 = false := by simp [aggB, Try.underlying3]
theorem agg22 : aggB Try.prog 22 = false := by simp [aggB, Try.underlying22]
theorem agg33 : aggB Try.prog 33 = true := by simp [aggB, Try.underlying33]

theorem three_ints {f : Nat} (h : ∀ k a b, Gives Try.prog f [.c (eInt k), .c (eInt a), .c (eInt b)] (rBool true)) (yss : List (List DC)) (hy : All2 (fun t ys => Typed Try.prog t ys) [22, 3, 3] yss) : Gives Try.prog f (handedAll Try.prog [22, 3, 3] yss) (rBool true) := by
  cases hy with
  | cons h1 h2 =>
    cases h2 with
    | cons h2 h3 =>
      cases h3 with
      | cons h3 h4 =>
        cases h4
        obtain ⟨k, rfl, _⟩ := h1.int_inv Try.underlying22
        obtain ⟨a, rfl, _⟩ := h2.int_inv Try.underlying3
        obtain ⟨b, rfl, _⟩ := h3.int_inv Try.underlying3
        simp only [handedAll, handed, agg22, agg3]
        exact h k a b
theorem two_ints {f : Nat} (h : ∀ a b, Gives Try.prog f [.c (eInt a), .c (eInt b)] (rBool true)) (yss : List (List DC)) (hy : All2 (fun t ys => Typed Try.prog t ys) [3, 3] yss) : Gives Try.prog f (handedAll Try.prog [3, 3] yss) (rBool true) := by
  cases hy with
  | cons h2 h3 =>
    cases h3 with
    | cons h3 h4 =>
      cases h4
      obtain ⟨a, rfl, _⟩ := h2.int_inv Try.underlying3
      obtain ⟨b, rfl, _⟩ := h3.int_inv Try.underlying3
      simp only [handedAll, handed, agg3]
      exact h a b
theorem int_arrs {f : Nat} (h : ∀ k x y, Fine x → Fine y → Gives Try.prog f [.c (eInt k), .agg (eArr x), .agg (eArr y)] (rBool true)) (yss : List (List DC)) (hy : All2 (fun t ys => Typed Try.prog t ys) [22, 33, 33] yss) : Gives Try.prog f (handedAll Try.prog [22, 33, 33] yss) (rBool true) := by
  cases hy with
  | cons h1 h2 =>
    cases h2 with
    | cons h2 h3 =>
      cases h3 with
      | cons h3 h4 =>
        cases h4
        obtain ⟨k, rfl, _⟩ := h1.int_inv Try.underlying22
        obtain ⟨x, rfl, hx⟩ := read_arr h2
        obtain ⟨y, rfl, hy⟩ := read_arr h3
        simp only [handedAll, handed, agg22, agg33]
        exact h k x y hx hy
end Go.Proofs.Ytncglcfhbhbaoaa
