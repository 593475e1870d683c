/-
  What the arguments of layer 41 read as.
-/
import Derived.Test.YtkkkdfhnpamnkaaDoorW22
import Derived.Test.YtkkkdfhnpamnkaaDoorAbsW
set_option linter.unusedSimpArgs false
set_option linter.unusedVariables false
set_option maxRecDepth 100000
set_option maxHeartbeats 4000000
namespace Go.Proofs.YtkkkdfhnpamnkaaDoor
open Go.Abs Go

theorem wf64_of {n : Int} (h : (Lit.int .i64 n).wf = true) : wf64 n := by
  simp [Lit.wf, IntKind.min, IntKind.max, IntKind.signed, IntKind.bits] at h
  unfold wf64
  omega
theorem read_ints {ys : List DC} (h : Typed Tryd.prog 23 ys) : ∃ l, ys = [.sl (eInts l)] ∧ l.length ≤ maxLen := by
  obtain ⟨xs, rfl, hl, hx⟩ := h.sl_inv Tryd.underlying23
  have : ∀ xs : List (List DC), (∀ x, x ∈ xs → Typed Tryd.prog 3 x) → ∃ l, xs = eInts l := by
    intro xs
    induction xs with
    | nil => intro _; exact ⟨[], rfl⟩
    | cons x xs ih =>
      intro hx
      obtain ⟨l, rfl⟩ := ih fun y hy => hx y (List.mem_cons_of_mem _ hy)
      obtain ⟨n, rfl, hn⟩ := (hx x (by simp)).int_inv Tryd.underlying3
      exact ⟨n :: l, rfl⟩
  obtain ⟨l, rfl⟩ := this xs hx
  exact ⟨l, rfl, by simpa [eInts] using hl⟩
theorem four {α : Type} {l : List α} (h : l.length = 4) : ∃ a b c d, l = [a, b, c, d] := by
  match l, h with
  | [a, b, c, d], _ => exact ⟨a, b, c, d, rfl⟩
theorem max_le : maxLen ≤ 9223372036854775807 := by unfold maxLen; decide
theorem read_both {t : TypeId} {ys : List DC} (h : Typed Tryd.prog t ys) : (t = 26 → ∃ a, ys = eArr a ∧ Fine a) ∧ (t = 24 → ∃ l, ys = [.sl (l.map eArr)] ∧ Fines l ∧ l.length ≤ maxLen) := by
  induction h with
  | int hu hw => constructor <;> rintro rfl <;> simp [Tryd.underlying26, Tryd.underlying24] at hu
  | bool hu => constructor <;> rintro rfl <;> simp [Tryd.underlying26, Tryd.underlying24] at hu
  | str hu hs => constructor <;> rintro rfl <;> simp [Tryd.underlying26, Tryd.underlying24] at hu
  | arr hu hl hp ih => constructor <;> rintro rfl <;> simp [Tryd.underlying26, Tryd.underlying24] at hu
  | @sl t e xs hu hl hx ih =>
    constructor
    · rintro rfl; simp [Tryd.underlying26] at hu
    · rintro rfl
      rw [Tryd.underlying24] at hu
      cases hu
      have : ∀ zs : List (List DC), (∀ z, z ∈ zs → ∃ a, z = eArr a ∧ Fine a) → ∃ l, zs = l.map eArr ∧ Fines l := by
        intro zs
        induction zs with
        | nil => intro _; exact ⟨[], rfl, by rw [Fines]; trivial⟩
        | cons z zs ihz =>
          intro hz
          obtain ⟨l, rfl, hl⟩ := ihz fun y hy => hz y (List.mem_cons_of_mem _ hy)
          obtain ⟨a, rfl, ha⟩ := hz z (by simp)
          exact ⟨a :: l, rfl, by rw [Fines]; exact ⟨ha, hl⟩⟩
      obtain ⟨l, rfl, hf⟩ := this xs fun x hm => (ih x hm).1 rfl
      exact ⟨l, rfl, hf, by simpa using hl⟩
  | @st t fs parts hu hl hp ih =>
    constructor
    · rintro rfl
      rw [Tryd.underlying26] at hu
      cases hu
      obtain ⟨p0, p1, p2, p3, rfl⟩ := four hl
      obtain ⟨a, rfl, _⟩ := (hp 0 _ _ rfl rfl).int_inv Tryd.underlying22
      obtain ⟨s, rfl, hs⟩ := read_ints (hp 1 _ _ rfl rfl)
      obtain ⟨n, rfl, hn⟩ := read_ints (hp 2 _ _ rfl rfl)
      obtain ⟨l, rfl, hf, hll⟩ := (ih 3 _ _ rfl rfl).2 rfl
      have hm := max_le
      refine ⟨.mk a s n l, ?_, ?_⟩
      · rw [eArr, eArrs_map]; rfl
      · rw [Fine]; exact ⟨by omega, by omega, by omega, hf⟩
    · rintro rfl; simp [Tryd.underlying24] at hu
theorem read_arr {ys : List DC} (h : Typed Tryd.prog 26 ys) : ∃ a, ys = eArr a ∧ Fine a := (read_both h).1 rfl
theorem read_ty {ys : List DC} (h : Typed Tryd.prog 30 ys) : ∃ t, ys = eTy t ∧ GoodT t := by
  obtain ⟨parts, rfl, hl, hp⟩ := h.st_inv Tryd.underlying30
  obtain ⟨p0, p1, p2, p3, rfl⟩ := four hl
  obtain ⟨a, rfl, ha⟩ := (hp 0 _ _ rfl rfl).int_inv Tryd.underlying3
  obtain ⟨b, rfl, hb⟩ := (hp 1 _ _ rfl rfl).int_inv Tryd.underlying3
  obtain ⟨s, rfl, hs⟩ := read_ints (hp 2 _ _ rfl rfl)
  obtain ⟨l, rfl, hf, hll⟩ := (read_both (hp 3 _ _ rfl rfl)).2 rfl
  have hm := max_le
  exact ⟨⟨a, b, s, l⟩, rfl, ⟨by show s.length ≤ _; omega, by show l.length ≤ _; omega, fun x hx => Fines.mem hf hx, wf64_of ha, wf64_of hb⟩⟩
theorem agg26 : aggB Tryd.prog 26 = true := by simp [aggB, Tryd.underlying26]
theorem agg30 : aggB Tryd.prog 30 = true := by simp [aggB, Tryd.underlying30]
theorem ty_arr {f : Nat} (h : ∀ t x, GoodT t → Fine x → Gives Tryd.prog f [.agg (eTy t), .agg (eArr x)] (rBool true)) (yss : List (List DC)) (hy : All2 (fun t ys => Typed Tryd.prog t ys) [30, 26] yss) : Gives Tryd.prog f (handedAll Tryd.prog [30, 26] yss) (rBool true) := by
  cases hy with
  | cons h1 h2 =>
    cases h2 with
    | cons h2 h3 =>
      cases h3
      obtain ⟨t, rfl, ht⟩ := read_ty h1
      obtain ⟨x, rfl, hx⟩ := read_arr h2
      simp only [handedAll, handed, agg26, agg30]
      exact h t x ht hx
theorem one_arr {f : Nat} (h : ∀ x, Fine x → Gives Tryd.prog f [.agg (eArr x)] (rBool true)) (yss : List (List DC)) (hy : All2 (fun t ys => Typed Tryd.prog t ys) [26] yss) : Gives Tryd.prog f (handedAll Tryd.prog [26] yss) (rBool true) := by
  cases hy with
  | cons h1 h2 =>
    cases h2
    obtain ⟨x, rfl, hx⟩ := read_arr h1
    simp only [handedAll, handed, agg26, agg30]
    exact h x hx
theorem two_ty {f : Nat} (h : ∀ a b, GoodT a → GoodT b → Gives Tryd.prog f [.agg (eTy a), .agg (eTy b)] (rBool true)) (yss : List (List DC)) (hy : All2 (fun t ys => Typed Tryd.prog t ys) [30, 30] yss) : Gives Tryd.prog f (handedAll Tryd.prog [30, 30] yss) (rBool true) := by
  cases hy with
  | cons h1 h2 =>
    cases h2 with
    | cons h2 h3 =>
      cases h3
      obtain ⟨a, rfl, ha⟩ := read_ty h1
      obtain ⟨b, rfl, hb⟩ := read_ty h2
      simp only [handedAll, handed, agg26, agg30]
      exact h a b ha hb
theorem three_ty {f : Nat} (h : ∀ a b c, GoodT a → GoodT b → GoodT c → Gives Tryd.prog f [.agg (eTy a), .agg (eTy b), .agg (eTy c)] (rBool true)) (yss : List (List DC)) (hy : All2 (fun t ys => Typed Tryd.prog t ys) [30, 30, 30] yss) : Gives Tryd.prog f (handedAll Tryd.prog [30, 30, 30] yss) (rBool true) := by
  cases hy with
  | cons h1 h2 =>
    cases h2 with
    | cons h2 h3 =>
      cases h3 with
      | cons h3 h4 =>
        cases h4
        obtain ⟨a, rfl, ha⟩ := read_ty h1
        obtain ⟨b, rfl, hb⟩ := read_ty h2
        obtain ⟨c, rfl, hc⟩ := read_ty h3
        simp only [handedAll, handed, agg26, agg30]
        exact h a b c ha hb hc
theorem two_ty_arr {f : Nat} (h : ∀ a b x, GoodT a → GoodT b → Fine x → Gives Tryd.prog f [.agg (eTy a), .agg (eTy b), .agg (eArr x)] (rBool true)) (yss : List (List DC)) (hy : All2 (fun t ys => Typed Tryd.prog t ys) [30, 30, 26] yss) : Gives Tryd.prog f (handedAll Tryd.prog [30, 30, 26] yss) (rBool true) := by
  cases hy with
  | cons h1 h2 =>
    cases h2 with
    | cons h2 h3 =>
      cases h3 with
      | cons h3 h4 =>
        cases h4
        obtain ⟨a, rfl, ha⟩ := read_ty h1
        obtain ⟨b, rfl, hb⟩ := read_ty h2
        obtain ⟨x, rfl, hx⟩ := read_arr h3
        simp only [handedAll, handed, agg26, agg30]
        exact h a b x ha hb hx
end Go.Proofs.YtkkkdfhnpamnkaaDoor
