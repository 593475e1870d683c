/-
  Arrays in plain words: their form, their check, their weight.
-/
import Derived.Test.YtkkkdfhnpamnkaaDoorW1
set_option linter.unusedSimpArgs false
set_option linter.unusedVariables false
set_option maxRecDepth 100000
set_option maxHeartbeats 4000000
namespace Go.Proofs.YtkkkdfhnpamnkaaDoor
open Go.Abs Go

inductive Arr where
  | mk (kind : Int) (shape nums : List Int) (items : List Arr)
def Arr.kind : Arr → Int
  | .mk k _ _ _ => k
def Arr.shape : Arr → List Int
  | .mk _ s _ _ => s
def Arr.nums : Arr → List Int
  | .mk _ _ n _ => n
def Arr.items : Arr → List Arr
  | .mk _ _ _ l => l
mutual
def eArr : Arr → List DC
  | .mk k s n l => [eInt k, .sl (eInts s), .sl (eInts n), .sl (eArrs l)]
def eArrs : List Arr → List (List DC)
  | [] => []
  | a :: l => eArr a :: eArrs l
end
theorem eArrs_map : ∀ l : List Arr, eArrs l = l.map eArr
  | [] => by simp [eArrs]
  | a :: l => by rw [eArrs, eArrs_map l]; rfl
theorem eArr_eq (a : Arr) : eArr a = [eInt a.kind, .sl (eInts a.shape), .sl (eInts a.nums), .sl (a.items.map eArr)] := by
  cases a with
  | mk k s n l => rw [eArr, eArrs_map]; rfl
mutual
def sz : Arr → Nat
  | .mk _ _ _ l => 1 + szs l
def szs : List Arr → Nat
  | [] => 0
  | a :: l => sz a + szs l
end
theorem szs_mem {a : Arr} : ∀ {l : List Arr}, a ∈ l → sz a ≤ szs l
  | [], h => by simp at h
  | b :: l, h => by
    rw [szs]
    simp only [List.mem_cons] at h
    rcases h with rfl | h
    · omega
    · have := szs_mem h; omega
theorem sz_item {a b : Arr} (h : b ∈ a.items) : sz b < sz a := by
  cases a with
  | mk k s n l =>
    have := szs_mem (show b ∈ l from h)
    rw [sz]; omega

/-! ### The check -/
def numB (n : Int) : Bool := decide (n ≥ -4611686018427387903) && decide (n ≤ 4611686018427387903)
def chrB (n : Int) : Bool := (decide (n ≥ 0) && decide (n ≤ 1114111)) && (decide (n < 55296) || decide (n > 57343))
/-- The error of an array's form: its kind, shape, and how many numbers and items it has. -/
def formA (k : Int) (s : List Int) (n m : Nat) : Int :=
  if ¬ (k = 1 ∨ k = 2 ∨ k = 3) then 14 else if 8 < s.length then 15 else if s.any (fun d => decide (d < 0)) then 16 else if rightS s = false then 21
  else if (if k = 3 then (m : Int) else n) ≠ sizeS s ∨ (if k = 3 then (n : Int) else m) ≠ 0 then 16 else 0
def badN (k n : Int) : Bool := (decide (k = 1) && !numB n) || (decide (k = 2) && !chrB n)
mutual
/-- The error of an array, the depth of its boxes, its weight. -/
def chk : Arr → Int × Nat × Nat
  | .mk k s n l => if formA k s n.length l.length ≠ 0 then (formA k s n.length l.length, 0, 0) else if n.any (badN k) then (17, 0, 0) else
      match chks l 0 (n.length + l.length) with
      | none => (17, 0, 0)
      | some (d, w) => if 16 < d ∨ 262144 < w then (21, 0, 0) else (0, d, w)
def chks : List Arr → Nat → Nat → Option (Nat × Nat)
  | [], d, w => some (d, w)
  | a :: l, d, w => if (chk a).1 ≠ 0 then none else chks l (max d ((chk a).2.1 + 1)) (min (w + (chk a).2.2) 262145)
end
/-- The number of elements by the kind. -/
def sizeA (a : Arr) : Nat := if a.kind = 1 ∨ a.kind = 2 then a.nums.length else if a.kind = 3 then a.items.length else 0
mutual
/-- The weight, with those of the items. -/
def wt : Arr → Nat
  | .mk k s n l => min (if k = 3 then wts l l.length else if k = 1 ∨ k = 2 then n.length else 0) 262145
def wts : List Arr → Nat → Nat
  | [], n => n
  | a :: l, n => if n ≤ 262144 then wts l (n + wt a) else n
end

theorem chk_eq (a : Arr) : chk a = if formA a.kind a.shape a.nums.length a.items.length ≠ 0 then (formA a.kind a.shape a.nums.length a.items.length, 0, 0) else if a.nums.any (badN a.kind) then (17, 0, 0) else
      match chks a.items 0 (a.nums.length + a.items.length) with
      | none => (17, 0, 0)
      | some (d, w) => if 16 < d ∨ 262144 < w then (21, 0, 0) else (0, d, w) := by
  cases a with
  | mk k s n l => rw [chk]; rfl
theorem wt_eq (a : Arr) : wt a = min (if a.kind = 3 then wts a.items a.items.length else if a.kind = 1 ∨ a.kind = 2 then a.nums.length else 0) 262145 := by
  cases a with
  | mk k s n l => rw [wt]; rfl
/-- What a right array's form says of its kind. -/
theorem form_zero {k : Int} {s : List Int} {n m : Nat} (h : formA k s n m = 0) : (k = 1 ∨ k = 2 ∨ k = 3) ∧ s.length ≤ 8 ∧ (∀ d, d ∈ s → 0 ≤ d) ∧ rightS s = true ∧ (if k = 3 then (m : Int) else n) = sizeS s ∧ (if k = 3 then (n : Int) else m) = 0 := by
  unfold formA at h
  by_cases h1 : (k = 1 ∨ k = 2 ∨ k = 3)
  · rw [if_neg (fun hc => hc h1)] at h
    by_cases h2 : 8 < s.length
    · rw [if_pos h2] at h; exact absurd h (by decide)
    rw [if_neg h2] at h
    by_cases h3 : (s.any fun d => decide (d < 0)) = true
    · rw [if_pos h3] at h; exact absurd h (by decide)
    rw [if_neg h3] at h
    by_cases h4 : rightS s = false
    · rw [if_pos h4] at h; exact absurd h (by decide)
    rw [if_neg h4] at h
    by_cases h5 : (if k = 3 then (m : Int) else n) ≠ sizeS s ∨ (if k = 3 then (n : Int) else m) ≠ 0
    · rw [if_pos h5] at h; exact absurd h (by decide)
    refine ⟨h1, by omega, fun d hd => ?_, by simpa using h4, Classical.not_not.1 fun hc => h5 (Or.inl hc), Classical.not_not.1 fun hc => h5 (Or.inr hc)⟩
    have : ¬ d < 0 := fun hlt => h3 (List.any_eq_true.2 ⟨d, hd, decide_eq_true hlt⟩)
    omega
  · rw [if_pos h1] at h; exact absurd h (by decide)

theorem wt_le (a : Arr) : wt a ≤ 262145 := by rw [wt_eq]; omega
theorem wts_cap (l : List Arr) {n : Nat} (h : ¬ n ≤ 262144) : wts l n = n := by
  cases l with
  | nil => rw [wts]
  | cons b l => rw [wts, if_neg h]
theorem chks_wts : ∀ (l : List Arr) (d w n : Nat) (d' w' : Nat), (∀ a, a ∈ l → (chk a).1 = 0 → wt a = (chk a).2.2) → min w 262145 = min n 262145 → chks l d w = some (d', w') → min w' 262145 = min (wts l n) 262145
  | [], d, w, n, d', w', _, hw, h => by
    rw [chks] at h
    cases h
    rw [wts]; exact hw
  | a :: l, d, w, n, d', w', ha, hw, h => by
    rw [chks] at h
    by_cases h0 : (chk a).1 = 0
    · rw [if_neg (fun hc => hc h0)] at h
      have hwa := ha a (by simp) h0
      have hwb := wt_le a
      have ha' : ∀ b, b ∈ l → (chk b).1 = 0 → wt b = (chk b).2.2 := fun b hb => ha b (by simp [hb])
      rw [wts]
      by_cases hn : n ≤ 262144
      · rw [if_pos hn]
        exact chks_wts l _ _ _ d' w' ha' (by omega) h
      · rw [if_neg hn]
        have h1 := chks_wts l _ _ 262145 d' w' ha' (by omega) h
        rw [wts_cap l (by omega)] at h1
        omega
    · rw [if_pos h0] at h; cases h
theorem chk_wt : ∀ (m : Nat) (a : Arr), sz a ≤ m → (chk a).1 = 0 → wt a = (chk a).2.2 := by
  intro m
  induction m with
  | zero =>
    intro a h
    cases a with
    | mk k s n l => rw [sz] at h; omega
  | succ m ih =>
    intro a hm h
    rw [chk_eq] at h ⊢
    by_cases h1 : formA a.kind a.shape a.nums.length a.items.length = 0
    · rw [if_neg (fun hc => hc h1)] at h ⊢
      by_cases h2 : (a.nums.any (badN a.kind)) = true
      · rw [if_pos h2] at h; exact absurd h (by decide)
      rw [if_neg h2] at h ⊢
      obtain ⟨f1, f2, f3, f4, f5, f6⟩ := form_zero h1
      cases hc : chks a.items 0 (a.nums.length + a.items.length) with
      | none => rw [hc] at h; exact absurd h (by decide)
      | some p =>
        obtain ⟨d, w⟩ := p
        rw [hc] at h
        simp only at h ⊢
        by_cases h3 : 16 < d ∨ 262144 < w
        · rw [if_pos h3] at h; exact absurd h (by decide)
        rw [if_neg h3]
        simp only
        have hw := chks_wts a.items 0 _ (a.nums.length + a.items.length) d w (fun b hb hb0 => ih b (by have := sz_item hb; omega) hb0) rfl hc
        rw [wt_eq]
        by_cases k3 : a.kind = 3
        · rw [if_pos k3] at f6 ⊢
          have hz : a.nums.length = 0 := by omega
          rw [hz, Nat.zero_add] at hw
          omega
        · rw [if_neg k3] at f6 ⊢
          have hz : a.items = [] := List.length_eq_zero_iff.1 (by omega)
          rw [hz, wts] at hw
          rw [if_pos (by omega)]
          simp only [List.length_nil, Nat.add_zero] at hw
          omega
    · rw [if_pos h1] at h; exact absurd h h1
/-- Whether the weight passes, when all items are right. -/
theorem chks_weight {a : Arr} {d w : Nat} (h1 : formA a.kind a.shape a.nums.length a.items.length = 0) (hc : chks a.items 0 (a.nums.length + a.items.length) = some (d, w)) : (262144 < wt a) ↔ 262144 < w := by
  obtain ⟨f1, f2, f3, f4, f5, f6⟩ := form_zero h1
  have hw := chks_wts a.items 0 _ (a.nums.length + a.items.length) d w (fun b _ hb0 => chk_wt _ b (Nat.le_refl _) hb0) rfl hc
  rw [wt_eq]
  by_cases k3 : a.kind = 3
  · rw [if_pos k3] at f6 ⊢
    have hz : a.nums.length = 0 := by omega
    rw [hz, Nat.zero_add] at hw
    omega
  · rw [if_neg k3] at f6 ⊢
    have hz : a.items = [] := List.length_eq_zero_iff.1 (by omega)
    rw [hz, wts] at hw
    rw [if_pos (by omega)]
    simp only [List.length_nil, Nat.add_zero] at hw
    omega

/-! ### Equality -/
mutual
def eqA : Arr → Arr → Bool
  | .mk k s n l, .mk k' s' n' l' => decide (k = k') && (decide (s = s') && (decide (n = n') && eqAs l l'))
def eqAs : List Arr → List Arr → Bool
  | [], [] => true
  | a :: l, b :: m => eqA a b && eqAs l m
  | _, _ => false
end
theorem eqA_eq (a b : Arr) : eqA a b = (decide (a.kind = b.kind) && (decide (a.shape = b.shape) && (decide (a.nums = b.nums) && eqAs a.items b.items))) := by
  cases a with
  | mk k s n l => cases b with
    | mk k' s' n' l' => rw [eqA]; rfl
theorem eqAs_len : ∀ {l m : List Arr}, l.length ≠ m.length → eqAs l m = false
  | [], [], h => absurd rfl h
  | [], _ :: _, _ => by rw [eqAs]; all_goals simp
  | _ :: _, [], _ => by rw [eqAs]; all_goals simp
  | a :: l, b :: m, h => by rw [eqAs, eqAs_len (by simpa using h)]; simp
theorem eqA_refl : ∀ (m : Nat) (a : Arr), sz a ≤ m → eqA a a = true := by
  intro m
  induction m with
  | zero =>
    intro a h
    cases a with
    | mk k s n l => rw [sz] at h; omega
  | succ m ih =>
    intro a h
    rw [eqA_eq]
    have : ∀ l : List Arr, (∀ b, b ∈ l → sz b ≤ m) → eqAs l l = true := by
      intro l
      induction l with
      | nil => intro _; rw [eqAs]
      | cons b l ihl => intro hl; rw [eqAs, ih b (hl b (by simp)), ihl fun c hc => hl c (by simp [hc])]; rfl
    rw [this a.items fun b hb => by have := sz_item hb; omega]
    simp
theorem eqA_same (a : Arr) : eqA a a = true := eqA_refl _ a (Nat.le_refl _)
end Go.Proofs.YtkkkdfhnpamnkaaDoor
