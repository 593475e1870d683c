/-
  Elementwise application, in plain words.
-/
import Derived.Test.YtncglcfhbhbaoaaW14
set_option linter.unusedSimpArgs false
set_option linter.unusedVariables false
set_option maxRecDepth 100000
set_option maxHeartbeats 4000000
namespace Go.Proofs.Ytncglcfhbhbaoaa
open Go.Abs Go

@[go_sem] def rAE (p : Arr × Int) : Res := .tup [.agg ((eArr p.1).map .d), .c (.d (eInt p.2))]
def zA : Arr := .mk 0 [] [] []
def vals (g : Int → Int → Int × Int) (xs ys : List Int) (n : Nat) : List (Int × Int) := (List.range n).map fun i => g (xs.getD (i / (n / xs.length)) 0) (ys.getD (i / (n / ys.length)) 0)
def firstE : List (Int × Int) → Int
  | [] => 0
  | p :: l => if p.2 ≠ 0 then p.2 else firstE l
def pairG (k p q : Int) : Int → Int → Int × Int := if p = q then binG k else fun _ _ => (tru (decide (k = 12)), 0)
def applyV (s : List Int) (v : List (Int × Int)) : Arr × Int := if firstE v ≠ 0 then (zA, firstE v) else (.mk 1 s (v.map (·.1)) [], 0)
def applyS (k : Int) (x y : Arr) : Arr × Int :=
  if isS k = false ∨ (chk x).1 ≠ 0 ∨ (chk y).1 ≠ 0 then (zA, 1) else if acceptS k x.kind y.kind = false then (zA, 14)
  else if (agreeS x.shape y.shape).2 = false then (zA, 16)
  else applyV (agreeS x.shape y.shape).1 (vals (pairG k x.kind y.kind) x.nums y.nums (prodI (agreeS x.shape y.shape).1).toNat)

theorem agree_parts {a b : List Int} (h : (agreeS a b).2 = true) : ∃ s, agreeS a b = (s, true) ∧ rightS s = true ∧ a.length ≤ s.length ∧ b.length ≤ s.length ∧ s.take a.length = a ∧ s.take b.length = b := by
  rcases Nat.lt_or_ge a.length b.length with hl | hl
  · rw [agree_lt hl] at h ⊢
    unfold agreeG at h ⊢
    split at h
    · rename_i hc
      rw [if_pos hc]
      exact ⟨b, rfl, hc.1, by omega, by omega, hc.2.2, List.take_length⟩
    · exact Bool.noConfusion h
  · rw [agree_le hl] at h ⊢
    unfold agreeG at h ⊢
    split at h
    · rename_i hc
      rw [if_pos hc]
      exact ⟨a, rfl, hc.1, by omega, by omega, List.take_length, hc.2.2⟩
    · exact Bool.noConfusion h
theorem accept_kinds {k p q : Int} (hp : p = 1 ∨ p = 2 ∨ p = 3) (hq : q = 1 ∨ q = 2 ∨ q = 3) (h : acceptS k p q = true) : (p = 1 ∨ p = 2) ∧ (q = 1 ∨ q = 2) := by
  unfold acceptS at h
  split at h
  · simp at h; omega
  · split at h <;> simp at h <;> omega
/-- What the check says of an array of numbers. -/
theorem chk_flat {a : Arr} (h : (chk a).1 = 0) : (a.kind = 1 ∨ a.kind = 2 ∨ a.kind = 3) ∧ rightS a.shape = true ∧ ((a.kind = 1 ∨ a.kind = 2) → (a.nums.length : Int) = prodI a.shape ∧ a.items.length = 0) ∧ (∀ n, n ∈ a.nums → badN a.kind n = false) := by
  rw [chk_eq] at h
  by_cases h1 : formA a.kind a.shape a.nums.length a.items.length = 0
  · rw [if_neg (fun hc => hc h1)] at h
    obtain ⟨f1, f2, f3, f4, f5, f6⟩ := form_zero h1
    refine ⟨f1, f4, fun hk => ?_, fun n hn => ?_⟩
    · have h3 : ¬ a.kind = 3 := by omega
      rw [if_neg h3] at f5 f6
      have : sizeS a.shape = prodI a.shape := by unfold sizeS; rw [if_pos f4]
      omega
    · by_cases h2 : a.nums.any (badN a.kind) = true
      · rw [if_pos h2] at h; exact absurd h (by decide)
      · rw [Bool.not_eq_true, List.any_eq_false] at h2
        simpa using h2 n hn
  · rw [if_pos h1] at h; exact absurd h h1
/-- The part of an agreed shape that one element is repeated for. -/
theorem part_quot {s a : List Int} {xs : List Int} (hs : rightS s = true) (ha : s.take a.length = a) (hx : (xs.length : Int) = prodI a) : ∃ q : Nat, prodI (s.drop a.length) = q ∧ (prodI s).toNat = xs.length * q ∧ (prodI s).toNat ≤ 65536 ∧ ∀ j, j < (prodI s).toNat → 0 < xs.length ∧ 0 < q ∧ (prodI s).toNat / xs.length = q ∧ j / q < xs.length := by
  have hsm := (right_small hs).1
  have hp := hsm.prod
  have hd := (hsm.drop a.length).prod
  have hm : prodI s = prodI a * prodI (s.drop a.length) := by
    conv => lhs; rw [← List.take_append_drop a.length s, prodI_app, ha]
  refine ⟨(prodI (s.drop a.length)).toNat, by omega, ?_, by omega, ?_⟩
  · rw [hm, ← hx]
    generalize prodI (s.drop a.length) = q at *
    obtain ⟨q', rfl⟩ := Int.eq_ofNat_of_zero_le hd.1
    simp only [Int.toNat_natCast, ← Int.natCast_mul]
  · intro j hj
    have hn : (prodI s).toNat = xs.length * (prodI (s.drop a.length)).toNat := by
      rw [hm, ← hx]
      obtain ⟨q', hq'⟩ := Int.eq_ofNat_of_zero_le hd.1
      rw [hq']
      simp only [Int.toNat_natCast, ← Int.natCast_mul]
    rw [hn] at hj ⊢
    have h0 : 0 < xs.length := by
      rcases Nat.eq_zero_or_pos xs.length with h | h
      · rw [h, Nat.zero_mul] at hj; omega
      · exact h
    have h1 : 0 < (prodI (s.drop a.length)).toNat := by
      rcases Nat.eq_zero_or_pos (prodI (s.drop a.length)).toNat with h | h
      · rw [h, Nat.mul_zero] at hj; omega
      · exact h
    exact ⟨h0, h1, Nat.mul_div_cancel_left _ h0, (Nat.div_lt_iff_lt_mul h1).2 hj⟩
theorem vals_len (g : Int → Int → Int × Int) (xs ys : List Int) (n : Nat) : (vals g xs ys n).length = n := by simp [vals]
theorem vals_get (g : Int → Int → Int × Int) {xs ys : List Int} {n j : Nat} (hj : j < n) : (vals g xs ys n)[j]? = some (g (xs.getD (j / (n / xs.length)) 0) (ys.getD (j / (n / ys.length)) 0)) := by simp [vals, hj]
theorem getD_some {l : List Int} {i : Nat} (h : i < l.length) : l[i]? = some (l.getD i 0) := by simp [List.getD, h]
theorem firstE_drop {l : List (Int × Int)} {j : Nat} {p : Int × Int} (h : l[j]? = some p) : firstE (l.drop j) = if p.2 ≠ 0 then p.2 else firstE (l.drop (j + 1)) := by rw [drop_get h, firstE]
theorem quo_nat (a b : Nat) : Int.tdiv (a : Int) (b : Int) = ((a / b : Nat) : Int) := by rw [Int.tdiv_eq_ediv_of_nonneg (by omega)]; exact (Int.natCast_ediv a b).symm
end Go.Proofs.Ytncglcfhbhbaoaa
