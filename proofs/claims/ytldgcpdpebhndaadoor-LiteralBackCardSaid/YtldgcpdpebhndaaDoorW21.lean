/-
  Literals: a short form is read back.
-/
import Derived.Test.YtldgcpdpebhndaaDoorW20
set_option linter.unusedSimpArgs false
set_option linter.unusedVariables false
set_option maxRecDepth 100000
set_option maxHeartbeats 4000000
namespace Go.Proofs.YtldgcpdpebhndaaDoor
open Go.Abs Go

def sb (n q : Nat) : List UInt8 := (shortS n q).data.toList
def hexL (n : Nat) : List UInt8 := (hexS n).data.toList
theorem sb_len (n q : Nat) : (sb n q).length = (shortS n q).size := rfl
theorem sb_lit {n q : Nat} (h : n = 10 ∨ n = 9 ∨ n = 13 ∨ n = 92 ∨ n = q) (hq : q = 34 ∨ q = 39) : ∃ c : UInt8, sb n q = [92, c] ∧
    (n = 10 ∧ c.toNat = 110 ∨ n = 9 ∧ c.toNat = 116 ∨ n = 13 ∧ c.toNat = 114 ∨ (n = 92 ∨ n = 39 ∨ n = 34) ∧ c.toNat = n) := by
  rcases h with rfl | rfl | rfl | rfl | rfl
  · exact ⟨110, rfl, .inl ⟨rfl, rfl⟩⟩
  · exact ⟨116, rfl, .inr (.inl ⟨rfl, rfl⟩)⟩
  · exact ⟨114, rfl, .inr (.inr (.inl ⟨rfl, rfl⟩))⟩
  · exact ⟨92, rfl, .inr (.inr (.inr ⟨.inl rfl, rfl⟩))⟩
  · rcases hq with rfl | rfl
    · exact ⟨34, rfl, .inr (.inr (.inr ⟨.inr (.inr rfl), rfl⟩))⟩
    · exact ⟨39, rfl, .inr (.inr (.inr ⟨.inr (.inl rfl), rfl⟩))⟩
theorem sb_hex {n q : Nat} (h1 : ¬ (n = 10 ∨ n = 9 ∨ n = 13 ∨ n = 92 ∨ n = q)) (h : n < 32 ∨ n = 127) : sb n q = [92, 117, 123] ++ hexL n ++ [125] := by
  unfold sb shortS
  rw [if_neg (by omega), if_neg (by omega), if_neg (by omega), if_neg (by omega), if_neg (by omega), if_pos h]
  unfold hexL
  rw [ByteArray.data_append, ByteArray.data_append, Array.toList_append, Array.toList_append]
theorem sb_enc {n q : Nat} (h1 : ¬ (n = 10 ∨ n = 9 ∨ n = 13 ∨ n = 92 ∨ n = q)) (h : ¬ (n < 32 ∨ n = 127)) : sb n q = eb n := by
  unfold sb shortS eb
  rw [if_neg (by omega), if_neg (by omega), if_neg (by omega), if_neg (by omega), if_neg (by omega), if_neg h]
theorem hex_one : ∀ k : Fin 16, ∃ c : UInt8, hexL k.val = [c] ∧ digS c.toNat = k.val ∧ c.toNat < 128 := by
  intro k
  have : ∀ k : Fin 16, (hexL k.val == [(hexL k.val).headD 0]) && decide (digS ((hexL k.val).headD 0).toNat = k.val) && decide (((hexL k.val).headD 0).toNat < 128) = true := by decide
  have h := this k
  simp only [Bool.and_eq_true, beq_iff_eq, decide_eq_true_eq] at h
  exact ⟨_, h.1.1, h.1.2, h.2⟩
theorem hex_two : ∀ k : Fin 128, 16 ≤ k.val → ∃ c d : UInt8, hexL k.val = [c, d] ∧ digS c.toNat = (k.val / 16 : Nat) ∧ digS d.toNat = (k.val % 16 : Nat) ∧ c.toNat < 128 ∧ d.toNat < 128 := by
  intro k hk
  have : ∀ k : Fin 128, 16 ≤ k.val → ((hexL k.val == [(hexL k.val).headD 0, (hexL k.val).tail.headD 0]) && decide (digS ((hexL k.val).headD 0).toNat = (k.val / 16 : Nat)) && decide (digS ((hexL k.val).tail.headD 0).toNat = (k.val % 16 : Nat)) && decide (((hexL k.val).headD 0).toNat < 128) && decide (((hexL k.val).tail.headD 0).toNat < 128)) = true := by decide
  have h := this k hk
  simp only [Bool.and_eq_true, beq_iff_eq, decide_eq_true_eq] at h
  exact ⟨_, _, h.1.1.1.1, h.1.1.1.2, h.1.1.2, h.1.2, h.2⟩
theorem scan_hex {u : ByteArray} {i n : Nat} (hn : n < 128) (h : has u i (hexL n ++ [125])) : scanS u 6 i 0 = (n, i + (hexL n).length) ∧ i + (hexL n).length < u.size ∧ at' u (i + (hexL n).length) = 125 ∧ 0 < (hexL n).length ∧ ∀ j, i ≤ j → j < i + (hexL n).length → at' u j < 128 := by
  have hd : digS 125 = -1 := by decide
  by_cases c : n < 16
  · obtain ⟨c1, e1, e2, e3⟩ := hex_one ⟨n, c⟩
    simp only at e1 e2
    rw [e1] at h ⊢
    obtain ⟨h1, h2⟩ := h 0 _ rfl
    obtain ⟨h3, h4⟩ := h 1 _ rfl
    rw [Nat.add_zero] at h1 h2
    have h4 : at' u (i + 1) = 125 := h4
    refine ⟨?_, h3, h4, by simp, fun j hj1 hj2 => ?_⟩
    · rw [scanS, if_pos ⟨h1, by rw [h2, e2]; omega⟩, h2, e2, scanS, if_neg (by rw [h4, hd]; omega)]
      exact Prod.ext (by show 16 * 0 + (n : Int).toNat = n; omega) rfl
    · have : j = i := by simp at hj2; omega
      subst this; omega
  · obtain ⟨c1, c2, e1, e2, e3, e4, e5⟩ := hex_two ⟨n, hn⟩ (by simp only; omega)
    simp only at e1 e2 e3
    rw [e1] at h ⊢
    obtain ⟨h1, h2⟩ := h 0 _ rfl
    obtain ⟨h3, h4⟩ := h 1 _ rfl
    obtain ⟨h5, h6⟩ := h 2 _ rfl
    rw [Nat.add_zero] at h1 h2
    have h6 : at' u (i + 2) = 125 := h6
    refine ⟨?_, h5, h6, by simp, fun j hj1 hj2 => ?_⟩
    · rw [scanS, if_pos ⟨h1, by rw [h2, e2]; omega⟩, h2, e2, scanS, if_pos ⟨h3, by rw [h4, e3]; omega⟩, h4, e3, scanS, if_neg (by rw [show i + 1 + 1 = i + 2 from rfl, h6, hd]; omega)]
      exact Prod.ext (by show 16 * (16 * 0 + ((n / 16 : Nat) : Int).toNat) + ((n % 16 : Nat) : Int).toNat = n; omega) rfl
    · have : j = i ∨ j = i + 1 := by simp at hj2; omega
      rcases this with rfl | rfl
      · omega
      · omega
end Go.Proofs.YtldgcpdpebhndaaDoor
