/-
  Literals: the reference's Decode is the decoding of the language, but for what is no encoding.
-/
import Derived.Test.YtldgcpdpebhndaaDoorW14
set_option linter.unusedSimpArgs false
set_option linter.unusedVariables false
set_option maxRecDepth 100000
set_option maxHeartbeats 4000000
namespace Go.Proofs.YtldgcpdpebhndaaDoor
open Go.Abs Go

def szN (n : Nat) : Nat := if n < 128 then 1 else if n < 2048 then 2 else if n < 65536 then 3 else 4
theorem enc_sz {n : Nat} (h : isR (n : Int) = true) : (Utf8.encode (n : Int)).size = szN n := by
  have hv := valid_of h
  unfold Utf8.encode szN
  simp only [hv, if_true, Int.toNat_natCast]
  repeat' split
  all_goals first | rfl | (exfalso; omega)
def finN (n many : Nat) : Nat × Nat := if (n ≤ 1114111 ∧ (n < 55296 ∨ n > 57343)) ∧ szN n = many then (n, many) else (0, 0)
theorem fin_eq (n many : Nat) : finD n many = finN n many := by
  unfold finD finN
  by_cases h : isR (n : Int) = true
  · have h2 := isR_iff.1 h
    rw [enc_sz h]
    by_cases hz : szN n = many
    · rw [if_pos ⟨h, hz⟩, if_pos ⟨by omega, hz⟩]
    · rw [if_neg (fun x => hz x.2), if_neg (fun x => hz x.2)]
  · rw [if_neg (fun x => h x.1), if_neg]
    rintro ⟨h1, _⟩
    exact h (isR_iff.2 (by omega))
def goodD (p : Nat × Nat) : Nat × Nat := if p.1 = 65533 ∧ p.2 = 1 then (0, 0) else p
def ref2 (n b0 b1 : Nat) : Nat × Nat := if n < 2 then (0, 0) else if b1 < 128 ∨ 192 ≤ b1 then (0, 0) else finN ((b0 - 192) * 64 + b1 - 128) 2
def ref3 (n b0 b1 b2 : Nat) : Nat × Nat := if n < 3 then (0, 0) else if b1 < 128 ∨ 192 ≤ b1 then (0, 0) else if b2 < 128 ∨ 192 ≤ b2 then (0, 0) else finN (((b0 - 224) * 64 + b1 - 128) * 64 + b2 - 128) 3
def ref4 (n b0 b1 b2 b3 : Nat) : Nat × Nat := if n < 4 then (0, 0) else if b1 < 128 ∨ 192 ≤ b1 then (0, 0) else if b2 < 128 ∨ 192 ≤ b2 then (0, 0) else if b3 < 128 ∨ 192 ≤ b3 then (0, 0)
  else finN ((((b0 - 240) * 64 + b1 - 128) * 64 + b2 - 128) * 64 + b3 - 128) 4
theorem ref2_eq (n b0 b1 b2 b3 : Nat) (h0 : 192 ≤ b0 ∧ b0 < 224) (h1 : b1 < 256) (hn : 1 ≤ n) : ref2 n b0 b1 = goodD (Lib.decodeN n b0 b1 b2 b3) := by
  unfold ref2 goodD Lib.decodeN finN szN
  repeat' split
  all_goals first | rfl | (exfalso; simp only at *; omega) | (apply Prod.ext <;> simp only <;> omega)
theorem bad3 (n b0 b1 b2 b3 : Nat) (h0 : 224 ≤ b0 ∧ b0 < 240) (h : ¬ ((1 < n ∧ b1 / 64 = 2) ∧ (2 < n ∧ b2 / 64 = 2))) : Lib.decodeN n b0 b1 b2 b3 = (65533, 1) := by
  unfold Lib.decodeN
  rw [if_neg (by omega), if_neg (by omega), if_neg (fun x => h x.2), if_neg (by omega)]
theorem bad4 (n b0 b1 b2 b3 : Nat) (h0 : 240 ≤ b0 ∧ b0 < 248) (h : ¬ ((1 < n ∧ b1 / 64 = 2) ∧ (2 < n ∧ b2 / 64 = 2) ∧ (3 < n ∧ b3 / 64 = 2))) : Lib.decodeN n b0 b1 b2 b3 = (65533, 1) := by
  unfold Lib.decodeN
  rw [if_neg (by omega), if_neg (by omega), if_neg (by omega), if_neg (fun x => h x.2)]
theorem ref3_eq (n b0 b1 b2 b3 : Nat) (h0 : 224 ≤ b0 ∧ b0 < 240) (h1 : b1 < 256) (h2 : b2 < 256) : ref3 n b0 b1 b2 = goodD (Lib.decodeN n b0 b1 b2 b3) := by
  unfold ref3
  by_cases c0 : n < 3
  · rw [if_pos c0, bad3 n b0 b1 b2 b3 h0 (by omega)]; rfl
  rw [if_neg c0]
  by_cases c1 : b1 < 128 ∨ 192 ≤ b1
  · rw [if_pos c1, bad3 n b0 b1 b2 b3 h0 (by omega)]; rfl
  rw [if_neg c1]
  by_cases c2 : b2 < 128 ∨ 192 ≤ b2
  · rw [if_pos c2, bad3 n b0 b1 b2 b3 h0 (by omega)]; rfl
  rw [if_neg c2]
  have hv : ((b0 - 224) * 64 + b1 - 128) * 64 + b2 - 128 = b0 % 16 * 4096 + b1 % 64 * 64 + b2 % 64 := by omega
  rw [hv]
  unfold Lib.decodeN
  rw [if_neg (by omega), if_neg (by omega), if_pos (by omega)]
  have hlt : b0 % 16 * 4096 + b1 % 64 * 64 + b2 % 64 < 65536 := by omega
  generalize b0 % 16 * 4096 + b1 % 64 * 64 + b2 % 64 = v at hlt
  unfold finN szN
  by_cases c3 : v ≥ 2048 ∧ (v < 55296 ∨ (57344 ≤ v ∧ v ≤ 1114111))
  · rw [if_pos c3, if_pos]
    · unfold goodD; rw [if_neg (by simp)]
    · refine ⟨by omega, ?_⟩
      rw [if_neg (by omega), if_neg (by omega), if_pos (by omega)]
  · rw [if_neg c3, if_neg]
    · rfl
    · rintro ⟨x1, x2⟩
      split at x2
      · omega
      split at x2
      · omega
      · omega
theorem ref4_eq (n b0 b1 b2 b3 : Nat) (h0 : 240 ≤ b0 ∧ b0 < 248) (h1 : b1 < 256) (h2 : b2 < 256) (h3 : b3 < 256) : ref4 n b0 b1 b2 b3 = goodD (Lib.decodeN n b0 b1 b2 b3) := by
  unfold ref4
  by_cases c0 : n < 4
  · rw [if_pos c0, bad4 n b0 b1 b2 b3 h0 (by omega)]; rfl
  rw [if_neg c0]
  by_cases c1 : b1 < 128 ∨ 192 ≤ b1
  · rw [if_pos c1, bad4 n b0 b1 b2 b3 h0 (by omega)]; rfl
  rw [if_neg c1]
  by_cases c2 : b2 < 128 ∨ 192 ≤ b2
  · rw [if_pos c2, bad4 n b0 b1 b2 b3 h0 (by omega)]; rfl
  rw [if_neg c2]
  by_cases c3 : b3 < 128 ∨ 192 ≤ b3
  · rw [if_pos c3, bad4 n b0 b1 b2 b3 h0 (by omega)]; rfl
  rw [if_neg c3]
  have hv : (((b0 - 240) * 64 + b1 - 128) * 64 + b2 - 128) * 64 + b3 - 128 = b0 % 8 * 262144 + b1 % 64 * 4096 + b2 % 64 * 64 + b3 % 64 := by omega
  rw [hv]
  unfold Lib.decodeN
  rw [if_neg (by omega), if_neg (by omega), if_neg (by omega), if_pos (by omega)]
  generalize b0 % 8 * 262144 + b1 % 64 * 4096 + b2 % 64 * 64 + b3 % 64 = v
  unfold finN szN
  by_cases c4 : v ≥ 65536 ∧ (v < 55296 ∨ (57344 ≤ v ∧ v ≤ 1114111))
  · rw [if_pos c4, if_pos]
    · unfold goodD; rw [if_neg (by simp)]
    · refine ⟨by omega, ?_⟩
      rw [if_neg (by omega), if_neg (by omega), if_neg (by omega)]
  · rw [if_neg c4, if_neg]
    · rfl
    · rintro ⟨x1, x2⟩
      split at x2
      · omega
      split at x2
      · omega
      split at x2
      · omega
      · omega
theorem refD_eq (s : ByteArray) (i : Nat) (h : i < s.size) : refD s i = goodD (Utf8.decode s i) := by
  rw [Lib.decode_at]
  have h0 : at' s i < 256 := UInt8.toNat_lt _
  have h1 : at' s (i + 1) < 256 := UInt8.toNat_lt _
  have h2 : at' s (i + 2) < 256 := UInt8.toNat_lt _
  have h3 : at' s (i + 3) < 256 := UInt8.toNat_lt _
  show refD s i = goodD (Lib.decodeN (s.size - i) (at' s i) (at' s (i + 1)) (at' s (i + 2)) (at' s (i + 3)))
  unfold refD
  by_cases c : at' s i < 128
  · rw [if_pos c]
    unfold Lib.decodeN goodD
    rw [if_pos c, if_neg (by simp only; omega)]
  rw [if_neg c]
  rcases cls_cases (at' s i) with ⟨c1, c2, hc⟩ | ⟨c1, c2, hc⟩ | ⟨c1, c2, hc⟩ | ⟨c1, hc⟩
  · rw [hc, ← ref2_eq _ _ _ _ _ ⟨c1, c2⟩ h1 (by omega), ref2]
    by_cases z : s.size - i < 2
    · rw [if_pos (by simp only; omega), if_pos z]
    · rw [if_neg (by simp only; omega), if_neg z]
      simp only [refTail, fin_eq]
  · rw [hc, ← ref3_eq _ _ _ _ _ ⟨c1, c2⟩ h1 h2, ref3]
    by_cases z : s.size - i < 3
    · rw [if_pos (by simp only; omega), if_pos z]
    · rw [if_neg (by simp only; omega), if_neg z]
      simp only [refTail, fin_eq]
  · rw [hc, ← ref4_eq _ _ _ _ _ ⟨c1, c2⟩ h1 h2 h3, ref4]
    by_cases z : s.size - i < 4
    · rw [if_pos (by simp only; omega), if_pos z]
    · rw [if_neg (by simp only; omega), if_neg z]
      simp only [refTail, fin_eq]
  · rw [hc, if_pos (.inl rfl)]
    unfold Lib.decodeN
    rw [if_neg c, if_neg (by omega), if_neg (by omega), if_neg (by omega)]
    rfl
end Go.Proofs.YtldgcpdpebhndaaDoor
