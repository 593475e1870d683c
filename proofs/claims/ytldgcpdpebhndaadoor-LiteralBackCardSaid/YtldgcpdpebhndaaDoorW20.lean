/-
  Literals: what is written is read back, in plain words.
-/
import Derived.Test.YtldgcpdpebhndaaDoorW18
set_option linter.unusedSimpArgs false
set_option linter.unusedVariables false
set_option maxRecDepth 100000
set_option maxHeartbeats 4000000
namespace Go.Proofs.YtldgcpdpebhndaaDoor
open Go.Abs Go

/-- These bytes stand from a place on. -/
def has (u : ByteArray) (i : Nat) (l : List UInt8) : Prop := ∀ (j : Nat) (b : UInt8), l[j]? = some b → i + j < u.size ∧ at' u (i + j) = b.toNat
theorem has_cons {u : ByteArray} {i : Nat} {b : UInt8} {l : List UInt8} : has u i (b :: l) ↔ (i < u.size ∧ at' u i = b.toNat) ∧ has u (i + 1) l := by
  constructor
  · intro h
    exact ⟨h 0 b rfl, fun j c hj => by rw [show i + 1 + j = i + (j + 1) by omega]; exact h (j + 1) c hj⟩
  · rintro ⟨h1, h2⟩ j c hj
    cases j with
    | zero => cases hj; exact h1
    | succ j => rw [show i + (j + 1) = i + 1 + j by omega]; exact h2 j c hj
theorem has_nil {u : ByteArray} {i : Nat} : has u i [] := fun j b h => by simp at h
theorem has_app {u : ByteArray} : ∀ {l m : List UInt8} {i : Nat}, has u i (l ++ m) ↔ has u i l ∧ has u (i + l.length) m
  | [], m, i => by simp [has_nil]
  | b :: l, m, i => by
    rw [List.cons_append, has_cons, has_cons, has_app (l := l) (m := m) (i := i + 1), List.length_cons, show i + 1 + l.length = i + (l.length + 1) by omega]
    simp only [and_assoc]
theorem at_bA {L : List UInt8} {i : Nat} {b : UInt8} (h : L[i]? = some b) : i < (bA L).size ∧ at' (bA L) i = b.toNat := by
  obtain ⟨h1, h2⟩ := List.getElem?_eq_some_iff.1 h
  refine ⟨by rw [bA_size]; exact h1, ?_⟩
  have := byte_at (s := bA L) (i := i) (by rw [bA_size]; exact h1)
  have h3 : (bA L).data.toList[i]? = some b := by unfold bA; simpa using h
  rw [this] at h3
  cases h3; rfl
theorem has_bA (pre mid post : List UInt8) : has (bA (pre ++ mid ++ post)) pre.length mid := by
  intro j b hj
  have hl := (List.getElem?_eq_some_iff.1 hj).1
  refine at_bA ?_
  rw [List.append_assoc, List.getElem?_append_right (by omega), List.getElem?_append_left (by omega)]
  rw [show pre.length + j - pre.length = j by omega]
  exact hj

def eb (n : Nat) : List UInt8 := (Utf8.encode (n : Int)).data.toList
theorem eb1 {n : Nat} (h : n < 128) : eb n = [UInt8.ofNat n] := by
  have hv : Utf8.valid (n : Int) = true := valid_of (isR_iff.2 (by omega))
  unfold eb Utf8.encode
  simp only [hv, if_true, Int.toNat_natCast]
  rw [if_pos h]
theorem eb2 {n : Nat} (h0 : ¬ n < 128) (h : n < 2048) : eb n = [UInt8.ofNat (192 + n / 64), UInt8.ofNat (128 + n % 64)] := by
  have hv : Utf8.valid (n : Int) = true := valid_of (isR_iff.2 (by omega))
  unfold eb Utf8.encode
  simp only [hv, if_true, Int.toNat_natCast]
  rw [if_neg h0, if_pos h]
theorem eb3 {n : Nat} (hr : isR n = true) (h0 : ¬ n < 2048) (h : n < 65536) : eb n = [UInt8.ofNat (224 + n / 4096), UInt8.ofNat (128 + n / 64 % 64), UInt8.ofNat (128 + n % 64)] := by
  have hv : Utf8.valid (n : Int) = true := valid_of hr
  unfold eb Utf8.encode
  simp only [hv, if_true, Int.toNat_natCast]
  rw [if_neg (by omega), if_neg h0, if_pos h]
theorem eb4 {n : Nat} (hr : isR n = true) (h0 : ¬ n < 65536) : eb n = [UInt8.ofNat (240 + n / 262144), UInt8.ofNat (128 + n / 4096 % 64), UInt8.ofNat (128 + n / 64 % 64), UInt8.ofNat (128 + n % 64)] := by
  have hv : Utf8.valid (n : Int) = true := valid_of hr
  unfold eb Utf8.encode
  simp only [hv, if_true, Int.toNat_natCast]
  rw [if_neg (by omega), if_neg (by omega), if_neg h0]
theorem nat8 {v : Nat} (h : v < 256) : (UInt8.ofNat v).toNat = v := by simp; omega
theorem dN2 {k n b2 b3 : Nat} (hk : 1 < k) (c1 : ¬ n < 128) (c2 : n < 2048) : Lib.decodeN k (192 + n / 64) (128 + n % 64) b2 b3 = (n, 2) := by
  unfold Lib.decodeN
  rw [if_neg (by omega), if_pos (by omega), if_pos (by omega)]
  exact Prod.ext (by show _ = n; omega) rfl
theorem dN3 {k n b3 : Nat} (hk : 2 < k) (hr : n < 55296 ∨ n > 57343) (c1 : ¬ n < 2048) (c2 : n < 65536) : Lib.decodeN k (224 + n / 4096) (128 + n / 64 % 64) (128 + n % 64) b3 = (n, 3) := by
  unfold Lib.decodeN
  rw [if_neg (by omega), if_neg (by omega), if_pos (by omega), if_pos (by omega)]
  exact Prod.ext (by show _ = n; omega) rfl
theorem dN4 {k n : Nat} (hk : 3 < k) (hr : n ≤ 1114111) (c1 : ¬ n < 65536) : Lib.decodeN k (240 + n / 262144) (128 + n / 4096 % 64) (128 + n / 64 % 64) (128 + n % 64) = (n, 4) := by
  unfold Lib.decodeN
  rw [if_neg (by omega), if_neg (by omega), if_neg (by omega), if_pos (by omega), if_pos (by omega)]
  exact Prod.ext (by show _ = n; omega) rfl
def firstB (u : ByteArray) (i n : Nat) : Prop := i < u.size ∧ ((n < 128 ∧ at' u i = n) ∨ (128 ≤ n ∧ 192 ≤ at' u i))
theorem dec1 {u : ByteArray} {i n : Nat} (c1 : n < 128) (h : has u i (eb n)) : Utf8.decode u i = (n, (eb n).length) ∧ firstB u i n := by
  rw [eb1 c1] at h ⊢
  obtain ⟨h1, h2⟩ := h 0 _ rfl
  rw [Nat.add_zero] at h1 h2
  rw [nat8 (by omega)] at h2
  refine ⟨?_, h1, .inl ⟨c1, h2⟩⟩
  rw [Lib.decode_at]
  show Lib.decodeN _ (at' u i) _ _ _ = _
  unfold Lib.decodeN
  rw [if_pos (by omega), h2]; rfl
theorem dec2 {u : ByteArray} {i n : Nat} (c1 : ¬ n < 128) (c2 : n < 2048) (h : has u i (eb n)) : Utf8.decode u i = (n, (eb n).length) ∧ firstB u i n := by
  rw [eb2 c1 c2] at h ⊢
  obtain ⟨h1, h2⟩ := h 0 _ rfl
  obtain ⟨h3, h4⟩ := h 1 _ rfl
  rw [Nat.add_zero] at h1 h2
  rw [nat8 (by omega)] at h2 h4
  refine ⟨?_, h1, .inr ⟨by omega, by omega⟩⟩
  rw [Lib.decode_at]
  show Lib.decodeN _ (at' u i) (at' u (i + 1)) _ _ = _
  rw [h2, h4]
  exact dN2 (by omega) c1 c2
theorem dec3 {u : ByteArray} {i n : Nat} (hr : isR n = true) (c1 : ¬ n < 2048) (c2 : n < 65536) (h : has u i (eb n)) : Utf8.decode u i = (n, (eb n).length) ∧ firstB u i n := by
  have hr' := isR_iff.1 hr
  rw [eb3 hr c1 c2] at h ⊢
  obtain ⟨h1, h2⟩ := h 0 _ rfl
  obtain ⟨h3, h4⟩ := h 1 _ rfl
  obtain ⟨h5, h6⟩ := h 2 _ rfl
  rw [Nat.add_zero] at h1 h2
  rw [nat8 (by omega)] at h2 h4 h6
  refine ⟨?_, h1, .inr ⟨by omega, by omega⟩⟩
  rw [Lib.decode_at]
  show Lib.decodeN _ (at' u i) (at' u (i + 1)) (at' u (i + 2)) _ = _
  rw [h2, h4, h6]
  exact dN3 (by omega) (by omega) c1 c2
theorem dec4 {u : ByteArray} {i n : Nat} (hr : isR n = true) (c1 : ¬ n < 65536) (h : has u i (eb n)) : Utf8.decode u i = (n, (eb n).length) ∧ firstB u i n := by
  have hr' := isR_iff.1 hr
  rw [eb4 hr c1] at h ⊢
  obtain ⟨h1, h2⟩ := h 0 _ rfl
  obtain ⟨h3, h4⟩ := h 1 _ rfl
  obtain ⟨h5, h6⟩ := h 2 _ rfl
  obtain ⟨h7, h8⟩ := h 3 _ rfl
  rw [Nat.add_zero] at h1 h2
  rw [nat8 (by omega)] at h2 h4 h6 h8
  refine ⟨?_, h1, .inr ⟨by omega, by omega⟩⟩
  rw [Lib.decode_at]
  show Lib.decodeN _ (at' u i) (at' u (i + 1)) (at' u (i + 2)) (at' u (i + 3)) = _
  rw [h2, h4, h6, h8]
  exact dN4 (by omega) (by omega) c1
/-- A character is decoded where its encoding stands; the encoding's first byte. -/
theorem dec_enc {u : ByteArray} {i n : Nat} (hr : isR n = true) (h : has u i (eb n)) : Utf8.decode u i = (n, (eb n).length) ∧ firstB u i n := by
  by_cases c1 : n < 128
  · exact dec1 c1 h
  by_cases c2 : n < 2048
  · exact dec2 c1 c2 h
  by_cases c3 : n < 65536
  · exact dec3 hr c2 c3 h
  exact dec4 hr c3 h
end Go.Proofs.YtldgcpdpebhndaaDoor
