/-
  Literals: Utf8.decode, in plain words.
-/
import Derived.Lib.DecodeN
import Derived.Lib.RuneCountTail
import Derived.Test.YtldgcpdpebhndaaDoorULay
set_option linter.unusedSimpArgs false
set_option linter.unusedVariables false
set_option maxRecDepth 100000
set_option maxHeartbeats 4000000
namespace Go.Proofs.YtldgcpdpebhndaaDoor
open Go

theorem decN_props (n b0 b1 b2 b3 : Nat) (h0 : b0 < 256) (hn : 1 ≤ n) : 1 ≤ (Lib.decodeN n b0 b1 b2 b3).2 ∧ (Lib.decodeN n b0 b1 b2 b3).2 ≤ 4 ∧ (Lib.decodeN n b0 b1 b2 b3).2 ≤ n ∧ ((Lib.decodeN n b0 b1 b2 b3).1 < 55296 ∨ (57343 < (Lib.decodeN n b0 b1 b2 b3).1 ∧ (Lib.decodeN n b0 b1 b2 b3).1 ≤ 1114111)) := by
  unfold Lib.decodeN
  repeat' split
  all_goals (simp only; omega)
theorem dec_props (s : ByteArray) (i : Nat) (h : i < s.size) : 1 ≤ (Utf8.decode s i).2 ∧ (Utf8.decode s i).2 ≤ 4 ∧ i + (Utf8.decode s i).2 ≤ s.size ∧ ((Utf8.decode s i).1 < 55296 ∨ (57343 < (Utf8.decode s i).1 ∧ (Utf8.decode s i).1 ≤ 1114111)) := by
  rw [Lib.decode_at]
  have := decN_props (s.size - i) (s.get! i).toNat (s.get! (i + 1)).toNat (s.get! (i + 2)).toNat (s.get! (i + 3)).toNat (UInt8.toNat_lt _) (by omega)
  omega
theorem dec_tail (s : ByteArray) (i : Nat) (h : i < s.size) : Lib.decodeGo (s.extract i s.size) = Utf8.decode s i := by
  unfold Lib.decodeGo
  rw [if_neg (by rw [Lib.tail_size]; omega), Lib.tail_decode, Nat.add_zero]
end Go.Proofs.YtldgcpdpebhndaaDoor
