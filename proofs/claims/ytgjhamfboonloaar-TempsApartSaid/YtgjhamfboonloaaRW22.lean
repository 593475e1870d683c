/-
  The plain law of layer 49 on buffers: values with a common time have different buffers, and there are as many buffers as values at one time.
-/
import Derived.Test.YtgjhamfboonloaaRW15
set_option linter.unusedSimpArgs false
set_option linter.unusedVariables false
namespace Go.Proofs.YtgjhamfboonloaaR
open Go.Abs Go

theorem lastFrom_ge (v : Int) (i : Int) : ∀ (l : List KOp) (j : Nat) (acc : Int), i ≤ acc → i + 1 ≤ (j : Int) → i ≤ lastFrom v j l acc
  | [], j, acc, h1, h2 => by unfold lastFrom; exact h1
  | o :: l, j, acc, h1, h2 => by
    unfold lastFrom
    refine lastFrom_ge v i l _ _ ?_ (by omega)
    split <;> omega
theorem lastS_ge (k : Kernel) (i : Nat) : (i : Int) ≤ lastS k i := by
  unfold lastS
  exact lastFrom_ge _ _ _ _ _ (Int.le_refl _) (by omega)

def liveB (k : Kernel) (t i : Nat) : Bool := decide ((t : Int) ≤ lastS k i)
def manyTo (k : Kernel) (t : Nat) : Nat → Nat
  | 0 => 0
  | i + 1 => manyTo k t i + (if liveB k t i then 1 else 0)
def mostMany (k : Kernel) : Nat → Int
  | 0 => 0
  | t + 1 => max (mostMany k t) (manyTo k t (t + 1))

theorem manyTo_len (k : Kernel) (t : Nat) : ∀ m, manyTo k t m = ((List.range m).filter (liveB k t)).length
  | 0 => rfl
  | m + 1 => by
    rw [manyTo, List.range_succ, List.filter_append, List.length_append, manyTo_len k t m]
    congr 1
    cases h : liveB k t m <;> simp [h]

theorem bufStep_spec (k : Kernel) (out : List Int) : ∃ b : Nat, bufStep k out = b ∧ confR k out out.length b = false ∧ ∀ d : Nat, d < b → confR k out out.length d = true := by
  have hex : ∃ b : Nat, b ≤ out.length ∧ confR k out out.length b = false := by
    by_cases h : ∃ b : Nat, b ≤ out.length ∧ confR k out out.length b = false
    · exact h
    · exfalso
      have := pigeon (out.length + 1) out fun d hd => by
        have hc : confR k out out.length d = true := by
          cases hb : confR k out out.length d with
          | true => rfl
          | false => exact absurd ⟨d, by omega, hb⟩ h
        exact conf_mem hc
      omega
  obtain ⟨b, hb, hf⟩ := hex
  obtain ⟨j, hj1, hj2, hj3⟩ := least (p := fun d : Nat => confR k out out.length (d : Int)) hf
  refine ⟨j, ?_, hj2, hj3⟩
  unfold bufStep
  exact freeB_eq _ _ 0 j (by omega) (by omega) (fun d _ hd => hj3 d hd) hj2

theorem bufs_prefix (k : Kernel) : ∀ (m i : Nat), i < m → (bufsUpto k m)[i]? = some (bufStep k (bufsUpto k i))
  | 0, i, h => by omega
  | m + 1, i, h => by
    rw [bufsUpto]
    by_cases hi : i = m
    · subst hi
      rw [List.getElem?_append_right (by simp)]
      simp
    · rw [List.getElem?_append_left (by simp; omega)]
      exact bufs_prefix k m i (by omega)

theorem bufs_apart (k : Kernel) (m : Nat) {t i j : Nat} (hi : i < m) (hit : i ≤ t) (hji : j < i) (hlj : (t : Int) ≤ lastS k j) : (bufsUpto k m)[i]? ≠ (bufsUpto k m)[j]? := by
  intro he
  obtain ⟨b, hb, hf, _⟩ := bufStep_spec k (bufsUpto k i)
  rw [bufs_prefix k m i hi, bufs_prefix k m j (by omega), hb] at he
  have hc : confR k (bufsUpto k i) (bufsUpto k i).length b = true := by
    unfold confR
    rw [List.any_eq_true]
    refine ⟨j, by simp; omega, ?_⟩
    unfold confAt
    rw [Bool.and_eq_true, decide_eq_true_iff, decide_eq_true_iff]
    refine ⟨?_, by simp; omega⟩
    rw [bufs_prefix k i j hji, ← he]
  rw [hf] at hc; cases hc

theorem nodup_le : ∀ (n : Nat) (l : List Nat), l.Nodup → (∀ x, x ∈ l → x < n) → l.length ≤ n
  | 0, [], _, _ => Nat.le_refl _
  | 0, x :: l, _, h => by have := h x (by simp); omega
  | n + 1, l, hn, h => by
    by_cases hm : n ∈ l
    · have := nodup_le n (l.erase n) (hn.erase n) fun x hx => by
        obtain ⟨h1, h2⟩ := (hn.mem_erase_iff).1 hx
        have := h x h2; omega
      rw [List.length_erase_of_mem hm] at this
      omega
    · have := nodup_le n l hn fun x hx => by
        have h1 := h x hx
        by_cases hx' : x = n
        · subst hx'; exact absurd hx hm
        · omega
      omega

theorem mostOf_ge (k : Kernel) : ∀ (m i : Nat), i < m → ∃ b : Nat, (bufsUpto k m)[i]? = some (b : Int) ∧ (b : Int) + 1 ≤ mostOf (bufsUpto k m)
  | 0, i, h => by omega
  | m + 1, i, h => by
    rw [bufsUpto, mostOf_snoc]
    by_cases hi : i = m
    · subst hi
      obtain ⟨b, hb, _⟩ := bufStep_spec k (bufsUpto k i)
      refine ⟨b, by rw [List.getElem?_append_right (by simp)]; simp [hb], by rw [hb]; omega⟩
    · obtain ⟨b, h1, h2⟩ := mostOf_ge k m i (by omega)
      exact ⟨b, by rw [List.getElem?_append_left (by simp; omega)]; exact h1, by omega⟩

/-- No more values at one time than buffers. -/
theorem many_le (k : Kernel) (m t : Nat) (ht : t < m) : (manyTo k t (t + 1) : Int) ≤ mostOf (bufsUpto k m) := by
  have hpos : 0 ≤ mostOf (bufsUpto k m) := by
    obtain ⟨b, _, h⟩ := mostOf_ge k m t ht; omega
  have hnd : (((List.range (t + 1)).filter (liveB k t)).map fun i => (((bufsUpto k m)[i]?.getD 0).toNat)).Nodup := by
    unfold List.Nodup
    rw [List.pairwise_map]
    refine (List.Pairwise.filter _ List.pairwise_lt_range).imp_of_mem ?_
    intro i j hi hj hlt he
    simp only [List.mem_filter, List.mem_range] at hi hj
    obtain ⟨b, hb, _⟩ := mostOf_ge k m i (by omega)
    obtain ⟨c, hc, _⟩ := mostOf_ge k m j (by omega)
    rw [hb, hc] at he
    simp at he
    have := bufs_apart k m (t := t) (i := j) (j := i) (by omega) (by omega) hlt (by simpa [liveB] using hi.2)
    rw [hb, hc, he] at this
    exact this rfl
  have := nodup_le (mostOf (bufsUpto k m)).toNat _ hnd fun x hx => by
    obtain ⟨i, hi, rfl⟩ := List.mem_map.1 hx
    simp only [List.mem_filter, List.mem_range] at hi
    obtain ⟨b, hb, hb2⟩ := mostOf_ge k m i (by omega)
    rw [hb]; simp; omega
  rw [List.length_map, ← manyTo_len] at this
  omega

theorem most_eq (k : Kernel) : ∀ m, mostOf (bufsUpto k m) ≤ mostMany k m
  | 0 => by simp [bufsUpto, mostOf, mostMany]
  | m + 1 => by
    have ih := most_eq k m
    rw [bufsUpto, mostOf_snoc, mostMany]
    obtain ⟨b, hb, _, hd⟩ := bufStep_spec k (bufsUpto k m)
    have hmany : b ≤ manyTo k m m := by
      rw [manyTo_len]
      have := pigeon b (((List.range m).filter (liveB k m)).map fun i => ((bufsUpto k m)[i]?.getD 0)) fun d hdb => by
        have hc := hd d hdb
        unfold confR at hc
        rw [List.any_eq_true] at hc
        obtain ⟨j, hj, hcj⟩ := hc
        unfold confAt at hcj
        rw [Bool.and_eq_true, decide_eq_true_iff, decide_eq_true_iff] at hcj
        refine List.mem_map.2 ⟨j, List.mem_filter.2 ⟨by simpa using hj, by unfold liveB; rw [decide_eq_true_iff]; simpa using hcj.2⟩, ?_⟩
        rw [hcj.1]; rfl
      rwa [List.length_map] at this
    have h1 : manyTo k m (m + 1) = manyTo k m m + 1 := by
      rw [manyTo, if_pos (by unfold liveB; rw [decide_eq_true_iff]; exact lastS_ge k m)]
    rw [hb, h1]
    omega
theorem most_le (k : Kernel) (m : Nat) : ∀ t, t ≤ m → 0 ≤ mostOf (bufsUpto k m) → mostMany k t ≤ mostOf (bufsUpto k m)
  | 0, _, h => h
  | t + 1, ht, h => by
    have := most_le k m t (by omega) h
    have := many_le k m t (by omega)
    rw [mostMany]; omega
theorem most_same (k : Kernel) (m : Nat) : mostOf (bufsUpto k m) = mostMany k m := by
  have h1 := most_eq k m
  have h2 : 0 ≤ mostOf (bufsUpto k m) := by
    cases m with
    | zero => simp [bufsUpto, mostOf]
    | succ m => obtain ⟨b, _, h⟩ := mostOf_ge k (m + 1) 0 (by omega); omega
  have := most_le k m m (Nat.le_refl _) h2
  omega

end Go.Proofs.YtgjhamfboonloaaR
