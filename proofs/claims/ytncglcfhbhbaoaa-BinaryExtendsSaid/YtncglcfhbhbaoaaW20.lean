/-
  The laws in plain words.
-/
import Derived.Test.YtncglcfhbhbaoaaW19
import Derived.Test.YtncglcfhbhbaoaaAbsZB
set_option linter.unusedSimpArgs false
set_option linter.unusedVariables false
set_option maxRecDepth 100000
set_option maxHeartbeats 4000000
namespace Go.Proofs.Ytncglcfhbhbaoaa
open Go.Abs Go

theorem applyS_ok {k : Int} {x y : Arr} (h : ¬ (isS k = false ∨ (chk x).1 ≠ 0 ∨ (chk y).1 ≠ 0)) : isS k = true ∧ (chk x).1 = 0 ∧ (chk y).1 = 0 := by
  simp only [not_or, ne_eq, Decidable.not_not, Bool.not_eq_false] at h
  exact h
theorem fine_zA : Fine zA := by rw [zA, Fine]; exact ⟨by decide, by decide, by decide, trivial⟩
theorem fine_apply {k : Int} {x y : Arr} : Fine (applyS k x y).1 := by
  unfold applyS
  split
  · exact fine_zA
  split
  · exact fine_zA
  split
  · exact fine_zA
  rename_i h
  rw [Bool.not_eq_false] at h
  obtain ⟨s, hs, rs, _⟩ := agree_parts h
  rw [hs]
  unfold applyV
  split
  · exact fine_zA
  · have h1 := (right_small rs).2
    have h2 := (right_small rs).1.prod
    rw [Fine]
    exact ⟨by simp only; omega, by rw [List.length_map, vals_len]; simp only; omega, by simp, trivial⟩

/-! ### Exchanged arguments -/
def turnS (k : Int) : Int := if k = 9 then 14 else if k = 14 then 9 else if k = 10 then 13 else if k = 13 then 10 else k
theorem agree_comm (a b : List Int) : agreeS a b = agreeS b a := by
  rcases Nat.lt_trichotomy a.length b.length with h | h | h
  · rw [agree_lt h, agree_le (by omega)]
  · rw [agree_le (by omega), agree_le (by omega)]
    unfold agreeG
    rw [List.take_of_length_le (by omega), List.take_of_length_le (by omega)]
    by_cases hab : a = b
    · subst hab; rfl
    · rw [if_neg (fun hh => hab hh.2.2), if_neg (fun hh => hab hh.2.2.symm)]
  · rw [agree_le (by omega), agree_lt h]
theorem bothS_comm (a b : Int) : bothS a b = bothS b a := by unfold bothS; exact Bool.and_comm _ _
theorem logicS_comm (a b r : Int) : logicS a b r = logicS b a r := by
  unfold logicS
  by_cases h : ((a < 0 ∨ a > 1) ∨ b < 0) ∨ b > 1
  · rw [if_pos h, if_pos (by omega)]
  · rw [if_neg h, if_neg (by omega)]
theorem binG_turn {k : Int} (h1 : 1 ≤ k) (h2 : k ≤ 16) (n2 : ¬ k = 2) (n4 : ¬ k = 4) (n5 : ¬ k = 5) (n6 : ¬ k = 6) (a b : Int) : binG (turnS k) b a = binG k a b := by
  have hk : k = 1 ∨ k = 3 ∨ k = 7 ∨ k = 8 ∨ k = 9 ∨ k = 10 ∨ k = 11 ∨ k = 12 ∨ k = 13 ∨ k = 14 ∨ k = 15 ∨ k = 16 := by omega
  rcases hk with rfl | rfl | rfl | rfl | rfl | rfl | rfl | rfl | rfl | rfl | rfl | rfl
  · show addS b a = addS a b
    unfold addS; rw [bothS_comm b a, Int.add_comm b a]
  · show mulS b a = mulS a b
    unfold mulS; rw [bothS_comm b a, Int.mul_comm b a]
  · show (min b a, (0 : Int)) = (min a b, 0)
    rw [Int.min_comm]
  · show (max b a, (0 : Int)) = (max a b, 0)
    rw [Int.max_comm]
  · rfl
  · rfl
  · show (tru (decide (b = a)), (0 : Int)) = (tru (decide (a = b)), 0)
    rw [show decide (b = a) = decide (a = b) from by simp [eq_comm]]
  · show (tru (decide (¬ b = a)), (0 : Int)) = (tru (decide (¬ a = b)), 0)
    rw [show decide (¬ b = a) = decide (¬ a = b) from by simp [eq_comm]]
  · rfl
  · rfl
  · show logicS b a (b * a) = logicS a b (a * b)
    rw [logicS_comm, Int.mul_comm]
  · show logicS b a (max b a) = logicS a b (max a b)
    rw [logicS_comm, Int.max_comm]
theorem turn_eq (k : Int) : (turnS k = 12 ↔ k = 12) ∧ (turnS k = 11 ↔ k = 11) ∧ (((turnS k = 9 ∨ turnS k = 10) ∨ turnS k = 13) ∨ turnS k = 14 ↔ ((k = 9 ∨ k = 10) ∨ k = 13) ∨ k = 14) ∧ isS (turnS k) = isS k := by
  unfold turnS
  split
  · subst_vars; refine ⟨by omega, by omega, by omega, by decide⟩
  split
  · subst_vars; refine ⟨by omega, by omega, by omega, by decide⟩
  split
  · subst_vars; refine ⟨by omega, by omega, by omega, by decide⟩
  split
  · subst_vars; refine ⟨by omega, by omega, by omega, by decide⟩
  · exact ⟨Iff.rfl, Iff.rfl, Iff.rfl, rfl⟩
theorem accept_turn (k p q : Int) : acceptS (turnS k) q p = acceptS k p q := by
  obtain ⟨t1, t2, t3, _⟩ := turn_eq k
  unfold acceptS
  simp only [t1, t2, t3]
  split
  · exact Bool.and_comm _ _
  split
  · by_cases h : p = q
    · subst h; rfl
    · have h' : ¬ q = p := fun e => h e.symm
      simp [h, h']
  · exact Bool.and_comm _ _
theorem pair_turn {k p q : Int} (h1 : isS k = true) (n2 : ¬ k = 2) (n4 : ¬ k = 4) (n5 : ¬ k = 5) (n6 : ¬ k = 6) (a b : Int) : pairG (turnS k) q p b a = pairG k p q a b := by
  obtain ⟨t1, t2, t3, _⟩ := turn_eq k
  unfold pairG
  have hr : 1 ≤ k ∧ k ≤ 16 := by simpa [isS] using h1
  by_cases h : p = q
  · rw [if_pos h, if_pos h.symm]; exact binG_turn hr.1 hr.2 n2 n4 n5 n6 a b
  · rw [if_neg h, if_neg (fun e => h e.symm)]
    simp only [t1]
theorem apply_turn {k : Int} (x y : Arr) (h1 : isS k = true) (n2 : ¬ k = 2) (n4 : ¬ k = 4) (n5 : ¬ k = 5) (n6 : ¬ k = 6) : applyS (turnS k) y x = applyS k x y := by
  unfold applyS
  rw [(turn_eq k).2.2.2, accept_turn, agree_comm y.shape x.shape]
  have hor : (isS k = false ∨ (chk y).1 ≠ 0 ∨ (chk x).1 ≠ 0) = (isS k = false ∨ (chk x).1 ≠ 0 ∨ (chk y).1 ≠ 0) := by
    rw [or_comm (a := (chk y).1 ≠ 0)]
  have hv : ∀ n, vals (pairG (turnS k) y.kind x.kind) y.nums x.nums n = vals (pairG k x.kind y.kind) x.nums y.nums n := by
    intro n
    unfold vals
    exact List.map_congr_left fun i _ => pair_turn h1 n2 n4 n5 n6 _ _
  simp only [hor, hv]

/-! ### Quotient and remainder -/
theorem qS_le {a b : Int} (hb : ¬ b = 0) : (qS a b).natAbs ≤ a.natAbs := by
  have h1 := tdiv_le a b
  unfold qS
  split
  · rename_i ho
    have hoff : ¬ a.tmod b = 0 := by
      intro h; unfold offS at ho; simp [h] at ho
    have hm := tmod_lt a hb
    have he := Int.mul_tdiv_add_tmod a b
    have h2 : 2 ≤ b.natAbs := by
      rcases Nat.lt_or_ge b.natAbs 2 with h | h
      · omega
      · exact h
    have h3 : (a.tdiv b).natAbs * 2 ≤ a.natAbs := by
      rw [Int.natAbs_tdiv]
      have q1 := Nat.div_mul_le_self a.natAbs b.natAbs
      have q2 := Nat.mul_le_mul_left (a.natAbs / b.natAbs) h2
      show a.natAbs / b.natAbs * 2 ≤ a.natAbs
      exact Nat.le_trans q2 q1
    have h4 : ¬ a = 0 := by intro h; subst h; simp at hoff
    omega
  · exact h1
/-- What the law of quotients says. -/
theorem divides_law (a b : Int) : ((scalarS 4 a b).2 = 1 ∨ (scalarS 4 a b).2 = 20) ∧ (scalarS 5 a b).2 = (scalarS 4 a b).2 ∨
    ((scalarS 4 a b).2 = 0 ∧ (scalarS 5 a b).2 = 0 ∧ (((scalarS 3 (scalarS 4 a b).1 b).2 = 19) ∨ ((scalarS 3 (scalarS 4 a b).1 b).2 = 0 ∧ scalarS 1 (scalarS 3 (scalarS 4 a b).1 b).1 (scalarS 5 a b).1 = (a, 0)))) := by
  have i3 : isS 3 = true := by decide
  have i4 : isS 4 = true := by decide
  have i5 : isS 5 = true := by decide
  have i1 : isS 1 = true := by decide
  cases fa : fitsS a
  · left; simp [scalarS, fa, i4, i5]
  cases fb : fitsS b
  · left; simp [scalarS, fa, fb, i4, i5]
  have e4 : scalarS 4 a b = divS a b := by simp [scalarS, fa, fb, i4, binG]
  have e5 : scalarS 5 a b = modS a b := by simp [scalarS, fa, fb, i5, binG]
  rw [e4, e5]
  have hboth : bothS a b = true := by unfold bothS; rw [fa, fb]; rfl
  by_cases hb : b = 0
  · left
    simp [divS, modS, divideS, hboth, hb]
    rw [hb] at hboth
    simp [hboth]
  · right
    have e : divideS a b = (qS a b, rS a b, 0) := by unfold divideS; rw [if_pos hboth, if_neg hb]
    have hq : divS a b = (qS a b, 0) := by unfold divS; rw [e]
    have hm : modS a b = (rS a b, 0) := by unfold modS; rw [e]
    rw [hq, hm]
    refine ⟨rfl, rfl, ?_⟩
    simp only
    have fq : fitsS (qS a b) = true := by
      rw [fitsS_iff] at fa ⊢
      have := qS_le (a := a) hb
      omega
    have fr : fitsS (rS a b) = true := by
      rw [fitsS_iff] at fb ⊢
      have := rS_lt a hb
      omega
    have e3 : scalarS 3 (qS a b) b = fitS (qS a b * b) := by
      simp only [scalarS, fq, fb, i3]
      exact mulS_fit fq fb
    rw [e3]
    unfold fitS
    cases hf : fitsS (qS a b * b)
    · left; rfl
    · right
      refine ⟨rfl, ?_⟩
      simp only [if_true]
      have : scalarS 1 (qS a b * b) (rS a b) = addS (qS a b * b) (rS a b) := by simp [scalarS, hf, fr, i1, binG]
      rw [this]
      unfold addS bothS fitS
      rw [hf, fr, Int.mul_comm, qr a b, fa]
      rfl

/-! ### A scalar is extended -/
def extA (x y : Arr) : Arr := .mk x.kind y.shape (List.replicate (y.nums.length + y.items.length) (x.nums.getD 0 0)) []
theorem sum_size {y : Arr} (h : (chk y).1 = 0) : ((y.nums.length + y.items.length : Nat) : Int) = prodI y.shape ∧ y.nums.length + y.items.length ≤ 65536 := by
  rw [chk_eq] at h
  by_cases h1 : formA y.kind y.shape y.nums.length y.items.length = 0
  · obtain ⟨f1, f2, f3, f4, f5, f6⟩ := form_zero h1
    have := form_small h1
    have hs : sizeS y.shape = prodI y.shape := by unfold sizeS; rw [if_pos f4]
    refine ⟨?_, this⟩
    split at f5 <;> split at f6 <;> omega
  · rw [if_pos h1] at h; exact absurd h h1
theorem chk_ext {x y : Arr} (hx : (chk x).1 = 0) (hy : (chk y).1 = 0) (h0 : x.shape = []) (hk : ¬ x.kind = 3) : (chk (extA x y)).1 = 0 := by
  obtain ⟨kx, rx, fx, bx⟩ := chk_flat hx
  obtain ⟨ky, ry, fy, bY⟩ := chk_flat hy
  obtain ⟨s1, s2⟩ := sum_size hy
  have hlen := (fx (by omega)).1
  rw [h0] at hlen
  have hl1 : x.nums.length = 1 := by
    have : prodI [] = 1 := rfl
    omega
  have hx0 : x.nums.getD 0 0 ∈ x.nums := List.mem_of_getElem? (getD_some (by omega))
  have hbad := bx _ hx0
  rw [chk_eq]
  have hform : formA (extA x y).kind (extA x y).shape (extA x y).nums.length (extA x y).items.length = 0 := by
    show formA x.kind y.shape (List.replicate (y.nums.length + y.items.length) (x.nums.getD 0 0)).length 0 = 0
    have hneg : (y.shape.any fun d => decide (d < 0)) = false := by
      rw [List.any_eq_false]
      intro d hd
      have := ((right_small ry).1.1 d hd).1
      simp; omega
    have hs : sizeS y.shape = prodI y.shape := by unfold sizeS; rw [if_pos ry]
    have h8 := (right_small ry).2
    unfold formA
    rw [if_neg (fun hc => hc kx), if_neg (by omega), hneg, ry, if_neg (by decide), if_neg (by decide), if_neg]
    rw [if_neg hk, if_neg hk, hs, List.length_replicate]
    omega
  rw [if_neg (fun hc => hc hform)]
  have hany : (extA x y).nums.any (badN (extA x y).kind) = false := by
    show (List.replicate (y.nums.length + y.items.length) (x.nums.getD 0 0)).any (badN x.kind) = false
    rw [List.any_eq_false]
    intro n hn
    rw [(List.mem_replicate.1 hn).2, hbad]
    exact Bool.noConfusion
  rw [hany, if_neg Bool.noConfusion]
  have hc : chks (extA x y).items 0 ((extA x y).nums.length + (extA x y).items.length) = some (0, y.nums.length + y.items.length) := by
    show chks [] 0 ((List.replicate (y.nums.length + y.items.length) (x.nums.getD 0 0)).length + 0) = _
    rw [chks, List.length_replicate]
    rfl
  rw [hc]
  simp only
  rw [if_neg (by omega)]
theorem fine_ext {x y : Arr} (hy : Fine y) (h : (chk y).1 = 0) : Fine (extA x y) := by
  obtain ⟨s1, s2⟩ := sum_size h
  have := hy.lens.1
  rw [extA, Fine]
  exact ⟨this, by rw [List.length_replicate]; omega, by simp, trivial⟩
theorem agree_nil {b : List Int} (hb : rightS b = true) : agreeS [] b = (b, true) := by
  unfold agreeS
  have : rightS [] = true := by decide
  rw [this, hb]
  simp
theorem agree_self {b : List Int} (hb : rightS b = true) : agreeS b b = (b, true) := by
  unfold agreeS
  rw [hb]
  simp
theorem ext_law {k : Int} {x y : Arr} (hx : (chk x).1 = 0) (hy : (chk y).1 = 0) (h0 : x.shape = []) (hk : ¬ x.kind = 3) : applyS k (extA x y) y = applyS k x y ∧ applyS k y (extA x y) = applyS k y x := by
  obtain ⟨kx, rx, fx, bx⟩ := chk_flat hx
  obtain ⟨ky, ry, fy, bY⟩ := chk_flat hy
  obtain ⟨s1, s2⟩ := sum_size hy
  have hz := chk_ext hx hy h0 hk
  have hlen := (fx (by omega)).1
  rw [h0] at hlen
  have hl1 : x.nums.length = 1 := by
    have : prodI [] = 1 := rfl
    omega
  have hN : (prodI y.shape).toNat = y.nums.length + y.items.length := by omega
  have hget : ∀ i, i < (prodI y.shape).toNat → (extA x y).nums.getD (i / ((prodI y.shape).toNat / (extA x y).nums.length)) 0 = x.nums.getD (i / ((prodI y.shape).toNat / x.nums.length)) 0 := by
    intro i hi
    have e1 : (extA x y).nums = List.replicate (prodI y.shape).toNat (x.nums.getD 0 0) := by rw [hN]; rfl
    rw [e1, List.length_replicate, hl1, Nat.div_one, Nat.div_self (by omega), Nat.div_one, Nat.div_eq_of_lt hi]
    simp [List.getD, hi]
  have hk1 : (extA x y).kind = x.kind := rfl
  have hs1 : (extA x y).shape = y.shape := rfl
  constructor
  · unfold applyS
    rw [hz, hx, hk1, hs1, h0, agree_nil ry, agree_self ry]
    have hv : vals (pairG k x.kind y.kind) (extA x y).nums y.nums (prodI y.shape).toNat = vals (pairG k x.kind y.kind) x.nums y.nums (prodI y.shape).toNat := by
      unfold vals
      refine List.map_congr_left fun i hi => ?_
      rw [hget i (List.mem_range.1 hi)]
    simp only [hv]
  · unfold applyS
    rw [hz, hx, hk1, hs1, h0, agree_comm y.shape [], agree_nil ry, agree_self ry]
    have hv : vals (pairG k y.kind x.kind) y.nums (extA x y).nums (prodI y.shape).toNat = vals (pairG k y.kind x.kind) y.nums x.nums (prodI y.shape).toNat := by
      unfold vals
      refine List.map_congr_left fun i hi => ?_
      rw [hget i (List.mem_range.1 hi)]
    simp only [hv]
end Go.Proofs.Ytncglcfhbhbaoaa
