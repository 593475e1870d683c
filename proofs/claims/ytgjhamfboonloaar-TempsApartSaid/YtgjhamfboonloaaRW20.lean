/-
  The plain laws of layer 49: the code's removals are the specification's.
-/
import Derived.Test.YtgjhamfboonloaaRW15
set_option linter.unusedSimpArgs false
set_option linter.unusedVariables false
namespace Go.Proofs.YtgjhamfboonloaaR
open Go.Abs Go

theorem fs_pos (x : KOp) : ∀ (l : List KOp) (j : Nat) (acc : Int), 0 ≤ acc → firstSame x j l acc = acc
  | [], _, _, _ => rfl
  | y :: l, j, acc, h => by
    rw [firstSame, if_neg (by omega)]
    exact fs_pos x l _ _ h
theorem fs_idx (x : KOp) : ∀ (l : List KOp) (j : Nat), firstSame x j l (-1) = idxFrom x j l
  | [], _ => rfl
  | y :: l, j => by
    rw [firstSame, idxFrom]
    cases h : sameKey y x with
    | true => simp only [if_true]; rw [if_pos ⟨by decide, trivial⟩, fs_pos x l _ _ (by omega)]
    | false => simp only [Bool.false_eq_true, and_false, if_false]; exact fs_idx x l _

theorem renum_moved {n : Int} {N : Nat} (hN : (N : Int) = n) {num to : List Int} {o : KOp} (hnums : ∀ v : Nat, v < N → num[v]? = some (v : Int)) (ha : n ≤ o.a → num[o.a.toNat]? = to[(o.a - n).toNat]?) (hb0 : 0 ≤ o.b)
    (hb : n ≤ o.b → num[o.b.toNat]? = to[(o.b - n).toNat]?) : renum o num = movedOp o n to := by
  have one : ∀ v : Int, 0 ≤ v → (n ≤ v → num[v.toNat]? = to[(v - n).toNat]?) → num[v.toNat]?.getD 0 = movedS v n to := by
    intro v h0 h
    unfold movedS
    split
    · rw [hnums v.toNat (by omega)]
      simp; omega
    · rw [h (by omega)]
  unfold renum movedOp
  congr 1
  · split
    · exact one _ (by assumption) ha
    · unfold movedS; rw [if_pos (by omega)]
  · exact one _ hb0 hb

/-- What the numbers say, and what the table says, when i operations are through; q: of which ones. -/
structure NumTo (N len i : Nat) (q : Nat → Bool) (num to : List Int) : Prop where
  nlen : num.length = N + i
  tlen : to.length = len
  low : ∀ v : Nat, v < N → num[v]? = some (v : Int)
  high : ∀ j, j < i → q j = true → num[N + j]? = to[j]?

theorem NumTo.step {N len i : Nat} {q : Nat → Bool} {num to : List Int} (h : NumTo N len i q num to) (hi : i < len) (z : Int) : NumTo N len (i + 1) q (num ++ [z]) (to.set i z) := by
  refine ⟨by simp [h.nlen]; omega, by simp [h.tlen], fun v hv => ?_, fun j hj hq => ?_⟩
  · rw [List.getElem?_append_left (by rw [h.nlen]; omega)]; exact h.low v hv
  · by_cases hji : j = i
    · subst hji
      rw [List.getElem?_append_right (by rw [h.nlen]; omega), h.nlen, Nat.sub_self, List.getElem?_set_self (by rw [h.tlen]; exact hi)]
      rfl
    · rw [List.getElem?_append_left (by rw [h.nlen]; omega), List.getElem?_set_ne (by omega)]
      exact h.high j (by omega) hq
theorem NumTo.skip {N len i : Nat} {q : Nat → Bool} {num to : List Int} (h : NumTo N len i q num to) (z : Int) (hq : q i = false) : NumTo N len (i + 1) q (num ++ [z]) to := by
  refine ⟨by simp [h.nlen]; omega, h.tlen, fun v hv => ?_, fun j hj hqj => ?_⟩
  · rw [List.getElem?_append_left (by rw [h.nlen]; omega)]; exact h.low v hv
  · by_cases hji : j = i
    · subst hji; rw [hq] at hqj; cases hqj
    · rw [List.getElem?_append_left (by rw [h.nlen]; omega)]
      exact h.high j (by omega) hqj

theorem nums_len (n : Int) : (nums n).length = n.toNat := by simp [nums]
theorem NumTo.start {n : Int} {N : Nat} (hN : (N : Int) = n) (len : Nat) (q : Nat → Bool) : NumTo N len 0 q (nums n) (zeros len) := by
  refine ⟨by rw [nums_len]; omega, by simp [zeros], fun v hv => ?_, fun j hj => by omega⟩
  unfold nums
  have hv' : v < n.toNat := by omega
  simp [hv']

theorem common_from {n : Int} {N : Nat} (hN : (N : Int) = n) (len : Nat) : ∀ (l : List KOp) (i : Nat) (num to : List Int) (out : List KOp), i + l.length = len → (∀ (j : Nat) (o : KOp), l[j]? = some o → badI (n + (i + j : Nat)) o = false) →
    NumTo N len i (fun _ => true) num to → commonFrom n len i l num out = commonRFrom n len i l to out
  | [], _, _, _, _, _, _, _ => rfl
  | o :: l, i, num, to, out, hl, hv, h => by
    obtain ⟨hb1, hb2, hb3, hb4⟩ := badI_false (hv 0 o rfl)
    have at_ : ∀ v : Int, n ≤ v → v < n + (i + 0 : Nat) → num[v.toNat]? = to[(v - n).toNat]? := by
      intro v h1 h2
      have := h.high (v - n).toNat (by omega) rfl
      rw [← this]
      congr 1; omega
    have hx : renum o num = movedOp o n to := renum_moved hN h.low (fun h1 => at_ _ h1 hb2) hb3 (fun h1 => at_ _ h1 hb4)
    have hi : i < len := by simp at hl; omega
    have ih : ∀ z out', commonFrom n len (i + 1) l (num ++ [z]) out' = commonRFrom n len (i + 1) l (to.set i z) out' := fun z out' =>
      common_from hN len l (i + 1) _ _ out' (by simp at hl; omega) (fun j o' ho' => by
        have := hv (j + 1) o' (by simpa using ho')
        rwa [show i + (j + 1) = i + 1 + j by omega] at this) (h.step hi z)
    rw [commonFrom, commonRFrom, hx]
    unfold sameAt
    by_cases hlt : i + 1 < len
    · simp only [hlt, and_true, if_true]
      rw [fs_idx, ih, ih]
    · simp only [hlt, and_false, if_false]
      rw [ih]
      rfl

theorem common_eq (k : Kernel) : commonS k = commonRS k := by
  unfold commonS commonRS
  split
  · rename_i hr
    obtain ⟨⟨hk1, hk2, hk3, hk4⟩, hval⟩ := right_zero hr
    have hN : ((k.inputs.toNat : Nat) : Int) = k.inputs := by omega
    rw [common_from hN k.ops.length k.ops 0 _ _ [] (by simp) (fun j o ho => by
      have := (hval j o ho).2
      rwa [Nat.zero_add]) (NumTo.start hN _ _)]
  · rfl

theorem trim_from {n : Int} {N : Nat} (hN : (N : Int) = n) (len : Nat) (needT needR : List Bool) (hT : ∀ i, i < len → needT[N + i]? = needR[i]?) (hRl : needR.length = len) : ∀ (l : List KOp) (i : Nat) (num to : List Int) (out : List KOp), i + l.length = len →
    (∀ (j : Nat) (o : KOp), l[j]? = some o → badI (n + (i + j : Nat)) o = false) → (∀ (j : Nat) (o : KOp), l[j]? = some o → needR[i + j]? = some true → ∀ v, v = o.a ∨ v = o.b → n ≤ v → needR[(v - n).toNat]? = some true) →
    NumTo N len i (fun j => needR[j]?.getD false) num to → trimFrom n needT i l num out = trimRFrom n needR i l to out
  | [], _, _, _, _, _, _, _, _ => rfl
  | o :: l, i, num, to, out, hl, hv, hc, h => by
    obtain ⟨hb1, hb2, hb3, hb4⟩ := badI_false (hv 0 o rfl)
    have hi : i < len := by simp at hl; omega
    have hv' : ∀ (j : Nat) (o' : KOp), l[j]? = some o' → badI (n + (i + 1 + j : Nat)) o' = false := fun j o' ho' => by
      have := hv (j + 1) o' (by simpa using ho')
      rwa [show i + (j + 1) = i + 1 + j by omega] at this
    have hc' : ∀ (j : Nat) (o' : KOp), l[j]? = some o' → needR[i + 1 + j]? = some true → ∀ v, v = o'.a ∨ v = o'.b → n ≤ v → needR[(v - n).toNat]? = some true := fun j o' ho' hn => by
      refine hc (j + 1) o' (by simpa using ho') ?_
      rwa [show i + (j + 1) = i + 1 + j by omega]
    obtain ⟨z, hz⟩ := get_ex (l := needR) (i := i) (by omega)
    rw [trimFrom, trimRFrom, show (n + (i : Int)).toNat = N + i by omega, hT i hi, hz]
    cases z with
    | false =>
      simp only [Option.getD_some, Bool.false_eq_true, if_false]
      exact trim_from hN len needT needR hT hRl l (i + 1) _ _ _ (by simp at hl; omega) hv' hc' (h.skip _ (by simp [hz]))
    | true =>
      simp only [Option.getD_some, if_true]
      have hs := h.step hi (n + (out.length : Int))
      have at_ : ∀ v : Int, (v = o.a ∨ v = o.b) → n ≤ v → v < n + (i + 0 : Nat) → (num ++ [n + (out.length : Int)])[v.toNat]? = (to.set i (n + (out.length : Int)))[(v - n).toNat]? := by
        intro v hvo h1 h2
        have h3 := hc 0 o rfl (by simpa using hz) v hvo h1
        have := hs.high (v - n).toNat (by omega) (by simp [h3])
        rw [← this]
        congr 1; omega
      rw [renum_moved hN hs.low (fun h1 => at_ _ (.inl rfl) h1 hb2) hb3 (fun h1 => at_ _ (.inr rfl) h1 hb4)]
      exact trim_from hN len needT needR hT hRl l (i + 1) _ _ _ (by simp at hl; omega) hv' hc' hs

/-! ### What is needed -/
theorem needSet_get (n v : Int) (l : List Bool) (i : Nat) : (needSet n v l)[i]? = if n ≤ v ∧ (v - n).toNat = i ∧ i < l.length then some true else l[i]? := by
  unfold needSet
  split
  · rename_i h
    rw [List.getElem?_set]
    split
    · rename_i h2
      split
      · rename_i h3; rw [if_pos ⟨h, h2, by omega⟩]
      · rename_i h3; rw [if_neg (by omega)]; rw [List.getElem?_eq_none (by omega)]
    · rename_i h2; rw [if_neg (by omega)]
  · rename_i h; rw [if_neg (by omega)]

def stepR (n : Int) (ops : List KOp) (m : Nat) (need : List Bool) : List Bool := if need[m]?.getD false then (match ops[m]? with | some o => needOp n o need | none => need) else need
def needRs (n : Int) (ops : List KOp) : Nat → List Bool
  | 0 => (List.replicate ops.length false).set (ops.length - 1) true
  | k + 1 => stepR n ops (ops.length - 1 - k) (needRs n ops k)
@[simp] theorem stepR_length (n : Int) (ops : List KOp) (m : Nat) (need : List Bool) : (stepR n ops m need).length = need.length := by
  unfold stepR; split
  · split <;> simp
  · rfl
@[simp] theorem needRs_length (n : Int) (ops : List KOp) : ∀ k, (needRs n ops k).length = ops.length
  | 0 => by simp [needRs]
  | k + 1 => by rw [needRs, stepR_length, needRs_length n ops k]

theorem needS_rounds (n : Int) (ops : List KOp) : needS n ops = needRs n ops ops.length := by
  have key : ∀ j, j ≤ ops.length → needFrom n ops j (needRs n ops (ops.length - j)) = needRs n ops ops.length := by
    intro j
    induction j with
    | zero => intro _; rfl
    | succ j ih =>
      intro hj
      rw [needFrom]
      have h1 : ops.length - j = (ops.length - (j + 1)) + 1 := by omega
      have h2 := ih (by omega)
      rw [h1, needRs, show ops.length - 1 - (ops.length - (j + 1)) = j by omega] at h2
      exact h2
  have := key ops.length (Nat.le_refl _)
  rw [Nat.sub_self] at this
  exact this

/-- True stays true. -/
theorem stepR_keep (n : Int) (ops : List KOp) (m : Nat) (need : List Bool) (i : Nat) (h : need[i]? = some true) : (stepR n ops m need)[i]? = some true := by
  unfold stepR
  split
  · split
    · unfold needOp
      rw [needSet_get, needSet_get]
      split
      · rfl
      · split
        · rfl
        · exact h
    · exact h
  · exact h

theorem needR_inv {n : Int} {N : Nat} (hN : (N : Int) = n) {ops : List KOp} (hne : 0 < ops.length) (hv : ∀ (j : Nat) (o : KOp), ops[j]? = some o → badI (n + j) o = false) : ∀ k, k ≤ ops.length →
    (∀ i, i < ops.length → (needTs N ops k)[N + i]? = (needRs n ops k)[i]?) ∧
    ∀ (i : Nat) (o : KOp), ops.length - k ≤ i → ops[i]? = some o → (needRs n ops k)[i]? = some true → ∀ v, v = o.a ∨ v = o.b → n ≤ v → (needRs n ops k)[(v - n).toNat]? = some true
  | 0, _ => by
    refine ⟨fun i hi => ?_, fun i o h1 h2 => ?_⟩
    · rw [needTs, needRs, List.getElem?_set, List.getElem?_set]
      simp only [List.length_replicate, List.getElem?_replicate]
      by_cases h : ops.length - 1 = i
      · rw [if_pos (by omega), if_pos h, if_pos (by omega), if_pos (by omega)]
      · rw [if_neg (by omega), if_neg h, if_pos (by omega), if_pos hi]
    · have := (List.getElem?_eq_some_iff.1 h2).1; omega
  | k + 1, hk => by
    obtain ⟨ih1, ih2⟩ := needR_inv hN hne hv k (by omega)
    obtain ⟨m, hm⟩ : ∃ m, m = ops.length - 1 - k := ⟨_, rfl⟩
    rw [needTs, needRs, ← hm]
    have hml : m < ops.length := by omega
    obtain ⟨o, ho⟩ := get_ex (l := ops) (i := m) hml
    obtain ⟨hb1, hb2, hb3, hb4⟩ := badI_false (hv m o ho)
    have hTl := needTs_length N ops k
    have hRl := needRs_length n ops k
    constructor
    · intro i hi
      unfold stepT stepR
      rw [ih1 m hml, ho]
      split
      · simp only
        unfold needOp needOpT
        rw [needSet_get, needSet_get]
        simp only [needSet_length]
        have e1 := ih1 i hi
        by_cases ha : 0 ≤ o.a
        · rw [if_pos ha, List.getElem?_set, List.getElem?_set]
          simp only [List.length_set, hTl, hRl]
          by_cases hA : o.a.toNat = N + i
          · rw [if_pos hA, if_pos (by omega)]
            split
            · rfl
            · rw [if_pos (by omega)]
          · rw [if_neg hA]
            by_cases hB : o.b.toNat = N + i
            · rw [if_pos hB, if_pos (by omega), if_pos (by omega)]
            · rw [if_neg hB, if_neg (by omega), if_neg (by omega)]; exact e1
        · rw [if_neg ha, List.getElem?_set]
          simp only [hTl, hRl]
          by_cases hB : o.b.toNat = N + i
          · rw [if_pos hB, if_pos (by omega), if_pos (by omega)]
          · rw [if_neg hB, if_neg (by omega), if_neg (by omega)]; exact e1
      · exact ih1 i hi
    · intro i o' hi ho' htrue v hvo hnv
      have hil : i < ops.length := (List.getElem?_eq_some_iff.1 ho').1
      have same : (needRs n ops k)[i]? = some true := by
        unfold stepR at htrue
        rw [ho] at htrue
        split at htrue
        · simp only at htrue
          unfold needOp at htrue
          rw [needSet_get, needSet_get, if_neg (by omega), if_neg (by omega)] at htrue
          exact htrue
        · exact htrue
      by_cases him : i = m
      · subst him
        rw [ho] at ho'; cases ho'
        unfold stepR
        rw [same, ho]
        simp only [Option.getD_some, if_true]
        unfold needOp
        rw [needSet_get, needSet_get]
        simp only [needSet_length, hRl]
        rcases hvo with rfl | rfl
        · split
          · rfl
          · rw [if_pos (by omega)]
        · rw [if_pos (by omega)]
      · exact stepR_keep _ _ _ _ _ (ih2 i o' (by omega) ho' same v hvo hnv)

theorem trim_eq (k : Kernel) : trimS k = trimRS k := by
  unfold trimS trimRS
  split
  · rename_i hr
    obtain ⟨⟨hk1, hk2, hk3, hk4⟩, hval⟩ := right_zero hr
    have hN : ((k.inputs.toNat : Nat) : Int) = k.inputs := by omega
    obtain ⟨h1, h2⟩ := needR_inv hN (by omega) (fun j o ho => (hval j o ho).2) k.ops.length (Nat.le_refl _)
    rw [needS_rounds, trim_from hN k.ops.length _ _ h1 (by simp) k.ops 0 _ _ [] (by simp) (fun j o ho => by
      have := (hval j o ho).2
      rwa [Nat.zero_add]) (fun j o ho hn => by
      rw [Nat.zero_add] at hn
      exact h2 j o (by omega) ho hn) (NumTo.start hN _ _)]
  · rfl

theorem sameOp_refl (o : KOp) : sameOp o o = true := by simp [sameOp]
theorem sameOps_refl : ∀ l : List KOp, sameOps l l = true
  | [] => rfl
  | o :: l => by rw [sameOps, sameOp_refl, sameOps_refl l]; rfl
theorem sameK_refl (k : Kernel) : sameK k k = true := by simp [sameK, sameOps_refl]

end Go.Proofs.YtgjhamfboonloaaR
