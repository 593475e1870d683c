/-
  The plain law of layer 49 on removals done twice.
-/
import Derived.Test.YtgjhamfboonloaaRW20
set_option linter.unusedSimpArgs false
set_option linter.unusedVariables false
namespace Go.Proofs.YtgjhamfboonloaaR
open Go.Abs Go

/-! ### When a kernel is right -/
theorem right_intro {k : Kernel} (h1 : 0 ≤ k.inputs ∧ k.inputs ≤ 16 ∧ 1 ≤ k.ops.length ∧ k.ops.length ≤ 64) (h2 : ∀ (i : Nat) (o : KOp), k.ops[i]? = some o → badP o = false ∧ badI (k.inputs + i) o = false) (h3 : badR k = false) : right k = 0 := by
  unfold right
  rw [if_neg (by simp [badK]; omega)]
  have key : ∀ (l : List KOp) (j : Nat), (∀ (i : Nat) (o : KOp), l[i]? = some o → badP o = false ∧ badI (k.inputs + (j + i : Nat)) o = false) → rightFrom k.inputs j l = 0 := by
    intro l
    induction l with
    | nil => intro j _; rfl
    | cons x l ih =>
      intro j h
      obtain ⟨ha, hb⟩ := h 0 x rfl
      rw [rightFrom, ha, if_neg (by simp)]
      rw [Nat.add_zero] at hb
      rw [hb, if_neg (by simp)]
      refine ih (j + 1) fun i o ho => ?_
      have := h (i + 1) o (by simpa using ho)
      rwa [show j + (i + 1) = j + 1 + i by omega] at this
  rw [key k.ops 0 fun i o ho => by have := h2 i o ho; rwa [Nat.zero_add], if_neg (by simp), h3]
  rfl
theorem right_badR {k : Kernel} (h : right k = 0) : badR k = false := by
  unfold right at h
  split at h
  · cases h
  · split at h
    · rename_i h1 h2; exact absurd h h2
    · cases hb : badR k with
      | true => rw [hb] at h; cases h
      | false => rfl

/-- New numbers: inputs keep theirs; of operation j the new one is rank j. -/
def newV (n : Int) (rank : Nat → Nat) (v : Int) : Int := if v < n then v else n + (rank (v - n).toNat : Int)
def renV (n : Int) (rank : Nat → Nat) (o : KOp) : KOp := { prim := o.prim, a := newV n rank o.a, b := newV n rank o.b, pos := o.pos }

/-- The table of numbers as a function. -/
structure Nums (n : Int) (N i : Nat) (rank : Nat → Nat) (num : List Int) : Prop where
  nlen : num.length = N + i
  low : ∀ v : Nat, v < N → num[v]? = some (v : Int)
  high : ∀ j, j < i → num[N + j]? = some (n + (rank j : Int))

theorem renum_renV {n : Int} {N i : Nat} (hN : (N : Int) = n) {rank : Nat → Nat} {num : List Int} (h : Nums n N i rank num) {o : KOp} (ha : o.a < n + i) (hb0 : 0 ≤ o.b) (hb : o.b < n + i) : renum o num = renV n rank o := by
  have one : ∀ v : Int, 0 ≤ v → v < n + i → num[v.toNat]?.getD 0 = newV n rank v := by
    intro v h0 h1
    unfold newV
    split
    · rw [h.low v.toNat (by omega)]; simp; omega
    · have := h.high (v - n).toNat (by omega)
      rw [show N + (v - n).toNat = v.toNat by omega] at this
      rw [this]; rfl
  unfold renum renV
  congr 1
  · split
    · exact one _ (by assumption) ha
    · unfold newV; rw [if_pos (by omega)]
  · exact one _ hb0 hb

theorem Nums.step {n : Int} {N i : Nat} {rank : Nat → Nat} {num : List Int} (h : Nums n N i rank num) : Nums n N (i + 1) rank (num ++ [n + (rank i : Int)]) := by
  refine ⟨by simp [h.nlen]; omega, fun v hv => ?_, fun j hj => ?_⟩
  · rw [List.getElem?_append_left (by rw [h.nlen]; omega)]; exact h.low v hv
  · by_cases hji : j = i
    · subst hji
      rw [List.getElem?_append_right (by rw [h.nlen]; omega), h.nlen, Nat.sub_self]; rfl
    · rw [List.getElem?_append_left (by rw [h.nlen]; omega)]
      exact h.high j (by omega)
theorem Nums.start {n : Int} {N : Nat} (hN : (N : Int) = n) (rank : Nat → Nat) : Nums n N 0 rank (nums n) := by
  refine ⟨by rw [nums_len]; omega, fun v hv => ?_, fun j hj => by omega⟩
  unfold nums
  have hv' : v < n.toNat := by omega
  simp [hv']

theorem renV_id {n : Int} {o : KOp} {rank : Nat → Nat} (h : ∀ v, v = o.a ∨ v = o.b → n ≤ v → rank (v - n).toNat = (v - n).toNat) : renV n rank o = o := by
  have one : ∀ v, v = o.a ∨ v = o.b → newV n rank v = v := by
    intro v hv
    unfold newV
    split
    · rfl
    · rw [h v hv (by omega)]; omega
  unfold renV
  rw [one _ (.inl rfl), one _ (.inr rfl)]

/-! ### Trim, the second time -/
/-- All that a kernel computes is used later on, but the last. -/
def AllUsed (n : Int) (ops : List KOp) : Prop := ∀ p, p + 1 < ops.length → ∃ q o, p < q ∧ ops[q]? = some o ∧ (o.a = n + p ∨ o.b = n + p)

theorem stepR_set {n : Int} (hn : 0 ≤ n) {ops : List KOp} {m : Nat} {o : KOp} (ho : ops[m]? = some o) {need : List Bool} (hm : need[m]? = some true) {p : Nat} (hp : p < need.length) (hu : o.a = n + p ∨ o.b = n + p) : (stepR n ops m need)[p]? = some true := by
  unfold stepR
  rw [hm, ho]
  simp only [Option.getD_some, if_true]
  unfold needOp
  rw [needSet_get, needSet_get]
  simp only [needSet_length]
  rcases hu with h | h
  · split
    · rfl
    · rw [if_pos (by omega)]
  · rw [if_pos (by omega)]

theorem needRs_keep (n : Int) (ops : List KOp) {i : Nat} : ∀ (d k : Nat), (needRs n ops k)[i]? = some true → (needRs n ops (k + d))[i]? = some true
  | 0, k, h => h
  | d + 1, k, h => by
    rw [← Nat.add_assoc, needRs]
    exact stepR_keep _ _ _ _ _ (needRs_keep n ops d k h)

theorem all_needed {n : Int} (hn : 0 ≤ n) {ops : List KOp} (hne : 0 < ops.length) (hu : AllUsed n ops) : ∀ k, k < ops.length → ∀ i, ops.length - 1 - k ≤ i → i < ops.length → (needRs n ops k)[i]? = some true
  | 0, _, i, hi, hl => by
    rw [needRs, List.getElem?_set, if_pos (by omega), if_pos (by simp; omega)]
  | k + 1, hk, i, hi, hl => by
    by_cases h : ops.length - 1 - k ≤ i
    · exact needRs_keep n ops 1 k (all_needed hn hne hu k (by omega) i h hl)
    · obtain ⟨q, o, hq, ho, huse⟩ := hu i (by omega)
      have hql : q < ops.length := (List.getElem?_eq_some_iff.1 ho).1
      have h1 := all_needed hn hne hu (ops.length - 1 - q) (by omega) q (by omega) hql
      have h2 := stepR_set hn ho h1 (p := i) (by simp; omega) huse
      have h3 : needRs n ops (ops.length - 1 - q + 1) = stepR n ops q (needRs n ops (ops.length - 1 - q)) := by
        rw [needRs, show ops.length - 1 - (ops.length - 1 - q) = q by omega]
      rw [← h3] at h2
      have := needRs_keep n ops (k + 1 - (ops.length - 1 - q + 1)) (ops.length - 1 - q + 1) h2
      rwa [show ops.length - 1 - q + 1 + (k + 1 - (ops.length - 1 - q + 1)) = k + 1 by omega] at this

theorem needS_all {n : Int} (hn : 0 ≤ n) {ops : List KOp} (hne : 0 < ops.length) (hu : AllUsed n ops) (i : Nat) (hi : i < ops.length) : (needS n ops)[i]? = some true := by
  rw [needS_rounds]
  have := all_needed hn hne hu (ops.length - 1) (by omega) i (by omega) hi
  have := needRs_keep n ops 1 _ this
  rwa [show ops.length - 1 + 1 = ops.length by omega] at this

theorem trim_all {n : Int} {N : Nat} (hN : (N : Int) = n) (len : Nat) (need : List Bool) (hneed : ∀ i, i < len → need[N + i]? = some true) : ∀ (l : List KOp) (i : Nat) (num : List Int) (out : List KOp), i + l.length = len → out.length = i →
    (∀ (j : Nat) (o : KOp), l[j]? = some o → badI (n + (i + j : Nat)) o = false) → Nums n N i (fun j => j) num → trimFrom n need i l num out = out ++ l
  | [], i, num, out, _, _, _, _ => by simp [trimFrom]
  | o :: l, i, num, out, hl, ho, hv, h => by
    obtain ⟨hb1, hb2, hb3, hb4⟩ := badI_false (hv 0 o rfl)
    rw [trimFrom, show (n + (i : Int)).toNat = N + i by omega, hneed i (by simp at hl; omega)]
    simp only [Option.getD_some, if_true]
    have hs := h.step
    rw [ho, renum_renV hN hs (by omega) hb3 (by omega), renV_id (fun _ _ _ => rfl), trim_all hN len need hneed l (i + 1) _ _ (by simp at hl; omega) (by simp [ho]) (fun j o' ho' => by
      have := hv (j + 1) o' (by simpa using ho')
      rwa [show i + (j + 1) = i + 1 + j by omega] at this) hs]
    simp

theorem trim_fix (k : Kernel) (hr : right k = 0) (hu : AllUsed k.inputs k.ops) : trimS k = k := by
  obtain ⟨⟨hk1, hk2, hk3, hk4⟩, hval⟩ := right_zero hr
  have hN : ((k.inputs.toNat : Nat) : Int) = k.inputs := by omega
  obtain ⟨h1, _⟩ := needR_inv hN (by omega) (fun j o ho => (hval j o ho).2) k.ops.length (Nat.le_refl _)
  unfold trimS
  rw [if_pos hr, trim_all hN k.ops.length _ (fun i hi => by
    rw [h1 i hi, ← needS_rounds]; exact needS_all hk1 (by omega) hu i hi) k.ops 0 _ [] (by simp) rfl (fun j o ho => by
    have := (hval j o ho).2
    rwa [Nat.zero_add]) (Nums.start hN _)]
  cases k
  rfl

/-! ### What Trim leaves -/
def rankOf (q : Nat → Bool) : Nat → Nat
  | 0 => 0
  | i + 1 => rankOf q i + (if q i then 1 else 0)
theorem rankOf_mono (q : Nat → Bool) : ∀ {i j : Nat}, i ≤ j → rankOf q i ≤ rankOf q j := by
  intro i j h
  induction j with
  | zero => rw [show i = 0 by omega]; exact Nat.le_refl _
  | succ j ih =>
    by_cases hij : i = j + 1
    · subst hij; exact Nat.le_refl _
    · have := ih (by omega)
      rw [rankOf]; omega

/-- What is left: the operations that are needed, with new numbers. -/
def leftOps (n : Int) (q : Nat → Bool) : Nat → List KOp → List KOp
  | i, o :: l => if q i then renV n (rankOf q) o :: leftOps n q (i + 1) l else leftOps n q (i + 1) l
  | _, [] => []

theorem trim_left {n : Int} {N : Nat} (hN : (N : Int) = n) (q : Nat → Bool) (need : List Bool) (hq : ∀ i, q i = need[N + i]?.getD false) : ∀ (l : List KOp) (i : Nat) (num : List Int) (out : List KOp), out.length = rankOf q i →
    (∀ (j : Nat) (o : KOp), l[j]? = some o → badI (n + (i + j : Nat)) o = false) → Nums n N i (rankOf q) num → trimFrom n need i l num out = out ++ leftOps n q i l
  | [], i, num, out, _, _, _ => by simp [trimFrom, leftOps]
  | o :: l, i, num, out, ho, hv, h => by
    obtain ⟨hb1, hb2, hb3, hb4⟩ := badI_false (hv 0 o rfl)
    have hv' : ∀ (j : Nat) (o' : KOp), l[j]? = some o' → badI (n + (i + 1 + j : Nat)) o' = false := fun j o' ho' => by
      have := hv (j + 1) o' (by simpa using ho')
      rwa [show i + (j + 1) = i + 1 + j by omega] at this
    have hs := h.step
    rw [trimFrom, leftOps, show (n + (i : Int)).toNat = N + i by omega, ← hq i, ho]
    cases hqi : q i with
    | true =>
      simp only [if_true]
      rw [renum_renV hN hs (by omega) hb3 (by omega), trim_left hN q need hq l (i + 1) _ _ (by simp [ho, rankOf, hqi]) hv' hs]
      simp
    | false =>
      simp only [Bool.false_eq_true, if_false]
      exact trim_left hN q need hq l (i + 1) _ _ (by simp [ho, rankOf, hqi]) hv' hs

theorem leftOps_get (n : Int) (q : Nat → Bool) : ∀ (l : List KOp) (i j : Nat) (o : KOp), l[j]? = some o → q (i + j) = true → (leftOps n q i l)[rankOf q (i + j) - rankOf q i]? = some (renV n (rankOf q) o)
  | [], i, j, o, h, _ => by simp at h
  | x :: l, i, 0, o, h, hq => by
    simp at h; subst h
    simp only [Nat.add_zero] at hq ⊢
    rw [leftOps, hq, if_pos rfl, Nat.sub_self]; rfl
  | x :: l, i, j + 1, o, h, hq => by
    have ih := leftOps_get n q l (i + 1) j o (by simpa using h) (by rwa [show i + 1 + j = i + (j + 1) by omega])
    rw [show i + 1 + j = i + (j + 1) by omega] at ih
    have hm := rankOf_mono q (show i + 1 ≤ i + (j + 1) by omega)
    rw [leftOps]
    cases hqi : q i with
    | true =>
      simp only [if_true]
      have hr : rankOf q (i + 1) = rankOf q i + 1 := by simp [rankOf, hqi]
      rw [hr] at ih hm
      rw [show rankOf q (i + (j + 1)) - rankOf q i = (rankOf q (i + (j + 1)) - (rankOf q i + 1)) + 1 by omega, List.getElem?_cons_succ]
      exact ih
    | false =>
      simp only [Bool.false_eq_true, if_false]
      have hr : rankOf q (i + 1) = rankOf q i := by simp [rankOf, hqi]
      rw [hr] at ih
      exact ih
theorem leftOps_len (n : Int) (q : Nat → Bool) : ∀ (l : List KOp) (i : Nat), (leftOps n q i l).length + rankOf q i = rankOf q (i + l.length)
  | [], i => by simp [leftOps]
  | x :: l, i => by
    have ih := leftOps_len n q l (i + 1)
    rw [leftOps, List.length_cons, show i + (l.length + 1) = i + 1 + l.length by omega, ← ih, rankOf]
    cases hqi : q i <;> simp <;> omega
/-- Every place of what is left is some operation's. -/
theorem leftOps_from (n : Int) (q : Nat → Bool) : ∀ (l : List KOp) (i p : Nat) (x : KOp), (leftOps n q i l)[p]? = some x → ∃ j o, l[j]? = some o ∧ q (i + j) = true ∧ rankOf q (i + j) = rankOf q i + p ∧ x = renV n (rankOf q) o
  | [], i, p, x, h => by simp [leftOps] at h
  | y :: l, i, p, x, h => by
    rw [leftOps] at h
    cases hqi : q i with
    | true =>
      rw [hqi, if_pos rfl] at h
      cases p with
      | zero => simp at h; exact ⟨0, y, rfl, by simpa using hqi, by simp, h.symm⟩
      | succ p =>
        rw [List.getElem?_cons_succ] at h
        obtain ⟨j, o, h1, h2, h3, h4⟩ := leftOps_from n q l (i + 1) p x h
        have hr : rankOf q (i + 1) = rankOf q i + 1 := by simp [rankOf, hqi]
        exact ⟨j + 1, o, by simpa using h1, by rwa [show i + (j + 1) = i + 1 + j by omega], by rw [show i + (j + 1) = i + 1 + j by omega, h3, hr]; omega, h4⟩
    | false =>
      rw [hqi, if_neg (by simp)] at h
      obtain ⟨j, o, h1, h2, h3, h4⟩ := leftOps_from n q l (i + 1) p x h
      have hr : rankOf q (i + 1) = rankOf q i := by simp [rankOf, hqi]
      exact ⟨j + 1, o, by simpa using h1, by rwa [show i + (j + 1) = i + 1 + j by omega], by rw [show i + (j + 1) = i + 1 + j by omega, h3, hr], h4⟩

theorem rankOf_le (q : Nat → Bool) : ∀ i, rankOf q i ≤ i
  | 0 => Nat.le_refl _
  | i + 1 => by
    have := rankOf_le q i
    rw [rankOf]; split <;> omega
theorem rankOf_lt {q : Nat → Bool} {i j : Nat} (h : i < j) (hq : q i = true) : rankOf q i < rankOf q j := by
  have h1 := rankOf_mono q (show i + 1 ≤ j by omega)
  rw [rankOf, hq, if_pos rfl] at h1
  omega

/-- What is needed is the last, or is used by something that is needed. -/
theorem need_why {n : Int} {ops : List KOp} (hne : 0 < ops.length) (hv : ∀ (j : Nat) (o : KOp), ops[j]? = some o → badI (n + j) o = false) : ∀ k, k ≤ ops.length → ∀ i, (needRs n ops k)[i]? = some true →
    i = ops.length - 1 ∨ ∃ (j : Nat) (o : KOp), i < j ∧ ops[j]? = some o ∧ (needRs n ops k)[j]? = some true ∧ (o.a = n + i ∨ o.b = n + i)
  | 0, _, i, h => by
    rw [needRs, List.getElem?_set] at h
    split at h
    · exact .inl (by omega)
    · rw [List.getElem?_replicate] at h
      split at h <;> simp at h
  | k + 1, hk, i, h => by
    have ih := need_why hne hv k (by omega)
    obtain ⟨m, hm⟩ : ∃ m, m = ops.length - 1 - k := ⟨_, rfl⟩
    have hml : m < ops.length := by omega
    obtain ⟨o, ho⟩ := get_ex (l := ops) (i := m) hml
    obtain ⟨hb1, hb2, hb3, hb4⟩ := badI_false (hv m o ho)
    have old : (needRs n ops k)[i]? = some true → i = ops.length - 1 ∨ ∃ (j : Nat) (o : KOp), i < j ∧ ops[j]? = some o ∧ (needRs n ops (k + 1))[j]? = some true ∧ (o.a = n + i ∨ o.b = n + i) := fun h0 => by
      rcases ih i h0 with h1 | ⟨j, o', h1, h2, h3, h4⟩
      · exact .inl h1
      · exact .inr ⟨j, o', h1, h2, needRs_keep n ops 1 k h3, h4⟩
    by_cases hcur : (needRs n ops k)[i]? = some true
    · exact old hcur
    · have hstep : needRs n ops (k + 1) = stepR n ops m (needRs n ops k) := by rw [needRs, hm]
      have h' := h
      rw [hstep] at h'
      unfold stepR at h'
      rw [ho] at h'
      split at h'
      · rename_i hmt
        have hmtrue : (needRs n ops k)[m]? = some true := by
          cases hx : (needRs n ops k)[m]? with
          | none => rw [hx] at hmt; simp at hmt
          | some b => rw [hx] at hmt; simp at hmt; rw [hmt]
        simp only at h'
        unfold needOp at h'
        rw [needSet_get, needSet_get] at h'
        refine .inr ⟨m, o, ?_, ho, needRs_keep n ops 1 k hmtrue, ?_⟩
        · split at h'
          · omega
          · split at h'
            · omega
            · exact absurd h' hcur
        · split at h'
          · exact .inr (by omega)
          · split at h'
            · exact .inl (by omega)
            · exact absurd h' hcur
      · exact absurd h' hcur

theorem badP_ren {n : Int} (hn : 0 ≤ n) (rank : Nat → Nat) (o : KOp) : badP (renV n rank o) = badP o := by
  have : (newV n rank o.a = -1) ↔ o.a = -1 := by
    unfold newV
    split <;> omega
  unfold badP renV
  simp only [this]

theorem trim_right (k : Kernel) (hr : right k = 0) : right (trimS k) = 0 ∧ AllUsed (trimS k).inputs (trimS k).ops := by
  obtain ⟨⟨hk1, hk2, hk3, hk4⟩, hval⟩ := right_zero hr
  have hN : ((k.inputs.toNat : Nat) : Int) = k.inputs := by omega
  have hv : ∀ (j : Nat) (o : KOp), k.ops[j]? = some o → badI (k.inputs + j) o = false := fun j o ho => (hval j o ho).2
  obtain ⟨h1, h2⟩ := needR_inv hN (by omega) hv k.ops.length (Nat.le_refl _)
  have h3 := need_why (n := k.inputs) (by omega) hv k.ops.length (Nat.le_refl _)
  obtain ⟨q, hq⟩ : ∃ q : Nat → Bool, ∀ i, q i = (needTs k.inputs.toNat k.ops k.ops.length)[k.inputs.toNat + i]?.getD false := ⟨_, fun _ => rfl⟩
  have hqR : ∀ i, i < k.ops.length → (q i = true ↔ (needRs k.inputs k.ops k.ops.length)[i]? = some true) := by
    intro i hi
    rw [hq i, h1 i hi]
    have hl : i < (needRs k.inputs k.ops k.ops.length).length := by simpa using hi
    rw [List.getElem?_eq_getElem hl]
    simp
  have hops : (trimS k) = { inputs := k.inputs, ops := leftOps k.inputs q 0 k.ops, reduce := k.reduce, pos := k.pos } := by
    unfold trimS
    rw [if_pos hr, trim_left hN q _ hq k.ops 0 _ [] rfl (fun j o ho => by rw [Nat.zero_add]; exact hv j o ho) (Nums.start hN _)]
    rfl
  have hlen : (leftOps k.inputs q 0 k.ops).length = rankOf q k.ops.length := by
    have := leftOps_len k.inputs q k.ops 0
    rw [Nat.zero_add] at this
    simpa [rankOf] using this
  have hlast : q (k.ops.length - 1) = true := by
    rw [hqR _ (by omega)]
    have h0 : (needRs k.inputs k.ops 0)[k.ops.length - 1]? = some true := by
      rw [needRs, List.getElem?_set, if_pos rfl, if_pos (by simp; omega)]
    have := needRs_keep k.inputs k.ops k.ops.length 0 h0
    rwa [Nat.zero_add] at this
  have hle := rankOf_le q k.ops.length
  have hge := rankOf_lt (show k.ops.length - 1 < k.ops.length by omega) hlast
  have low : ∀ (j : Nat) (o : KOp), k.ops[j]? = some o → q j = true → ∀ v, v = o.a ∨ v = o.b → newV k.inputs (rankOf q) v < k.inputs + (rankOf q j : Nat) := by
    intro j o ho hqj v hvo
    have hjl : j < k.ops.length := (List.getElem?_eq_some_iff.1 ho).1
    obtain ⟨hb1, hb2, hb3, hb4⟩ := badI_false (hv j o ho)
    unfold newV
    split
    · omega
    · rename_i hnv
      have hneed := h2 j o (by omega) ho ((hqR j hjl).1 hqj) v hvo (by omega)
      have hjv : (v - k.inputs).toNat < j := by rcases hvo with rfl | rfl <;> omega
      have := rankOf_lt (q := q) hjv ((hqR _ (by omega)).2 hneed)
      omega
  rw [hops]
  refine ⟨right_intro ⟨hk1, hk2, by simp only [hlen]; omega, by simp only [hlen]; omega⟩ (fun p x hx => ?_) ((by have h := right_badR hr; exact h)), fun p hp => ?_⟩
  · obtain ⟨j, o, ho, hqj, hrank, rfl⟩ := leftOps_from k.inputs q k.ops 0 p x hx
    rw [Nat.zero_add] at hqj hrank
    simp only [rankOf, Nat.zero_add] at hrank
    refine ⟨by rw [badP_ren hk1]; exact (hval j o ho).1, ?_⟩
    obtain ⟨hb1, hb2, hb3, hb4⟩ := badI_false (hv j o ho)
    have ha := low j o ho hqj o.a (.inl rfl)
    have hb := low j o ho hqj o.b (.inr rfl)
    have ha0 : -1 ≤ newV k.inputs (rankOf q) o.a := by unfold newV; split <;> omega
    have hb0 : 0 ≤ newV k.inputs (rankOf q) o.b := by unfold newV; split <;> omega
    rw [hrank] at ha hb
    unfold badI renV
    simp
    omega
  · simp only at hp
    have hpl : p < (leftOps k.inputs q 0 k.ops).length := by omega
    obtain ⟨j, o, ho, hqj, hrank, hx⟩ := leftOps_from k.inputs q k.ops 0 p _ (List.getElem?_eq_getElem hpl)
    rw [Nat.zero_add] at hqj hrank
    simp only [rankOf, Nat.zero_add] at hrank
    have hjl : j < k.ops.length := (List.getElem?_eq_some_iff.1 ho).1
    have hj : j ≠ k.ops.length - 1 := by
      intro e
      rw [hlen] at hp
      have h5 : rankOf q k.ops.length = rankOf q (k.ops.length - 1) + 1 := by
        rw [show k.ops.length = k.ops.length - 1 + 1 by omega, rankOf, show k.ops.length - 1 + 1 - 1 = k.ops.length - 1 by omega, hlast, if_pos rfl]
      rw [e] at hrank
      omega
    rcases h3 j ((hqR j hjl).1 hqj) with h4 | ⟨j2, o2, h5, h6, h7, h8⟩
    · exact absurd h4 hj
    · have hj2l : j2 < k.ops.length := (List.getElem?_eq_some_iff.1 h6).1
      have hq2 := (hqR j2 hj2l).2 h7
      have hget := leftOps_get k.inputs q k.ops 0 j2 o2 h6 (by rw [Nat.zero_add]; exact hq2)
      simp only [Nat.zero_add, rankOf, Nat.sub_zero] at hget
      have hlt := rankOf_lt (q := q) h5 hqj
      refine ⟨rankOf q j2, _, by omega, hget, ?_⟩
      have hnew : newV k.inputs (rankOf q) (k.inputs + j) = k.inputs + p := by
        unfold newV
        rw [if_neg (by omega), show (k.inputs + (j : Int) - k.inputs).toNat = j by omega, hrank]
      rcases h8 with h8 | h8
      · exact .inl (by rw [← hnew, ← h8]; rfl)
      · exact .inr (by rw [← hnew, ← h8]; rfl)

theorem trim_again (k : Kernel) (hr : right k = 0) : trimS (trimS k) = trimS k := by
  obtain ⟨h1, h2⟩ := trim_right k hr
  exact trim_fix _ h1 h2

/-! ### Common, the second time -/
theorem idxFrom_none {x : KOp} : ∀ {l : List KOp} {j : Nat}, idxFrom x j l = -1 → ∀ y, y ∈ l → sameKey y x = false
  | [], _, _, y, hy => by simp at hy
  | z :: l, j, h, y, hy => by
    rw [idxFrom] at h
    cases hk : sameKey z x with
    | true => rw [hk, if_pos rfl] at h; omega
    | false =>
      rw [hk, if_neg (by simp)] at h
      simp only [List.mem_cons] at hy
      rcases hy with rfl | hy
      · exact hk
      · exact idxFrom_none h y hy
theorem idxFrom_miss {x : KOp} : ∀ {l : List KOp} {j : Nat}, (∀ y, y ∈ l → sameKey y x = false) → idxFrom x j l = -1
  | [], _, _ => rfl
  | z :: l, j, h => by
    rw [idxFrom, h z (by simp), if_neg (by simp)]
    exact idxFrom_miss fun y hy => h y (List.mem_cons_of_mem _ hy)

def Dist (ops : List KOp) : Prop := ∀ (p q : Nat) (x y : KOp), p + 1 < ops.length → ops[p]? = some x → q < p → ops[q]? = some y → sameKey y x = false

theorem common_all {n : Int} {N : Nat} (hN : (N : Int) = n) (ops : List KOp) (hd : Dist ops) : ∀ (l : List KOp) (i : Nat) (num : List Int) (out : List KOp), ops = out ++ l → out.length = i →
    (∀ (j : Nat) (o : KOp), l[j]? = some o → badI (n + (i + j : Nat)) o = false) → Nums n N i (fun j => j) num → commonFrom n ops.length i l num out = ops
  | [], i, num, out, hs, _, _, _ => by simp [commonFrom, hs]
  | o :: l, i, num, out, hs, ho, hv, h => by
    obtain ⟨hb1, hb2, hb3, hb4⟩ := badI_false (hv 0 o rfl)
    have hx : renum o num = o := by
      rw [renum_renV hN h (by omega) hb3 (by omega), renV_id (fun _ _ _ => rfl)]
    have hneg : ¬ (0 ≤ idxFrom o 0 out ∧ i + 1 < ops.length) := by
      rintro ⟨h1, h2⟩
      have := idxFrom_miss (x := o) (l := out) (j := 0) fun y hy => by
        obtain ⟨q, hq⟩ := List.mem_iff_getElem?.1 hy
        have hql : q < out.length := (List.getElem?_eq_some_iff.1 hq).1
        refine hd i q o y h2 ?_ (by omega) ?_
        · rw [hs, List.getElem?_append_right (by omega), ho, Nat.sub_self]; rfl
        · rw [hs, List.getElem?_append_left hql]; exact hq
      omega
    have hst := h.step
    rw [commonFrom, hx, if_neg hneg, ho]
    refine common_all hN ops hd l (i + 1) _ _ (by rw [hs]; simp) (by simp [ho]) (fun j o' ho' => ?_) hst
    have := hv (j + 1) o' (by simpa using ho')
    rwa [show i + (j + 1) = i + 1 + j by omega] at this

theorem common_fix (k : Kernel) (hr : right k = 0) (hd : Dist k.ops) : commonS k = k := by
  obtain ⟨⟨hk1, hk2, hk3, hk4⟩, hval⟩ := right_zero hr
  have hN : ((k.inputs.toNat : Nat) : Int) = k.inputs := by omega
  unfold commonS
  rw [if_pos hr, common_all hN k.ops hd k.ops 0 _ [] rfl rfl (fun j o ho => by
    have := (hval j o ho).2
    rwa [Nat.zero_add]) (Nums.start hN _)]

/-- What holds while common operations are removed. -/
structure ComInv (n : Int) (N i : Nat) (num : List Int) (out : List KOp) : Prop where
  nlen : num.length = N + i
  low : ∀ v : Nat, v < N → num[v]? = some (v : Int)
  high : ∀ j, j < i → ∃ r : Nat, r < out.length ∧ num[N + j]? = some (n + (r : Int))
  val : ∀ (p : Nat) (x : KOp), out[p]? = some x → badP x = false ∧ badI (n + p) x = false
  dist : ∀ (p q : Nat) (x y : KOp), out[p]? = some x → q < p → out[q]? = some y → sameKey y x = false

theorem ComInv.new {n : Int} {N i : Nat} (hn : 0 ≤ n) (hN : (N : Int) = n) {num : List Int} {out : List KOp} (h : ComInv n N i num out) {o : KOp} (hp : badP o = false) (hi : badI (n + i) o = false) : badP (renum o num) = false ∧ badI (n + out.length) (renum o num) = false := by
  obtain ⟨hb1, hb2, hb3, hb4⟩ := badI_false hi
  have one : ∀ v : Int, 0 ≤ v → v < n + i → 0 ≤ num[v.toNat]?.getD 0 ∧ num[v.toNat]?.getD 0 < n + out.length := by
    intro v h0 h1
    by_cases hv : v < n
    · rw [h.low v.toNat (by omega)]; simp; omega
    · obtain ⟨r, hr, hg⟩ := h.high (v - n).toNat (by omega)
      rw [show N + (v - n).toNat = v.toNat by omega] at hg
      rw [hg]; simp; omega
  have hb := one o.b hb3 hb4
  constructor
  · have : ((renum o num).a = -1) ↔ o.a = -1 := by
      unfold renum
      simp only
      split
      · rename_i h0
        have := one o.a h0 hb2
        omega
      · exact Iff.rfl
    unfold badP at hp ⊢
    simp only [this]
    exact hp
  · unfold badI renum
    simp only
    split
    · rename_i h0
      have := one o.a h0 hb2
      simp; omega
    · simp; omega

theorem common_inv {n : Int} {N : Nat} (hn : 0 ≤ n) (hN : (N : Int) = n) (len : Nat) : ∀ (l : List KOp) (i : Nat) (num : List Int) (out : List KOp), i + l.length = len → l ≠ [] → (∀ (j : Nat) (o : KOp), l[j]? = some o → badP o = false ∧ badI (n + (i + j : Nat)) o = false) →
    ComInv n N i num out → (∀ (p : Nat) (x : KOp), (commonFrom n len i l num out)[p]? = some x → badP x = false ∧ badI (n + p) x = false) ∧ Dist (commonFrom n len i l num out) ∧ 1 ≤ (commonFrom n len i l num out).length
  | [], _, _, _, _, h0, _, _ => absurd rfl h0
  | o :: l, i, num, out, hl, _, hv, h => by
    obtain ⟨hp, hi⟩ := hv 0 o rfl
    rw [Nat.add_zero] at hi
    obtain ⟨hx1, hx2⟩ := h.new hn hN hp hi
    have hv' : ∀ (j : Nat) (o' : KOp), l[j]? = some o' → badP o' = false ∧ badI (n + (i + 1 + j : Nat)) o' = false := fun j o' ho' => by
      have := hv (j + 1) o' (by simpa using ho')
      rwa [show i + (j + 1) = i + 1 + j by omega] at this
    have vals : ∀ (p : Nat) (x : KOp), (out ++ [renum o num])[p]? = some x → badP x = false ∧ badI (n + p) x = false := by
      intro p x hx
      by_cases hpl : p < out.length
      · rw [List.getElem?_append_left hpl] at hx; exact h.val p x hx
      · rw [List.getElem?_append_right (by omega)] at hx
        have : p - out.length = 0 := by
          have := (List.getElem?_eq_some_iff.1 hx).1
          simp at this; omega
        rw [this] at hx
        simp at hx; subst hx
        have hpe : p = out.length := by omega
        subst hpe
        exact ⟨hx1, hx2⟩
    rw [commonFrom]
    cases l with
    | nil =>
      simp at hl
      rw [if_neg (by omega), commonFrom]
      refine ⟨vals, fun p q x y hp hx hq hy => ?_, by simp⟩
      simp at hp
      rw [List.getElem?_append_left (by omega)] at hx hy
      exact h.dist p q x y hx hq hy
    | cons o2 l2 =>
      have hlt : i + 1 < len := by simp at hl; omega
      rcases idx_lt (renum o num) out 0 with hm | ⟨hm1, hm2⟩
      · rw [if_neg (by omega)]
        refine common_inv hn hN len (o2 :: l2) (i + 1) _ _ (by simp at hl ⊢; omega) (by simp) hv' ⟨by simp [h.nlen]; omega, fun v hvN => ?_, fun j hj => ?_, vals, fun p q x y hx hq hy => ?_⟩
        · rw [List.getElem?_append_left (by rw [h.nlen]; omega)]; exact h.low v hvN
        · by_cases hji : j = i
          · subst hji
            refine ⟨out.length, by simp, ?_⟩
            rw [List.getElem?_append_right (by rw [h.nlen]; omega), h.nlen, Nat.sub_self]; rfl
          · obtain ⟨r, hr, hg⟩ := h.high j (by omega)
            exact ⟨r, by simp; omega, by rw [List.getElem?_append_left (by rw [h.nlen]; omega)]; exact hg⟩
        · by_cases hpl : p < out.length
          · rw [List.getElem?_append_left hpl] at hx
            rw [List.getElem?_append_left (by omega)] at hy
            exact h.dist p q x y hx hq hy
          · rw [List.getElem?_append_right (by omega)] at hx
            have : p - out.length = 0 := by
              have := (List.getElem?_eq_some_iff.1 hx).1
              simp at this; omega
            rw [this] at hx
            simp at hx; subst hx
            rw [List.getElem?_append_left (by omega)] at hy
            exact idxFrom_none hm y (List.mem_of_getElem? hy)
      · rw [if_pos ⟨by omega, hlt⟩]
        refine common_inv hn hN len (o2 :: l2) (i + 1) _ _ (by simp at hl ⊢; omega) (by simp) hv' ⟨by simp [h.nlen]; omega, fun v hvN => ?_, fun j hj => ?_, h.val, h.dist⟩
        · rw [List.getElem?_append_left (by rw [h.nlen]; omega)]; exact h.low v hvN
        · by_cases hji : j = i
          · subst hji
            refine ⟨(idxFrom (renum o num) 0 out).toNat, by omega, ?_⟩
            rw [List.getElem?_append_right (by rw [h.nlen]; omega), h.nlen, Nat.sub_self]
            simp; omega
          · obtain ⟨r, hr, hg⟩ := h.high j (by omega)
            exact ⟨r, hr, by rw [List.getElem?_append_left (by rw [h.nlen]; omega)]; exact hg⟩

theorem commonFrom_le (n : Int) (len : Nat) : ∀ (l : List KOp) (i : Nat) (num : List Int) (out : List KOp), (commonFrom n len i l num out).length ≤ out.length + l.length
  | [], _, _, _ => by simp [commonFrom]
  | o :: l, i, num, out => by
    rw [commonFrom]
    split
    · refine Nat.le_trans (commonFrom_le n len l _ _ _) ?_
      simp only [List.length_append, List.length_cons, List.length_nil]; omega
    · refine Nat.le_trans (commonFrom_le n len l _ _ _) ?_
      simp only [List.length_append, List.length_cons, List.length_nil]; omega

theorem common_right (k : Kernel) (hr : right k = 0) : right (commonS k) = 0 ∧ Dist (commonS k).ops := by
  obtain ⟨⟨hk1, hk2, hk3, hk4⟩, hval⟩ := right_zero hr
  have hN : ((k.inputs.toNat : Nat) : Int) = k.inputs := by omega
  have hs := Nums.start hN (fun j => j)
  obtain ⟨h1, h2, h3⟩ := common_inv hk1 hN k.ops.length k.ops 0 (nums k.inputs) [] (by simp) (by intro e; rw [e] at hk3; simp at hk3) (fun j o ho => by rw [Nat.zero_add]; exact hval j o ho)
    ⟨hs.nlen, hs.low, fun j hj => by omega, fun p x hx => by simp at hx, fun p q x y hx => by simp at hx⟩
  have h4 := commonFrom_le k.inputs k.ops.length k.ops 0 (nums k.inputs) []
  unfold commonS
  rw [if_pos hr]
  exact ⟨right_intro ⟨hk1, hk2, h3, by simp at h4; exact Nat.le_trans h4 hk4⟩ h1 ((by have h := right_badR hr; exact h)), h2⟩

theorem common_again (k : Kernel) (hr : right k = 0) : commonS (commonS k) = commonS k := by
  obtain ⟨h1, h2⟩ := common_right k hr
  exact common_fix _ h1 h2

end Go.Proofs.YtgjhamfboonloaaR
