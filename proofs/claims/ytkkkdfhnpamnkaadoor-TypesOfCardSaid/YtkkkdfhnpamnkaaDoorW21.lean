/-
  Types: the laws of the order in plain words.
-/
import Derived.Test.YtkkkdfhnpamnkaaDoorW20
set_option linter.unusedSimpArgs false
set_option linter.unusedVariables false
set_option maxRecDepth 100000
set_option maxHeartbeats 4000000
namespace Go.Proofs.YtkkkdfhnpamnkaaDoor
open Go.Abs Go

theorem bit_or {a b : Int} (ha : K7 a) (hb : K7 b) : bitAt (orK a b) 2 = (bitAt a 2 || bitAt b 2) ∧ bitAt (orK a b) 4 = (bitAt a 4 || bitAt b 4) ∧ bitAt (orK a b) 8 = (bitAt a 8 || bitAt b 8) ∧ K7 (orK a b) := by
  unfold K7 at ha hb
  rcases ha with rfl | rfl | rfl | rfl | rfl | rfl | rfl <;> rcases hb with rfl | rfl | rfl | rfl | rfl | rfl | rfl <;> decide
theorem or_assoc' {a b c : Int} (ha : K7 a) (hb : K7 b) (hc : K7 c) : orK (orK a b) c = orK a (orK b c) := by
  obtain ⟨x1, x2, x3, _⟩ := bit_or ha hb
  obtain ⟨y1, y2, y3, _⟩ := bit_or hb hc
  rw [orK, x1, x2, x3]
  rw [show orK a (orK b c) = (if bitAt a 2 || bitAt (orK b c) 2 then 2 else 0) + (if bitAt a 4 || bitAt (orK b c) 4 then 4 else 0) + (if bitAt a 8 || bitAt (orK b c) 8 then 8 else 0) from rfl, y1, y2, y3]
  simp only [Bool.or_assoc]
theorem or_comm' (a b : Int) : orK a b = orK b a := by
  unfold orK
  rw [Bool.or_comm (bitAt a 2), Bool.or_comm (bitAt a 4), Bool.or_comm (bitAt a 8)]
theorem or_self' {a : Int} (ha : K7 a) : orK a a = a := by
  unfold K7 at ha
  rcases ha with rfl | rfl | rfl | rfl | rfl | rfl | rfl <;> decide
theorem kb_or {a b : Int} (ha : K7 a) (hb : K7 b) : kb a (orK a b) = true := by
  unfold K7 at ha hb
  rcases ha with rfl | rfl | rfl | rfl | rfl | rfl | rfl <;> rcases hb with rfl | rfl | rfl | rfl | rfl | rfl | rfl <;> decide
theorem kb_iff {a b : Int} (ha : K7 a) (hb : K7 b) (h : kb a b = true) : orK a b = b := by
  unfold K7 at ha hb
  rcases ha with rfl | rfl | rfl | rfl | rfl | rfl | rfl <;> rcases hb with rfl | rfl | rfl | rfl | rfl | rfl | rfl <;> revert h <;> decide
theorem kb_or_le {a b c : Int} (ha : K7 a) (hb : K7 b) (h1 : kb a c = true) (h2 : kb b c = true) : kb (orK a b) c = true := by
  obtain ⟨x1, x2, x3, _⟩ := bit_or ha hb
  unfold kb at h1 h2 ⊢
  rw [x1, x2, x3]
  revert h1 h2
  cases bitAt a 2 <;> cases bitAt b 2 <;> cases bitAt a 4 <;> cases bitAt b 4 <;> cases bitAt a 8 <;> cases bitAt b 8 <;> cases bitAt c 2 <;> cases bitAt c 4 <;> cases bitAt c 8 <;> decide
theorem kb_trans {a b c : Int} (h1 : kb a b = true) (h2 : kb b c = true) : kb a c = true := by
  unfold kb at h1 h2 ⊢
  revert h1 h2
  cases bitAt a 2 <;> cases bitAt b 2 <;> cases bitAt a 4 <;> cases bitAt b 4 <;> cases bitAt a 8 <;> cases bitAt b 8 <;> cases bitAt c 2 <;> cases bitAt c 4 <;> cases bitAt c 8 <;> decide
theorem kb_self (a : Int) : kb a a = true := by
  unfold kb
  cases bitAt a 2 <;> cases bitAt a 4 <;> cases bitAt a 8 <;> rfl

/-! ### Dimensions -/
theorem dB_iff (ds es : List Int) : dB ds es = true ↔ ∀ (i : Nat) (d e : Int), ds[i]? = some d → es[i]? = some e → e = -1 ∨ d = e := by
  unfold dB
  rw [List.all_eq_true]
  constructor
  · intro h i d e hd he
    have : (ds.zip es)[i]? = some (d, e) := by rw [List.getElem?_zip_eq_some]; exact ⟨hd, he⟩
    have := h _ (List.mem_of_getElem? this)
    simpa using this
  · rintro h ⟨d, e⟩ hm
    obtain ⟨i, hi⟩ := List.mem_iff_getElem?.1 hm
    rw [List.getElem?_zip_eq_some] at hi
    simpa using h i d e hi.1 hi.2
theorem jD_get {ds es : List Int} {i : Nat} {v : Int} : (jD ds es)[i]? = some v ↔ ∃ d e, ds[i]? = some d ∧ es[i]? = some e ∧ v = if d = e then d else -1 := by
  unfold jD
  rw [List.getElem?_zipWith]
  constructor
  · intro h
    split at h
    · rename_i d e hd he; cases h; exact ⟨d, e, hd, he, rfl⟩
    · cases h
  · rintro ⟨d, e, hd, he, rfl⟩
    rw [hd, he]
theorem jD_comm (ds es : List Int) : jD ds es = jD es ds := by
  apply List.ext_getElem?
  intro i
  rw [Option.ext_iff]
  intro v
  rw [jD_get, jD_get]
  constructor
  · rintro ⟨d, e, hd, he, rfl⟩
    refine ⟨e, d, he, hd, ?_⟩
    by_cases h : d = e
    · subst h; rfl
    · rw [if_neg h, if_neg (fun hh => h hh.symm)]
  · rintro ⟨d, e, hd, he, rfl⟩
    refine ⟨e, d, he, hd, ?_⟩
    by_cases h : d = e
    · subst h; rfl
    · rw [if_neg h, if_neg (fun hh => h hh.symm)]
theorem jD_assoc (ds es fs : List Int) : jD (jD ds es) fs = jD ds (jD es fs) := by
  apply List.ext_getElem?
  intro i
  rw [Option.ext_iff]
  intro v
  rw [jD_get, jD_get]
  constructor
  · rintro ⟨x, f, hx, hf, rfl⟩
    obtain ⟨d, e, hd, he, rfl⟩ := jD_get.1 hx
    refine ⟨d, _, hd, jD_get.2 ⟨e, f, he, hf, rfl⟩, ?_⟩
    by_cases h1 : d = e
    · subst h1
      by_cases h2 : d = f
      · subst h2; simp
      · simp only [if_true, if_neg h2]
        by_cases h3 : d = -1
        · rw [if_pos h3]; exact h3.symm
        · rw [if_neg h3]
    · simp only [if_neg h1]
      by_cases h2 : e = f
      · subst h2
        simp only [if_true, if_neg h1]
        split <;> rfl
      · simp only [if_neg h2]
        by_cases h3 : d = -1
        · rw [if_pos h3, h3]; split <;> rfl
        · rw [if_neg h3]; split <;> rfl
  · rintro ⟨d, x, hd, hx, rfl⟩
    obtain ⟨e, f, he, hf, rfl⟩ := jD_get.1 hx
    refine ⟨_, f, jD_get.2 ⟨d, e, hd, he, rfl⟩, hf, ?_⟩
    by_cases h1 : d = e
    · subst h1
      by_cases h2 : d = f
      · subst h2; simp
      · simp only [if_true, if_neg h2]
        by_cases h3 : d = -1
        · rw [if_pos h3]; exact h3
        · rw [if_neg h3]
    · simp only [if_neg h1]
      by_cases h2 : e = f
      · subst h2
        simp only [if_true, if_neg h1]
        split <;> rfl
      · simp only [if_neg h2]
        by_cases h3 : d = -1
        · rw [if_pos h3, h3]; split <;> rfl
        · rw [if_neg h3]; split <;> rfl
theorem jD_self (ds : List Int) : jD ds ds = ds := by
  apply List.ext_getElem?
  intro i
  rw [Option.ext_iff]
  intro v
  rw [jD_get]
  constructor
  · rintro ⟨d, e, hd, he, rfl⟩
    rw [hd] at he; cases he
    rw [hd, if_pos rfl]
  · intro h
    exact ⟨v, v, h, h, by rw [if_pos rfl]⟩
theorem dims_mono : ∀ {l l' : List Int} {p p' : Int}, 1 ≤ p' → p' ≤ p → l.length = l'.length → (∀ (i : Nat) (d d' : Int), l[i]? = some d → l'[i]? = some d' → d' = d ∨ d' = -1) → dimsG p l = true → dimsG p' l' = true
  | [], [], _, _, _, _, _, _, _ => rfl
  | [], _ :: _, _, _, _, _, h, _, _ => by simp at h
  | _ :: _, [], _, _, _, _, h, _, _ => by simp at h
  | d :: l, d' :: l', p, p', h1, h2, hl, hr, h => by
    have hl' : l.length = l'.length := by simpa using hl
    have hr' : ∀ (i : Nat) (c c' : Int), l[i]? = some c → l'[i]? = some c' → c' = c ∨ c' = -1 := fun i c c' hc hc' => hr (i + 1) c c' (by simpa using hc) (by simpa using hc')
    rw [dimsG] at h ⊢
    split at h
    · cases h
    rename_i hb
    rcases hr 0 d d' rfl rfl with rfl | rfl
    · rw [if_neg hb]
      by_cases h0 : 0 < d'
      · rw [if_pos h0] at h ⊢
        split at h
        · cases h
        rename_i hp
        have hm := Int.mul_le_mul_of_nonneg_right h2 (show 0 ≤ d' by omega)
        have h1' := mul_pos1 h1 (show 1 ≤ d' by omega)
        rw [if_neg (by omega)]
        exact dims_mono h1' hm hl' hr' h
      · rw [if_neg h0] at h ⊢
        exact dims_mono h1 h2 hl' hr' h
    · rw [if_neg (by omega), if_neg (by omega)]
      by_cases h0 : 0 < d
      · rw [if_pos h0] at h
        split at h
        · cases h
        rename_i hp
        have hm := Int.mul_le_mul_of_nonneg_left (show 1 ≤ d by omega) (show 0 ≤ p by omega)
        exact dims_mono h1 (by omega) hl' hr' h
      · rw [if_neg h0] at h
        exact dims_mono h1 h2 hl' hr' h

/-! ### Joins -/
theorem join_eq {a b : Ty} (ha : rightT a = true) (hb : rightT b = true) : joinS a b = ⟨orK a.kinds b.kinds, rankJ a b, dimsJ a b, knownJ a b⟩ := by
  unfold joinS; rw [ha, hb]; rfl
theorem right_mk {t : Ty} (h1 : K7 t.kinds) (h2 : -1 ≤ t.rank) (h3 : t.rank ≤ 8) (h4 : (t.dims.length : Int) = max t.rank 0) (h5 : t.known.length ≤ 1) (h6 : dimsG 1 t.dims = true) (h7 : ∀ x, x ∈ t.known → okKnown t x = true) : rightT t = true := by
  unfold rightT okHead
  rw [h6]
  simp only [h1, h2, h3, h4, h5, decide_true, Bool.and_self, Bool.true_and]
  exact List.all_eq_true.2 h7
theorem ok_iff (t : Ty) (x : Arr) : okKnown t x = true ↔ (chk x).1 = 0 ∧ wt x ≤ 16 ∧ t.kinds = bitS x.kind ∧ t.rank = x.shape.length ∧ t.dims = x.shape := by
  unfold okKnown; simp only [Bool.and_eq_true, decide_eq_true_eq]
theorem knownJ_cases (a b : Ty) : (knownJ a b = [] ∧ knownS a.known b.known = false) ∨ ∃ x, knownJ a b = [x] ∧ a.known = [x] ∧ b.known = [x] := by
  unfold knownJ
  cases h : knownS a.known b.known
  · exact Or.inl ⟨rfl, rfl⟩
  · obtain ⟨x, hx, hy⟩ := known_one h
    exact Or.inr ⟨x, by rw [hx]; rfl, hx, hy⟩
theorem right_join {a b : Ty} (ha : rightT a = true) (hb : rightT b = true) : rightT (joinS a b) = true := by
  obtain ⟨p1, p2, p3, p4, p5, p6, p7, p8⟩ := right_parts ha
  obtain ⟨q1, q2, q3, q4, q5, q6, q7, q8⟩ := right_parts hb
  rw [join_eq ha hb]
  have hr : -1 ≤ rankJ a b ∧ rankJ a b ≤ 8 ∧ ((dimsJ a b).length : Int) = max (rankJ a b) 0 := by
    unfold rankJ dimsJ
    split
    · rename_i h
      have hl : a.dims.length = b.dims.length := by omega
      rw [jD_len _ _ hl]
      omega
    · exact ⟨by decide, by decide, by decide⟩
  refine right_mk (bit_or p1 q1).2.2.2 hr.1 hr.2.1 hr.2.2 ?_ ?_ ?_
  · rcases knownJ_cases a b with ⟨h, _⟩ | ⟨x, h, _, _⟩
    · show (knownJ a b).length ≤ 1; rw [h]; simp
    · show (knownJ a b).length ≤ 1; rw [h]; simp
  · show dimsG 1 (dimsJ a b) = true
    unfold dimsJ
    split
    · rename_i h
      have hl : a.dims.length = b.dims.length := by omega
      refine dims_mono (l := a.dims) (by omega) (Int.le_refl 1) (by rw [jD_len _ _ hl]) (fun i d d' hd hd' => ?_) p7
      obtain ⟨x, e, hx, he, rfl⟩ := jD_get.1 hd'
      rw [hd] at hx; cases hx
      split
      · exact Or.inl rfl
      · exact Or.inr rfl
    · rfl
  · intro x hx
    rcases knownJ_cases a b with ⟨h, _⟩ | ⟨y, h, hka, hkb⟩
    · have hx' : x ∈ knownJ a b := hx
      rw [h] at hx'; simp at hx'
    · have hx' : x ∈ knownJ a b := hx
      rw [h] at hx'
      simp only [List.mem_singleton] at hx'
      subst hx'
      obtain ⟨a1, a2, a3, a4, a5⟩ := (ok_iff a x).1 (p8 x (by rw [hka]; simp))
      obtain ⟨b1, b2, b3, b4, b5⟩ := (ok_iff b x).1 (q8 x (by rw [hkb]; simp))
      rw [ok_iff]
      refine ⟨a1, a2, ?_, ?_, ?_⟩
      · show orK a.kinds b.kinds = bitS x.kind
        rw [b3, ← a3]; exact or_self' p1
      · show rankJ a b = x.shape.length
        unfold rankJ; rw [if_pos (by omega)]; exact a4
      · show dimsJ a b = x.shape
        unfold dimsJ; rw [if_pos (by omega), a5, b5, jD_self]
theorem below_iff (a b : Ty) : belowS a b = true ↔ kb a.kinds b.kinds = true ∧ (b.rank = -1 ∨ a.rank = b.rank) ∧ dB a.dims b.dims = true ∧ kB a.known b.known = true := by
  unfold belowS; simp only [Bool.and_eq_true, Bool.or_eq_true, decide_eq_true_eq]
theorem Below_iff (a b : Ty) : BelowS a b = true ↔ rightT a = true ∧ rightT b = true ∧ belowS a b = true := by
  unfold BelowS; simp only [Bool.and_eq_true]
theorem kB_iff {a b : List Arr} (ha : a.length ≤ 1) (hb : b.length ≤ 1) : kB a b = true ↔ b = [] ∨ ∃ x, a = [x] ∧ b = [x] := by
  rcases list_two b with h | ⟨y, ys, h⟩
  · rw [h]
    constructor
    · intro _; exact Or.inl rfl
    · intro _; cases a <;> rfl
  · have hys : ys = [] := by rw [h] at hb; exact List.eq_nil_of_length_eq_zero (by simpa using hb)
    subst hys
    rw [h]
    rcases list_two a with h2 | ⟨x, xs, h2⟩
    · rw [h2]; constructor
      · intro h; cases h
      · rintro (h | ⟨x, h, _⟩) <;> cases h
    · have hxs : xs = [] := by rw [h2] at ha; exact List.eq_nil_of_length_eq_zero (by simpa using ha)
      subst hxs
      rw [h2]
      constructor
      · intro h
        have : x = y := (eqA_iff x y).1 h
        subst this
        exact Or.inr ⟨x, rfl, rfl⟩
      · rintro (h | ⟨z, h, h'⟩)
        · cases h
        · cases h; cases h'; exact eqA_same _
theorem below_self {a : Ty} (ha : rightT a = true) : belowS a a = true := by
  obtain ⟨p1, p2, p3, p4, p5, _⟩ := right_parts ha
  rw [below_iff]
  refine ⟨kb_self _, Or.inr rfl, (dB_iff _ _).2 fun i d e hd he => ?_, (kB_iff p5 p5).2 ?_⟩
  · rw [hd] at he; cases he; exact Or.inr rfl
  · rcases list_two a.known with h | ⟨x, xs, h⟩
    · exact Or.inl h
    · have hxs : xs = [] := by rw [h] at p5; exact List.eq_nil_of_length_eq_zero (by simpa using p5)
      subst hxs
      exact Or.inr ⟨x, h, h⟩
theorem join_comm {a b : Ty} (ha : rightT a = true) (hb : rightT b = true) : joinS a b = joinS b a := by
  rw [join_eq ha hb, join_eq hb ha, or_comm']
  have e1 : rankJ a b = rankJ b a := by
    unfold rankJ
    by_cases h : a.rank = b.rank ∧ 0 ≤ a.rank
    · rw [if_pos h, if_pos (by omega)]; exact h.1
    · rw [if_neg h, if_neg (by omega)]
  have e2 : dimsJ a b = dimsJ b a := by
    unfold dimsJ
    by_cases h : a.rank = b.rank ∧ 0 ≤ a.rank
    · rw [if_pos h, if_pos (by omega), jD_comm]
    · rw [if_neg h, if_neg (by omega)]
  have e3 : knownJ a b = knownJ b a := by
    rcases knownJ_cases a b with ⟨h, h'⟩ | ⟨x, h, h1, h2⟩
    · rcases knownJ_cases b a with ⟨g, g'⟩ | ⟨y, g, g1, g2⟩
      · rw [h, g]
      · rw [g1, g2] at h'
        have : knownS [y] [y] = true := eqA_same y
        rw [this] at h'; cases h'
    · rw [h]
      unfold knownJ
      rw [h1, h2]
      have : knownS [x] [x] = true := eqA_same x
      rw [this]; rfl
  rw [e1, e2, e3]
theorem below_join {a b : Ty} (ha : rightT a = true) (hb : rightT b = true) : belowS a (joinS a b) = true := by
  obtain ⟨p1, p2, p3, p4, p5, _⟩ := right_parts ha
  obtain ⟨q1, q2, q3, q4, q5, _⟩ := right_parts hb
  have hj := right_parts (right_join ha hb)
  rw [join_eq ha hb] at hj ⊢
  rw [below_iff]
  refine ⟨kb_or p1 q1, ?_, (dB_iff _ _).2 fun i d e hd he => ?_, (kB_iff p5 hj.2.2.2.2.1).2 ?_⟩
  · show rankJ a b = -1 ∨ a.rank = rankJ a b
    unfold rankJ
    split
    · exact Or.inr rfl
    · exact Or.inl rfl
  · have he' : (dimsJ a b)[i]? = some e := he
    unfold dimsJ at he'
    split at he'
    · obtain ⟨x, y, hx, hy, rfl⟩ := jD_get.1 he'
      rw [hd] at hx; cases hx
      split
      · exact Or.inr rfl
      · exact Or.inl rfl
    · simp at he'
  · rcases knownJ_cases a b with ⟨h, _⟩ | ⟨x, h, h1, _⟩
    · exact Or.inl h
    · exact Or.inr ⟨x, h1, h⟩
theorem join_least {a b c : Ty} (ha : rightT a = true) (hb : rightT b = true) (hc : rightT c = true) (h1 : belowS a c = true) (h2 : belowS b c = true) : belowS (joinS a b) c = true := by
  obtain ⟨p1, p2, p3, p4, p5, _⟩ := right_parts ha
  obtain ⟨q1, q2, q3, q4, q5, _⟩ := right_parts hb
  obtain ⟨r1, r2, r3, r4, r5, _⟩ := right_parts hc
  have hj := right_parts (right_join ha hb)
  rw [join_eq ha hb] at hj ⊢
  obtain ⟨a1, a2, a3, a4⟩ := (below_iff _ _).1 h1
  obtain ⟨b1, b2, b3, b4⟩ := (below_iff _ _).1 h2
  rw [dB_iff] at a3 b3
  rw [kB_iff p5 r5] at a4
  rw [kB_iff q5 r5] at b4
  rw [below_iff]
  refine ⟨kb_or_le p1 q1 a1 b1, ?_, (dB_iff _ _).2 fun i d e hd he => ?_, (kB_iff hj.2.2.2.2.1 r5).2 ?_⟩
  · show c.rank = -1 ∨ rankJ a b = c.rank
    by_cases hcr : c.rank = -1
    · exact Or.inl hcr
    · right
      unfold rankJ
      rw [if_pos (by omega)]
      omega
  · have hd' : (dimsJ a b)[i]? = some d := hd
    unfold dimsJ at hd'
    split at hd'
    · obtain ⟨x, y, hx, hy, rfl⟩ := jD_get.1 hd'
      rcases a3 i x e hx he with h | h
      · exact Or.inl h
      · rcases b3 i y e hy he with h' | h'
        · exact Or.inl h'
        · subst h; subst h'; rw [if_pos rfl]; exact Or.inr rfl
    · simp at hd'
  · rcases a4 with h | ⟨x, hx, hcx⟩
    · exact Or.inl h
    · rcases b4 with h | ⟨y, hy, hcy⟩
      · exact Or.inl h
      · have : x = y := by rw [hcx] at hcy; cases hcy; rfl
        subst this
        refine Or.inr ⟨x, ?_, hcx⟩
        show knownJ a b = [x]
        unfold knownJ
        rw [hx, hy]
        have : knownS [x] [x] = true := eqA_same x
        rw [this]; rfl
theorem below_same {a b : Ty} (ha : rightT a = true) (hb : rightT b = true) : belowS a b = sameT (joinS a b) b := by
  obtain ⟨p1, p2, p3, p4, p5, _⟩ := right_parts ha
  obtain ⟨q1, q2, q3, q4, q5, _⟩ := right_parts hb
  rw [Bool.eq_iff_iff, sameT_iff]
  constructor
  · intro h
    obtain ⟨a1, a2, a3, a4⟩ := (below_iff _ _).1 h
    rw [dB_iff] at a3
    rw [kB_iff p5 q5] at a4
    rw [join_eq ha hb, kb_iff p1 q1 a1]
    have e1 : rankJ a b = b.rank := by
      unfold rankJ
      split
      · rename_i h; exact h.1
      · omega
    have e2 : dimsJ a b = b.dims := by
      unfold dimsJ
      split
      · rename_i h
        have hl : a.dims.length = b.dims.length := by omega
        apply List.ext_getElem?
        intro i
        rw [Option.ext_iff]
        intro v
        rw [jD_get]
        constructor
        · rintro ⟨d, e, hd, he, rfl⟩
          rw [he]
          rcases a3 i d e hd he with h | h
          · subst h
            split
            · rename_i h; rw [h]
            · rfl
          · subst h; rw [if_pos rfl]
        · intro hv
          obtain ⟨d, hd⟩ := get_ex (l := a.dims) (i := i) (by have := (List.getElem?_eq_some_iff.1 hv).1; omega)
          refine ⟨d, v, hd, hv, ?_⟩
          rcases a3 i d v hd hv with h | h
          · subst h
            split
            · rename_i h; exact h.symm
            · rfl
          · subst h; rw [if_pos rfl]
      · rename_i h
        exact (List.eq_nil_of_length_eq_zero (by omega)).symm
    have e3 : knownJ a b = b.known := by
      rcases a4 with h | ⟨x, hx, hy⟩
      · rcases knownJ_cases a b with ⟨g, _⟩ | ⟨y, g, g1, g2⟩
        · rw [g, h]
        · rw [h] at g2; cases g2
      · unfold knownJ
        rw [hx, hy]
        have : knownS [x] [x] = true := eqA_same x
        rw [this]; rfl
    rw [e1, e2, e3]
  · intro h
    have := below_join ha hb
    rw [h] at this
    exact this
theorem join_self {a : Ty} (ha : rightT a = true) : joinS a a = a := by
  have := (sameT_iff _ _).1 ((below_same ha ha).symm.trans (below_self ha))
  exact this
theorem join_assoc {a b c : Ty} (ha : rightT a = true) (hb : rightT b = true) (hc : rightT c = true) : joinS (joinS a b) c = joinS a (joinS b c) := by
  obtain ⟨p1, p2, p3, p4, p5, _⟩ := right_parts ha
  obtain ⟨q1, q2, q3, q4, q5, _⟩ := right_parts hb
  obtain ⟨r1, r2, r3, r4, r5, _⟩ := right_parts hc
  have hab := right_join ha hb
  have hbc := right_join hb hc
  rw [join_eq hab hc, join_eq ha hbc]
  have kab : (joinS a b).kinds = orK a.kinds b.kinds := by rw [join_eq ha hb]
  have kbc : (joinS b c).kinds = orK b.kinds c.kinds := by rw [join_eq hb hc]
  have rab : (joinS a b).rank = rankJ a b := by rw [join_eq ha hb]
  have rbc : (joinS b c).rank = rankJ b c := by rw [join_eq hb hc]
  have dab : (joinS a b).dims = dimsJ a b := by rw [join_eq ha hb]
  have dbc : (joinS b c).dims = dimsJ b c := by rw [join_eq hb hc]
  have nab : (joinS a b).known = knownJ a b := by rw [join_eq ha hb]
  have nbc : (joinS b c).known = knownJ b c := by rw [join_eq hb hc]
  have e0 : orK (joinS a b).kinds c.kinds = orK a.kinds (joinS b c).kinds := by rw [kab, kbc, or_assoc' p1 q1 r1]
  have e1 : rankJ (joinS a b) c = rankJ a (joinS b c) := by
    unfold rankJ
    rw [rab, rbc]
    unfold rankJ
    by_cases h1 : a.rank = b.rank ∧ 0 ≤ a.rank
    · by_cases h2 : b.rank = c.rank ∧ 0 ≤ b.rank
      · rw [if_pos h1, if_pos h2, if_pos (by omega), if_pos (by omega)]
      · rw [if_pos h1, if_neg h2, if_neg (by omega), if_neg (by omega)]
    · by_cases h2 : b.rank = c.rank ∧ 0 ≤ b.rank
      · rw [if_neg h1, if_pos h2, if_neg (by omega), if_neg (by omega)]
      · rw [if_neg h1, if_neg h2, if_neg (by omega), if_neg (by omega)]
  have e2 : dimsJ (joinS a b) c = dimsJ a (joinS b c) := by
    unfold dimsJ
    rw [rab, rbc, dab, dbc]
    unfold rankJ dimsJ
    by_cases h1 : a.rank = b.rank ∧ 0 ≤ a.rank
    · by_cases h2 : b.rank = c.rank ∧ 0 ≤ b.rank
      · rw [if_pos h1, if_pos h1, if_pos h2, if_pos h2, if_pos (by omega), if_pos (by omega), jD_assoc]
      · rw [if_pos h1, if_pos h1, if_neg h2, if_neg h2, if_neg (by omega), if_neg (by omega)]
    · by_cases h2 : b.rank = c.rank ∧ 0 ≤ b.rank
      · rw [if_neg h1, if_neg h1, if_pos h2, if_pos h2, if_neg (by omega), if_neg (by omega)]
      · rw [if_neg h1, if_neg h1, if_neg h2, if_neg h2, if_neg (by omega), if_neg (by omega)]
  have e3 : knownJ (joinS a b) c = knownJ a (joinS b c) := by
    have hs : ∀ x : Arr, knownS [x] [x] = true := fun x => eqA_same x
    rcases knownJ_cases (joinS a b) c with ⟨h, h'⟩ | ⟨x, h, h1, h2⟩
    · rcases knownJ_cases a (joinS b c) with ⟨g, _⟩ | ⟨y, g, g1, g2⟩
      · rw [h, g]
      · rw [nbc] at g2
        rcases knownJ_cases b c with ⟨k, _⟩ | ⟨z, k, k1, k2⟩
        · rw [k] at g2; cases g2
        · rw [k] at g2; cases g2
          rw [nab, k2] at h'
          have : knownJ a b = [y] := by unfold knownJ; rw [g1, k1, hs y]; rfl
          rw [this, hs y] at h'
          cases h'
    · rw [nab] at h1
      rcases knownJ_cases a b with ⟨k, _⟩ | ⟨z, k, k1, k2⟩
      · rw [k] at h1; cases h1
      · rw [k] at h1; cases h1
        rw [h]
        have hb' : knownJ b c = [x] := by unfold knownJ; rw [k2, h2, hs x]; rfl
        have : knownJ a (joinS b c) = [x] := by
          rw [show knownJ a (joinS b c) = if knownS a.known (joinS b c).known then a.known else [] from rfl, nbc, hb', k1, hs x]; rfl
        rw [this]
  rw [e0, e1, e2, e3]
/-! ### Members -/
theorem kB_whole {x : Arr} {l : List Arr} (hl : l.length ≤ 1) : kB [x] l = true ↔ l = [] ∨ l = [x] := by
  rw [kB_iff (by simp) hl]
  constructor
  · rintro (h | ⟨y, h1, h2⟩)
    · exact Or.inl h
    · cases h1; exact Or.inr h2
  · rintro (h | h)
    · exact Or.inl h
    · exact Or.inr ⟨x, rfl, h⟩
theorem below_trans {a b c : Ty} (ha : a.known.length ≤ 1) (hal : (a.dims.length : Int) = max a.rank 0) (hb : rightT b = true) (hc : rightT c = true) (h1 : belowS a b = true) (h2 : belowS b c = true) : belowS a c = true := by
  obtain ⟨q1, q2, q3, q4, q5, _⟩ := right_parts hb
  obtain ⟨r1, r2, r3, r4, r5, _⟩ := right_parts hc
  obtain ⟨a1, a2, a3, a4⟩ := (below_iff _ _).1 h1
  obtain ⟨b1, b2, b3, b4⟩ := (below_iff _ _).1 h2
  rw [dB_iff] at a3 b3
  rw [kB_iff ha q5] at a4
  rw [kB_iff q5 r5] at b4
  rw [below_iff]
  refine ⟨kb_trans a1 b1, by omega, (dB_iff _ _).2 fun i d e hd he => ?_, (kB_iff ha r5).2 ?_⟩
  · have hel := (List.getElem?_eq_some_iff.1 he).1
    obtain ⟨f, hf⟩ := get_ex (l := b.dims) (i := i) (by omega)
    rcases b3 i f e hf he with h | h
    · exact Or.inl h
    · rcases a3 i d f hd hf with h' | h'
      · left; omega
      · right; omega
  · rcases b4 with h | ⟨x, hx, hy⟩
    · exact Or.inl h
    · rcases a4 with h | ⟨z, hz, hw⟩
      · rw [h] at hx; cases hx
      · rw [hw] at hx; cases hx; exact Or.inr ⟨x, hz, hy⟩
theorem has_iff (t : Ty) (x : Arr) : hasS t x = true ↔ rightT t = true ∧ (chk x).1 = 0 ∧ belowS (wholeT x) t = true := by
  unfold hasS; simp only [Bool.and_eq_true, decide_eq_true_eq]
theorem has_up {a b : Ty} {x : Arr} (h : hasS a x = true) (hb : rightT b = true) (hab : belowS a b = true) : hasS b x = true := by
  obtain ⟨h1, h2, h3⟩ := (has_iff _ _).1 h
  rw [has_iff]
  refine ⟨hb, h2, below_trans (by simp [wholeT]) ?_ h1 hb h3 hab⟩
  show (x.shape.length : Int) = max (x.shape.length : Int) 0
  omega
theorem has_any {x : Arr} (h : (chk x).1 = 0) : hasS ⟨14, -1, [], []⟩ x = true := by
  rw [has_iff]
  refine ⟨by decide, h, (below_iff _ _).2 ⟨?_, Or.inl rfl, (dB_iff _ _).2 fun i d e hd he => by simp at he, ?_⟩⟩
  · show kb (bitS x.kind) 14 = true
    unfold bitS
    split
    · decide
    · split <;> decide
  · rfl
theorem good_join {a b : Ty} (hA : GoodT a) (hB : GoodT b) : GoodT (joinS a b) := by
  cases ha : rightT a
  · have : joinS a b = ⟨0, 0, [], []⟩ := by unfold joinS; rw [ha]; rfl
    rw [this]
    exact ⟨by simp, by simp, by simp, ⟨by decide, by decide⟩, ⟨by decide, by decide⟩⟩
  cases hb : rightT b
  · have : joinS a b = ⟨0, 0, [], []⟩ := by unfold joinS; rw [ha, hb]; rfl
    rw [this]
    exact ⟨by simp, by simp, by simp, ⟨by decide, by decide⟩, ⟨by decide, by decide⟩⟩
  obtain ⟨p1, p2, p3, p4, p5, p6, p7, p8⟩ := right_parts (right_join ha hb)
  refine ⟨by omega, by omega, fun x hx => ?_, ?_, ⟨by omega, by omega⟩⟩
  · rw [join_eq ha hb] at hx
    rcases knownJ_cases a b with ⟨h, _⟩ | ⟨y, h, h1, _⟩
    · have hx' : x ∈ knownJ a b := hx
      rw [h] at hx'; simp at hx'
    · have hx' : x ∈ knownJ a b := hx
      rw [h] at hx'
      simp only [List.mem_singleton] at hx'
      subst hx'
      exact hA.fine _ (by rw [h1]; simp)
  · unfold K7 at p1; unfold wf64; omega
end Go.Proofs.YtkkkdfhnpamnkaaDoor
