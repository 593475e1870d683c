/-
  Regions that draw their order: the order of the text serves every order.
-/
import Derived.Test.YtncglcfhbhbaoaaAbsP
set_option linter.unusedSimpArgs false
set_option linter.unusedVariables false
namespace Go.Abs
open Go.RowKit

/-- The edges that bind in every mode. -/
def bindsOn (o : Oper) : List Nat := (o.after.toList.filter fun e => Region.binds .any e).map (·.on)

def reach (ops : Array Oper) : Nat → Nat → Nat → Bool
  | 0, _, _ => false
  | f + 1, i, j => match ops[i]? with
    | some o => (bindsOn o).any fun p => p == j || reach ops f p j
    | none => false

/-- The slots at which an operation looks. -/
def looks (ops : Array Oper) (o : Oper) : List Nat :=
  (o.op.operands.toList.filterMap fun | .tmp t => some t | _ => none) ++ (match o.guard with | some (g, _) => ((ops[g]?).bind (·.dst)).toList | none => [])

/-- k: how many operations may come up in another order than the text's. -/
def drawOk (k : Nat) (ops : Array Oper) : Bool :=
  decide (k ≤ ops.size) &&
  (List.range ops.size).all (fun i => match ops[i]? with
    | some o => (bindsOn o).all (fun p => decide (p < i)) &&
      (if i < k then
        !isW o.op && (match o.dst with | some d => decide (d < 1000) | none => false) &&
        (List.range k).all (fun j => match ops[j]? with
          | some o' => (i == j || o'.dst != o.dst) && (match o'.dst with | some d => !(looks ops o).contains d || (decide (j < i) && (bindsOn o).contains j) | none => true)
          | none => true)
      else (List.range i).all (fun j => reach ops ops.size i j))
    | none => true)

section
variable {P : Program} {T : Tab} {ops : Array Oper}

def stepGE (P : Program) (T : Tab) (ops : Array Oper) (o : Oper) (s : ASt) (e : Eff) : Prop :=
  match o.guard with
  | none => stepE P T o s e
  | some (j, want) => match gval ops s j with
    | some (some b) => (b = want → stepE P T o s e) ∧ (b = (!want) → e = ⟨.tup [], []⟩)
    | some none => e = ⟨.tup [], []⟩
    | none => False

theorem stepG_E {o : Oper} {K : ASt → Prop} {s : ASt} (hw : isW o.op = false) : stepG false P T ops o K s ↔ ∃ e, stepGE P T ops o s e ∧ K (s.ap o.dst e) := by
  unfold stepG stepGE
  cases o.guard with
  | none => exact stepA_E hw
  | some p =>
    obtain ⟨j, want⟩ := p
    simp only
    cases hg : gval ops s j with
    | none => simp
    | some b =>
      cases b with
      | none =>
        simp only
        exact ⟨fun h => ⟨_, rfl, h⟩, fun ⟨e, he, h⟩ => by subst he; exact h⟩
      | some b =>
        simp only
        by_cases hb : b = want
        · have hb' : ¬ b = !want := by subst hb; cases b <;> simp
          rw [if_pos hb]
          constructor
          · intro h
            obtain ⟨e, h1, h2⟩ := (stepA_E hw).1 h
            exact ⟨e, ⟨fun _ => h1, fun h' => absurd h' hb'⟩, h2⟩
          · rintro ⟨e, h1, h2⟩
            exact (stepA_E hw).2 ⟨e, h1.1 hb, h2⟩
        · have hb' : b = !want := by cases b <;> cases want <;> simp_all
          rw [if_neg hb]
          constructor
          · intro h
            exact ⟨⟨.tup [], []⟩, ⟨fun h' => absurd h' hb, fun _ => rfl⟩, h⟩
          · rintro ⟨e, h1, h2⟩
            have := h1.2 hb'
            subst this
            exact h2

theorem stepGE_keys {o : Oper} {s : ASt} {e : Eff} (h : stepGE P T ops o s e) : ∀ k r, (k, r) ∈ e.rows → ownId (o.dst.getD 0) k ∧ s.free k = true := by
  unfold stepGE at h
  cases hgd : o.guard with
  | none => rw [hgd] at h; exact stepE_keys h
  | some p =>
    obtain ⟨j, want⟩ := p
    rw [hgd] at h
    simp only at h
    cases hg : gval ops s j with
    | none => rw [hg] at h; exact h.elim
    | some b =>
      cases b with
      | none => rw [hg] at h; simp only at h; subst h; intro k r hm; simp at hm
      | some b =>
        rw [hg] at h
        simp only at h
        by_cases hb : b = want
        · exact stepE_keys (h.1 hb)
        · have hb' : b = !want := by cases b <;> cases want <;> simp_all
          have := h.2 hb'
          subst this
          intro k r hm; simp at hm

theorem stepGE_ment {o : Oper} {s : ASt} {e : Eff} {id : Nat} (h : stepGE P T ops o s e) (hf : s.free id = true) (hid : ∀ r, (id, r) ∉ e.rows) : e.v.ment id = false ∧ ∀ k r, (k, r) ∈ e.rows → r.ment id = false := by
  have und : e = ⟨.tup [], []⟩ → e.v.ment id = false ∧ ∀ k r, (k, r) ∈ e.rows → r.ment id = false := fun he => by
    subst he
    exact ⟨by unfold AV.ment mentL; rfl, fun k r hm => by simp at hm⟩
  unfold stepGE at h
  cases hgd : o.guard with
  | none => rw [hgd] at h; exact stepE_ment h hf hid
  | some p =>
    obtain ⟨j, want⟩ := p
    rw [hgd] at h
    simp only at h
    cases hg : gval ops s j with
    | none => rw [hg] at h; exact h.elim
    | some b =>
      cases b with
      | none => rw [hg] at h; exact und h
      | some b =>
        rw [hg] at h
        simp only at h
        by_cases hb : b = want
        · exact stepE_ment (h.1 hb) hf hid
        · have hb' : b = !want := by cases b <;> cases want <;> simp_all
          exact und (h.2 hb')

theorem stepGE_agree {o : Oper} {s t : ASt} {e : Eff} (h : stepGE P T ops o s e) (hA : Agree o.op.operands.toList s t) (hg : ∀ j want, o.guard = some (j, want) → gval ops t j = gval ops s j) (hf : ∀ id r, (id, r) ∈ e.rows → t.free id = true) : stepGE P T ops o t e := by
  unfold stepGE at h ⊢
  cases hgd : o.guard with
  | none => rw [hgd] at h; exact stepE_agree h hA hf
  | some p =>
    obtain ⟨j, want⟩ := p
    rw [hgd] at h
    simp only at h ⊢
    rw [hg j want hgd]
    split at h
    · exact ⟨fun hb => stepE_agree (h.1 hb) hA hf, h.2⟩
    · exact h
    · exact h.elim

end

/- The effects in the order of the text. -/
section
variable {P : Program} {T : Tab} {ops : Array Oper} {k : Nat} {s0 : ASt}

/-- What is known of a state in which the operations of D have come up. -/
structure St (ops : Array Oper) (k : Nat) (es : Nat → Eff) (s0 : ASt) (D : Nat → Prop) (s : ASt) : Prop where
  t1 : ∀ i o t, i < k → D i → ops[i]? = some o → o.dst = some t → find s.tmps t = some (es i).v
  t2 : ∀ t, (∀ i o, i < k → D i → ops[i]? = some o → o.dst ≠ some t) → find s.tmps t = find s0.tmps t
  r1 : ∀ i id r, i < k → D i → find (es i).rows id = some r → find s.rows id = some r
  r2 : ∀ id, (∀ i, i < k → D i → find (es i).rows id = none) → find s.rows id = find s0.rows id
  fr : ∀ i id r, i < k → ¬ D i → (id, r) ∈ (es i).rows → s.free id = true

/-- What the check says of the operations that may come up in any order. -/
structure Pre0 (ops : Array Oper) (k : Nat) : Prop where
  le : k ≤ ops.size
  bind : ∀ i o, ops[i]? = some o → ∀ p, p ∈ bindsOn o → p < i
  w : ∀ i o, i < k → ops[i]? = some o → isW o.op = false
  dst : ∀ i o, i < k → ops[i]? = some o → ∃ d, o.dst = some d ∧ d < 1000
  ne : ∀ i j o o', i < k → j < k → ops[i]? = some o → ops[j]? = some o' → o'.dst = o.dst → i = j
  look : ∀ i j o o' d, i < k → j < k → ops[i]? = some o → ops[j]? = some o' → o'.dst = some d → d ∈ looks ops o → j < i ∧ j ∈ bindsOn o
structure Pre (ops : Array Oper) (k : Nat) : Prop extends Pre0 ops k where
  tail : ∀ i, k ≤ i → i < ops.size → ∀ j, j < i → reach ops ops.size i j = true

theorem pre_of {k : Nat} (h : drawOk k ops = true) : Pre ops k := by
  unfold drawOk at h
  rw [Bool.and_eq_true, List.all_eq_true] at h
  obtain ⟨h1, h2⟩ := h
  have h1' : k ≤ ops.size := by simpa using h1
  have row : ∀ i o, ops[i]? = some o → (bindsOn o).all (fun p => decide (p < i)) = true ∧ (if i < k then
        !isW o.op && (match o.dst with | some d => decide (d < 1000) | none => false) &&
        (List.range k).all (fun j => match ops[j]? with
          | some o' => (i == j || o'.dst != o.dst) && (match o'.dst with | some d => !(looks ops o).contains d || (decide (j < i) && (bindsOn o).contains j) | none => true)
          | none => true)
      else (List.range i).all (fun j => reach ops ops.size i j)) = true := by
    intro i o ho
    have hi : i < ops.size := (Array.getElem?_eq_some_iff.1 ho).1
    have := h2 i (List.mem_range.2 hi)
    rw [ho] at this
    simp only at this
    rw [Bool.and_eq_true] at this
    exact this
  have rowk : ∀ i o, i < k → ops[i]? = some o → isW o.op = false ∧ (match o.dst with | some d => decide (d < 1000) | none => false) = true ∧
      ∀ j o', j < k → ops[j]? = some o' → (i == j || o'.dst != o.dst) = true ∧ (match o'.dst with | some d => !(looks ops o).contains d || (decide (j < i) && (bindsOn o).contains j) | none => true) = true := by
    intro i o hi ho
    have := (row i o ho).2
    rw [if_pos hi, Bool.and_eq_true, Bool.and_eq_true, List.all_eq_true] at this
    obtain ⟨⟨q1, q2⟩, q3⟩ := this
    refine ⟨by simpa using q1, q2, fun j o' hj ho' => ?_⟩
    have := q3 j (List.mem_range.2 hj)
    rw [ho'] at this
    simp only at this
    rw [Bool.and_eq_true] at this
    exact this
  refine ⟨⟨h1', fun i o ho p hp => ?_, fun i o hi ho => (rowk i o hi ho).1, fun i o hi ho => ?_, fun i j o o' hi hj ho ho' hd => ?_, fun i j o o' d hi hj ho ho' hd hl => ?_⟩, fun i hk hi j hj => ?_⟩
  · have := List.all_eq_true.1 (row i o ho).1 p hp
    simpa using this
  · have := (rowk i o hi ho).2.1
    cases hd : o.dst with
    | none => rw [hd] at this; cases this
    | some d => rw [hd] at this; exact ⟨d, rfl, by simpa using this⟩
  · have := ((rowk i o hi ho).2.2 j o' hj ho').1
    rw [Bool.or_eq_true] at this
    rcases this with h | h
    · simpa using h
    · simp [hd] at h
  · have := ((rowk i o hi ho).2.2 j o' hj ho').2
    rw [hd] at this
    simp only [Bool.or_eq_true, Bool.and_eq_true] at this
    rcases this with h | h
    · simp at h; exact absurd hl h
    · exact ⟨by simpa using h.1, by simpa using h.2⟩
  · have ho := Array.getElem?_eq_getElem hi
    have := (row i _ ho).2
    rw [if_neg (by omega), List.all_eq_true] at this
    exact this j (List.mem_range.2 hj)

theorem ownId_one {d d' x : Nat} (h : d < 1000) (h' : d' < 1000) (h1 : ownId d x) (h2 : ownId d' x) : d = d' := by
  unfold ownId cid at h1 h2
  have e1 : x % 1000 = d := by rcases h1 with h1 | ⟨p, h1⟩ <;> subst h1 <;> omega
  have e2 : x % 1000 = d' := by rcases h2 with h2 | ⟨p, h2⟩ <;> subst h2 <;> omega
  exact e1.symm.trans e2

theorem own_apart (hp : Pre0 ops k) {i j : Nat} {o o' : Oper} {x : Nat} (hi : i < k) (hj : j < k) (ho : ops[i]? = some o) (ho' : ops[j]? = some o') (h1 : ownId (o.dst.getD 0) x) (h2 : ownId (o'.dst.getD 0) x) : i = j := by
  obtain ⟨d, hd, hlt⟩ := hp.dst i o hi ho
  obtain ⟨d', hd', hlt'⟩ := hp.dst j o' hj ho'
  have : d = d' := by
    rw [hd] at h1; rw [hd'] at h2
    simp only [Option.getD_some] at h1 h2
    exact ownId_one hlt hlt' h1 h2
  exact hp.ne i j o o' hi hj ho ho' (by rw [hd, hd', this])

theorem free_ap {s : ASt} {d : Option Nat} {e : Eff} {id : Nat} (h : (s.ap d e).free id = true) : s.free id = true := by
  unfold ASt.ap ASt.add ASt.put at h
  unfold ASt.free at h ⊢
  cases d with
  | none => simp only [List.all_append, Bool.and_eq_true] at h ⊢; exact ⟨h.1, h.2.2⟩
  | some d => simp only [List.all_cons, List.all_append, Bool.and_eq_true] at h ⊢; exact ⟨h.1.2, h.2.2⟩

theorem ap_free {s : ASt} {d : Option Nat} {e : Eff} {id : Nat} (h : s.free id = true) (h1 : e.v.ment id = false) (h2 : ∀ k r, (k, r) ∈ e.rows → k ≠ id ∧ r.ment id = false) : (s.ap d e).free id = true := by
  unfold ASt.ap ASt.add ASt.put
  unfold ASt.free at h ⊢
  rw [Bool.and_eq_true] at h
  have hrows : e.rows.all (fun p => p.1 != id && !p.2.ment id) = true := List.all_eq_true.2 fun p hp => by
    have := h2 p.1 p.2 hp
    simp [this.1, this.2]
  cases d with
  | none => simp only [List.all_append, Bool.and_eq_true]; exact ⟨h.1, hrows, h.2⟩
  | some d => simp only [List.all_cons, List.all_append, Bool.and_eq_true, h1]; exact ⟨⟨rfl, h.1⟩, hrows, h.2⟩

/-- One more operation has come up. -/
theorem St.step (hp : Pre0 ops k) {es : Nat → Eff} {D : Nat → Prop} {s : ASt} (h : St ops k es s0 D s) {i : Nat} {o : Oper} (hi : i < k) (hD : ¬ D i) (ho : ops[i]? = some o) (he : stepGE P T ops o s (es i))
    (hkeys : ∀ j o', j < k → ops[j]? = some o' → ∀ id r, (id, r) ∈ (es j).rows → ownId (o'.dst.getD 0) id) : St ops k es s0 (fun j => D j ∨ j = i) (s.ap o.dst (es i)) := by
  obtain ⟨d, hd, _⟩ := hp.dst i o hi ho
  have htm : ∀ t, find (s.ap o.dst (es i)).tmps t = if t = d then some (es i).v else find s.tmps t := by
    intro t; unfold ASt.ap ASt.add ASt.put; rw [hd]; rfl
  have hrw : ∀ id, find (s.ap o.dst (es i)).rows id = match find (es i).rows id with | some r => some r | none => find s.rows id := by
    intro id; unfold ASt.ap ASt.add ASt.put; rw [hd]; simp only; rw [find_append]; cases find (es i).rows id <;> rfl
  have hsize : ∀ j, j < k → ∃ o', ops[j]? = some o' := fun j hj => ⟨_, Array.getElem?_eq_getElem (Nat.lt_of_lt_of_le hj hp.le)⟩
  refine ⟨fun j o' t hj hDj ho' ht => ?_, fun t ht => ?_, fun j id r hj hDj hr => ?_, fun id hid => ?_, fun j id r hj hDj hm => ?_⟩
  · rw [htm]
    rcases hDj with hDj | rfl
    · have hne : t ≠ d := by
        intro e
        have := hp.ne i j o o' hi hj ho ho' (by rw [ht, hd, e])
        subst this; exact hD hDj
      rw [if_neg hne]
      exact h.t1 j o' t hj hDj ho' ht
    · rw [ho] at ho'
      cases ho'
      rw [hd] at ht
      cases ht
      rw [if_pos rfl]
  · rw [htm]
    have hne : t ≠ d := fun e => ht i o hi (.inr rfl) ho (by rw [hd, e])
    rw [if_neg hne]
    exact h.t2 t fun j o' hj hDj ho' => ht j o' hj (.inl hDj) ho'
  · rw [hrw]
    rcases hDj with hDj | rfl
    · have hnone : find (es i).rows id = none := by
        cases hf : find (es i).rows id with
        | none => rfl
        | some r' =>
          obtain ⟨o', ho'⟩ := hsize j hj
          have := own_apart hp hi hj ho ho' (hkeys i o hi ho id r' (find_mem hf)) (hkeys j o' hj ho' id r (find_mem hr))
          subst this; exact absurd hDj hD
      rw [hnone]
      exact h.r1 j id r hj hDj hr
    · rw [hr]
  · rw [hrw, hid i hi (.inr rfl)]
    exact h.r2 id fun j hj hDj => hid j hj (.inl hDj)
  · have hDj1 : ¬ D j := fun q => hDj (.inl q)
    have hji : j ≠ i := fun q => hDj (.inr q)
    have hfree := h.fr j id r hj hDj1 hm
    obtain ⟨o', ho'⟩ := hsize j hj
    have hown := hkeys j o' hj ho' id r hm
    have hnot : ∀ r', (id, r') ∉ (es i).rows := fun r' hr' => hji (own_apart hp hj hi ho' ho hown (hkeys i o hi ho id r' hr'))
    obtain ⟨h1, h2⟩ := stepGE_ment he hfree hnot
    exact ap_free hfree h1 fun k' r' hr' => ⟨fun e => hnot r' (by rw [← e]; exact hr'), h2 k' r' hr'⟩

/-- The states of the order of the text. -/
def text (ops : Array Oper) (es : Nat → Eff) (s0 : ASt) : Nat → ASt
  | 0 => s0
  | i + 1 => match ops[i]? with
    | some o => (text ops es s0 i).ap o.dst (es i)
    | none => text ops es s0 i

theorem text_free {es : Nat → Eff} {id : Nat} : ∀ {i j : Nat}, i ≤ j → (text ops es s0 j).free id = true → (text ops es s0 i).free id = true
  | i, 0, h, hf => by have : i = 0 := by omega
                      subst this; exact hf
  | i, j + 1, h, hf => by
    by_cases he : i = j + 1
    · subst he; exact hf
    · refine text_free (j := j) (by omega) ?_
      simp only [text] at hf
      split at hf
      · exact free_ap hf
      · exact hf

theorem text_St (hp : Pre0 ops k) {es : Nat → Eff} (htext : ∀ i o, i < k → ops[i]? = some o → stepGE P T ops o (text ops es s0 i) (es i)) :
    ∀ i, i ≤ k → St ops k es s0 (fun j => j < i) (text ops es s0 i) := by
  have hkeys : ∀ j o', j < k → ops[j]? = some o' → ∀ id r, (id, r) ∈ (es j).rows → ownId (o'.dst.getD 0) id := fun j o' hj ho' id r hm => (stepGE_keys (htext j o' hj ho') id r hm).1
  intro i
  induction i with
  | zero =>
    intro _
    refine ⟨fun i o t _ h => by omega, fun t _ => rfl, fun i id r _ h => by omega, fun id _ => rfl, fun i id r hi _ hm => ?_⟩
    have ho := Array.getElem?_eq_getElem (Nat.lt_of_lt_of_le hi hp.le)
    exact text_free (Nat.zero_le i) (stepGE_keys (htext i _ hi ho) id r hm).2
  | succ i ih =>
    intro hi
    have ho := Array.getElem?_eq_getElem (Nat.lt_of_lt_of_le (show i < k by omega) hp.le)
    have := (ih (by omega)).step hp (by omega) (by simp) ho (htext i _ (by omega) ho) hkeys
    have e : text ops es s0 (i + 1) = (text ops es s0 i).ap (ops[i]'(Nat.lt_of_lt_of_le (show i < k by omega) hp.le)).dst (es i) := by
      simp only [text, ho]
    rw [e]
    refine ⟨fun j o t hj h => this.t1 j o t hj (by omega), fun t ht => this.t2 t fun j o hj h => ht j o hj (by omega), fun j id r hj h => this.r1 j id r hj (by omega), fun id h => this.r2 id fun j hj hD => h j hj (by omega), fun j id r hj h => this.fr j id r hj (by omega)⟩

/-- Two states of which the same is known. -/
theorem St.same (hp : Pre0 ops k) {es : Nat → Eff} {D D' : Nat → Prop} {s s' : ASt} (h : St ops k es s0 D s) (h' : St ops k es s0 D' s') (hDD : ∀ i, i < k → (D i ↔ D' i)) :
    (∀ t, find s'.tmps t = find s.tmps t) ∧ (∀ id, find s'.rows id = find s.rows id) := by
  constructor
  · intro t
    by_cases hex : ∃ i o, i < k ∧ D i ∧ ops[i]? = some o ∧ o.dst = some t
    · obtain ⟨i, o, hi, hD, ho, ht⟩ := hex
      rw [h.t1 i o t hi hD ho ht, h'.t1 i o t hi ((hDD i hi).1 hD) ho ht]
    · rw [h.t2 t fun i o hi hD ho ht => hex ⟨i, o, hi, hD, ho, ht⟩, h'.t2 t fun i o hi hD ho ht => hex ⟨i, o, hi, (hDD i hi).2 hD, ho, ht⟩]
  · intro id
    by_cases hex : ∃ i r, i < k ∧ D i ∧ find (es i).rows id = some r
    · obtain ⟨i, r, hi, hD, hr⟩ := hex
      rw [h.r1 i id r hi hD hr, h'.r1 i id r hi ((hDD i hi).1 hD) hr]
    · have none_ : ∀ i, i < k → D i → find (es i).rows id = none := fun i hi hD => by
        cases hf : find (es i).rows id with
        | none => rfl
        | some r => exact absurd ⟨i, r, hi, hD, hf⟩ hex
      rw [h.r2 id none_, h'.r2 id fun i hi hD => none_ i hi ((hDD i hi).2 hD)]

end

section
variable {S : Nat → Nat → Prop} {w0 : World} {N : Fm} {g : Gh} {st : ASt} {a : Act} {w : World} {P : Program} {T : Tab}

/-- The relation looks at what is found alone. -/
theorem Rel.congr (h : Rel S w0 N g st a w) {s' : ASt} (ht : ∀ t, find s'.tmps t = find st.tmps t) (hr : ∀ id, find s'.rows id = find st.rows id) : Rel S w0 N g s' a w := by
  have hF : ∀ b o, Sf w0.heap.size S st.rows g b o → Sf w0.heap.size S s'.rows g b o := by
    intro b o hs
    rcases hs with hs | ⟨q1, q2⟩
    · exact .inl hs
    · exact .inr ⟨q1, fun id r c hf hg => q2 id r c (by rw [← hr]; exact hf) hg⟩
  have hc : ∀ b o, Sf w0.heap.size S st.rows g b o → b < w.heap.size → Sf w0.heap.size S s'.rows g b o ∧ cl w b o = cl w b o := fun b o hs _ => ⟨hF b o hs, rfl⟩
  have hk : ∀ id, g id = g id ∧ ∀ e sz xs fl, find st.rows id = some (.arr e sz xs fl) → ∃ xs' fl', find s'.rows id = some (.arr e sz xs' fl') ∧ xs'.length = xs.length :=
    fun id => ⟨rfl, fun e sz xs fl hf => ⟨xs, fl, by rw [hr]; exact hf, rfl⟩⟩
  refine ⟨h.below, h.size, h.calm, h.good, h.defers, fun id r b c hf hg => h.blk id r b c (by rw [← hr]; exact hf) hg, fun id id' r r' b c c' hf hf' hg hg' => h.inj id id' r r' b c c' (by rw [← hr]; exact hf) (by rw [← hr]; exact hf') hg hg', fun id r hf => ?_, fun i x hx => ?_⟩
  · exact (h.rows id r (by rw [← hr]; exact hf)).carry hc rfl (fun _ _ _ => rfl) (NonC.refl _) fun id2 _ => hk id2
  · obtain ⟨v, hv, hrv⟩ := h.tmps i x (by rw [← ht]; exact hx)
    exact ⟨v, hv, hrv.carry hc fun id2 _ => hk id2⟩

end
end Go.Abs
