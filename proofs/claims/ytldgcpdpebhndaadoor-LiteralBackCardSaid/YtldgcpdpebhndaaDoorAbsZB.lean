/-
  Regions that draw their order, with first operations that may come up behind a later one that writes.
-/
import Derived.Test.YtldgcpdpebhndaaDoorAbsU
set_option linter.unusedSimpArgs false
set_option linter.unusedVariables false
namespace Go.Abs
open Go.RowKit

def forcedB (ops : Array Oper) : List Nat → Bool
  | [] => true
  | i :: post => (match ops[i]? with | some o => (bindsOn o).all (fun p => !(i :: post).contains p) | none => false) &&
      (post.all (fun i' => match ops[i']? with | some o => (bindsOn o).any (fun p => (i :: post).contains p) | none => true) && (!post.contains i && forcedB ops post))

def isFl : Op → Bool
  | .load _ _ => true
  | .fieldAddr _ _ _ => true
  | .move _ => true
  | .extract _ _ => true
  | .call c => match c.callee with | .builtin .len => true | _ => false
  | _ => false

def ixs (a b : Nat) : List Nat := (List.range (b - a)).map (a + ·)
def ordOf (n : Nat) (fs : List Nat) (k j : Nat) : List Nat := fs.drop j ++ ixs (k + 1) n
def opsAt (L : List Oper) : List Nat → List Oper
  | [] => []
  | i :: is => (L.drop i).take 1 ++ opsAt L is

/-- fs: the operations that may float; k: how many may come up in another order than the text's. -/
def floatOk (fs : List Nat) (k : Nat) (ops : Array Oper) : Bool :=
  decide (k < ops.size) && (decide fs.Nodup &&
  ((List.range ops.size).all (fun i => match ops[i]? with
    | some o => (bindsOn o).all (fun p => decide (p < i)) &&
      (if i < k then
        !isW o.op && (match o.dst with | some d => decide (d < 1000) | none => false) &&
        (List.range k).all (fun j => match ops[j]? with
          | some o' => (i == j || o'.dst != o.dst) && (match o'.dst with | some d => !(looks ops o).contains d || (decide (j < i) && (bindsOn o).contains j) | none => true)
          | none => true)
      else if i = k then (List.range k).all (fun j => fs.contains j || reach ops ops.size i j)
      else reach ops ops.size i k)
    | none => true) &&
  (fs.all (fun i => match ops[i]? with | some o => decide (i < k) && isFl o.op && o.guard.isNone | none => false) &&
  ((List.range (fs.length - 1)).all (fun n => match fs[n]?, fs[n + 1]? with | some a, some b => (match ops[b]? with | some o => (bindsOn o).contains a | none => false) | _, _ => true) &&
  (List.range (fs.length + 1)).all (fun j => forcedB ops (ordOf ops.size fs k j))))))

structure PreF (ops : Array Oper) (fs : List Nat) (k : Nat) : Prop extends Pre0 ops k where
  lt : k < ops.size
  nd : fs.Nodup
  at_k : ∀ j, j ∉ fs → j < k → reach ops ops.size k j = true
  past : ∀ i, k < i → i < ops.size → reach ops ops.size i k = true
  fl : ∀ i o, i ∈ fs → ops[i]? = some o → i < k ∧ isFl o.op = true ∧ o.guard = none
  chain : ∀ n a b o, fs[n]? = some a → fs[n + 1]? = some b → ops[b]? = some o → a ∈ bindsOn o
  inb : ∀ i, i ∈ fs → i < k
  forced : ∀ j, j ≤ fs.length → forcedB ops (ordOf ops.size fs k j) = true

section
variable {ops : Array Oper} {fs : List Nat} {k : Nat}
theorem preF_of (h : floatOk fs k ops = true) : PreF ops fs k := by
  unfold floatOk at h
  simp only [Bool.and_eq_true] at h
  obtain ⟨h1, h2, h3, h4, h6, h5⟩ := h
  rw [List.all_eq_true] at h3 h4 h5 h6
  have h1' : k < ops.size := by simpa using h1
  have h2' : fs.Nodup := by simpa using h2
  have row : ∀ i o, ops[i]? = some o → (bindsOn o).all (fun p => decide (p < i)) = true ∧ (if i < k then
        !isW o.op && (match o.dst with | some d => decide (d < 1000) | none => false) &&
        (List.range k).all (fun j => match ops[j]? with
          | some o' => (i == j || o'.dst != o.dst) && (match o'.dst with | some d => !(looks ops o).contains d || (decide (j < i) && (bindsOn o).contains j) | none => true)
          | none => true)
      else if i = k then (List.range k).all (fun j => fs.contains j || reach ops ops.size i j)
      else reach ops ops.size i k) = true := by
    intro i o ho
    have hi : i < ops.size := (Array.getElem?_eq_some_iff.1 ho).1
    have := h3 i (List.mem_range.2 hi)
    rw [ho] at this
    simp only at this
    rw [Bool.and_eq_true] at this
    exact this
  have rowk : ∀ i o, i < k → ops[i]? = some o → isW o.op = false ∧ (match o.dst with | some d => decide (d < 1000) | none => false) = true ∧
      ∀ j o', j < k → ops[j]? = some o' → (i == j || o'.dst != o.dst) = true ∧ (match o'.dst with | some d => !(looks ops o).contains d || (decide (j < i) && (bindsOn o).contains j) | none => true) = true := by
    intro i o hi ho
    have := (row i o ho).2
    rw [if_pos hi, Bool.and_eq_true, Bool.and_eq_true, List.all_eq_true] at this
    obtain ⟨⟨q1, q2⟩, q3⟩ := this
    refine ⟨by simpa using q1, q2, fun j o' hj ho' => ?_⟩
    have := q3 j (List.mem_range.2 hj)
    rw [ho'] at this
    simp only at this
    rw [Bool.and_eq_true] at this
    exact this
  have hin : ∀ i, i ∈ fs → i < k := fun i hi => by
    have := h4 i hi
    cases ho : ops[i]? with
    | none => rw [ho] at this; simp at this
    | some o =>
      rw [ho] at this
      simp only [Bool.and_eq_true] at this
      simpa using this.1.1
  refine ⟨⟨by omega, fun i o ho p hp => ?_, fun i o hi ho => .inl (rowk i o hi ho).1, fun i o hi ho => ?_, fun i j o o' hi hj ho ho' hd => ?_, fun i j o o' d hi hj ho ho' hd hl => ?_⟩, h1', h2', fun j hf hj => ?_, fun i hk hi => ?_, fun i o hi ho => ?_, fun n a b o ha hb ho => ?_, hin, fun j hj => h5 j (List.mem_range.2 (by omega))⟩
  · have := List.all_eq_true.1 (row i o ho).1 p hp
    simpa using this
  · have := (rowk i o hi ho).2.1
    cases hd : o.dst with
    | none => rw [hd] at this; cases this
    | some d => rw [hd] at this; exact ⟨d, rfl, by simpa using this⟩
  · have := ((rowk i o hi ho).2.2 j o' hj ho').1
    rw [Bool.or_eq_true] at this
    rcases this with h | h
    · simpa using h
    · simp [hd] at h
  · have := ((rowk i o hi ho).2.2 j o' hj ho').2
    rw [hd] at this
    simp only [Bool.or_eq_true, Bool.and_eq_true] at this
    rcases this with h | h
    · simp at h; exact absurd hl h
    · exact ⟨by simpa using h.1, by simpa using h.2⟩
  · have ho := Array.getElem?_eq_getElem h1'
    have := (row k _ ho).2
    rw [if_neg (by omega), if_pos rfl, List.all_eq_true] at this
    have := this j (List.mem_range.2 hj)
    rw [Bool.or_eq_true] at this
    rcases this with h | h
    · exact absurd (by simpa using h) hf
    · exact h
  · have ho := Array.getElem?_eq_getElem hi
    have := (row i _ ho).2
    rwa [if_neg (by omega), if_neg (by omega)] at this
  · have := h4 i hi
    rw [ho] at this
    simp only [Bool.and_eq_true] at this
    exact ⟨by simpa using this.1.1, this.1.2, by simpa using this.2⟩
  · have hn : n < fs.length - 1 := by have := (List.getElem?_eq_some_iff.1 hb).1; omega
    have := h6 n (List.mem_range.2 hn)
    rw [ha, hb] at this
    simp only [ho] at this
    simpa using this
end

theorem cnt_ge {f : Nat → Bool} : ∀ (n : Nat) (l : List Nat), l.Nodup → (∀ x, x ∈ l → x < n ∧ f x = false) → l.length ≤ cnt f n
  | 0, l, _, h => by
    cases l with
    | nil => simp
    | cons x l => have := (h x (by simp)).1; omega
  | n + 1, l, hn, h => by
    unfold cnt
    by_cases hm : n ∈ l
    · have := cnt_ge (f := f) n (l.erase n) (hn.erase n) fun x hx => by
        rw [hn.mem_erase_iff] at hx
        have := h x hx.2
        exact ⟨by omega, this.2⟩
      rw [List.length_erase_of_mem hm] at this
      rw [(h n hm).2]
      simp only [Bool.false_eq_true, if_false]
      omega
    · have := cnt_ge (f := f) n l hn fun x hx => by
        have h1 := h x hx
        have : x ≠ n := fun e => hm (e ▸ hx)
        exact ⟨by omega, h1.2⟩
      omega

section
variable {S : Nat → Nat → Prop} {w0 : World} {N : Fm} {P : Program} {T : Tab} {ops : Array Oper} {k : Nat} {fs : List Nat} {s0 : ASt} {K : ASt → Prop} {Qc : Exit → Act → World → Prop}

/-- A forced order. -/
theorem phaseO {ro : Option Nat} (hT : TabOk P T) (hd : dstOk N.n ops.toList = true) (hb : ∀ i o, ops[i]? = some o → ∀ p ∈ bindsOn o, p < i) (hQ : ∀ g s a w, Rel S w0 N g s a w → K s → Qc .normal a w) :
    ∀ (ord : List Nat) (L : List Oper) (fuel : Nat) (listed : Array Bool) (g : Gh) (s : ASt) (a : Act) (w : World), All2 (fun i o => ops[i]? = some o) ord L → forcedB ops ord = true → ord.length ≤ fuel → listed.size = ops.size →
      (∀ i, i < ops.size → listed.getD i true = !ord.contains i) → Rel S w0 N g s a w → aOps N.calm P T ops L K s → wpAnyIn (Fr ro) 0 P .any ops Qc fuel listed a w
  | [], L, fuel, listed, g, s, a, w, hall, _, _, hsz, hl, hrel, hK => by
    cases hall
    have hfin : Region.ready .any ops listed = [] := by
      rw [List.eq_nil_iff_forall_not_mem]
      intro i hi
      obtain ⟨o, ho, h1, _⟩ := ready_iff.1 hi
      rw [hl i (Array.getElem?_eq_some_iff.1 ho).1] at h1
      simp at h1
    cases fuel with
    | zero => exact ⟨hfin, hQ g s a w hrel hK⟩
    | succ fuel => exact wpAnyIn_done hfin (hQ g s a w hrel hK) _
  | i :: post, L, fuel, listed, g, s, a, w, hall, hf, hfu, hsz, hl, hrel, hK => by
    cases hall with
    | @cons _ o _ L' ho hall' =>
    have hlt : i < ops.size := (Array.getElem?_eq_some_iff.1 ho).1
    unfold forcedB at hf
    rw [ho] at hf
    simp only [Bool.and_eq_true] at hf
    obtain ⟨f1, f2, f3, f4⟩ := hf
    have f3 : post.contains i = false := by simpa using f3
    rw [List.all_eq_true] at f1 f2
    cases fuel with
    | zero => simp at hfu
    | succ fuel =>
    have only : ∀ i', i' ∈ Region.ready .any ops listed → i' = i := by
      intro i' hi'
      obtain ⟨o', ho', h1, h2⟩ := ready_iff.1 hi'
      have hlt' : i' < ops.size := (Array.getElem?_eq_some_iff.1 ho').1
      rw [hl i' hlt'] at h1
      have hm : i' = i ∨ i' ∈ post := by
        by_cases e : i' = i
        · exact .inl e
        · exact .inr (by simpa [e] using h1)
      rcases hm with hm | hm
      · exact hm
      · exfalso
        have := f2 i' hm
        rw [ho'] at this
        simp only at this
        rw [List.any_eq_true] at this
        obtain ⟨p, hp1, hp2⟩ := this
        have h3 := h2 p hp1
        have hp := hb i' o' ho' p hp1
        rw [← getD_tf (by omega), hl p (by omega), hp2] at h3
        cases h3
    have isr : i ∈ Region.ready .any ops listed := by
      refine ready_iff.2 ⟨o, ho, by rw [hl i hlt]; simp, fun p hp1 => ?_⟩
      have hp := hb i o ho p hp1
      rw [← getD_tf (by omega), hl p (by omega)]
      exact f1 p hp1
    refine ⟨fun h0 => (by rw [h0] at isr; cases isr), fun i' hi' => ?_⟩
    have := only i' hi'
    subst this
    have hs := stepG_sound (ro := ro) (S := S) (w0 := w0) (m := N.calm) (fun hm => hm) hT hrel o (dst_of hd ho) hK (Q := Qc) (K' := wpAnyIn (Fr ro) 0 P .any ops Qc fuel (listed.setIfInBounds i' true))
      fun g' st' a' w' h1 h2 => phaseO hT hd hb hQ post L' fuel _ g' st' a' w' hall' f4 (by simpa using hfu) (by simpa using hsz) (fun j hj => by
        rw [getD_set (by omega), hl j hj]
        by_cases hji : j = i'
        · subst hji
          have : ¬ j ∈ post := by simpa using f3
          simp [this]
        · rw [if_neg hji]
          simp [hji]) h1 h2
    unfold wpOpIn
    rw [ho]
    simp only
    by_cases hw : Region.wanted o (yielded ops a.tmps) = true
    · rw [if_pos hw] at hs ⊢
      exact hs
    · rw [if_neg hw] at hs ⊢
      exact hs

def ASt.dropT (s : ASt) (ds : List Nat) : ASt := ⟨s.tmps.filter (fun p => !ds.contains p.1), s.rows⟩
def dstsOf (L : List Oper) : List Nat := L.filterMap (·.dst)
theorem find_filter {α : Type} (ds : List Nat) : ∀ (l : List (Nat × α)) (t : Nat), find (l.filter (fun p => !ds.contains p.1)) t = if ds.contains t = true then none else find l t
  | [], t => by simp [find]
  | (k, v) :: l, t => by
    rw [List.filter_cons]
    have ih := find_filter ds l t
    by_cases hk : ds.contains k = true
    · rw [if_neg (by simpa using hk), ih]
      by_cases ht : t = k
      · subst ht; rw [if_pos hk, if_pos hk]
      · simp [find, ht]
    · rw [if_pos (by simpa using hk)]
      by_cases ht : t = k
      · subst ht; simp only [find, if_pos]; rw [if_neg hk]
      · simp only [find, if_neg ht]; exact ih

theorem stepE_fl {o : Oper} {s : ASt} {e : Eff} (hf : isFl o.op = true) (h : stepE P T o s e) : e.rows = [] := by
  unfold stepE at h
  have hc : callOf s o.op = none := by
    cases ho : o.op <;> rw [ho] at hf <;> simp only [isFl] at hf <;> first | rfl | cases hf | skip
    split at hf
    · rename_i hcal; simp [callOf, hcal]
    · cases hf
  rw [hc] at h
  simp only at h
  split at h
  · rename_i c v rows he
    obtain ⟨_, rfl⟩ := h
    cases ho : o.op <;> rw [ho] at hf he <;> simp only [isFl] at hf <;> first | cases hf | skip
    all_goals simp only [effF] at he
    · cases he; rfl
    · split at he <;> cases he; rfl
    · unfold fieldAddrF at he
      repeat' split at he
      all_goals first | (cases he; rfl) | cases he
    · split at he
      · split at he <;> cases he; rfl
      · cases he
    · split at hf
      · rename_i hcal
        simp only [hcal] at he
        unfold lenF lenS at he
        repeat' split at he
        all_goals first | (cases he; rfl) | cases he
      · cases hf
  · exact h.elim

theorem all2_ixs {a b : Nat} (hb : b ≤ ops.size) : All2 (fun i o => ops[i]? = some o) (ixs a b) ((ops.toList.drop a).take (b - a)) := by
  refine All2.of_get ?_ fun n i o hi ho => ?_
  · simp [ixs]; omega
  · unfold ixs at hi
    rw [List.getElem?_map] at hi
    obtain ⟨m, hm, rfl⟩ := Option.map_eq_some_iff.1 hi
    by_cases hn : n < b - a
    · rw [List.getElem?_range hn] at hm
      cases hm
      rw [List.getElem?_take, if_pos hn, List.getElem?_drop] at ho
      simpa using ho
    · rw [List.getElem?_eq_none (by simp; omega)] at hm; cases hm

theorem all2_opsAt : ∀ {l : List Nat}, (∀ i, i ∈ l → i < ops.size) → All2 (fun i o => ops[i]? = some o) l (opsAt ops.toList l)
  | [], _ => .nil
  | i :: l, h => by
    have hi := h i (by simp)
    unfold opsAt
    rw [List.drop_eq_getElem_cons (by simpa using hi)]
    simp only [List.take_succ_cons, List.take_zero, List.cons_append, List.nil_append]
    exact .cons (by simp) (all2_opsAt fun i hi => h i (by simp [hi]))
theorem all2_ord (hk : k < ops.size) (hf : ∀ i, i ∈ fs → i < k) {j : Nat} : All2 (fun i o => ops[i]? = some o) (ordOf ops.size fs k j) (opsAt ops.toList (fs.drop j) ++ ops.toList.drop (k + 1)) := by
  unfold ordOf
  refine All2.app (all2_opsAt fun i hi => by have := hf i (List.mem_of_mem_drop hi); omega) ?_
  have := all2_ixs (ops := ops) (a := k + 1) (b := ops.size) (Nat.le_refl _)
  rwa [List.take_of_length_le (by simp)] at this

theorem mem_ord {n k j i : Nat} {fs : List Nat} : (ordOf n fs k j).contains i = true ↔ i ∈ fs.drop j ∨ (k < i ∧ i < n) := by
  unfold ordOf ixs
  simp only [List.contains_eq_mem, List.mem_append, List.mem_map, List.mem_range, decide_eq_true_eq]
  constructor
  · rintro (h1 | ⟨a, h1, h2⟩)
    · exact .inl h1
    · exact .inr (by omega)
  · rintro (h | h)
    · exact .inl h
    · exact .inr ⟨i - (k + 1), by omega, by omega⟩

/-- The head, in whatever order, some of it behind the operation that writes. -/
theorem phaseF {ro : Option Nat} (hT : TabOk P T) (hd : dstOk N.n ops.toList = true) (hp : PreF ops fs k) (hQ : ∀ g s a w, Rel S w0 N g s a w → K s → Qc .normal a w) {es : Nat → Eff}
    (htext : ∀ i o, i < k → ops[i]? = some o → stepGE P T ops o (text ops es s0 i) (es i)) (hK : ∀ j, j ≤ fs.length → aOps N.calm P T ops ((ops.toList.drop k).take 1 ++ (opsAt ops.toList (fs.drop j) ++ ops.toList.drop (k + 1))) K ((text ops es s0 k).dropT (dstsOf (opsAt ops.toList (fs.drop j))))) :
    ∀ (fuel : Nat) (listed : Array Bool) (g : Gh) (s : ASt) (a : Act) (w : World), cnt (fun i => listed.getD i true) ops.size ≤ fuel → listed.size = ops.size → (∀ i, k ≤ i → i < ops.size → listed.getD i true = false) →
      Closed ops (fun i => listed.getD i true) → St ops k es s0 (fun i => listed.getD i true = true) s → Rel S w0 N g s a w → wpAnyIn (Fr ro) 0 P .any ops Qc fuel listed a w := by
  have hkeys : ∀ j o', j < k → ops[j]? = some o' → ∀ id r, (id, r) ∈ (es j).rows → ownId (o'.dst.getD 0) id := fun j o' hj ho' id r hm => (stepGE_keys (htext j o' hj ho') id r hm).1
  have hsome : ∀ j, j < k → ∃ o', ops[j]? = some o' := fun j hj => ⟨_, Array.getElem?_eq_getElem (Nat.lt_of_lt_of_le hj hp.le)⟩
  have hflr : ∀ j, j ∈ fs → (es j).rows = [] := fun j hj => by
    obtain ⟨o, ho⟩ := hsome j (hp.inb j hj)
    obtain ⟨_, h1, h2⟩ := hp.fl j o hj ho
    have := htext j o (hp.inb j hj) ho
    unfold stepGE at this
    rw [h2] at this
    exact stepE_fl h1 this
  intro fuel
  induction fuel with
  | zero =>
    intro listed g s a w hc hsz hge hcl hst hrel
    exfalso
    have := cnt_pos (f := fun i => listed.getD i true) (hge k (Nat.le_refl _) hp.lt) hp.lt
    omega
  | succ fuel ih =>
    intro listed g s a w hc hsz hge hcl hst hrel
    refine ⟨fun h0 => ?_, fun i hi => ?_⟩
    · exfalso
      obtain ⟨j, hj, hju, hjl⟩ := least (p := fun i => listed.getD i true) (hge k (Nat.le_refl _) hp.lt)
      have ho := Array.getElem?_eq_getElem (show j < ops.size by have := hp.lt; omega)
      have : j ∈ Region.ready .any ops listed := ready_iff.2 ⟨_, ho, hju, fun p hp1 => by
        have hpj := hp.bind j _ ho p hp1
        have hlt := hp.lt
        rw [← getD_tf (by omega)]
        exact hjl p hpj⟩
      rw [h0] at this; cases this
    · obtain ⟨o, ho, h1, h2⟩ := ready_iff.1 hi
      have hlt : i < ops.size := (Array.getElem?_eq_some_iff.1 ho).1
      have h2' : ∀ p ∈ bindsOn o, listed.getD p true = true := fun p hp1 => by
        have := hp.bind i o ho p hp1
        rw [getD_tf (by omega)]; exact h2 p hp1
      by_cases hik : i < k
      · have hTx := text_St hp.toPre0 htext i (by omega)
        have hnD : ¬ listed.getD i true = true := by rw [h1]; simp
        -- what it looks at is the same
        have slot : ∀ t, t ∈ looks ops o → find s.tmps t = find (text ops es s0 i).tmps t := by
          intro t ht
          by_cases hx : ∃ j o', j < k ∧ ops[j]? = some o' ∧ o'.dst = some t
          · obtain ⟨j, o', hj, ho', hdt⟩ := hx
            obtain ⟨hji, hb⟩ := hp.look i j o o' t hik hj ho ho' hdt ht
            rw [hst.t1 j o' t hj (h2' j hb) ho' hdt, hTx.t1 j o' t hj hji ho' hdt]
          · rw [hst.t2 t fun j o' hj _ ho' hdt => hx ⟨j, o', hj, ho', hdt⟩, hTx.t2 t fun j o' hj _ ho' hdt => hx ⟨j, o', hj, ho', hdt⟩]
        have evs : ∀ x, x ∈ o.op.operands.toList → s.ev x = (text ops es s0 i).ev x := by
          intro x hx
          unfold ASt.ev
          cases x with
          | tmp t =>
            simp only
            rw [slot t (by
              unfold looks
              rw [List.mem_append]
              exact .inl (List.mem_filterMap.2 ⟨.tmp t, hx, rfl⟩))]
          | _ => rfl
        have hA : Agree o.op.operands.toList (text ops es s0 i) s := by
          refine ⟨evs, fun x hx id hm => ?_⟩
          have hm' : (s.ev x).ment id = true := by rw [evs x hx]; exact hm
          by_cases hxx : ∃ j r, j < k ∧ find (es j).rows id = some r
          · obtain ⟨j, r, hj, hr⟩ := hxx
            by_cases hDj : listed.getD j true = true
            · by_cases hji : j < i
              · rw [hst.r1 j id r hj hDj hr, hTx.r1 j id r hj hji hr]
              · have := ev_free (hTx.fr j id r hj hji (find_mem hr)) x
                rw [this] at hm; cases hm
            · have := ev_free (hst.fr j id r hj hDj (find_mem hr)) x
              rw [this] at hm'; cases hm'
          · have none_ : ∀ j, j < k → find (es j).rows id = none := fun j hj => by
              cases hf : find (es j).rows id with
              | none => rfl
              | some r => exact absurd ⟨j, r, hj, hf⟩ hxx
            rw [hst.r2 id fun j hj _ => none_ j hj, hTx.r2 id fun j hj _ => none_ j hj]
        have hg : ∀ j want, o.guard = some (j, want) → gval ops s j = gval ops (text ops es s0 i) j := by
          intro j want hgd
          unfold gval
          cases hb : (ops[j]?).bind (·.dst) with
          | none => rfl
          | some d =>
            simp only
            rw [slot d (by
              unfold looks
              rw [List.mem_append, hgd]
              refine .inr ?_
              simp only
              rw [hb]
              simp)]
        have hE : stepGE P T ops o s (es i) := stepGE_agree (htext i o hik ho) hA hg fun id r hm => hst.fr i id r hik hnD hm
        have hG : stepG false P T ops o (fun s' => s' = s.ap o.dst (es i)) s := stepG_of (hp.w i o hik ho) hE
        have hstep := hst.step hp.toPre0 hik hnD ho hE hkeys
        have hs := stepG_sound (ro := ro) (S := S) (w0 := w0) (m := false) (fun hm => by cases hm) hT hrel o (dst_of hd ho) hG (Q := Qc) (K' := wpAnyIn (Fr ro) 0 P .any ops Qc fuel (listed.setIfInBounds i true))
          fun g' st' a' w' hr2 he => by
            subst he
            have hset : ∀ j, (listed.setIfInBounds i true).getD j true = if j = i then true else listed.getD j true := fun j => getD_set (by omega) true j
            refine ih _ g' _ a' w' ?_ (by simpa using hsz) (fun j hj hj2 => ?_) (fun j o' ho' hj p hp1 => ?_) ?_ hr2
            · have := cnt_set (f := fun i => listed.getD i true) (f' := fun j => (listed.setIfInBounds i true).getD j true) (i := i) h1 (by simp only [hset]; simp) (fun j hj => by simp only [hset]; rw [if_neg hj]) ops.size
              rw [if_pos hlt] at this
              omega
            · rw [hset, if_neg (by omega)]; exact hge j hj hj2
            · simp only [hset] at hj ⊢
              by_cases hpi : p = i
              · rw [if_pos hpi]
              · rw [if_neg hpi]
                by_cases hji : j = i
                · subst hji
                  rw [ho] at ho'; cases ho'
                  exact h2' p hp1
                · rw [if_neg hji] at hj
                  exact hcl j o' ho' hj p hp1
            · have hiff : ∀ j, ((listed.setIfInBounds i true).getD j true = true) ↔ (listed.getD j true = true ∨ j = i) := fun j => by
                rw [hset]
                by_cases hji : j = i
                · simp [hji]
                · simp [hji]
              refine ⟨fun j o' t hj hD => hstep.t1 j o' t hj ((hiff j).1 hD), fun t ht => hstep.t2 t fun j o' hj hD => ht j o' hj ((hiff j).2 hD), fun j id r hj hD => hstep.r1 j id r hj ((hiff j).1 hD), fun id hid => hstep.r2 id fun j hj hD => hid j hj ((hiff j).2 hD), fun j id r hj hD => hstep.fr j id r hj fun q => hD ((hiff j).2 q)⟩
        unfold wpOpIn
        rw [ho]
        simp only
        by_cases hw : Region.wanted o (yielded ops a.tmps) = true
        · rw [if_pos hw] at hs ⊢
          exact hs
        · rw [if_neg hw] at hs ⊢
          exact hs
      · -- the operation that writes
        have hk0 : i = k := by
          by_cases e : i = k
          · exact e
          · exfalso
            have hr := hp.past i (by omega) hlt
            obtain ⟨p, hp1, hp2⟩ := reach_first hr ho
            have hlp := h2' p hp1
            have hkf := hge k (Nat.le_refl _) hp.lt
            rcases hp2 with rfl | ⟨f', hp2⟩
            · rw [hkf] at hlp; cases hlp
            · have := closed_reach hcl hp2 hlp
              simp only [hkf] at this; cases this
        subst hk0
        have hmid : ∀ j, j ∉ fs → j < i → listed.getD j true = true := fun j h3 h4 => by
          have hr := hp.at_k j h3 h4
          obtain ⟨p, hp1, hp2⟩ := reach_first hr ho
          have hlp := h2' p hp1
          rcases hp2 with rfl | ⟨f', hp2⟩
          · exact hlp
          · exact closed_reach hcl hp2 hlp
        -- which of the floating ones have come up
        have hj0 : ∃ j, j ≤ fs.length ∧ (∀ l, l ∈ fs.take j → listed.getD l true = true) ∧ ∀ l, l ∈ fs.drop j → listed.getD l true = false := by
          have hq : ∃ j, j ≤ fs.length ∧ (∀ (n l : Nat), n < j → fs[n]? = some l → listed.getD l true = true) ∧ ∀ (n l : Nat), j ≤ n → fs[n]? = some l → listed.getD l true = false := by
            by_cases hall : ∀ (n l : Nat), fs[n]? = some l → listed.getD l true = true
            · exact ⟨fs.length, Nat.le_refl _, fun n l _ hl => hall n l hl, fun n l hn hl => by have := (List.getElem?_eq_some_iff.1 hl).1; omega⟩
            · have hex : ∃ n, n < fs.length ∧ (match fs[n]? with | some l => listed.getD l true | none => true) = false := by
                by_cases h : ∃ n, n < fs.length ∧ (match fs[n]? with | some l => listed.getD l true | none => true) = false
                · exact h
                · refine absurd (fun n l hl => ?_) hall
                  cases hb : listed.getD l true with
                  | true => rfl
                  | false => exact absurd ⟨n, (List.getElem?_eq_some_iff.1 hl).1, by rw [hl]; exact hb⟩ h
              obtain ⟨n, hn, hu⟩ := hex
              obtain ⟨j, hj, hju, hjl⟩ := least (p := fun n => match fs[n]? with | some l => listed.getD l true | none => true) hu
              refine ⟨j, by omega, fun n l hn hl => ?_, ?_⟩
              · have := hjl n hn
                simp only [hl] at this
                exact this
              · intro n l h3
                induction h3 generalizing l with
                | refl => intro hl; simp only [hl] at hju; exact hju
                | @step m h3 ih2 =>
                  intro hl
                  have hm : m < fs.length := by have := (List.getElem?_eq_some_iff.1 hl).1; omega
                  have h5 := ih2 fs[m] (List.getElem?_eq_getElem hm)
                  obtain ⟨o', ho'⟩ := hsome l (hp.inb l (List.mem_of_getElem? hl))
                  have h7 := hp.chain m _ _ o' (List.getElem?_eq_getElem hm) hl ho'
                  cases hb : listed.getD l true with
                  | false => rfl
                  | true =>
                    have := hcl l o' ho' hb _ h7
                    simp only [h5] at this; cases this
          obtain ⟨j, h3, h4, h5⟩ := hq
          refine ⟨j, h3, fun l hl => ?_, fun l hl => ?_⟩
          · obtain ⟨n, hn⟩ := List.mem_iff_getElem?.1 hl
            rw [List.getElem?_take] at hn
            split at hn
            · exact h4 n l ‹_› hn
            · cases hn
          · obtain ⟨n, hn⟩ := List.mem_iff_getElem?.1 hl
            rw [List.getElem?_drop] at hn
            exact h5 _ l (by omega) hn
        obtain ⟨j, hjf, hjl, hju⟩ := hj0
        have hD : ∀ l, l < i → (listed.getD l true = true ↔ l ∉ fs.drop j) := fun l hl => by
          constructor
          · intro h3 h4
            rw [hju l h4] at h3; cases h3
          · intro h3
            by_cases h4 : l ∈ fs
            · rw [← List.take_append_drop j fs, List.mem_append] at h4
              rcases h4 with h4 | h4
              · exact hjl l h4
              · exact absurd h4 h3
            · exact hmid l h4 hl
        have hTx := text_St hp.toPre0 htext i (Nat.le_refl _)
        have hdst : ∀ l o' t, l ∈ fs.drop j → ops[l]? = some o' → o'.dst = some t → (dstsOf (opsAt ops.toList (fs.drop j))).contains t = true := fun l o' t h3 ho' ht => by
          simp only [List.contains_eq_mem, decide_eq_true_eq]
          unfold dstsOf
          rw [List.mem_filterMap]
          refine ⟨o', ?_, ht⟩
          obtain ⟨n, hn⟩ := List.mem_iff_getElem?.1 h3
          obtain ⟨y, hy, hy2⟩ := (all2_opsAt (ops := ops) (l := fs.drop j) fun i' hi' => by have := hp.inb i' (List.mem_of_mem_drop hi'); omega).get' hn
          rw [ho'] at hy2; cases hy2
          exact List.mem_of_getElem? hy
        have hrows : ∀ id, find (text ops es s0 i).rows id = find s.rows id := by
          intro id
          by_cases hxx : ∃ l r, l < i ∧ find (es l).rows id = some r
          · obtain ⟨l, r, hl, hr⟩ := hxx
            have hDl : listed.getD l true = true := (hD l hl).2 fun h3 => by rw [hflr l (List.mem_of_mem_drop h3)] at hr; simp [find] at hr
            rw [hst.r1 l id r hl hDl hr, hTx.r1 l id r hl hl hr]
          · have none_ : ∀ l, l < i → find (es l).rows id = none := fun l hl => by
              cases hf : find (es l).rows id with
              | none => rfl
              | some r => exact absurd ⟨l, r, hl, hf⟩ hxx
            rw [hst.r2 id fun l hl _ => none_ l hl, hTx.r2 id fun l hl _ => none_ l hl]
        have hle : ((text ops es s0 i).dropT (dstsOf (opsAt ops.toList (fs.drop j)))).le s := by
          refine ⟨fun t x hx => ?_, fun id r hr => by rw [← hrows]; exact hr, fun id e sz xs fl hf => .inl (by show find (text ops es s0 i).rows id = _; rw [hrows]; exact hf)⟩
          unfold ASt.dropT at hx
          simp only at hx
          rw [find_filter] at hx
          split at hx
          · cases hx
          · rename_i hnc
            by_cases hxx : ∃ l o', l < i ∧ ops[l]? = some o' ∧ o'.dst = some t
            · obtain ⟨l, o', hl, ho', ht⟩ := hxx
              have hDl : listed.getD l true = true := (hD l hl).2 fun h3 => hnc (hdst l o' t h3 ho' ht)
              rw [hTx.t1 l o' t hl hl ho' ht] at hx
              rw [hst.t1 l o' t hl hDl ho' ht, hx]
            · rw [hTx.t2 t fun l o' hl _ ho' ht => hxx ⟨l, o', hl, ho', ht⟩] at hx
              rw [hst.t2 t fun l o' hl _ ho' ht => hxx ⟨l, o', hl, ho', ht⟩, hx]
        have hset : ∀ j, (listed.setIfInBounds i true).getD j true = if j = i then true else listed.getD j true := fun j => getD_set (by omega) true j
        have hlist : ∀ l, l < ops.size → (listed.setIfInBounds i true).getD l true = !(ordOf ops.size fs i j).contains l := fun l hl => by
          rw [hset]
          cases hc2 : (ordOf ops.size fs i j).contains l with
          | true =>
            rcases mem_ord.1 hc2 with h3 | h3
            · have := hp.inb l (List.mem_of_mem_drop h3)
              rw [if_neg (by omega)]; exact hju l h3
            · rw [if_neg (by omega)]; exact hge l (by omega) hl
          | false =>
            have hn : ¬ (l ∈ fs.drop j ∨ (i < l ∧ l < ops.size)) := fun h3 => by rw [mem_ord.2 h3] at hc2; cases hc2
            by_cases hli : l = i
            · rw [if_pos hli]; rfl
            · rw [if_neg hli]
              exact (hD l (by omega)).2 fun h3 => hn (.inl h3)
        have hcnt : (ordOf ops.size fs i j).length ≤ fuel := by
          have hcs := cnt_set (f := fun i => listed.getD i true) (f' := fun j => (listed.setIfInBounds i true).getD j true) (i := i) h1 (by simp only [hset]; simp) (fun j hj => by simp only [hset]; rw [if_neg hj]) ops.size
          rw [if_pos hlt] at hcs
          have hnd : (ordOf ops.size fs i j).Nodup := by
            unfold ordOf
            rw [List.nodup_append]
            refine ⟨(List.drop_sublist j fs).nodup hp.nd, ?_, ?_⟩
            · unfold ixs
              exact List.Pairwise.map _ (fun a b h => by omega) List.nodup_range
            · intro a ha b hb e
              subst e
              have h3 := hp.inb a (List.mem_of_mem_drop ha)
              unfold ixs at hb
              rw [List.mem_map] at hb
              obtain ⟨c, _, hc⟩ := hb
              omega
          have := cnt_ge (f := fun l => (listed.setIfInBounds i true).getD l true) ops.size (ordOf ops.size fs i j) hnd fun x hx => by
            have hx' : (ordOf ops.size fs i j).contains x = true := by simpa using hx
            have hxs : x < ops.size := by
              rcases mem_ord.1 hx' with h3 | h3
              · have := hp.inb x (List.mem_of_mem_drop h3); omega
              · exact h3.2
            exact ⟨hxs, by rw [hlist x hxs, hx']; rfl⟩
          omega
        have hKj := hK j hjf
        have h1o : (ops.toList.drop i).take 1 = [o] := by
          rw [List.drop_eq_getElem_cons (by simpa using hlt)]
          have := Array.getElem?_eq_getElem hlt
          rw [ho] at this
          cases this
          simp
        rw [h1o, List.singleton_append] at hKj
        have hs := stepG_sound (ro := ro) (S := S) (w0 := w0) (m := N.calm) (fun hm => hm) hT (hrel.weaken hle) o (dst_of hd ho) hKj (Q := Qc) (K' := wpAnyIn (Fr ro) 0 P .any ops Qc fuel (listed.setIfInBounds i true))
          fun g' st' a' w' h1 h2 => phaseO hT hd (fun i o ho p hp1 => hp.bind i o ho p hp1) hQ _ _ fuel _ g' st' a' w' (all2_ord hp.lt hp.inb) (hp.forced j hjf) hcnt (by simpa using hsz) hlist h1 h2
        unfold wpOpIn
        rw [ho]
        simp only
        by_cases hw : Region.wanted o (yielded ops a.tmps) = true
        · rw [if_pos hw] at hs ⊢
          exact hs
        · rw [if_neg hw] at hs ⊢
          exact hs

/-- What is to be shown behind the head: for each number of floating operations that have come up by then. -/
def FloatK (fs : List Nat) (k : Nat) (P : Program) (T : Tab) (N : Fm) (ops : Array Oper) (K : ASt → Prop) (s : ASt) : Prop :=
  ∀ j, j ≤ fs.length → aOps N.calm P T ops ((ops.toList.drop k).take 1 ++ (opsAt ops.toList (fs.drop j) ++ ops.toList.drop (k + 1))) K (s.dropT (dstsOf (opsAt ops.toList (fs.drop j))))
theorem floatK_two {N : Fm} {s : ASt} {a b : Nat} (h0 : aOps N.calm P T ops ((ops.toList.drop k).take 1 ++ (((ops.toList.drop a).take 1 ++ (ops.toList.drop b).take 1) ++ ops.toList.drop (k + 1))) K (s.dropT (dstsOf ((ops.toList.drop a).take 1 ++ (ops.toList.drop b).take 1))))
    (h1 : aOps N.calm P T ops ((ops.toList.drop k).take 1 ++ ((ops.toList.drop b).take 1 ++ ops.toList.drop (k + 1))) K (s.dropT (dstsOf ((ops.toList.drop b).take 1))))
    (h2 : aOps N.calm P T ops ((ops.toList.drop k).take 1 ++ ops.toList.drop (k + 1)) K (s.dropT [])) : FloatK [a, b] k P T N ops K s := by
  intro j hj
  have : j = 0 ∨ j = 1 ∨ j = 2 := by simp at hj; omega
  rcases this with rfl | rfl | rfl
  · simpa [opsAt] using h0
  · simpa [opsAt] using h1
  · simpa [dstsOf, opsAt] using h2
theorem floatK_three {N : Fm} {s : ASt} {a b c : Nat} (h0 : aOps N.calm P T ops ((ops.toList.drop k).take 1 ++ (((ops.toList.drop a).take 1 ++ ((ops.toList.drop b).take 1 ++ (ops.toList.drop c).take 1)) ++ ops.toList.drop (k + 1))) K (s.dropT (dstsOf ((ops.toList.drop a).take 1 ++ ((ops.toList.drop b).take 1 ++ (ops.toList.drop c).take 1)))))
    (h1 : aOps N.calm P T ops ((ops.toList.drop k).take 1 ++ (((ops.toList.drop b).take 1 ++ (ops.toList.drop c).take 1) ++ ops.toList.drop (k + 1))) K (s.dropT (dstsOf ((ops.toList.drop b).take 1 ++ (ops.toList.drop c).take 1))))
    (h2 : aOps N.calm P T ops ((ops.toList.drop k).take 1 ++ ((ops.toList.drop c).take 1 ++ ops.toList.drop (k + 1))) K (s.dropT (dstsOf ((ops.toList.drop c).take 1))))
    (h3 : aOps N.calm P T ops ((ops.toList.drop k).take 1 ++ ops.toList.drop (k + 1)) K (s.dropT [])) : FloatK [a, b, c] k P T N ops K s := by
  intro j hj
  have : j = 0 ∨ j = 1 ∨ j = 2 ∨ j = 3 := by simp at hj; omega
  rcases this with rfl | rfl | rfl | rfl
  · simpa [opsAt] using h0
  · simpa [opsAt] using h1
  · simpa [opsAt] using h2
  · simpa [dstsOf, opsAt] using h3
theorem floatK_one {N : Fm} {s : ASt} {a : Nat} (h1 : aOps N.calm P T ops ((ops.toList.drop k).take 1 ++ ((ops.toList.drop a).take 1 ++ ops.toList.drop (k + 1))) K (s.dropT (dstsOf ((ops.toList.drop a).take 1))))
    (h2 : aOps N.calm P T ops ((ops.toList.drop k).take 1 ++ ops.toList.drop (k + 1)) K (s.dropT [])) : FloatK [a] k P T N ops K s := by
  intro j hj
  have : j = 0 ∨ j = 1 := by simp at hj; omega
  rcases this with rfl | rfl
  · simpa [opsAt] using h1
  · simpa [dstsOf, opsAt] using h2

/-- A region that draws its order, with first operations that may float behind the first one that writes. -/
theorem wpL_drawF {ro : Option Nat} (hT : TabOk P T) (hm : P.follows .mixedOrders = true) (fs : List Nat) (k : Nat) {id : Nat} {l : List Code} {Q : Exit → ASt → Prop} {st : ASt} (hdk : floatOk fs k ops = true) (hl : dstOk N.n ops.toList = true) (h : aOpsD P T ops (ops.toList.take k) (FloatK fs k P T N ops (wpL ro P N l Q)) st) :
    wpL ro P N (.region id ops true :: l) Q st := by
  intro S w0 g a w hr
  have hp := preF_of hdk
  obtain ⟨es, htext, hK⟩ := aOps_es hp.toPre0 h k (Nat.le_refl _)
  rw [List.drop_eq_nil_of_le (by simp; omega)] at hK
  replace hK : FloatK fs k P T N ops (wpL ro P N l Q) (text ops es st k) := hK
  refine wpIn_region_any hm ?_
  have hgd : ∀ i, i < ops.size → (Array.replicate ops.size false).getD i true = false := fun i hi => by
    simp [Array.getD_eq_getD_getElem?, hi]
  have hst := text_St hp.toPre0 htext 0 (Nat.zero_le _)
  refine phaseF hT hl hp (Qc := fun e a' w' => ∃ g' st', Rel S w0 N g' st' a' w' ∧ thenL (wpL ro P N l Q) Q e st') (fun g s a w h1 h2 => ⟨g, s, h1, h2⟩) htext hK ops.size _ g st a _ ?_ (by simp) (fun i _ hi => hgd i hi) (fun i o ho hi => ?_) ?_ (hr.heap rfl rfl rfl rfl)
  · have : ∀ n (f : Nat → Bool), cnt f n ≤ n := by
      intro n f
      induction n with
      | zero => simp [cnt]
      | succ n ih => unfold cnt; split <;> omega
    exact this _ _
  · have hlt : i < ops.size := (Array.getElem?_eq_some_iff.1 ho).1
    simp only [hgd i hlt] at hi
    cases hi
  · have hno : ∀ i, i < k → ¬ (Array.replicate ops.size false).getD i true = true := fun i hi => by
      rw [hgd i (Nat.lt_of_lt_of_le hi hp.le)]; simp
    refine ⟨fun i o t hi hD => absurd hD (hno i hi), fun t _ => rfl, fun i id r hi hD => absurd hD (hno i hi), fun id _ => rfl, fun i id r hi _ hmm => hst.fr i id r hi (by omega) hmm⟩
def memN (k : Nat) : List Nat → Bool
  | [] => false
  | d :: ds => if k = d then true else memN k ds
theorem memN_eq (k : Nat) : ∀ ds : List Nat, memN k ds = ds.contains k
  | [] => rfl
  | d :: ds => by
    unfold memN
    rw [memN_eq k ds]
    by_cases h : k = d <;> simp [h]
def dropL (ds : List Nat) (l : List (Nat × AV)) : List (Nat × AV) := l.filter fun p => !ds.contains p.1
@[go_sem] theorem memN_nil (k : Nat) : memN k [] = false := rfl
@[go_sem] theorem memN_cons (k d : Nat) (ds : List Nat) : memN k (d :: ds) = if k = d then true else memN k ds := rfl
@[go_sem] theorem dropL_nil (ds : List Nat) : dropL ds [] = [] := rfl
@[go_sem] theorem dropL_cons (ds : List Nat) (k : Nat) (v : AV) (l : List (Nat × AV)) : dropL ds ((k, v) :: l) = if memN k ds = true then dropL ds l else (k, v) :: dropL ds l := by
  rw [memN_eq]
  unfold dropL
  rw [List.filter_cons]
  by_cases h : ds.contains k = true
  · rw [if_neg (by simpa using h), if_pos h]
  · rw [if_pos (by simpa using h), if_neg h]
@[go_sem] theorem dropT_mk (t : List (Nat × AV)) (r : List (Nat × ARow)) (ds : List Nat) : ASt.dropT ⟨t, r⟩ ds = ⟨dropL ds t, r⟩ := rfl
@[go_sem] theorem dstsOf_nil : dstsOf [] = [] := rfl
@[go_sem] theorem dstsOf_cons (o : Oper) (l : List Oper) : dstsOf (o :: l) = (match o.dst with | some d => d :: dstsOf l | none => dstsOf l) := by
  unfold dstsOf
  rw [List.filterMap_cons]
  cases o.dst <;> rfl

/-- A box whose cells lead to frozen rows alone: its cells are data. -/
theorem Rel.boxD {g : Gh} {st : ASt} {a : Act} {w : World} (h : Rel S w0 N g st a w) {id Ty : Nat} {cs : List AC} {xs : List DC} (hr : find st.rows id = some (.box Ty cs)) (hd : dcsOf false st.rows cs = some xs) :
    Rel S w0 N g ⟨st.tmps, (id, .box Ty (xs.map .d)) :: st.rows⟩ a w := by
  have hrows : ∀ i r, find ((id, ARow.box Ty (xs.map .d)) :: st.rows) i = some r → ∃ r', find st.rows i = some r' ∧ (∀ o, r'.safe o → r.safe o) := by
    intro i r hf
    simp only [find] at hf
    split at hf
    · rename_i he; subst he; cases hf; exact ⟨_, hr, fun o ho => ho⟩
    · exact ⟨r, hf, fun o ho => ho⟩
  have hF : ∀ b' o, Sf w0.heap.size S st.rows g b' o → Sf w0.heap.size S ((id, ARow.box Ty (xs.map .d)) :: st.rows) g b' o := by
    intro b' o hs
    rcases hs with hs | ⟨q1, q2⟩
    · exact .inl hs
    · refine .inr ⟨q1, fun i r c hf hgi => ?_⟩
      obtain ⟨r', hf', hsafe⟩ := hrows i r hf
      exact hsafe o (q2 i r' c hf' hgi)
  have hc : ∀ b' o, Sf w0.heap.size S st.rows g b' o → b' < w.heap.size → Sf w0.heap.size S ((id, ARow.box Ty (xs.map .d)) :: st.rows) g b' o ∧ cl w b' o = cl w b' o := fun b' o hs _ => ⟨hF b' o hs, rfl⟩
  have hk : ∀ i : Nat, g i = g i ∧ ∀ e' sz' xs' fl', find st.rows i = some (.arr e' sz' xs' fl') → ∃ xs2 fl2, find ((id, ARow.box Ty (xs.map .d)) :: st.rows) i = some (.arr e' sz' xs2 fl2) ∧ xs2.length = xs'.length := by
    intro i
    refine ⟨rfl, fun e' sz' xs' fl' hf => ?_⟩
    by_cases hi : i = id
    · subst hi; rw [hr] at hf; cases hf
    · exact ⟨xs', fl', by rw [find_set_ne hi]; exact hf, rfl⟩
  refine ⟨h.below, h.size, h.calm, h.good, h.defers, fun i r b' c hf hgi => ?_, fun i i' r r' b' c c' hf hf' hgi hgi' => ?_, fun i r hf => ?_, fun i x hx => ?_⟩
  · obtain ⟨r', hf', _⟩ := hrows i r hf
    exact h.blk i r' b' c hf' hgi
  · obtain ⟨r1, hf1, _⟩ := hrows i r hf
    obtain ⟨r2, hf2, _⟩ := hrows i' r' hf'
    exact h.inj i i' r1 r2 b' c c' hf1 hf2 hgi hgi'
  · by_cases he : i = id
    · subst he
      rw [find_set_eq] at hf
      cases hf
      obtain ⟨b, c, cur, hg, hb, hall⟩ := h.rows _ _ hr
      refine ⟨b, c, cur, hg, hb, ?_⟩
      have h1 := dcs_sound (lent := false) h hall hd
      refine All2.of_get ?_ fun n u x hu hx => ?_
      · have := h1.len; simpa using this
      · rw [List.getElem?_map] at hx
        obtain ⟨y, hy, rfl⟩ := Option.map_eq_some_iff.1 hx
        obtain ⟨u', hu', hr'⟩ := h1.get hy
        rw [hu] at hu'; cases hu'
        obtain ⟨y', _, hone, _⟩ := hall.get' hu
        refine ⟨hone, ?_⟩
        unfold RelAC
        exact RelC.sub (fun b o hb => hF b o (by simpa using hb)) hr'
    · rw [find_set_ne he] at hf
      exact (h.rows i r hf).carry hc rfl (fun _ _ _ => rfl) (NonC.refl _) fun id' _ => hk id'
  · obtain ⟨v, hv, hrv⟩ := h.tmps i x hx
    exact ⟨v, hv, hrv.carry hc fun id' _ => hk id'⟩
theorem wpL_boxD {ro : Option Nat} {st : ASt} {c : Code} {l : List Code} {Q : Exit → ASt → Prop} (id : Nat) {Ty : Nat} {cs : List AC} {xs : List DC} (hr : find st.rows id = some (.box Ty cs)) (hd : dcsOf false st.rows cs = some xs)
    (h : wpL ro P N (c :: l) Q ⟨st.tmps, (id, .box Ty (xs.map .d)) :: st.rows⟩) : wpL ro P N (c :: l) Q st :=
  fun S w0 g a w hrel => h S w0 g a w (hrel.boxD hr hd)
end
end Go.Abs
