/-
  Ghost steps: a nil slice viewed as an empty row, a row made fast.
-/
import Derived.Test.YtldgcpdpebhndaaDoorAbsR
import Derived.IntWalk
import Derived.Scope
import Derived.RangeFuncSeq
import Derived.RangeFuncIn
import Derived.RangeFuncRecord
set_option linter.unusedSimpArgs false
set_option linter.unusedVariables false
namespace Go.Abs
open Go.RowKit

theorem ge_of {a b : Int} (h : decide (a < b) = false) : b ≤ a := by simpa using h
theorem lt_of {a b : Int} (h : decide (a < b) = true) : a < b := by simpa using h
theorem get_ex {α : Type} {l : List α} {i : Nat} (h : i < l.length) : ∃ x, l[i]? = some x := ⟨_, List.getElem?_eq_getElem h⟩
theorem take_succ_get {α : Type} {l : List α} {i : Nat} {x : α} (h : l[i]? = some x) : l.take (i + 1) = l.take i ++ [x] := by rw [List.take_add_one, h]; rfl
theorem drop_get {α : Type} {l : List α} {i : Nat} {x : α} (h : l[i]? = some x) : l.drop i = x :: l.drop (i + 1) := by
  obtain ⟨h1, h2⟩ := List.getElem?_eq_some_iff.1 h
  rw [List.drop_eq_getElem_cons h1, h2]

section
variable {S : Nat → Nat → Prop} {w0 : World} {N : Fm} {g : Gh} {st : ASt} {a : Act} {w : World} {P : Program} {T : Tab} {ro : Option Nat}

theorem Rel.bear (h : Rel S w0 N g st a w) {id : Nat} (hm : st.nomen id) (e sz : Nat) : Rel S w0 N (updG g id none) ⟨st.tmps, (id, .arr e sz [] false) :: st.rows⟩ a w := by
  refine Rel.renew h hm rfl rfl rfl (Nat.le_refl _) (fun b _ _ => rfl) (fun b cap hx => by cases hx) (fun b cap o hx => by cases hx) fun hc => ?_
  exact ⟨fun i x hx => by simp at hx, .inl ⟨updG_eq _ _ _, rfl⟩⟩

/-- A slot with the nil slice leads to a row without elements. -/
theorem Rel.nilSlot (h : Rel S w0 N g st a w) {t id e sz : Nat} (ht : find st.tmps t = some (.c .nil)) (hr : find st.rows id = some (.arr e sz [] false)) (hg : g id = none) : Rel S w0 N g ⟨(t, .c (.row id)) :: st.tmps, st.rows⟩ a w := by
  refine ⟨h.below, h.size, h.calm, h.good, h.defers, h.blk, h.inj, h.rows, fun i x hx => ?_⟩
  simp only [find] at hx
  split at hx
  · rename_i he
    subst he
    cases hx
    obtain ⟨v, hv, hrv⟩ := h.tmps _ _ ht
    refine ⟨v, hv, ?_⟩
    unfold RelV at hrv ⊢
    obtain ⟨h1, h2⟩ := hrv
    refine ⟨h1, e, sz, [], false, hr, ?_⟩
    have : v = .slice none 0 0 := h2
    rw [this, hg]
    rfl
  · exact h.tmps i x hx

theorem wpL_nilSlot {c : Code} {l : List Code} {Q : Exit → ASt → Prop} (t id e sz : Nat) (ht : find st.tmps t = some (.c .nil)) (hm : st.nomenB id = true)
    (h : wpL ro P N (c :: l) Q ⟨(t, .c (.row id)) :: st.tmps, (id, .arr e sz [] false) :: st.rows⟩) : wpL ro P N (c :: l) Q st := by
  intro S w0 g a w hr
  exact h S w0 _ a w ((hr.bear (nomen_of hm) e sz).nilSlot ht find_set_eq (updG_eq _ _ _))

/-- .. and so does a cell of a variable. -/
theorem Rel.nilCell (h : Rel S w0 N g st a w) {b j id e sz T : Nat} {cs : List AC} (hne : b ≠ id) (hb : find st.rows b = some (.box T cs)) (hj : cs[j]? = some .nil) (hr : find st.rows id = some (.arr e sz [] false)) (hg : g id = none) :
    Rel S w0 N g ⟨st.tmps, (b, .box T (cs.set j (.row id))) :: st.rows⟩ a w := by
  have hrows : ∀ i r, find ((b, ARow.box T (cs.set j (.row id))) :: st.rows) i = some r → ∃ r', find st.rows i = some r' ∧ (∀ o, r'.safe o ↔ r.safe o) := by
    intro i r hf
    simp only [find] at hf
    split at hf
    · rename_i he; subst he; cases hf; exact ⟨_, hb, fun o => Iff.rfl⟩
    · exact ⟨r, hf, fun o => Iff.rfl⟩
  have hrows' : ∀ i r, find st.rows i = some r → ∃ r', find ((b, ARow.box T (cs.set j (.row id))) :: st.rows) i = some r' ∧ (∀ o, r'.safe o ↔ r.safe o) := by
    intro i r hf
    by_cases he : i = b
    · subst he; rw [hb] at hf; cases hf; exact ⟨_, find_set_eq, fun o => Iff.rfl⟩
    · exact ⟨r, by rw [find_set_ne he]; exact hf, fun o => Iff.rfl⟩
  have hF : ∀ b' o, Sf w0.heap.size S st.rows g b' o → Sf w0.heap.size S ((b, ARow.box T (cs.set j (.row id))) :: st.rows) g b' o := by
    intro b' o hs
    rcases hs with hs | ⟨q1, q2⟩
    · exact .inl hs
    · refine .inr ⟨q1, fun i r c hf hgi => ?_⟩
      obtain ⟨r', hf', hsafe⟩ := hrows i r hf
      exact (hsafe o).1 (q2 i r' c hf' hgi)
  have hc : ∀ b' o, Sf w0.heap.size S st.rows g b' o → b' < w.heap.size → Sf w0.heap.size S ((b, ARow.box T (cs.set j (.row id))) :: st.rows) g b' o ∧ cl w b' o = cl w b' o := fun b' o hs _ => ⟨hF b' o hs, rfl⟩
  have hk : ∀ i : Nat, g i = g i ∧ ∀ e sz xs fl, find st.rows i = some (.arr e sz xs fl) → ∃ xs' fl', find ((b, ARow.box T (cs.set j (.row id))) :: st.rows) i = some (.arr e sz xs' fl') ∧ xs'.length = xs.length := by
    intro i
    refine ⟨rfl, fun e sz xs fl hf => ?_⟩
    have hib : i ≠ b := fun he => by subst he; rw [hb] at hf; cases hf
    exact ⟨xs, fl, by rw [find_set_ne hib]; exact hf, rfl⟩
  refine ⟨h.below, h.size, h.calm, h.good, h.defers, fun i r b' c hf hgi => ?_, fun i i' r r' b' c c' hf hf' hgi hgi' => ?_, fun i r hf => ?_, fun i x hx => ?_⟩
  · obtain ⟨r', hf', _⟩ := hrows i r hf
    exact h.blk i r' b' c hf' hgi
  · obtain ⟨r1, hf1, _⟩ := hrows i r hf
    obtain ⟨r2, hf2, _⟩ := hrows i' r' hf'
    exact h.inj i i' r1 r2 b' c c' hf1 hf2 hgi hgi'
  · by_cases he : i = b
    · subst he
      rw [find_set_eq] at hf
      cases hf
      obtain ⟨b', c, cur, h1, h2, h3⟩ := h.rows _ _ hb
      refine ⟨b', c, cur, h1, h2, ?_⟩
      have h3' := h3.mono' (R' := fun u x => u.oneCell' = true ∧ RelAC (Sf w0.heap.size S ((i, ARow.box T (cs.set j (.row id))) :: st.rows) g) w ((i, ARow.box T (cs.set j (.row id))) :: st.rows) g u x) fun u y hy hu => ⟨hu.1, hu.2.carry hc fun id' _ => hk id'⟩
      obtain ⟨u, hu, hu1, hu2⟩ := h3'.get hj
      have hnil : u = .slice none 0 0 := hu2
      have hset := h3'.set (i := j) (a := u) (b := AC.row id) ⟨hu1, e, sz, [], false, by rw [find_set_ne (Ne.symm hne)]; exact hr, by rw [hnil, hg]; rfl⟩
      have hsame : cur.toList.set j u = cur.toList := by
        apply List.ext_getElem?
        intro n
        rw [List.getElem?_set]
        split
        · rename_i e1; subst e1
          have hlt := (List.getElem?_eq_some_iff.1 hu).1
          simp [hlt, hu]
          simpa using hlt
        · rfl
      rw [hsame] at hset
      exact hset
    · rw [find_set_ne he] at hf
      exact (h.rows i r hf).carry hc rfl (fun _ _ _ => rfl) (NonC.refl _) fun id' _ => hk id'
  · obtain ⟨v, hv, hrv⟩ := h.tmps i x hx
    exact ⟨v, hv, hrv.carry hc fun id' _ => hk id'⟩

theorem find_box_set {b j T : Nat} {cs : List AC} {rows : List (Nat × ARow)} {x : Nat × ARow} (h : find rows b = some (.box T cs)) (hne : b ≠ x.1) : find (x :: rows) b = some (.box T cs) := by
  obtain ⟨k, r⟩ := x
  rw [find_set_ne hne]; exact h

theorem wpL_nilCell {c : Code} {l : List Code} {Q : Exit → ASt → Prop} (b j id e sz : Nat) {T : Nat} {cs : List AC} (hb : find st.rows b = some (.box T cs)) (hj : cs[j]? = some .nil) (hne : b ≠ id) (hm : st.nomenB id = true)
    (h : wpL ro P N (c :: l) Q ⟨st.tmps, (b, .box T (cs.set j (.row id))) :: (id, .arr e sz [] false) :: st.rows⟩) : wpL ro P N (c :: l) Q st := by
  intro S w0 g a w hr
  exact h S w0 _ a w ((hr.bear (nomen_of hm) e sz).nilCell hne (by rw [find_set_ne hne]; exact hb) hj find_set_eq (updG_eq _ _ _))

attribute [go_sem] Option.isNone_none Option.isNone_some
@[go_sem] theorem wpL_nil {Q : Exit → ASt → Prop} {s : ASt} : wpL ro P N [] Q s = Q .normal s := rfl

/-- A statement, and what is known after it. -/
theorem wpL_to {c d : Code} {l : List Code} {Q : Exit → ASt → Prop} (mid : ASt) (h1 : wpL ro P N [c] (thenL (fun s => mid.le s) Q) st) (h2 : wpL ro P N (d :: l) Q mid) : wpL ro P N (c :: d :: l) Q st := by
  refine AWp_mono (fun e s hs => ?_) h1
  cases e with
  | normal => exact wpL_weaken hs h2
  | _ => exact hs

/-- A row made fast: from now on its elements are data. -/
theorem Rel.fast (h : Rel S w0 N g st a w) {id e sz : Nat} {xs : List (List DC)} {fl : Bool} (hr : find st.rows id = some (.arr e sz xs fl)) : Rel S w0 N g ⟨st.tmps, (id, .arr e sz xs true) :: st.rows⟩ a w := by
  have hrows : ∀ i r, find ((id, ARow.arr e sz xs true) :: st.rows) i = some r → ∃ r', find st.rows i = some r' ∧ (∀ o, r'.safe o → r.safe o) := by
    intro i r hf
    simp only [find] at hf
    split at hf
    · rename_i he; subst he; cases hf; exact ⟨_, hr, fun o ho => ⟨rfl, ho.2⟩⟩
    · exact ⟨r, hf, fun o ho => ho⟩
  have hF : ∀ b' o, Sf w0.heap.size S st.rows g b' o → Sf w0.heap.size S ((id, ARow.arr e sz xs true) :: st.rows) g b' o := by
    intro b' o hs
    rcases hs with hs | ⟨q1, q2⟩
    · exact .inl hs
    · refine .inr ⟨q1, fun i r c hf hgi => ?_⟩
      obtain ⟨r', hf', hsafe⟩ := hrows i r hf
      exact hsafe o (q2 i r' c hf' hgi)
  have hc : ∀ b' o, Sf w0.heap.size S st.rows g b' o → b' < w.heap.size → Sf w0.heap.size S ((id, ARow.arr e sz xs true) :: st.rows) g b' o ∧ cl w b' o = cl w b' o := fun b' o hs _ => ⟨hF b' o hs, rfl⟩
  have hk : ∀ i : Nat, g i = g i ∧ ∀ e' sz' xs' fl', find st.rows i = some (.arr e' sz' xs' fl') → ∃ xs2 fl2, find ((id, ARow.arr e sz xs true) :: st.rows) i = some (.arr e' sz' xs2 fl2) ∧ xs2.length = xs'.length := by
    intro i
    refine ⟨rfl, fun e' sz' xs' fl' hf => ?_⟩
    by_cases hi : i = id
    · subst hi; rw [hr] at hf; cases hf; exact ⟨xs, true, find_set_eq, rfl⟩
    · exact ⟨xs', fl', by rw [find_set_ne hi]; exact hf, rfl⟩
  refine ⟨h.below, h.size, h.calm, h.good, h.defers, fun i r b' c hf hgi => ?_, fun i i' r r' b' c c' hf hf' hgi hgi' => ?_, fun i r hf => ?_, fun i x hx => ?_⟩
  · obtain ⟨r', hf', _⟩ := hrows i r hf
    exact h.blk i r' b' c hf' hgi
  · obtain ⟨r1, hf1, _⟩ := hrows i r hf
    obtain ⟨r2, hf2, _⟩ := hrows i' r' hf'
    exact h.inj i i' r1 r2 b' c c' hf1 hf2 hgi hgi'
  · by_cases he : i = id
    · subst he
      rw [find_set_eq] at hf
      cases hf
      have h2 : RelRow (Sf w0.heap.size S st.rows g) w st.rows g i (.arr e sz xs true) := by
        have h3 := h.rows _ _ hr
        exact h3
      exact h2.carry hc rfl (fun _ _ _ => rfl) (NonC.refl _) fun id' _ => hk id'
    · rw [find_set_ne he] at hf
      exact (h.rows i r hf).carry hc rfl (fun _ _ _ => rfl) (NonC.refl _) fun id' _ => hk id'
  · obtain ⟨v, hv, hrv⟩ := h.tmps i x hx
    exact ⟨v, hv, hrv.carry hc fun id' _ => hk id'⟩

theorem wpL_fast {c : Code} {l : List Code} {Q : Exit → ASt → Prop} (id : Nat) {e sz : Nat} {xs : List (List DC)} {fl : Bool} (hr : find st.rows id = some (.arr e sz xs fl))
    (h : wpL ro P N (c :: l) Q ⟨st.tmps, (id, .arr e sz xs true) :: st.rows⟩) : wpL ro P N (c :: l) Q st := by
  intro S w0 g a w hrel
  exact h S w0 _ a w (hrel.fast hr)

/-- What is known otherwise of the same memory. -/
def Ghost (s s' : ASt) : Prop := ∀ (S : Nat → Nat → Prop) (w0 : World) (N : Fm) (g : Gh) (a : Act) (w : World), Rel S w0 N g s a w → ∃ g', Rel S w0 N g' s' a w

theorem ghost_fast {s : ASt} (id : Nat) {e sz : Nat} {xs : List (List DC)} {fl : Bool} (hr : find s.rows id = some (.arr e sz xs fl)) : Ghost s ⟨s.tmps, (id, .arr e sz xs true) :: s.rows⟩ :=
  fun S w0 N g a w h => ⟨g, h.fast hr⟩

theorem aOps_split (hT : TabOk P T) {ops : Array Oper} {K : ASt → Prop} {Q : Exit → Act → World → Prop} (hQ : ∀ g' st' a' w', Rel S w0 N g' st' a' w' → K st' → Q .normal a' w') (l2 : List Oper) (hl2 : dstOk N.n l2 = true) :
    ∀ (l : List Oper), dstOk N.n l = true → ∀ {g : Gh} {st : ASt} {a : Act} {w : World}, Rel S w0 N g st a w → aOps N.calm P T ops l (fun s => ∃ s', Ghost s s' ∧ aOps N.calm P T ops l2 K s') st → wpListIn (Fr ro) 0 P ops Q (l ++ l2) a w
  | [], _, _, _, _, _, h, hK => by
    obtain ⟨s', hg, hK'⟩ := hK
    obtain ⟨g', h'⟩ := hg _ _ _ _ _ _ h
    exact aOps_sound (m := N.calm) (fun hm => hm) hT hQ l2 hl2 h' hK'
  | o :: l, hl, g, st, a, w, h, hK => by
    simp only [dstOk, List.all_cons, Bool.and_eq_true] at hl
    have hd : ∀ i, o.dst = some i → i < N.n := by
      intro i hi
      have := hl.1
      rw [hi] at this
      simpa using this
    refine wpListIn_step fun K' hK' => ?_
    exact stepG_sound (m := N.calm) (fun hm => hm) hT h o hd hK fun g' st' a' w' h1 h2 => hK' _ _ (aOps_split hT hQ l2 hl2 l hl.2 h1 h2)

/-- A region, something known otherwise after its first k operations. -/
theorem wpL_split (hT : TabOk P T) (k : Nat) {id : Nat} {ops : Array Oper} {l : List Code} {Q : Exit → ASt → Prop} (hl : dstOk N.n ops.toList = true)
    (h : aOps N.calm P T ops (ops.toList.take k) (fun s => ∃ s', Ghost s s' ∧ aOps N.calm P T ops (ops.toList.drop k) (wpL ro P N l Q) s') st) : wpL ro P N (.region id ops false :: l) Q st := by
  intro S w0 g a w hr
  have h1 : dstOk N.n (ops.toList.take k) = true := by
    unfold dstOk at hl ⊢
    rw [List.all_eq_true] at hl ⊢
    exact fun x hx => hl x (List.mem_of_mem_take hx)
  have h2 : dstOk N.n (ops.toList.drop k) = true := by
    unfold dstOk at hl ⊢
    rw [List.all_eq_true] at hl ⊢
    exact fun x hx => hl x (List.mem_of_mem_drop hx)
  refine wpIn_region_list ?_
  have := aOps_split (ro := ro) (P := P) (S := S) (w0 := w0) hT (Q := fun e a' w' => ∃ g' st', Rel S w0 N g' st' a' w' ∧ thenL (wpL ro P N l Q) Q e st') (fun g' st' a' w' h1 h2 => ⟨g', st', h1, h2⟩) (ops.toList.drop k) h2 (ops.toList.take k) h1 hr h
  rwa [List.take_append_drop] at this


def scopeQ (K : ASt → Prop) (Q : Exit → ASt → Prop) : Exit → ASt → Prop
  | .normal, s => K s
  | .goto _, _ => False
  | e, s => Q e s

attribute [go_sem] scopeQ

section
variable {b : Frame} {k : List Item} {cs : List Frame}
theorem stepR_scope {c : Code} : step P (lone (b.atR a (.code (.scope c) :: k)) cs w) = .next (lone (b.atR a (.code c :: .inScope c :: k)) cs w) :=
  step_lone_go (by simp [_root_.Go.stepG, _root_.Go.stepG.exec, Frame.atR])
theorem stepR_inScope {c : Code} : step P (lone (b.atR a (.inScope c :: k)) cs w) = .next (lone (b.atR a k) cs w) :=
  step_lone_go (by simp [_root_.Go.stepG, _root_.Go.stepG.exec, Frame.atR])
end
theorem wpIn_scope_straight {F : Fence} {n : Nat} {Q : Exit → Act → World → Prop} {c : Code} (h : c.wpIn F n P (Exit.noGoto Q) a w) : (Code.scope c).wpIn F n P Q a w := by
  intro b k cs hro hb hr
  have h0 : (lone (b.atR a (.code (.scope c) :: k)) cs w).fenced P F := fenced_calm hb hr rfl
  obtain ⟨e, a₁, w₁, hq, harr⟩ := h b (.inScope c :: k) cs hro hb hr
  have hx : ∀ id, exitTo id (.inScope c :: k) = exitTo id k := fun id => by simp [exitTo]
  cases e with
  | normal => exact ⟨.normal, a₁, w₁, hq, .head h0 stepR_scope (StepsIn.trans harr (.one (fenced_calm hb hr rfl) stepR_inScope))⟩
  | exit id =>
    exact ⟨.exit id, a₁, w₁, hq, fun k' hk => .head h0 stepR_scope (harr.1 k' (by rw [hx]; exact hk)),
      fun hr' hk => let ⟨k₁, h1, h2⟩ := harr.2 hr' (by rw [hx]; exact hk); ⟨k₁, h1, .head h0 stepR_scope h2⟩⟩
  | goto l => exact hq.elim
  | ret => exact ⟨_, a₁, w₁, hq, .of_steps (.one h0 stepR_scope) harr⟩
  | panic ch => exact ⟨_, a₁, w₁, hq, .of_steps (.one h0 stepR_scope) harr⟩
  | outgrown => exact ⟨_, a₁, w₁, hq, .of_steps (.one h0 stepR_scope) harr⟩

theorem wpL_scope {c : Code} {l : List Code} {Q : Exit → ASt → Prop} (h : wpL ro P N (flat c) (scopeQ (wpL ro P N l Q) Q) st) : wpL ro P N (.scope c :: l) Q st := by
  intro S w0 g a w hr
  refine wpIn_scope_straight (wpIn_mono (AWp_flat c h S w0 g a w hr) fun e a' w' ⟨g', st', h1, h2⟩ => ?_)
  cases e with
  | goto t => exact h2.elim
  | _ => exact ⟨g', st', h1, h2⟩

end
end Go.Abs

set_option linter.unusedSimpArgs false
set_option linter.unusedVariables false
namespace Go.Abs
open Go.RowKit

section
variable {S : Nat → Nat → Prop} {w0 : World} {N : Fm} {g : Gh} {st : ASt} {a : Act} {w : World} {P : Program} {T : Tab} {ro : Option Nat}

/-- A box of data that nobody will write again: its cells are data. -/
theorem Rel.lend (h : Rel S w0 N g st a w) {t id Ty : Nat} {xs : List DC} (ht : find st.tmps t = some (.c (.ptr id 0))) (hr : find st.rows id = some (.box Ty (xs.map .d))) :
    Rel S w0 N g ⟨(t, .c (.dptr xs)) :: st.tmps, (id, .gone) :: st.rows⟩ a w := by
  obtain ⟨b, c, cur, hg, hb, hall⟩ := h.rows id _ hr
  have hF : ∀ b' o, Sf w0.heap.size S st.rows g b' o → Sf w0.heap.size S ((id, .gone) :: st.rows) g b' o := by
    intro b' o hs
    rcases hs with hs | ⟨q1, q2⟩
    · exact .inl hs
    · refine .inr ⟨q1, fun i r c' hf hgi => ?_⟩
      by_cases hi : i = id
      · subst hi; rw [find_set_eq] at hf; cases hf; trivial
      · rw [find_set_ne hi] at hf; exact q2 i r c' hf hgi
  have hc : ∀ b' o, Sf w0.heap.size S st.rows g b' o → b' < w.heap.size → Sf w0.heap.size S ((id, .gone) :: st.rows) g b' o ∧ cl w b' o = cl w b' o := fun b' o hs _ => ⟨hF b' o hs, rfl⟩
  have hk : ∀ i, g i = g i ∧ ∀ e sz xs fl, find st.rows i = some (.arr e sz xs fl) → ∃ xs' fl', find ((id, ARow.gone) :: st.rows) i = some (.arr e sz xs' fl') ∧ xs'.length = xs.length := by
    intro i
    refine ⟨rfl, fun e sz ys fl hf => ⟨ys, fl, ?_, rfl⟩⟩
    rw [find_set_ne]
    · exact hf
    · intro hi; subst hi; rw [hr] at hf; cases hf
  have hex : ∀ i r, find ((id, ARow.gone) :: st.rows) i = some r → ∃ r0, find st.rows i = some r0 := by
    intro i r hf
    by_cases hi : i = id
    · subst hi; exact ⟨_, hr⟩
    · rw [find_set_ne hi] at hf; exact ⟨_, hf⟩
  obtain ⟨hb1, hb2⟩ := h.blk id _ b c hr hg
  refine ⟨h.below, h.size, h.calm, h.good, h.defers, fun i r b' c' hf hgi => ?_, fun i i' r r' b' c' c'' hf hf' hgi hgi' => ?_, fun i r hf => ?_, fun i x hx => ?_⟩
  · obtain ⟨r0, h0⟩ := hex i r hf; exact h.blk i r0 b' c' h0 hgi
  · obtain ⟨r0, h0⟩ := hex i r hf; obtain ⟨r1, h1⟩ := hex i' r' hf'; exact h.inj i i' r0 r1 b' c' c'' h0 h1 hgi hgi'
  · by_cases hi : i = id
    · subst hi; rw [find_set_eq] at hf; cases hf
      exact ⟨b, c, cur, Ty, hg, hb⟩
    · rw [find_set_ne hi] at hf
      exact (h.rows i r hf).carry hc rfl (fun _ _ _ => rfl) (NonC.refl _) fun id' _ => hk id'
  · simp only [find] at hx
    split at hx
    · cases hx
      rename_i e; subst e
      obtain ⟨v, hv, hrv⟩ := h.tmps _ _ ht
      refine ⟨v, hv, ?_⟩
      unfold RelV at hrv ⊢
      obtain ⟨h1, b', c', h2, h3⟩ := hrv
      rw [hg] at h2; cases h2
      refine ⟨h1, b, 0, fun j => cur[j]?.getD undef, h3, fun j d hd => ?_⟩
      obtain ⟨u, hu, hone, hru⟩ := hall.get (i := j) (y := .d d) (by simp [hd])
      have hu' : cur[j]? = some u := by simpa using hu
      have hj : cl w b (0 + j) = some u := by rw [cl_row hb, Nat.zero_add]; exact hu'
      refine ⟨.inr ⟨hb1, fun i r c' hf hgi => ?_⟩, ?_, ?_⟩
      · have : i = id := by
          obtain ⟨r0, h0⟩ := hex i r hf
          exact h.inj i id r0 _ b c' c h0 hr hgi hg
        subst this
        rw [find_set_eq] at hf; cases hf; trivial
      · rw [hj]; simp [hu']
      · simp only [hu', Option.getD_some]; exact RelC.sub (fun b o => hF b o) hru
    · obtain ⟨v, hv, hrv⟩ := h.tmps i x hx
      exact ⟨v, hv, hrv.carry hc fun id' _ => hk id'⟩

theorem wpL_lend {c : Code} {l : List Code} {Q : Exit → ASt → Prop} (t id : Nat) {Ty : Nat} {xs : List DC} (ht : find st.tmps t = some (.c (.ptr id 0))) (hr : find st.rows id = some (.box Ty (xs.map .d)))
    (h : wpL ro P N (c :: l) Q ⟨(t, .c (.dptr xs)) :: st.tmps, (id, .gone) :: st.rows⟩) : wpL ro P N (c :: l) Q st :=
  fun S w0 g a w hrel => h S w0 g a w (hrel.lend ht hr)

/-- A box whose one cell is a closure over that very box: from now on it is data. -/
theorem Rel.knot (h : Rel S w0 N g st a w) {t id Ty f : Nat} (ht : find st.tmps t = some (.c (.ptr id 0))) (hr : find st.rows id = some (.box Ty [.pclo f [] id []])) :
    Rel S w0 N g ⟨(t, .c (.dptr [.rc f])) :: st.tmps, (id, .gone) :: st.rows⟩ a w := by
  obtain ⟨b, c, cur, hg, hb, hall⟩ := h.rows id _ hr
  have hF : ∀ b' o, Sf w0.heap.size S st.rows g b' o → Sf w0.heap.size S ((id, .gone) :: st.rows) g b' o := by
    intro b' o hs
    rcases hs with hs | ⟨q1, q2⟩
    · exact .inl hs
    · refine .inr ⟨q1, fun i r c' hf hgi => ?_⟩
      by_cases hi : i = id
      · subst hi; rw [find_set_eq] at hf; cases hf; trivial
      · rw [find_set_ne hi] at hf; exact q2 i r c' hf hgi
  have hc : ∀ b' o, Sf w0.heap.size S st.rows g b' o → b' < w.heap.size → Sf w0.heap.size S ((id, .gone) :: st.rows) g b' o ∧ cl w b' o = cl w b' o := fun b' o hs _ => ⟨hF b' o hs, rfl⟩
  have hk : ∀ i, g i = g i ∧ ∀ e sz xs fl, find st.rows i = some (.arr e sz xs fl) → ∃ xs' fl', find ((id, ARow.gone) :: st.rows) i = some (.arr e sz xs' fl') ∧ xs'.length = xs.length := by
    intro i
    refine ⟨rfl, fun e sz ys fl hf => ⟨ys, fl, ?_, rfl⟩⟩
    rw [find_set_ne]
    · exact hf
    · intro hi; subst hi; rw [hr] at hf; cases hf
  have hex : ∀ i r, find ((id, ARow.gone) :: st.rows) i = some r → ∃ r0, find st.rows i = some r0 := by
    intro i r hf
    by_cases hi : i = id
    · subst hi; exact ⟨_, hr⟩
    · rw [find_set_ne hi] at hf; exact ⟨_, hf⟩
  obtain ⟨hb1, hb2⟩ := h.blk id _ b c hr hg
  refine ⟨h.below, h.size, h.calm, h.good, h.defers, fun i r b' c' hf hgi => ?_, fun i i' r r' b' c' c'' hf hf' hgi hgi' => ?_, fun i r hf => ?_, fun i x hx => ?_⟩
  · obtain ⟨r0, h0⟩ := hex i r hf; exact h.blk i r0 b' c' h0 hgi
  · obtain ⟨r0, h0⟩ := hex i r hf; obtain ⟨r1, h1⟩ := hex i' r' hf'; exact h.inj i i' r0 r1 b' c' c'' h0 h1 hgi hgi'
  · by_cases hi : i = id
    · subst hi; rw [find_set_eq] at hf; cases hf
      exact ⟨b, c, cur, Ty, hg, hb⟩
    · rw [find_set_ne hi] at hf
      exact (h.rows i r hf).carry hc rfl (fun _ _ _ => rfl) (NonC.refl _) fun id' _ => hk id'
  · simp only [find] at hx
    split at hx
    · cases hx
      rename_i e; subst e
      obtain ⟨v, hv, hrv⟩ := h.tmps _ _ ht
      refine ⟨v, hv, ?_⟩
      unfold RelV at hrv ⊢
      obtain ⟨h1, b', c', h2, h3⟩ := hrv
      rw [hg] at h2; cases h2
      obtain ⟨u, hu, hone, b2, c2, vs, ws, hg2, hu2, hvs, hws⟩ := hall.get (i := 0) (y := .pclo f [] id []) rfl
      rw [hg] at hg2; cases hg2
      cases hvs; cases hws
      have hu' : cur[0]? = some u := by simpa using hu
      have hcl : cl w b 0 = some (.func (.func f) #[] #[.pointer (some ⟨b, 0, none⟩)]) := by rw [cl_row hb, hu', hu2]; rfl
      have hS : Sf w0.heap.size S ((id, .gone) :: st.rows) g b 0 := by
        refine .inr ⟨hb1, fun i r c' hf hgi => ?_⟩
        have : i = id := by
          obtain ⟨r0, h0⟩ := hex i r hf
          exact h.inj i id r0 _ b c' c h0 hr hgi hg
        subst this
        rw [find_set_eq] at hf; cases hf; trivial
      refine ⟨h1, b, 0, fun _ => .func (.func f) #[] #[.pointer (some ⟨b, 0, none⟩)], h3, fun j d hd => ?_⟩
      cases j with
      | zero => simp at hd; subst hd; exact ⟨hS, hcl, .rc f b 0 hS hcl⟩
      | succ j => simp at hd
    · obtain ⟨v, hv, hrv⟩ := h.tmps i x hx
      exact ⟨v, hv, hrv.carry hc fun id' _ => hk id'⟩
theorem wpL_knot {c : Code} {l : List Code} {Q : Exit → ASt → Prop} (t id : Nat) {Ty f : Nat} (ht : find st.tmps t = some (.c (.ptr id 0))) (hr : find st.rows id = some (.box Ty [.pclo f [] id []]))
    (h : wpL ro P N (c :: l) Q ⟨(t, .c (.dptr [.rc f])) :: st.tmps, (id, .gone) :: st.rows⟩) : wpL ro P N (c :: l) Q st :=
  fun S w0 g a w hrel => h S w0 g a w (hrel.knot ht hr)

/-! ### Ranges over functions -/

theorem Rel.putNonC (h : Rel S w0 N g st a w) {l : Nat} {o : Obj} (hl : w.heap[l]? = some o) (ho : o.isCells = false) (hm : ∀ d, d ∈ a.defers → d ≠ { target := .collected l, args := #[] }) (hw0 : w0.heap.size ≤ l)
    (hheld : ∀ id L, find st.rows id = some (.held L) → ∀ p, p ∈ L → p.1 ≠ l) {o' : Obj} (ho' : o'.isCells = false) (hni : oIter o = false := by rfl) : Rel S w0 N g st a (w.putObj l o') := by
  have hlt := (Array.getElem?_eq_some_iff.1 hl).1
  have hcl : ∀ b o2, cl (w.putObj l o') b o2 = cl w b o2 := by
    intro b o2
    by_cases hb : b = l
    · subst hb
      unfold cl World.cell?
      rw [World.putObj_heap_same hlt, hl]
      cases o <;> cases o' <;> simp_all [Obj.isCells]
    · exact cl_of_block (World.putObj_heap_other hb) o2
  have hcar : ∀ b o2, Sf w0.heap.size S st.rows g b o2 → b < w.heap.size → Sf w0.heap.size S st.rows g b o2 ∧ cl (w.putObj l o') b o2 = cl w b o2 := fun b o2 hs _ => ⟨hs, hcl b o2⟩
  have hx : ∀ id', g id' = g id' ∧ ∀ e sz xs fl, find st.rows id' = some (.arr e sz xs fl) → ∃ xs' fl', find st.rows id' = some (.arr e sz xs' fl') ∧ xs'.length = xs.length := fun id' => ⟨rfl, fun e sz xs fl hf2 => ⟨xs, fl, hf2, rfl⟩⟩
  refine ⟨⟨h.below.os, h.below.tape, h.below.output, by simpa using h.below.size, fun k hk => ?_⟩, h.size, h.calm, h.good, ⟨h.defers.1, fun d hd => ?_⟩, fun id r b c hf hg => ?_, h.inj, fun id r hf => ?_, fun i x hx' => ?_⟩
  · rw [World.putObj_heap_other (by omega)]; exact h.below.block k hk
  · obtain ⟨D, h1, h2, h3⟩ := h.defers.2 d hd
    exact ⟨D, h1, h2, by rw [World.putObj_heap_other (fun e => by subst e; exact hm d hd h1)]; exact h3⟩
  · have := h.blk id r b c hf hg
    exact ⟨this.1, by simpa using this.2⟩
  · have hbl : ∀ b c, g id = some (b, c) → (w.putObj l o').heap[b]? = w.heap[b]? := fun b c hg => by
      obtain ⟨o2, ho2, hc⟩ := h.row_obj hf hg
      refine World.putObj_heap_other (fun e => ?_)
      subst e
      rw [hl] at ho2; cases ho2
      rcases hc with hc | hc
      · rw [ho] at hc; cases hc
      · rw [hni] at hc; cases hc
    have hrr := h.rows id r hf
    cases r with
    | box T' cs =>
      obtain ⟨b, c, cur, h1, h2, h3⟩ := hrr
      exact ⟨b, c, cur, h1, by rw [hbl b c h1]; exact h2, h3.mono fun u y hu => ⟨hu.1, hu.2.carry hcar fun id' _ => hx id'⟩⟩
    | arr e sz xs fl =>
      obtain ⟨h0, h⟩ := hrr
      refine ⟨h0, ?_⟩
      rcases h with h1 | ⟨b, cap, cur, h1, h2, h3, h4, h5, h6⟩
      · exact .inl h1
      · refine .inr ⟨b, cap, cur, h1, by rw [hbl b cap h1]; exact h2, h3, h4, h5, fun i j x d hx hd => ?_⟩
        obtain ⟨u, hu, hr⟩ := h6 i j x d hx hd
        exact ⟨u, hu, hr.mono hcar⟩
    | ghost v x => exact ⟨hrr.1, hrr.2.carry hcar fun id' _ => hx id'⟩
    | held L => exact ⟨hrr.1, fun p hp => ⟨(hrr.2 p hp).1, by rw [World.putObj_heap_other (hheld id L hf p hp)]; exact (hrr.2 p hp).2⟩⟩
    | gone =>
      obtain ⟨b, c, cur, T', h1, h2⟩ := hrr
      exact ⟨b, c, cur, T', h1, by rw [hbl b c h1]; exact h2⟩
    | iter s pos =>
      obtain ⟨b, c, h1, h2⟩ := hrr
      exact ⟨b, c, h1, by rw [hbl b c h1]; exact h2⟩
  · obtain ⟨v, hv, hr⟩ := h.tmps i x hx'
    exact ⟨v, hv, hr.carry hcar fun id' _ => hx id'⟩

/-- Other foreign blocks are held. -/
theorem Rel.setHeld (h : Rel S w0 N g st a w) {id : Nat} {L L' : List (Nat × Obj)} (hf : find st.rows id = some (.held L)) (hL : ∀ p, p ∈ L' → oStill p.2 = true ∧ w.heap[p.1]? = some p.2) :
    Rel S w0 N g ⟨st.tmps, (id, .held L') :: st.rows⟩ a w := by
  have hg0 : g id = none := (h.rows id _ hf).1
  have hF : ∀ b' o, Sf w0.heap.size S st.rows g b' o → Sf w0.heap.size S ((id, .held L') :: st.rows) g b' o := by
    intro b' o hs
    rcases hs with hs | ⟨q1, q2⟩
    · exact .inl hs
    · refine .inr ⟨q1, fun i r c' hfi hgi => ?_⟩
      by_cases hi : i = id
      · subst hi; rw [hg0] at hgi; cases hgi
      · rw [find_set_ne hi] at hfi; exact q2 i r c' hfi hgi
  have hc : ∀ b' o, Sf w0.heap.size S st.rows g b' o → b' < w.heap.size → Sf w0.heap.size S ((id, .held L') :: st.rows) g b' o ∧ cl w b' o = cl w b' o := fun b' o hs _ => ⟨hF b' o hs, rfl⟩
  have hk : ∀ i, g i = g i ∧ ∀ e sz xs fl, find st.rows i = some (.arr e sz xs fl) → ∃ xs' fl', find ((id, ARow.held L') :: st.rows) i = some (.arr e sz xs' fl') ∧ xs'.length = xs.length := by
    intro i
    refine ⟨rfl, fun e sz ys fl hfi => ⟨ys, fl, ?_, rfl⟩⟩
    rw [find_set_ne]
    · exact hfi
    · intro hi; subst hi; rw [hf] at hfi; cases hfi
  have hex : ∀ i r b c, find ((id, ARow.held L') :: st.rows) i = some r → g i = some (b, c) → find st.rows i = some r := by
    intro i r b c hfi hgi
    by_cases hi : i = id
    · subst hi; rw [hg0] at hgi; cases hgi
    · rw [find_set_ne hi] at hfi; exact hfi
  refine ⟨h.below, h.size, h.calm, h.good, h.defers, fun i r b' c' hfi hgi => h.blk i r b' c' (hex i r _ _ hfi hgi) hgi, fun i i' r r' b' c' c'' hfi hfi' hgi hgi' => h.inj i i' r r' b' c' c'' (hex i r _ _ hfi hgi) (hex i' r' _ _ hfi' hgi') hgi hgi', fun i r hfi => ?_, fun i x hx => ?_⟩
  · by_cases hi : i = id
    · subst hi; rw [find_set_eq] at hfi; cases hfi
      exact ⟨hg0, hL⟩
    · rw [find_set_ne hi] at hfi
      exact (h.rows i r hfi).carry hc rfl (fun _ _ _ => rfl) (NonC.refl _) fun id' _ => hk id'
  · obtain ⟨v, hv, hrv⟩ := h.tmps i x hx
    exact ⟨v, hv, hrv.carry hc fun id' _ => hk id'⟩

def gB : Nat := 1000000
def hB : Nat := 999999
def ghosts (E : Nat → Value) (l : List (Nat × AV)) : List (Nat × ARow) := l.map fun p => (1000000 + p.1, .ghost (E p.1) p.2)
theorem find_ghosts {E : Nat → Value} : ∀ {l : List (Nat × AV)} {id : Nat} {r : ARow}, find (ghosts E l) id = some r → ∃ i x, id = 1000000 + i ∧ r = .ghost (E i) x ∧ find l i = some x
  | [], id, r, h => by simp [ghosts, find] at h
  | (k, y) :: l, id, r, h => by
    simp only [ghosts, List.map_cons, find] at h
    split at h
    · rename_i e; cases h; exact ⟨k, y, e, rfl, by simp [find]⟩
    · rename_i e
      obtain ⟨i, x, h1, h2, h3⟩ := find_ghosts (l := l) h
      refine ⟨i, x, h1, h2, ?_⟩
      simp only [find]
      rw [if_neg (by omega)]; exact h3
def ungT (E : Nat → Value) : List (Nat × AV) → ASt → Prop
  | [], _ => True
  | (i, x) :: l, s => find s.rows (1000000 + i) = some (.ghost (E i) x) ∧ ungT E l s
theorem ungT_find {E : Nat → Value} : ∀ {l : List (Nat × AV)} {s : ASt}, ungT E l s → ∀ i x, find l i = some x → find s.rows (1000000 + i) = some (.ghost (E i) x)
  | [], s, _, i, x, hf => by simp [find] at hf
  | (k, y) :: l, s, h, i, x, hf => by
    simp only [find] at hf
    split at hf
    · rename_i e; cases hf; subst e; exact h.1
    · exact ungT_find h.2 i x hf
/-- What the round's state s says of the enclosing frame: s'. -/
def ung (E : Nat → Value) (s' s : ASt) : Prop := ungT E s'.tmps s ∧ leR s'.rows s ∧ leN s.rows s'
theorem ung_mk {E : Nat → Value} {s' s : ASt} (h1 : ungT E s'.tmps s) (h2 : leR s'.rows s) (h3 : leN s.rows s') : ung E s' s := ⟨h1, h2, h3⟩

theorem Rel.ung {E : Nat → Value} {s2 s' : ASt} {a2 : Act} (h : Rel S w0 N g s2 a2 w) (hu : ung E s' s2) (hE : ∀ i x, find s'.tmps i = some x → a.tmps[i]? = some (E i)) (hs : a.tmps.size = N.n) (hcalm : N.calm = true → a.defers = []) (hd : DefOk w0.heap.size a.defers w) :
    Rel S w0 N g s' a w := by
  have hle : (ASt.mk [] s'.rows).le s2 := by
    refine le_mk (by trivial) hu.2.1 ?_
    have := hu.2.2
    have : ∀ l, leN l s' → leN l (ASt.mk [] s'.rows) := by
      intro l
      induction l with
      | nil => intro _; trivial
      | cons p l ih =>
        obtain ⟨k, r⟩ := p
        cases r with
        | arr e sz xs fl =>
          intro hl
          refine ⟨hl.1.imp id fun hm => ?_, ih hl.2⟩
          unfold ASt.nomenB at hm ⊢
          simp only [Bool.and_eq_true] at hm
          simp [hm.2]
        | _ => intro hl; exact ih hl
    exact this _ hu.2.2
  have h1 := h.weaken hle
  refine ⟨h1.below, hs, hcalm, h1.good, hd, h1.blk, h1.inj, h1.rows, fun i x hx => ⟨E i, hE i x hx, ?_⟩⟩
  have h2 := (h.rows _ _ (ungT_find hu.1 i x hx)).2
  have hF : ∀ b o, Sf w0.heap.size S s2.rows g b o → Sf w0.heap.size S s'.rows g b o := by
    intro b o hs
    rcases hs with hs | ⟨q1, q2⟩
    · exact .inl hs
    · exact .inr ⟨q1, fun id r c hf hg => q2 id r c (leR_find hu.2.1 id r hf) hg⟩
  refine h2.carry (fun b o hs _ => ⟨hF b o hs, rfl⟩) fun id2 hm => ⟨rfl, fun e sz xs fl hf2 => ?_⟩
  rcases leN_find hu.2.2 id2 e sz xs fl (find_mem hf2) with h4 | h4
  · obtain ⟨r, hr⟩ := Option.isSome_iff_exists.1 h4
    have := leR_find hu.2.1 id2 r hr
    rw [hf2] at this; cases this
    exact ⟨xs, fl, hr, rfl⟩
  · have := (nomen_of h4).1 i x hx; rw [this] at hm; cases hm

end
end Go.Abs

set_option linter.unusedSimpArgs false
set_option linter.unusedVariables false
namespace Go.Abs
open Go.RowKit

/-- A FUNCTION THAT HAS CAPTURED DATA, RANGED OVER, HANDS yield THESE ELEMENTS IN TURN, whatever holds between two rounds. -/
def RangesF (P : Program) (f : FuncId) (xss : List (List DC)) (els : List (List DV)) : Prop :=
  ∀ (l : Nat) (cs : List Value) (J : Nat → World → Prop) (Jx : World → Prop) (W : World),
    (∀ k W1 W2, J k W1 → Below W1.heap.size W1 W2 → J k W2) → (∀ W1 W2, Jx W1 → Below W1.heap.size W1 W2 → Jx W2) →
    (∀ k W1, J k W1 → ∃ F, All2 (RelDV F W1) cs (xss.map DV.ptr) ∧ ∀ x, els[k]? = some x → ∀ vs, All2 (RelDV F W1) vs x →
        YieldAt (Fr none) 0 P l vs.toArray W1 fun e W' => (e = .returned (.bool true) ∧ J (k + 1) W') ∨ (e = .returned (.bool false) ∧ Jx W')) →
    J 0 W → CallsIn (Fr none) 0 P f (#[.func (.yield l) #[] #[]] ++ cs.toArray) W fun e W' => (∃ v, e = .returned v) ∧ (J els.length W' ∨ Jx W')

def paramT : List Nat → List DV → List (Nat × AV)
  | p :: ps, x :: xs => (p, dvAV x) :: paramT ps xs
  | _, _ => []

def heldOnly (rows : List (Nat × ARow)) : Bool := rows.all fun p => match p.2 with | .held _ => decide (p.1 = 999999) | _ => true
theorem heldOnly_find {rows : List (Nat × ARow)} (h : heldOnly rows = true) {id : Nat} {l : List (Nat × Obj)} (hf : find rows id = some (.held l)) : id = 999999 := by
  have := List.all_eq_true.1 h _ (find_mem hf)
  simpa using this

/-- The end of a round. -/
def roundQ (E : Nat → Value) (L : List (Nat × Obj)) (I Ix : ASt → Prop) : Exit → ASt → Prop
  | .normal, s2 => find s2.rows 999999 = some (.held L) ∧ heldOnly s2.rows = true ∧ ∃ s', I s' ∧ ung E s' s2
  | .ret, s2 => find s2.rows 999999 = some (.held L) ∧ heldOnly s2.rows = true ∧ ∃ s', Ix s' ∧ ung E s' s2
  | _, _ => False

/-- What a state between two rounds must be. -/
def okR (N : Fm) (s : ASt) : Prop := noHeld s.rows = true ∧ (s.tmps.all fun p => decide (p.1 < N.n) && s.free (1000000 + p.1)) = true ∧ s.free 999999 = true

section
variable {S : Nat → Nat → Prop} {w0 : World} {N : Fm} {g : Gh} {st : ASt} {a : Act} {w : World} {P : Program} {T : Tab} {ro : Option Nat}

theorem slots_lt {l : List (Nat × AV)} {q : Nat → Bool} (h : (l.all fun p => decide (p.1 < N.n) && q p.1) = true) {i : Nat} {x : AV} (hf : find l i = some x) : i < N.n ∧ q i = true := by
  have := List.all_eq_true.1 h _ (find_mem hf)
  simpa using this

/-- Memory has grown. -/
theorem Rel.grow (h : Rel S w0 N g st a w) {w' : World} (hb : Below w.heap.size w w') : Rel S w0 N g st a w' := by
  have := (h.news hb (ns := []) (gN := fun _ => none) (g' := g) (fun id => rfl) (fun id r hf => by simp [find] at hf) (fun id r b c hf => by simp [find] at hf) (fun id id' r r' b c c' hf => by simp [find] at hf) (fun id r hf => by simp [find] at hf)).2
  simpa using this

/-- The frame of a round. -/
theorem Rel.round (h : Rel S w0 N g st a w) (hok : okR N st) {L : List (Nat × Obj)} (hL : ∀ p, p ∈ L → oStill p.2 = true ∧ w.heap[p.1]? = some p.2) {ps : List Nat} {vs : List Value} {xs : List DV}
    (hps : ∀ p, p ∈ ps → p < N.n) (hlen : ps.length = xs.length) (hnd : ps.Nodup) (hv : All2 (RelDV (Sf w0.heap.size S st.rows g) w) vs xs) :
    ∃ g', Rel S w0 N g' ⟨paramT ps xs ++ st.tmps, ghosts (fun i => a.tmps[i]?.getD undef) st.tmps ++ (999999, .held L) :: st.rows⟩
      { tmps := (ps.zip vs).foldl (fun t (p : Nat × Value) => t.setIfInBounds p.1 p.2) a.tmps, defers := [] } w := by
  have hfree : ∀ id r, find (ghosts (fun i => a.tmps[i]?.getD undef) st.tmps ++ [(999999, .held L)]) id = some r → st.free id = true := by
    intro id r hf
    rw [find_append] at hf
    split at hf
    · rename_i r' hf'
      obtain ⟨i, x, rfl, _, h3⟩ := find_ghosts hf'
      exact (slots_lt (q := fun i => st.free (1000000 + i)) hok.2.1 h3).2
    · simp only [find] at hf
      split at hf
      · rename_i e; rw [e]; exact hok.2.2
      · cases hf
  have hkind : ∀ id r, find (ghosts (fun i => a.tmps[i]?.getD undef) st.tmps ++ [(999999, .held L)]) id = some r → (∃ i x, r = .ghost (a.tmps[i]?.getD undef) x ∧ find st.tmps i = some x) ∨ r = .held L := by
    intro id r hf
    rw [find_append] at hf
    split at hf
    · rename_i r' hf'
      cases hf
      obtain ⟨i, x, _, h2, h3⟩ := find_ghosts hf'
      exact .inl ⟨i, x, h2, h3⟩
    · simp only [find] at hf
      split at hf
      · cases hf; exact .inr rfl
      · cases hf
  let ns := ghosts (fun i => a.tmps[i]?.getD undef) st.tmps ++ [(999999, ARow.held L)]
  let g' : Gh := fun id => match find ns id with | some _ => none | none => g id
  have hg' : ∀ id, g' id = match find ns id with | some _ => (fun _ => none : Gh) id | none => g id := fun _ => rfl
  have hgn : ∀ id r, find ns id = some r → g' id = none := fun id r hf => by rw [hg', hf]
  -- what is carried
  have hc0 : ∀ b o, Sf w0.heap.size S st.rows g b o → Sf w0.heap.size S (ns ++ st.rows) g' b o := by
    intro b o hs
    rcases hs with hs | ⟨h1, h2⟩
    · exact .inl hs
    · refine .inr ⟨h1, fun id r c hf hgi => ?_⟩
      rw [find_append] at hf
      cases hn : find ns id with
      | some r0 => rw [hgn id r0 hn] at hgi; cases hgi
      | none => rw [hg', hn] at hgi; rw [hn] at hf; exact h2 id r c hf hgi
  have hc : ∀ b o, Sf w0.heap.size S st.rows g b o → b < w.heap.size → Sf w0.heap.size S (ns ++ st.rows) g' b o ∧ cl w b o = cl w b o := fun b o hs _ => ⟨hc0 b o hs, rfl⟩
  have keep : ∀ id, find ns id = none → g' id = g id ∧ ∀ e sz xs fl, find st.rows id = some (.arr e sz xs fl) → ∃ xs' fl', find (ns ++ st.rows) id = some (.arr e sz xs' fl') ∧ xs'.length = xs.length := by
    intro id hn
    exact ⟨by rw [hg', hn], fun e sz xs fl hf => ⟨xs, fl, by rw [find_append, hn]; exact hf, rfl⟩⟩
  have hrel := (h.news (Below.refl _ _) hg' hfree (fun id r b c hf hg => by cases hg) (fun id id' r r' b c c' hf hf' hg => by cases hg) (fun id r hf => by
    rcases hkind id r hf with ⟨i, x, rfl, hx⟩ | rfl
    · refine ⟨hgn id _ hf, ?_⟩
      obtain ⟨v, hv', hr⟩ := h.tmps i x hx
      rw [hv']
      refine hr.carry hc fun id2 hm => keep id2 ?_
      cases hn : find ns id2 with
      | none => rfl
      | some r2 => have := find_free_tmp (hfree id2 r2 hn) hx; rw [this] at hm; cases hm
    · exact ⟨hgn id _ hf, hL⟩)).2
  have hrows : ghosts (fun i => a.tmps[i]?.getD undef) st.tmps ++ (999999, ARow.held L) :: st.rows = ns ++ st.rows := by simp [ns]
  rw [hrows]
  refine ⟨g', ⟨hrel.below, ?_, fun _ => rfl, hrel.good, DefOk.nil _ _, hrel.blk, hrel.inj, hrel.rows, ?_⟩⟩
  · have : ∀ (l : List (Nat × Value)) (t : Array Value), (l.foldl (fun t (p : Nat × Value) => t.setIfInBounds p.1 p.2) t).size = t.size := by
      intro l
      induction l with
      | nil => intro t; rfl
      | cons p l ih => intro t; rw [List.foldl_cons, ih]; simp
    rw [this]; exact h.size
  · -- slots
    have base : ∀ i x, find st.tmps i = some x → ∃ v, a.tmps[i]? = some v ∧ RelV (Sf w0.heap.size S (ns ++ st.rows) g') w (ns ++ st.rows) g' v x := fun i x hx => hrel.tmps i x hx
    have sz : a.tmps.size = N.n := h.size
    clear hrows hrel hkind hfree
    have key : ∀ (ps : List Nat) (vs : List Value) (xs : List DV) (t : Array Value) (tm : List (Nat × AV)), t.size = N.n → (∀ p, p ∈ ps → p < N.n) → ps.length = xs.length → ps.Nodup → All2 (RelDV (Sf w0.heap.size S st.rows g) w) vs xs →
        (∀ i x, find tm i = some x → (i ∉ ps) → ∃ v, t[i]? = some v ∧ RelV (Sf w0.heap.size S (ns ++ st.rows) g') w (ns ++ st.rows) g' v x) →
        ∀ i x, find (paramT ps xs ++ tm) i = some x → ∃ v, ((ps.zip vs).foldl (fun t (p : Nat × Value) => t.setIfInBounds p.1 p.2) t)[i]? = some v ∧ RelV (Sf w0.heap.size S (ns ++ st.rows) g') w (ns ++ st.rows) g' v x := by
      intro ps
      induction ps with
      | nil =>
        intro vs xs t tm hsz hp hl hnd hv hb i x hx
        cases xs with
        | nil => exact hb i x (by simpa [paramT] using hx) (by simp)
        | cons => simp at hl
      | cons p ps ih =>
        intro vs xs t tm hsz hp hl hnd hv hb i x hx
        cases xs with
        | nil => simp at hl
        | cons y xs =>
          cases hv with
          | cons hv1 hv2 =>
            rename_i v vs
            simp only [List.nodup_cons] at hnd
            rw [List.zip_cons_cons, List.foldl_cons]
            refine ih vs xs _ ((p, dvAV y) :: tm) (by simp [hsz]) (fun q hq => hp q (List.mem_cons_of_mem _ hq)) (by simpa using hl) hnd.2 hv2 (fun j z hz hj => ?_) i x ?_
            · simp only [find] at hz
              split at hz
              · rename_i e; cases hz
                refine ⟨v, by rw [e]; simp [hsz, hp p (by simp)], ?_⟩
                refine dv_rel (fun b o hs _ => hc0 b o hs) hv1 fun z hz => ?_
                subst hz
                exact RelC.one hv1
              · rename_i e
                obtain ⟨u, hu, hr⟩ := hb j z hz (by simp only [List.mem_cons, not_or]; exact ⟨e, hj⟩)
                exact ⟨u, by rw [Array.getElem?_setIfInBounds_ne (fun e' => e e'.symm)]; exact hu, hr⟩
            · -- the order of the entries does not matter
              simp only [paramT, List.cons_append, find] at hx
              have hperm : ∀ (l : List (Nat × AV)), (∀ q, q ∈ l → q.1 ≠ p) → find (l ++ (p, dvAV y) :: tm) i = (if i = p then some (dvAV y) else find (l ++ tm) i) := by
                intro l
                induction l with
                | nil => intro _; simp [find]
                | cons q l ihl =>
                  intro hq
                  obtain ⟨k, z⟩ := q
                  have h1 := ihl fun q hq' => hq q (List.mem_cons_of_mem _ hq')
                  simp only [List.cons_append, find, h1]
                  have h2 : k ≠ p := hq (k, z) (by simp)
                  by_cases hk : i = k
                  · rw [if_pos hk, if_neg (fun e => h2 (hk ▸ e)), if_pos hk]
                  · rw [if_neg hk]
                    split
                    · rfl
                    · rfl
              rw [hperm]
              · exact hx
              · intro q hq
                have : ∀ (ps : List Nat) (xs : List DV), q ∈ paramT ps xs → q.1 ∈ ps := by
                  intro ps
                  induction ps with
                  | nil => intro xs hq; simp [paramT] at hq
                  | cons p' ps ih' =>
                    intro xs hq
                    cases xs with
                    | nil => simp [paramT] at hq
                    | cons y' xs =>
                      simp only [paramT, List.mem_cons] at hq
                      rcases hq with rfl | hq
                      · simp
                      · exact List.mem_cons_of_mem _ (ih' xs hq)
                intro e
                exact hnd.1 (e ▸ this ps xs hq)
    exact key ps vs xs a.tmps st.tmps sz hps hlen hnd hv fun i x hx _ => base i x hx

/-- The marks among deferred calls, as blocks. -/
def marksOf (ds : List Deferred) : List (Nat × Obj) := ds.filterMap fun d => match d.target with | .collected D => some (D, .deferred (some [])) | _ => none

/-- THE STATEMENT for .. := range g { .. }. I k: what holds when k rounds are over; Ix: what holds when a round has left by ret. -/
theorem AWp_range {g0 : Operand} {ps : Array Tmp} {assign body : Code} {f : FuncId} {fn0 : Func} {xss : List (List DC)} {els : List (List DV)} {Q : Exit → ASt → Prop} (I : Nat → ASt → Prop) (Ix : ASt → Prop)
    (hN : N.calm = false) (hf : P.funcs[f]? = some fn0) (hname : (fn0.name == "runtime.NumGoroutine") = false) (hbody : fn0.body.isSome = true) (hR : RangesF P f xss els) (h0 : ∃ s, I 0 s ∧ s.le st)
    (hI : ∀ k s, I k s → okR N s ∧ s.ev g0 = .c (.d (.clo f xss))) (hIx : ∀ s, Ix s → okR N s)
    (hps : ps.toList.all (fun p => decide (p < N.n)) = true) (hnd : ps.toList.Nodup) (hlen : ∀ (k : Nat) x, els[k]? = some x → x.length = ps.size)
    (round : ∀ k s x, I k s → els[k]? = some x → ∀ (E : Nat → Value) (L1 L2 : List (Nat × Obj)) (l : Nat), wpL (some l) P N (flat assign)
        (thenL (fun s1 => find s1.rows 999999 = some (.held L1) ∧ heldOnly s1.rows = true ∧ wpL (some l) P N (flat body) (roundQ E L2 (I (k + 1)) Ix) ⟨s1.tmps, (999999, .held L2) :: s1.rows⟩) (fun _ _ => False))
        ⟨paramT ps.toList x ++ s.tmps, ghosts E s.tmps ++ (999999, .held L1) :: s.rows⟩)
    (hdone : ∀ s, I els.length s → Q .normal s) (hstop : ∀ s, Ix s → Q .ret s) : AWp none P N (.rangeFunc g0 ps assign body) Q st := by
  intro S w0 g a w hr
  obtain ⟨s0, hI0, hle0⟩ := h0
  have hr0 := hr.weaken hle0
  refine wpIn_rangeFunc ?_
  intro fn hfn
  have hev0 := hr0.ev g0
  rw [(hI 0 s0 hI0).2] at hev0
  unfold RelV at hev0
  obtain ⟨cs, hcs, -⟩ := clo_inv (rows := s0.rows) (g := g) hev0.2
  obtain ⟨rec, hrec⟩ : ∃ rec : LoopState → Option Code → Loop, rec = fun st pe => { state := st, pending := pe, fn, tmps := a.tmps, params := ps, assign, body, defers := w.heap.size } := ⟨_, rfl⟩
  obtain ⟨W1, hW1⟩ : ∃ W1, (w.alloc (.deferred (some []))).alloc (.loop (rec .ready none)) = W1 := ⟨_, rfl⟩
  have hL1 : W1.heap[w.heap.size + 1]? = some (.loop (rec .ready none)) := by
    rw [← hW1]; have := World.alloc_heap_new (w.alloc (.deferred (some []))) (.loop (rec .ready none)); rwa [World.size_alloc] at this
  have hK1 : W1.heap[w.heap.size]? = some (.deferred (some [])) := by
    rw [← hW1]; exact (Below.heap_alloc _ _ _ (by simp)).trans (World.alloc_heap_new w _)
  have hb1 : Below w.heap.size w W1 := by
    rw [← hW1]; exact (((Below.refl _ w).alloc (Nat.le_refl _) _).alloc (by simp) _)
  have hr1 : Rel S w0 N g s0 a W1 := hr0.grow hb1
  have hsz0 : w0.heap.size ≤ w.heap.size := hr.below.size
  -- the marks of the activation are no block of the loop's
  have hmk : ∀ d, d ∈ a.defers → ∃ D, d = { target := .collected D, args := #[] } ∧ w0.heap.size ≤ D ∧ D < w.heap.size := fun d hd => by
    obtain ⟨D, h1, h2, h3⟩ := hr.defers.2 d hd
    exact ⟨D, h1, h2, (Array.getElem?_eq_some_iff.1 h3).1⟩
  refine ⟨w.heap.size + 1, [{ target := .collected w.heap.size, args := #[] }], W1, { target := .fn (.func f) cs.toArray, args := #[.func (.yield (w.heap.size + 1)) #[] #[]] }, W1, f,
    #[.func (.yield (w.heap.size + 1)) #[] #[]] ++ cs.toArray, W1, ?_, ?_, ?_, ?_, fun hx => by simp [Fr] at hx, ?_⟩
  · rw [← hW1, hrec]; exact run_enterLoop_outer _ _ _ _ _
  · simp only [resolve, hcs]
    simp [go_sem]
  · intro f' _; trivial
  · have hnm : ¬ fn0.name = "runtime.NumGoroutine" := by simpa using hname
    have hbd : ¬ fn0.body = none := by
      intro e; rw [e] at hbody; cases hbody
    simp [invoke, callFunc, hf, hnm, hbd]
  · refine (hR (w.heap.size + 1) cs
      (fun k W => ∃ g s, Rel S w0 N g s a W ∧ I k s ∧ W.heap[w.heap.size + 1]? = some (.loop (rec .ready none)) ∧ W.heap[w.heap.size]? = some (.deferred (some [])))
      (fun W => ∃ g s, Rel S w0 N g s a W ∧ Ix s ∧ W.heap[w.heap.size + 1]? = some (.loop (rec .done (some .ret))) ∧ W.heap[w.heap.size]? = some (.deferred (some []))) W1 ?_ ?_ ?_ ⟨g, s0, hr1, hI0, hL1, hK1⟩).mono ?_
    · rintro k V V' ⟨g, s, hrel, hIs, hl, hk⟩ hbv
      exact ⟨g, s, hrel.grow hbv, hIs, (hbv.block _ (Array.getElem?_eq_some_iff.1 hl).1).trans hl, (hbv.block _ (Array.getElem?_eq_some_iff.1 hk).1).trans hk⟩
    · rintro V V' ⟨g, s, hrel, hIs, hl, hk⟩ hbv
      exact ⟨g, s, hrel.grow hbv, hIs, (hbv.block _ (Array.getElem?_eq_some_iff.1 hl).1).trans hl, (hbv.block _ (Array.getElem?_eq_some_iff.1 hk).1).trans hk⟩
    · -- one round
      rintro k W ⟨g, s, hrel, hIs, hl, hk⟩
      obtain ⟨hok, hevs⟩ := hI k s hIs
      have hev := hrel.ev g0
      rw [hevs] at hev
      unfold RelV at hev
      obtain ⟨cs', hcs', hall⟩ := clo_inv (rows := s.rows) (g := g) hev.2
      have hcc : cs' = cs := by
        rw [hcs] at hcs'
        injection hcs' with _ _ h3
        have := congrArg Array.toList h3
        simpa using this.symm
      subst hcc
      refine ⟨Sf w0.heap.size S s.rows g, All2.map_r (hall.mono fun v x hv => hv.2), fun x hx vs hvs => ?_⟩
      have hlt : w.heap.size + 1 < W.heap.size := (Array.getElem?_eq_some_iff.1 hl).1
      have hsz : vs.length = ps.size := by rw [hvs.len, hlen k x hx]
      have hy := run_yield (P := P) (args := vs.toArray) hl (by rw [hrec]; simpa using hsz)
      rw [hrec] at hy
      refine ⟨fn, _, assign, body, hy, roundIn_of_wpIn hfn ?_⟩
      have hL1' : ∀ p, p ∈ (w.heap.size + 1, Obj.loop (rec .ready none)) :: (w.heap.size, Obj.deferred (some [])) :: marksOf a.defers → oStill p.2 = true ∧ W.heap[p.1]? = some p.2 := by
        intro p hp
        simp only [List.mem_cons] at hp
        rcases hp with rfl | rfl | hp
        · exact ⟨rfl, hl⟩
        · exact ⟨rfl, hk⟩
        · unfold marksOf at hp
          obtain ⟨d, hd, hdp⟩ := List.mem_filterMap.1 hp
          obtain ⟨D, rfl, _, h3⟩ := hrel.defers.2 d hd
          simp only [Option.some.injEq] at hdp
          subst hdp
          exact ⟨rfl, h3⟩
      obtain ⟨g2, hr2⟩ := hrel.round hok hL1' (ps := ps.toList) (vs := vs) (xs := x) (fun p hp => by simpa using List.all_eq_true.1 hps p hp) (by rw [hlen k x hx]; simp) hnd hvs
      have htm : (ps.zip vs.toArray).foldl (fun tmps (p : Tmp × Value) => tmps.setIfInBounds p.1 p.2) a.tmps = (ps.toList.zip vs).foldl (fun t (p : Nat × Value) => t.setIfInBounds p.1 p.2) a.tmps := by
        rw [← Array.foldl_toList, Array.toList_zip]
      have hstart : Rel S w0 N g2 ⟨paramT ps.toList x ++ s.tmps, ghosts (fun i => a.tmps[i]?.getD undef) s.tmps ++ (999999, .held ((w.heap.size + 1, Obj.loop (rec .ready none)) :: (w.heap.size, Obj.deferred (some [])) :: marksOf a.defers)) :: s.rows⟩
          { tmps := (ps.zip vs.toArray).foldl (fun tmps (p : Tmp × Value) => tmps.setIfInBounds p.1 p.2) a.tmps, defers := [] } W := by rw [htm]; exact hr2
      have hEv : ∀ s', okR N s' → ∀ i x, find s'.tmps i = some x → a.tmps[i]? = some ((fun i => a.tmps[i]?.getD undef) i) := by
        intro s' hok' i x hx
        have hi := (slots_lt (q := fun i => s'.free (1000000 + i)) hok'.2.1 hx).1
        have : i < a.tmps.size := by rw [hr.size]; exact hi
        simp [this]
      have hwp := round k s x hIs hx (fun i => a.tmps[i]?.getD undef) ((w.heap.size + 1, Obj.loop (rec .ready none)) :: (w.heap.size, Obj.deferred (some [])) :: marksOf a.defers)
        ((w.heap.size + 1, Obj.loop { rec .ready none with state := .busy }) :: (w.heap.size, Obj.deferred (some [])) :: marksOf a.defers) (w.heap.size + 1)
      refine wpIn_mono (AWp_flat assign hwp S w0 g2 _ W hstart) ?_
      rintro e a3 W3 ⟨g3, s3, hr3, hq3⟩
      cases e with
      | normal =>
        obtain ⟨hheld, honly, hbodyw⟩ := hq3
        have hL3 := (hr3.rows _ _ hheld).2
        have hl3 : W3.heap[w.heap.size + 1]? = some (.loop (rec .ready none)) := (hL3 (w.heap.size + 1, _) (by simp)).2
        have hlt3 : w.heap.size + 1 < W3.heap.size := (Array.getElem?_eq_some_iff.1 hl3).1
        refine ⟨_, run_beginRound hl3 (by rw [hrec]), ?_⟩
        have hrec' : ({ rec .ready none with state := .busy } : Loop) = { rec .ready none with state := .busy } := rfl
        -- the record is let go, turned, and held again
        have hdef3 : a3.defers = [] ∨ True := .inr trivial
        have hmarks : ∀ p, p ∈ marksOf a.defers → p.1 < w.heap.size := by
          intro p hp
          unfold marksOf at hp
          obtain ⟨d, hd, hdp⟩ := List.mem_filterMap.1 hp
          obtain ⟨D, rfl, _, h3⟩ := hmk d hd
          simp only [Option.some.injEq] at hdp
          subst hdp
          exact h3
        have hno3 : ∀ d, d ∈ a3.defers → d ≠ { target := .collected (w.heap.size + 1), args := #[] } := by
          intro d hd e
          obtain ⟨D, h1, _, h3⟩ := hr3.defers.2 d hd
          rw [e] at h1
          injection h1 with h1 _
          injection h1 with h1
          rw [← h1, hl3] at h3; cases h3
        have turn : ∀ {s4 : ASt} {g4 : Gh} {a4 : Act} {W4 : World} {o o' : Loop} {Ls : List (Nat × Obj)}, Rel S w0 N g4 s4 a4 W4 → find s4.rows 999999 = some (.held ((w.heap.size + 1, Obj.loop o) :: Ls)) → heldOnly s4.rows = true → (∀ p, p ∈ Ls → p.1 ≤ w.heap.size) →
            Rel S w0 N g4 ⟨s4.tmps, (999999, .held ((w.heap.size + 1, Obj.loop o') :: Ls)) :: (999999, .held Ls) :: s4.rows⟩ a4 (W4.putObj (w.heap.size + 1) (.loop o')) := by
          intro s4 g4 a4 W4 o o' Ls h4 hh hon hLs
          have hL4 := (h4.rows _ _ hh).2
          have hl4 : W4.heap[w.heap.size + 1]? = some (.loop o) := (hL4 (w.heap.size + 1, _) (by simp)).2
          have h5 := h4.setHeld hh (L' := Ls) (fun p hp => hL4 p (List.mem_cons_of_mem _ hp))
          have h6 := h5.putNonC (l := w.heap.size + 1) hl4 rfl (fun d hd e => by
              obtain ⟨D, h1, _, h3⟩ := h4.defers.2 d hd
              rw [e] at h1
              injection h1 with h1 _
              injection h1 with h1
              rw [← h1, hl4] at h3; cases h3) (by omega) (fun id L hf p hp => by
              have hid : id = 999999 := by
                simp only [find] at hf
                split at hf
                · rename_i e; exact e
                · exact heldOnly_find hon hf
              subst hid
              rw [find_set_eq] at hf
              cases hf
              have := hLs p hp
              omega) (o' := .loop o') rfl
          refine h6.setHeld (id := 999999) (L := Ls) find_set_eq fun p hp => ?_
          simp only [List.mem_cons] at hp
          rcases hp with rfl | hp
          · exact ⟨rfl, World.putObj_heap_same (Array.getElem?_eq_some_iff.1 hl4).1⟩
          · have := hLs p hp
            exact ⟨(hL4 p (List.mem_cons_of_mem _ hp)).1, by rw [World.putObj_heap_other (by omega)]; exact (hL4 p (List.mem_cons_of_mem _ hp)).2⟩
        have hLs : ∀ p, p ∈ (w.heap.size, Obj.deferred (some [])) :: marksOf a.defers → p.1 ≤ w.heap.size := by
          intro p hp
          simp only [List.mem_cons] at hp
          rcases hp with rfl | hp
          · exact Nat.le_refl _
          · have := hmarks p hp; omega
        have h4 := turn (o' := { rec .ready none with state := .busy }) hr3 hheld honly hLs
        have hst4 : Rel S w0 N g3 ⟨s3.tmps, (999999, .held ((w.heap.size + 1, Obj.loop { rec .ready none with state := .busy }) :: (w.heap.size, Obj.deferred (some [])) :: marksOf a.defers)) :: s3.rows⟩ a3 (W3.putObj (w.heap.size + 1) (.loop { rec .ready none with state := .busy })) := by
          refine h4.congr (fun _ => rfl) fun id => ?_
          simp only [find]
          split <;> rfl
        refine wpIn_mono (AWp_flat body hbodyw S w0 g3 _ _ hst4) ?_
        rintro e a5 W5 ⟨g5, s5, hr5, hq5⟩
        -- behind the body
        have fin : ∀ (jump : Option Code) (s' : ASt), find s5.rows 999999 = some (.held ((w.heap.size + 1, Obj.loop { rec .ready none with state := .busy }) :: (w.heap.size, Obj.deferred (some [])) :: marksOf a.defers)) → heldOnly s5.rows = true →
            okR N s' → ung (fun i => a.tmps[i]?.getD undef) s' s5 →
            (Instr.endRound (w.heap.size + 1) jump).run P W5 = .ok (.bool jump.isNone) (W5.putObj (w.heap.size + 1) (.loop (rec (if jump.isNone then .ready else .done) jump))) ∧
            Rel S w0 N g5 s' a (W5.putObj (w.heap.size + 1) (.loop (rec (if jump.isNone then .ready else .done) jump))) ∧
            (W5.putObj (w.heap.size + 1) (.loop (rec (if jump.isNone then .ready else .done) jump))).heap[w.heap.size + 1]? = some (.loop (rec (if jump.isNone then .ready else .done) jump)) ∧
            (W5.putObj (w.heap.size + 1) (.loop (rec (if jump.isNone then .ready else .done) jump))).heap[w.heap.size]? = some (.deferred (some [])) := by
          intro jump s' hh hon hok' hung
          have hL5 := (hr5.rows _ _ hh).2
          have hl5 : W5.heap[w.heap.size + 1]? = some (.loop { rec .ready none with state := .busy }) := (hL5 (w.heap.size + 1, _) (by simp)).2
          have hk5 : W5.heap[w.heap.size]? = some (.deferred (some [])) := (hL5 (w.heap.size, _) (by simp)).2
          have hend := run_endRound (P := P) jump hl5
          rw [hrec] at hend ⊢
          refine ⟨hend, ?_, World.putObj_heap_same (Array.getElem?_eq_some_iff.1 hl5).1, (World.putObj_heap_other (by omega)).trans hk5⟩
          have hdef : DefOk w0.heap.size a.defers W5 := by
            refine ⟨hr.defers.1, fun d hd => ?_⟩
            obtain ⟨D, h1, h2, h3⟩ := hmk d hd
            refine ⟨D, h1, h2, (hL5 (D, .deferred (some [])) ?_).2⟩
            refine List.mem_cons_of_mem _ (List.mem_cons_of_mem _ (List.mem_filterMap.2 ⟨d, hd, ?_⟩))
            rw [h1]
          have h6 := hr5.ung hung (hEv s' hok') hr.size hr.calm hdef
          exact h6.putNonC hl5 rfl (fun d hd e => by
            obtain ⟨D, h1, _, h3⟩ := hmk d hd
            rw [e] at h1
            injection h1 with h1 _
            injection h1 with h1
            omega) (by omega) (fun id L hf => absurd hf (noHeld_find hok'.1 id L)) rfl
        cases e with
        | normal =>
          obtain ⟨hh, hon, s', hI', hung⟩ := hq5
          obtain ⟨h1, h2, h3, h4⟩ := fin none s' hh hon (hI _ _ hI').1 hung
          exact ⟨_, _, h1, .inl ⟨rfl, g5, s', h2, hI', h3, h4⟩⟩
        | ret =>
          obtain ⟨hh, hon, s', hI', hung⟩ := hq5
          obtain ⟨h1, h2, h3, h4⟩ := fin (some .ret) s' hh hon (hIx _ hI') hung
          exact ⟨_, _, h1, .inr ⟨rfl, g5, s', h2, hI', h3, h4⟩⟩
        | exit id => exact hq5.elim
        | goto t => exact hq5.elim
        | panic ch => exact hq5.elim
        | outgrown => exact hq5.elim
      | exit id => exact hq3.elim
      | goto t => exact hq3.elim
      | ret => exact hq3.elim
      | panic ch => exact hq3.elim
      | outgrown => exact hq3.elim
    · -- behind the iterator
      have last : ∀ {g : Gh} {s : ASt} {W : World} (lr : Loop), Rel S w0 N g s a W → okR N s → W.heap[w.heap.size + 1]? = some (.loop lr) → W.heap[w.heap.size]? = some (.deferred (some [])) → ∀ lr', 
          Rel S w0 N g s { a with defers := { target := .collected w.heap.size, args := #[] } :: a.defers } (W.putObj (w.heap.size + 1) (.loop lr')) := by
        intro g s W lr h hok hl hk lr'
        have h6 := h.putNonC (o' := .loop lr') hl rfl (fun d hd e => by
            obtain ⟨D, h1, _, h3⟩ := hmk d hd
            rw [e] at h1
            injection h1 with h1 _
            injection h1 with h1
            omega) (by omega) (fun id L hf => absurd hf (noHeld_find hok.1 id L)) rfl
        refine ⟨h6.below, h6.size, fun hc => absurd hc (by rw [hN]; decide), h6.good, ⟨List.nodup_cons.2 ⟨fun hm => ?_, h6.defers.1⟩, fun d hd => ?_⟩, h6.blk, h6.inj, h6.rows, h6.tmps⟩
        · obtain ⟨D, h1, _, h3⟩ := hmk _ hm
          injection h1 with h1 _
          injection h1 with h1
          omega
        · simp only [List.mem_cons] at hd
          rcases hd with rfl | hd
          · exact ⟨w.heap.size, rfl, hsz0, (World.putObj_heap_other (by omega)).trans hk⟩
          · exact h6.defers.2 d hd
      rintro e W2 ⟨⟨v, rfl⟩, (⟨g, s, hrel, hIs, hl, hk⟩ | ⟨g, s, hrel, hIs, hl, hk⟩)⟩
      · have hend := run_endLoop (P := P) hl (by rw [hrec]; simp)
        refine ⟨none, _, by rw [hend, hrec], g, s, ?_, hdone s hIs⟩
        exact last _ hrel (hI _ _ hIs).1 hl hk _
      · have hend := run_endLoop (P := P) hl (by rw [hrec]; simp)
        refine ⟨some .ret, _, by rw [hend, hrec], wpIn_ret ⟨g, s, ?_, hstop s hIs⟩⟩
        exact last _ hrel (hIx _ hIs) hl hk _

theorem wpL_range {g0 : Operand} {ps : Array Tmp} {assign body : Code} {f : FuncId} {fn0 : Func} {xss : List (List DC)} {els : List (List DV)} {l : List Code} {Q : Exit → ASt → Prop} (I : Nat → ASt → Prop) (Ix : ASt → Prop)
    (hN : N.calm = false) (hf : P.funcs[f]? = some fn0) (hname : (fn0.name == "runtime.NumGoroutine") = false) (hbody : fn0.body.isSome = true) (hR : RangesF P f xss els) (h0 : ∃ s, I 0 s ∧ s.le st)
    (hI : ∀ k s, I k s → okR N s ∧ s.ev g0 = .c (.d (.clo f xss))) (hIx : ∀ s, Ix s → okR N s)
    (hps : ps.toList.all (fun p => decide (p < N.n)) = true) (hnd : ps.toList.Nodup) (hlen : ∀ (k : Nat) x, els[k]? = some x → x.length = ps.size)
    (round : ∀ k s x, I k s → els[k]? = some x → ∀ (E : Nat → Value) (L1 L2 : List (Nat × Obj)) (l : Nat), wpL (some l) P N (flat assign)
        (thenL (fun s1 => find s1.rows 999999 = some (.held L1) ∧ heldOnly s1.rows = true ∧ wpL (some l) P N (flat body) (roundQ E L2 (I (k + 1)) Ix) ⟨s1.tmps, (999999, .held L2) :: s1.rows⟩) (fun _ _ => False))
        ⟨paramT ps.toList x ++ s.tmps, ghosts E s.tmps ++ (999999, .held L1) :: s.rows⟩)
    (hdone : ∀ s, I els.length s → wpL none P N l Q s) (hstop : ∀ s, Ix s → Q .ret s) : wpL none P N (.rangeFunc g0 ps assign body :: l) Q st :=
  AWp_range I Ix hN hf hname hbody hR h0 hI hIx hps hnd hlen round hdone hstop

theorem heldOnly_nil : heldOnly [] = true := rfl
theorem heldOnly_box (i T : Nat) (cs : List AC) (l : List (Nat × ARow)) : heldOnly ((i, .box T cs) :: l) = heldOnly l := rfl
theorem heldOnly_arr (i e sz : Nat) (xs : List (List DC)) (fl : Bool) (l : List (Nat × ARow)) : heldOnly ((i, .arr e sz xs fl) :: l) = heldOnly l := rfl
theorem heldOnly_iter (i : Nat) (s : ByteArray) (p : Nat) (l : List (Nat × ARow)) : heldOnly ((i, .iter s p) :: l) = heldOnly l := rfl
theorem heldOnly_gone (i : Nat) (l : List (Nat × ARow)) : heldOnly ((i, .gone) :: l) = heldOnly l := rfl
theorem heldOnly_ghost (i : Nat) (v : Value) (x : AV) (l : List (Nat × ARow)) : heldOnly ((i, .ghost v x) :: l) = heldOnly l := rfl
theorem heldOnly_held (v : List (Nat × Obj)) (l : List (Nat × ARow)) : heldOnly ((999999, .held v) :: l) = heldOnly l := by simp [heldOnly]
attribute [go_sem] paramT roundQ ungT ghosts okR heldOnly_nil heldOnly_box heldOnly_arr heldOnly_gone heldOnly_iter heldOnly_ghost heldOnly_held List.map_nil List.map_cons

end
section
variable {P : Program}
/-- A slice without elements is nil or not: to be walked with its very value. -/
theorem Gives.ofNil {f : FuncId} {r : Res} (h : ∀ ad c, Gives P f [.c (.sc (.slice ad 0 c))] r) : Gives P f [.c (.sl [])] r := by
  intro S w vs hgood hvs
  cases hvs with
  | cons h1 ht =>
    cases ht
    unfold RelDV at h1
    cases h1 with
    | emp ad c => exact h ad c S w _ hgood (.cons (.sc _ rfl) .nil)
    | sl b o c sz xs us h2 h3 h4 h5 h6 => exact h (some ⟨b, o, none⟩) c S w _ hgood (.cons (.sc _ rfl) .nil)
end
end Go.Abs

