/-
  Ghost steps: a nil slice viewed as an empty row, a row made fast.
-/
import Derived.Test.YtncglcfhbhbaoaaAbsR
import Derived.IntWalk
import Derived.Scope
set_option linter.unusedSimpArgs false
set_option linter.unusedVariables false
namespace Go.Abs
open Go.RowKit

theorem ge_of {a b : Int} (h : decide (a < b) = false) : b ≤ a := by simpa using h
theorem lt_of {a b : Int} (h : decide (a < b) = true) : a < b := by simpa using h
theorem get_ex {α : Type} {l : List α} {i : Nat} (h : i < l.length) : ∃ x, l[i]? = some x := ⟨_, List.getElem?_eq_getElem h⟩
theorem take_succ_get {α : Type} {l : List α} {i : Nat} {x : α} (h : l[i]? = some x) : l.take (i + 1) = l.take i ++ [x] := by rw [List.take_add_one, h]; rfl
theorem drop_get {α : Type} {l : List α} {i : Nat} {x : α} (h : l[i]? = some x) : l.drop i = x :: l.drop (i + 1) := by
  obtain ⟨h1, h2⟩ := List.getElem?_eq_some_iff.1 h
  rw [List.drop_eq_getElem_cons h1, h2]

section
variable {S : Nat → Nat → Prop} {w0 : World} {N : Fm} {g : Gh} {st : ASt} {a : Act} {w : World} {P : Program} {T : Tab} {ro : Option Nat}

theorem Rel.bear (h : Rel S w0 N g st a w) {id : Nat} (hm : st.nomen id) (e sz : Nat) : Rel S w0 N (updG g id none) ⟨st.tmps, (id, .arr e sz [] false) :: st.rows⟩ a w := by
  refine Rel.renew h hm rfl rfl rfl (Nat.le_refl _) (fun b _ _ => rfl) (fun b cap hx => by cases hx) (fun b cap o hx => by cases hx) fun hc => ?_
  exact ⟨fun i x hx => by simp at hx, .inl ⟨updG_eq _ _ _, rfl⟩⟩

/-- A slot with the nil slice leads to a row without elements. -/
theorem Rel.nilSlot (h : Rel S w0 N g st a w) {t id e sz : Nat} (ht : find st.tmps t = some (.c .nil)) (hr : find st.rows id = some (.arr e sz [] false)) (hg : g id = none) : Rel S w0 N g ⟨(t, .c (.row id)) :: st.tmps, st.rows⟩ a w := by
  refine ⟨h.below, h.size, h.calm, h.good, h.defers, h.blk, h.inj, h.rows, fun i x hx => ?_⟩
  simp only [find] at hx
  split at hx
  · rename_i he
    subst he
    cases hx
    obtain ⟨v, hv, hrv⟩ := h.tmps _ _ ht
    refine ⟨v, hv, ?_⟩
    unfold RelV at hrv ⊢
    obtain ⟨h1, h2⟩ := hrv
    refine ⟨h1, e, sz, [], false, hr, ?_⟩
    have : v = .slice none 0 0 := h2
    rw [this, hg]
    rfl
  · exact h.tmps i x hx

theorem wpL_nilSlot {c : Code} {l : List Code} {Q : Exit → ASt → Prop} (t id e sz : Nat) (ht : find st.tmps t = some (.c .nil)) (hm : st.nomenB id = true)
    (h : wpL ro P N (c :: l) Q ⟨(t, .c (.row id)) :: st.tmps, (id, .arr e sz [] false) :: st.rows⟩) : wpL ro P N (c :: l) Q st := by
  intro S w0 g a w hr
  exact h S w0 _ a w ((hr.bear (nomen_of hm) e sz).nilSlot ht find_set_eq (updG_eq _ _ _))

/-- .. and so does a cell of a variable. -/
theorem Rel.nilCell (h : Rel S w0 N g st a w) {b j id e sz T : Nat} {cs : List AC} (hne : b ≠ id) (hb : find st.rows b = some (.box T cs)) (hj : cs[j]? = some .nil) (hr : find st.rows id = some (.arr e sz [] false)) (hg : g id = none) :
    Rel S w0 N g ⟨st.tmps, (b, .box T (cs.set j (.row id))) :: st.rows⟩ a w := by
  have hrows : ∀ i r, find ((b, ARow.box T (cs.set j (.row id))) :: st.rows) i = some r → ∃ r', find st.rows i = some r' ∧ (∀ o, r'.safe o ↔ r.safe o) := by
    intro i r hf
    simp only [find] at hf
    split at hf
    · rename_i he; subst he; cases hf; exact ⟨_, hb, fun o => Iff.rfl⟩
    · exact ⟨r, hf, fun o => Iff.rfl⟩
  have hrows' : ∀ i r, find st.rows i = some r → ∃ r', find ((b, ARow.box T (cs.set j (.row id))) :: st.rows) i = some r' ∧ (∀ o, r'.safe o ↔ r.safe o) := by
    intro i r hf
    by_cases he : i = b
    · subst he; rw [hb] at hf; cases hf; exact ⟨_, find_set_eq, fun o => Iff.rfl⟩
    · exact ⟨r, by rw [find_set_ne he]; exact hf, fun o => Iff.rfl⟩
  have hF : ∀ b' o, Sf w0.heap.size S st.rows g b' o → Sf w0.heap.size S ((b, ARow.box T (cs.set j (.row id))) :: st.rows) g b' o := by
    intro b' o hs
    rcases hs with hs | ⟨q1, q2⟩
    · exact .inl hs
    · refine .inr ⟨q1, fun i r c hf hgi => ?_⟩
      obtain ⟨r', hf', hsafe⟩ := hrows i r hf
      exact (hsafe o).1 (q2 i r' c hf' hgi)
  have hc : ∀ b' o, Sf w0.heap.size S st.rows g b' o → b' < w.heap.size → Sf w0.heap.size S ((b, ARow.box T (cs.set j (.row id))) :: st.rows) g b' o ∧ cl w b' o = cl w b' o := fun b' o hs _ => ⟨hF b' o hs, rfl⟩
  have hk : ∀ i : Nat, g i = g i ∧ ∀ e sz xs fl, find st.rows i = some (.arr e sz xs fl) → ∃ xs' fl', find ((b, ARow.box T (cs.set j (.row id))) :: st.rows) i = some (.arr e sz xs' fl') ∧ xs'.length = xs.length := by
    intro i
    refine ⟨rfl, fun e sz xs fl hf => ?_⟩
    have hib : i ≠ b := fun he => by subst he; rw [hb] at hf; cases hf
    exact ⟨xs, fl, by rw [find_set_ne hib]; exact hf, rfl⟩
  refine ⟨h.below, h.size, h.calm, h.good, h.defers, fun i r b' c hf hgi => ?_, fun i i' r r' b' c c' hf hf' hgi hgi' => ?_, fun i r hf => ?_, fun i x hx => ?_⟩
  · obtain ⟨r', hf', _⟩ := hrows i r hf
    exact h.blk i r' b' c hf' hgi
  · obtain ⟨r1, hf1, _⟩ := hrows i r hf
    obtain ⟨r2, hf2, _⟩ := hrows i' r' hf'
    exact h.inj i i' r1 r2 b' c c' hf1 hf2 hgi hgi'
  · by_cases he : i = b
    · subst he
      rw [find_set_eq] at hf
      cases hf
      obtain ⟨b', c, cur, h1, h2, h3⟩ := h.rows _ _ hb
      refine ⟨b', c, cur, h1, h2, ?_⟩
      have h3' := h3.mono' (R' := fun u x => u.oneCell' = true ∧ RelAC (Sf w0.heap.size S ((i, ARow.box T (cs.set j (.row id))) :: st.rows) g) w ((i, ARow.box T (cs.set j (.row id))) :: st.rows) g u x) fun u y hy hu => ⟨hu.1, hu.2.carry hc fun id' _ => hk id'⟩
      obtain ⟨u, hu, hu1, hu2⟩ := h3'.get hj
      have hnil : u = .slice none 0 0 := hu2
      have hset := h3'.set (i := j) (a := u) (b := AC.row id) ⟨hu1, e, sz, [], false, by rw [find_set_ne (Ne.symm hne)]; exact hr, by rw [hnil, hg]; rfl⟩
      have hsame : cur.toList.set j u = cur.toList := by
        apply List.ext_getElem?
        intro n
        rw [List.getElem?_set]
        split
        · rename_i e1; subst e1
          have hlt := (List.getElem?_eq_some_iff.1 hu).1
          simp [hlt, hu]
          simpa using hlt
        · rfl
      rw [hsame] at hset
      exact hset
    · rw [find_set_ne he] at hf
      exact (h.rows i r hf).carry hc rfl (fun _ _ _ => rfl) (NonC.refl _) fun id' _ => hk id'
  · obtain ⟨v, hv, hrv⟩ := h.tmps i x hx
    exact ⟨v, hv, hrv.carry hc fun id' _ => hk id'⟩

theorem find_box_set {b j T : Nat} {cs : List AC} {rows : List (Nat × ARow)} {x : Nat × ARow} (h : find rows b = some (.box T cs)) (hne : b ≠ x.1) : find (x :: rows) b = some (.box T cs) := by
  obtain ⟨k, r⟩ := x
  rw [find_set_ne hne]; exact h

theorem wpL_nilCell {c : Code} {l : List Code} {Q : Exit → ASt → Prop} (b j id e sz : Nat) {T : Nat} {cs : List AC} (hb : find st.rows b = some (.box T cs)) (hj : cs[j]? = some .nil) (hne : b ≠ id) (hm : st.nomenB id = true)
    (h : wpL ro P N (c :: l) Q ⟨st.tmps, (b, .box T (cs.set j (.row id))) :: (id, .arr e sz [] false) :: st.rows⟩) : wpL ro P N (c :: l) Q st := by
  intro S w0 g a w hr
  exact h S w0 _ a w ((hr.bear (nomen_of hm) e sz).nilCell hne (by rw [find_set_ne hne]; exact hb) hj find_set_eq (updG_eq _ _ _))

attribute [go_sem] Option.isNone_none Option.isNone_some
@[go_sem] theorem wpL_nil {Q : Exit → ASt → Prop} {s : ASt} : wpL ro P N [] Q s = Q .normal s := rfl

/-- A statement, and what is known after it. -/
theorem wpL_to {c d : Code} {l : List Code} {Q : Exit → ASt → Prop} (mid : ASt) (h1 : wpL ro P N [c] (thenL (fun s => mid.le s) Q) st) (h2 : wpL ro P N (d :: l) Q mid) : wpL ro P N (c :: d :: l) Q st := by
  refine AWp_mono (fun e s hs => ?_) h1
  cases e with
  | normal => exact wpL_weaken hs h2
  | _ => exact hs

/-- A row made fast: from now on its elements are data. -/
theorem Rel.fast (h : Rel S w0 N g st a w) {id e sz : Nat} {xs : List (List DC)} {fl : Bool} (hr : find st.rows id = some (.arr e sz xs fl)) : Rel S w0 N g ⟨st.tmps, (id, .arr e sz xs true) :: st.rows⟩ a w := by
  have hrows : ∀ i r, find ((id, ARow.arr e sz xs true) :: st.rows) i = some r → ∃ r', find st.rows i = some r' ∧ (∀ o, r'.safe o → r.safe o) := by
    intro i r hf
    simp only [find] at hf
    split at hf
    · rename_i he; subst he; cases hf; exact ⟨_, hr, fun o ho => ⟨rfl, ho.2⟩⟩
    · exact ⟨r, hf, fun o ho => ho⟩
  have hF : ∀ b' o, Sf w0.heap.size S st.rows g b' o → Sf w0.heap.size S ((id, ARow.arr e sz xs true) :: st.rows) g b' o := by
    intro b' o hs
    rcases hs with hs | ⟨q1, q2⟩
    · exact .inl hs
    · refine .inr ⟨q1, fun i r c hf hgi => ?_⟩
      obtain ⟨r', hf', hsafe⟩ := hrows i r hf
      exact hsafe o (q2 i r' c hf' hgi)
  have hc : ∀ b' o, Sf w0.heap.size S st.rows g b' o → b' < w.heap.size → Sf w0.heap.size S ((id, ARow.arr e sz xs true) :: st.rows) g b' o ∧ cl w b' o = cl w b' o := fun b' o hs _ => ⟨hF b' o hs, rfl⟩
  have hk : ∀ i : Nat, g i = g i ∧ ∀ e' sz' xs' fl', find st.rows i = some (.arr e' sz' xs' fl') → ∃ xs2 fl2, find ((id, ARow.arr e sz xs true) :: st.rows) i = some (.arr e' sz' xs2 fl2) ∧ xs2.length = xs'.length := by
    intro i
    refine ⟨rfl, fun e' sz' xs' fl' hf => ?_⟩
    by_cases hi : i = id
    · subst hi; rw [hr] at hf; cases hf; exact ⟨xs, true, find_set_eq, rfl⟩
    · exact ⟨xs', fl', by rw [find_set_ne hi]; exact hf, rfl⟩
  refine ⟨h.below, h.size, h.calm, h.good, h.defers, fun i r b' c hf hgi => ?_, fun i i' r r' b' c c' hf hf' hgi hgi' => ?_, fun i r hf => ?_, fun i x hx => ?_⟩
  · obtain ⟨r', hf', _⟩ := hrows i r hf
    exact h.blk i r' b' c hf' hgi
  · obtain ⟨r1, hf1, _⟩ := hrows i r hf
    obtain ⟨r2, hf2, _⟩ := hrows i' r' hf'
    exact h.inj i i' r1 r2 b' c c' hf1 hf2 hgi hgi'
  · by_cases he : i = id
    · subst he
      rw [find_set_eq] at hf
      cases hf
      have h2 : RelRow (Sf w0.heap.size S st.rows g) w st.rows g i (.arr e sz xs true) := by
        have h3 := h.rows _ _ hr
        exact h3
      exact h2.carry hc rfl (fun _ _ _ => rfl) (NonC.refl _) fun id' _ => hk id'
    · rw [find_set_ne he] at hf
      exact (h.rows i r hf).carry hc rfl (fun _ _ _ => rfl) (NonC.refl _) fun id' _ => hk id'
  · obtain ⟨v, hv, hrv⟩ := h.tmps i x hx
    exact ⟨v, hv, hrv.carry hc fun id' _ => hk id'⟩

theorem wpL_fast {c : Code} {l : List Code} {Q : Exit → ASt → Prop} (id : Nat) {e sz : Nat} {xs : List (List DC)} {fl : Bool} (hr : find st.rows id = some (.arr e sz xs fl))
    (h : wpL ro P N (c :: l) Q ⟨st.tmps, (id, .arr e sz xs true) :: st.rows⟩) : wpL ro P N (c :: l) Q st := by
  intro S w0 g a w hrel
  exact h S w0 _ a w (hrel.fast hr)

/-- What is known otherwise of the same memory. -/
def Ghost (s s' : ASt) : Prop := ∀ (S : Nat → Nat → Prop) (w0 : World) (N : Fm) (g : Gh) (a : Act) (w : World), Rel S w0 N g s a w → ∃ g', Rel S w0 N g' s' a w

theorem ghost_fast {s : ASt} (id : Nat) {e sz : Nat} {xs : List (List DC)} {fl : Bool} (hr : find s.rows id = some (.arr e sz xs fl)) : Ghost s ⟨s.tmps, (id, .arr e sz xs true) :: s.rows⟩ :=
  fun S w0 N g a w h => ⟨g, h.fast hr⟩

theorem aOps_split (hT : TabOk P T) {ops : Array Oper} {K : ASt → Prop} {Q : Exit → Act → World → Prop} (hQ : ∀ g' st' a' w', Rel S w0 N g' st' a' w' → K st' → Q .normal a' w') (l2 : List Oper) (hl2 : dstOk N.n l2 = true) :
    ∀ (l : List Oper), dstOk N.n l = true → ∀ {g : Gh} {st : ASt} {a : Act} {w : World}, Rel S w0 N g st a w → aOps N.calm P T ops l (fun s => ∃ s', Ghost s s' ∧ aOps N.calm P T ops l2 K s') st → wpListIn (Fr ro) 0 P ops Q (l ++ l2) a w
  | [], _, _, _, _, _, h, hK => by
    obtain ⟨s', hg, hK'⟩ := hK
    obtain ⟨g', h'⟩ := hg _ _ _ _ _ _ h
    exact aOps_sound (m := N.calm) (fun hm => hm) hT hQ l2 hl2 h' hK'
  | o :: l, hl, g, st, a, w, h, hK => by
    simp only [dstOk, List.all_cons, Bool.and_eq_true] at hl
    have hd : ∀ i, o.dst = some i → i < N.n := by
      intro i hi
      have := hl.1
      rw [hi] at this
      simpa using this
    refine wpListIn_step fun K' hK' => ?_
    exact stepG_sound (m := N.calm) (fun hm => hm) hT h o hd hK fun g' st' a' w' h1 h2 => hK' _ _ (aOps_split hT hQ l2 hl2 l hl.2 h1 h2)

/-- A region, something known otherwise after its first k operations. -/
theorem wpL_split (hT : TabOk P T) (k : Nat) {id : Nat} {ops : Array Oper} {l : List Code} {Q : Exit → ASt → Prop} (hl : dstOk N.n ops.toList = true)
    (h : aOps N.calm P T ops (ops.toList.take k) (fun s => ∃ s', Ghost s s' ∧ aOps N.calm P T ops (ops.toList.drop k) (wpL ro P N l Q) s') st) : wpL ro P N (.region id ops false :: l) Q st := by
  intro S w0 g a w hr
  have h1 : dstOk N.n (ops.toList.take k) = true := by
    unfold dstOk at hl ⊢
    rw [List.all_eq_true] at hl ⊢
    exact fun x hx => hl x (List.mem_of_mem_take hx)
  have h2 : dstOk N.n (ops.toList.drop k) = true := by
    unfold dstOk at hl ⊢
    rw [List.all_eq_true] at hl ⊢
    exact fun x hx => hl x (List.mem_of_mem_drop hx)
  refine wpIn_region_list ?_
  have := aOps_split (ro := ro) (P := P) (S := S) (w0 := w0) hT (Q := fun e a' w' => ∃ g' st', Rel S w0 N g' st' a' w' ∧ thenL (wpL ro P N l Q) Q e st') (fun g' st' a' w' h1 h2 => ⟨g', st', h1, h2⟩) (ops.toList.drop k) h2 (ops.toList.take k) h1 hr h
  rwa [List.take_append_drop] at this


def scopeQ (K : ASt → Prop) (Q : Exit → ASt → Prop) : Exit → ASt → Prop
  | .normal, s => K s
  | .goto _, _ => False
  | e, s => Q e s

attribute [go_sem] scopeQ

section
variable {b : Frame} {k : List Item} {cs : List Frame}
theorem stepR_scope {c : Code} : step P (lone (b.atR a (.code (.scope c) :: k)) cs w) = .next (lone (b.atR a (.code c :: .inScope c :: k)) cs w) :=
  step_lone_go (by simp [_root_.Go.stepG, _root_.Go.stepG.exec, Frame.atR])
theorem stepR_inScope {c : Code} : step P (lone (b.atR a (.inScope c :: k)) cs w) = .next (lone (b.atR a k) cs w) :=
  step_lone_go (by simp [_root_.Go.stepG, _root_.Go.stepG.exec, Frame.atR])
end
theorem wpIn_scope_straight {F : Fence} {n : Nat} {Q : Exit → Act → World → Prop} {c : Code} (h : c.wpIn F n P (Exit.noGoto Q) a w) : (Code.scope c).wpIn F n P Q a w := by
  intro b k cs hro hb hr
  have h0 : (lone (b.atR a (.code (.scope c) :: k)) cs w).fenced P F := fenced_calm hb hr rfl
  obtain ⟨e, a₁, w₁, hq, harr⟩ := h b (.inScope c :: k) cs hro hb hr
  have hx : ∀ id, exitTo id (.inScope c :: k) = exitTo id k := fun id => by simp [exitTo]
  cases e with
  | normal => exact ⟨.normal, a₁, w₁, hq, .head h0 stepR_scope (StepsIn.trans harr (.one (fenced_calm hb hr rfl) stepR_inScope))⟩
  | exit id =>
    exact ⟨.exit id, a₁, w₁, hq, fun k' hk => .head h0 stepR_scope (harr.1 k' (by rw [hx]; exact hk)),
      fun hr' hk => let ⟨k₁, h1, h2⟩ := harr.2 hr' (by rw [hx]; exact hk); ⟨k₁, h1, .head h0 stepR_scope h2⟩⟩
  | goto l => exact hq.elim
  | ret => exact ⟨_, a₁, w₁, hq, .of_steps (.one h0 stepR_scope) harr⟩
  | panic ch => exact ⟨_, a₁, w₁, hq, .of_steps (.one h0 stepR_scope) harr⟩
  | outgrown => exact ⟨_, a₁, w₁, hq, .of_steps (.one h0 stepR_scope) harr⟩

theorem wpL_scope {c : Code} {l : List Code} {Q : Exit → ASt → Prop} (h : wpL ro P N (flat c) (scopeQ (wpL ro P N l Q) Q) st) : wpL ro P N (.scope c :: l) Q st := by
  intro S w0 g a w hr
  refine wpIn_scope_straight (wpIn_mono (AWp_flat c h S w0 g a w hr) fun e a' w' ⟨g', st', h1, h2⟩ => ?_)
  cases e with
  | goto t => exact h2.elim
  | _ => exact ⟨g', st', h1, h2⟩

end
end Go.Abs
