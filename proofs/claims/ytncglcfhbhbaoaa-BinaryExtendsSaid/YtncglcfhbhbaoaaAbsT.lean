/-
  A box that is lent for good; a range over a function: rounds in frames of their own.
-/
import Derived.Test.YtncglcfhbhbaoaaAbsS
import Derived.RangeFuncSeq
set_option linter.unusedSimpArgs false
set_option linter.unusedVariables false
namespace Go.Abs
open Go.RowKit

section
variable {S : Nat → Nat → Prop} {w0 : World} {N : Fm} {g : Gh} {st : ASt} {a : Act} {w : World} {P : Program} {T : Tab} {ro : Option Nat}

/-- A box of data that nobody will write again: its cells are data. -/
theorem Rel.lend (h : Rel S w0 N g st a w) {t id Ty : Nat} {xs : List DC} (ht : find st.tmps t = some (.c (.ptr id 0))) (hr : find st.rows id = some (.box Ty (xs.map .d))) :
    Rel S w0 N g ⟨(t, .c (.dptr xs)) :: st.tmps, (id, .gone) :: st.rows⟩ a w := by
  obtain ⟨b, c, cur, hg, hb, hall⟩ := h.rows id _ hr
  have hF : ∀ b' o, Sf w0.heap.size S st.rows g b' o → Sf w0.heap.size S ((id, .gone) :: st.rows) g b' o := by
    intro b' o hs
    rcases hs with hs | ⟨q1, q2⟩
    · exact .inl hs
    · refine .inr ⟨q1, fun i r c' hf hgi => ?_⟩
      by_cases hi : i = id
      · subst hi; rw [find_set_eq] at hf; cases hf; trivial
      · rw [find_set_ne hi] at hf; exact q2 i r c' hf hgi
  have hc : ∀ b' o, Sf w0.heap.size S st.rows g b' o → b' < w.heap.size → Sf w0.heap.size S ((id, .gone) :: st.rows) g b' o ∧ cl w b' o = cl w b' o := fun b' o hs _ => ⟨hF b' o hs, rfl⟩
  have hk : ∀ i, g i = g i ∧ ∀ e sz xs fl, find st.rows i = some (.arr e sz xs fl) → ∃ xs' fl', find ((id, ARow.gone) :: st.rows) i = some (.arr e sz xs' fl') ∧ xs'.length = xs.length := by
    intro i
    refine ⟨rfl, fun e sz ys fl hf => ⟨ys, fl, ?_, rfl⟩⟩
    rw [find_set_ne]
    · exact hf
    · intro hi; subst hi; rw [hr] at hf; cases hf
  have hex : ∀ i r, find ((id, ARow.gone) :: st.rows) i = some r → ∃ r0, find st.rows i = some r0 := by
    intro i r hf
    by_cases hi : i = id
    · subst hi; exact ⟨_, hr⟩
    · rw [find_set_ne hi] at hf; exact ⟨_, hf⟩
  obtain ⟨hb1, hb2⟩ := h.blk id _ b c hr hg
  refine ⟨h.below, h.size, h.calm, h.good, h.defers, fun i r b' c' hf hgi => ?_, fun i i' r r' b' c' c'' hf hf' hgi hgi' => ?_, fun i r hf => ?_, fun i x hx => ?_⟩
  · obtain ⟨r0, h0⟩ := hex i r hf; exact h.blk i r0 b' c' h0 hgi
  · obtain ⟨r0, h0⟩ := hex i r hf; obtain ⟨r1, h1⟩ := hex i' r' hf'; exact h.inj i i' r0 r1 b' c' c'' h0 h1 hgi hgi'
  · by_cases hi : i = id
    · subst hi; rw [find_set_eq] at hf; cases hf
      exact ⟨b, c, cur, Ty, hg, hb⟩
    · rw [find_set_ne hi] at hf
      exact (h.rows i r hf).carry hc rfl (fun _ _ _ => rfl) (NonC.refl _) fun id' _ => hk id'
  · simp only [find] at hx
    split at hx
    · cases hx
      rename_i e; subst e
      obtain ⟨v, hv, hrv⟩ := h.tmps _ _ ht
      refine ⟨v, hv, ?_⟩
      unfold RelV at hrv ⊢
      obtain ⟨h1, b', c', h2, h3⟩ := hrv
      rw [hg] at h2; cases h2
      refine ⟨h1, b, 0, fun j => cur[j]?.getD undef, h3, fun j d hd => ?_⟩
      obtain ⟨u, hu, hone, hru⟩ := hall.get (i := j) (y := .d d) (by simp [hd])
      have hu' : cur[j]? = some u := by simpa using hu
      have hj : cl w b (0 + j) = some u := by rw [cl_row hb, Nat.zero_add]; exact hu'
      refine ⟨.inr ⟨hb1, fun i r c' hf hgi => ?_⟩, ?_, ?_⟩
      · have : i = id := by
          obtain ⟨r0, h0⟩ := hex i r hf
          exact h.inj i id r0 _ b c' c h0 hr hgi hg
        subst this
        rw [find_set_eq] at hf; cases hf; trivial
      · rw [hj]; simp [hu']
      · simp only [hu', Option.getD_some]; exact RelC.sub (fun b o => hF b o) hru
    · obtain ⟨v, hv, hrv⟩ := h.tmps i x hx
      exact ⟨v, hv, hrv.carry hc fun id' _ => hk id'⟩

theorem wpL_lend {c : Code} {l : List Code} {Q : Exit → ASt → Prop} (t id : Nat) {Ty : Nat} {xs : List DC} (ht : find st.tmps t = some (.c (.ptr id 0))) (hr : find st.rows id = some (.box Ty (xs.map .d)))
    (h : wpL ro P N (c :: l) Q ⟨(t, .c (.dptr xs)) :: st.tmps, (id, .gone) :: st.rows⟩) : wpL ro P N (c :: l) Q st :=
  fun S w0 g a w hrel => h S w0 g a w (hrel.lend ht hr)

/-- A box whose one cell is a closure over that very box: from now on it is data. -/
theorem Rel.knot (h : Rel S w0 N g st a w) {t id Ty f : Nat} (ht : find st.tmps t = some (.c (.ptr id 0))) (hr : find st.rows id = some (.box Ty [.pclo f [] id []])) :
    Rel S w0 N g ⟨(t, .c (.dptr [.rc f])) :: st.tmps, (id, .gone) :: st.rows⟩ a w := by
  obtain ⟨b, c, cur, hg, hb, hall⟩ := h.rows id _ hr
  have hF : ∀ b' o, Sf w0.heap.size S st.rows g b' o → Sf w0.heap.size S ((id, .gone) :: st.rows) g b' o := by
    intro b' o hs
    rcases hs with hs | ⟨q1, q2⟩
    · exact .inl hs
    · refine .inr ⟨q1, fun i r c' hf hgi => ?_⟩
      by_cases hi : i = id
      · subst hi; rw [find_set_eq] at hf; cases hf; trivial
      · rw [find_set_ne hi] at hf; exact q2 i r c' hf hgi
  have hc : ∀ b' o, Sf w0.heap.size S st.rows g b' o → b' < w.heap.size → Sf w0.heap.size S ((id, .gone) :: st.rows) g b' o ∧ cl w b' o = cl w b' o := fun b' o hs _ => ⟨hF b' o hs, rfl⟩
  have hk : ∀ i, g i = g i ∧ ∀ e sz xs fl, find st.rows i = some (.arr e sz xs fl) → ∃ xs' fl', find ((id, ARow.gone) :: st.rows) i = some (.arr e sz xs' fl') ∧ xs'.length = xs.length := by
    intro i
    refine ⟨rfl, fun e sz ys fl hf => ⟨ys, fl, ?_, rfl⟩⟩
    rw [find_set_ne]
    · exact hf
    · intro hi; subst hi; rw [hr] at hf; cases hf
  have hex : ∀ i r, find ((id, ARow.gone) :: st.rows) i = some r → ∃ r0, find st.rows i = some r0 := by
    intro i r hf
    by_cases hi : i = id
    · subst hi; exact ⟨_, hr⟩
    · rw [find_set_ne hi] at hf; exact ⟨_, hf⟩
  obtain ⟨hb1, hb2⟩ := h.blk id _ b c hr hg
  refine ⟨h.below, h.size, h.calm, h.good, h.defers, fun i r b' c' hf hgi => ?_, fun i i' r r' b' c' c'' hf hf' hgi hgi' => ?_, fun i r hf => ?_, fun i x hx => ?_⟩
  · obtain ⟨r0, h0⟩ := hex i r hf; exact h.blk i r0 b' c' h0 hgi
  · obtain ⟨r0, h0⟩ := hex i r hf; obtain ⟨r1, h1⟩ := hex i' r' hf'; exact h.inj i i' r0 r1 b' c' c'' h0 h1 hgi hgi'
  · by_cases hi : i = id
    · subst hi; rw [find_set_eq] at hf; cases hf
      exact ⟨b, c, cur, Ty, hg, hb⟩
    · rw [find_set_ne hi] at hf
      exact (h.rows i r hf).carry hc rfl (fun _ _ _ => rfl) (NonC.refl _) fun id' _ => hk id'
  · simp only [find] at hx
    split at hx
    · cases hx
      rename_i e; subst e
      obtain ⟨v, hv, hrv⟩ := h.tmps _ _ ht
      refine ⟨v, hv, ?_⟩
      unfold RelV at hrv ⊢
      obtain ⟨h1, b', c', h2, h3⟩ := hrv
      rw [hg] at h2; cases h2
      obtain ⟨u, hu, hone, b2, c2, vs, ws, hg2, hu2, hvs, hws⟩ := hall.get (i := 0) (y := .pclo f [] id []) rfl
      rw [hg] at hg2; cases hg2
      cases hvs; cases hws
      have hu' : cur[0]? = some u := by simpa using hu
      have hcl : cl w b 0 = some (.func (.func f) #[] #[.pointer (some ⟨b, 0, none⟩)]) := by rw [cl_row hb, hu', hu2]; rfl
      have hS : Sf w0.heap.size S ((id, .gone) :: st.rows) g b 0 := by
        refine .inr ⟨hb1, fun i r c' hf hgi => ?_⟩
        have : i = id := by
          obtain ⟨r0, h0⟩ := hex i r hf
          exact h.inj i id r0 _ b c' c h0 hr hgi hg
        subst this
        rw [find_set_eq] at hf; cases hf; trivial
      refine ⟨h1, b, 0, fun _ => .func (.func f) #[] #[.pointer (some ⟨b, 0, none⟩)], h3, fun j d hd => ?_⟩
      cases j with
      | zero => simp at hd; subst hd; exact ⟨hS, hcl, .rc f b 0 hS hcl⟩
      | succ j => simp at hd
    · obtain ⟨v, hv, hrv⟩ := h.tmps i x hx
      exact ⟨v, hv, hrv.carry hc fun id' _ => hk id'⟩
theorem wpL_knot {c : Code} {l : List Code} {Q : Exit → ASt → Prop} (t id : Nat) {Ty f : Nat} (ht : find st.tmps t = some (.c (.ptr id 0))) (hr : find st.rows id = some (.box Ty [.pclo f [] id []]))
    (h : wpL ro P N (c :: l) Q ⟨(t, .c (.dptr [.rc f])) :: st.tmps, (id, .gone) :: st.rows⟩) : wpL ro P N (c :: l) Q st :=
  fun S w0 g a w hrel => h S w0 g a w (hrel.knot ht hr)

/-! ### Ranges over functions -/

theorem Rel.putNonC (h : Rel S w0 N g st a w) {l : Nat} {o : Obj} (hl : w.heap[l]? = some o) (ho : o.isCells = false) (hm : ∀ d, d ∈ a.defers → d ≠ { target := .collected l, args := #[] }) (hw0 : w0.heap.size ≤ l)
    (hheld : ∀ id L, find st.rows id = some (.held L) → ∀ p, p ∈ L → p.1 ≠ l) {o' : Obj} (ho' : o'.isCells = false) (hni : oIter o = false := by rfl) : Rel S w0 N g st a (w.putObj l o') := by
  have hlt := (Array.getElem?_eq_some_iff.1 hl).1
  have hcl : ∀ b o2, cl (w.putObj l o') b o2 = cl w b o2 := by
    intro b o2
    by_cases hb : b = l
    · subst hb
      unfold cl World.cell?
      rw [World.putObj_heap_same hlt, hl]
      cases o <;> cases o' <;> simp_all [Obj.isCells]
    · exact cl_of_block (World.putObj_heap_other hb) o2
  have hcar : ∀ b o2, Sf w0.heap.size S st.rows g b o2 → b < w.heap.size → Sf w0.heap.size S st.rows g b o2 ∧ cl (w.putObj l o') b o2 = cl w b o2 := fun b o2 hs _ => ⟨hs, hcl b o2⟩
  have hx : ∀ id', g id' = g id' ∧ ∀ e sz xs fl, find st.rows id' = some (.arr e sz xs fl) → ∃ xs' fl', find st.rows id' = some (.arr e sz xs' fl') ∧ xs'.length = xs.length := fun id' => ⟨rfl, fun e sz xs fl hf2 => ⟨xs, fl, hf2, rfl⟩⟩
  refine ⟨⟨h.below.os, h.below.tape, h.below.output, by simpa using h.below.size, fun k hk => ?_⟩, h.size, h.calm, h.good, ⟨h.defers.1, fun d hd => ?_⟩, fun id r b c hf hg => ?_, h.inj, fun id r hf => ?_, fun i x hx' => ?_⟩
  · rw [World.putObj_heap_other (by omega)]; exact h.below.block k hk
  · obtain ⟨D, h1, h2, h3⟩ := h.defers.2 d hd
    exact ⟨D, h1, h2, by rw [World.putObj_heap_other (fun e => by subst e; exact hm d hd h1)]; exact h3⟩
  · have := h.blk id r b c hf hg
    exact ⟨this.1, by simpa using this.2⟩
  · have hbl : ∀ b c, g id = some (b, c) → (w.putObj l o').heap[b]? = w.heap[b]? := fun b c hg => by
      obtain ⟨o2, ho2, hc⟩ := h.row_obj hf hg
      refine World.putObj_heap_other (fun e => ?_)
      subst e
      rw [hl] at ho2; cases ho2
      rcases hc with hc | hc
      · rw [ho] at hc; cases hc
      · rw [hni] at hc; cases hc
    have hrr := h.rows id r hf
    cases r with
    | box T' cs =>
      obtain ⟨b, c, cur, h1, h2, h3⟩ := hrr
      exact ⟨b, c, cur, h1, by rw [hbl b c h1]; exact h2, h3.mono fun u y hu => ⟨hu.1, hu.2.carry hcar fun id' _ => hx id'⟩⟩
    | arr e sz xs fl =>
      obtain ⟨h0, h⟩ := hrr
      refine ⟨h0, ?_⟩
      rcases h with h1 | ⟨b, cap, cur, h1, h2, h3, h4, h5, h6⟩
      · exact .inl h1
      · refine .inr ⟨b, cap, cur, h1, by rw [hbl b cap h1]; exact h2, h3, h4, h5, fun i j x d hx hd => ?_⟩
        obtain ⟨u, hu, hr⟩ := h6 i j x d hx hd
        exact ⟨u, hu, hr.mono hcar⟩
    | ghost v x => exact ⟨hrr.1, hrr.2.carry hcar fun id' _ => hx id'⟩
    | held L => exact ⟨hrr.1, fun p hp => ⟨(hrr.2 p hp).1, by rw [World.putObj_heap_other (hheld id L hf p hp)]; exact (hrr.2 p hp).2⟩⟩
    | gone =>
      obtain ⟨b, c, cur, T', h1, h2⟩ := hrr
      exact ⟨b, c, cur, T', h1, by rw [hbl b c h1]; exact h2⟩
    | iter s pos =>
      obtain ⟨b, c, h1, h2⟩ := hrr
      exact ⟨b, c, h1, by rw [hbl b c h1]; exact h2⟩
  · obtain ⟨v, hv, hr⟩ := h.tmps i x hx'
    exact ⟨v, hv, hr.carry hcar fun id' _ => hx id'⟩

/-- Other foreign blocks are held. -/
theorem Rel.setHeld (h : Rel S w0 N g st a w) {id : Nat} {L L' : List (Nat × Obj)} (hf : find st.rows id = some (.held L)) (hL : ∀ p, p ∈ L' → oStill p.2 = true ∧ w.heap[p.1]? = some p.2) :
    Rel S w0 N g ⟨st.tmps, (id, .held L') :: st.rows⟩ a w := by
  have hg0 : g id = none := (h.rows id _ hf).1
  have hF : ∀ b' o, Sf w0.heap.size S st.rows g b' o → Sf w0.heap.size S ((id, .held L') :: st.rows) g b' o := by
    intro b' o hs
    rcases hs with hs | ⟨q1, q2⟩
    · exact .inl hs
    · refine .inr ⟨q1, fun i r c' hfi hgi => ?_⟩
      by_cases hi : i = id
      · subst hi; rw [hg0] at hgi; cases hgi
      · rw [find_set_ne hi] at hfi; exact q2 i r c' hfi hgi
  have hc : ∀ b' o, Sf w0.heap.size S st.rows g b' o → b' < w.heap.size → Sf w0.heap.size S ((id, .held L') :: st.rows) g b' o ∧ cl w b' o = cl w b' o := fun b' o hs _ => ⟨hF b' o hs, rfl⟩
  have hk : ∀ i, g i = g i ∧ ∀ e sz xs fl, find st.rows i = some (.arr e sz xs fl) → ∃ xs' fl', find ((id, ARow.held L') :: st.rows) i = some (.arr e sz xs' fl') ∧ xs'.length = xs.length := by
    intro i
    refine ⟨rfl, fun e sz ys fl hfi => ⟨ys, fl, ?_, rfl⟩⟩
    rw [find_set_ne]
    · exact hfi
    · intro hi; subst hi; rw [hf] at hfi; cases hfi
  have hex : ∀ i r b c, find ((id, ARow.held L') :: st.rows) i = some r → g i = some (b, c) → find st.rows i = some r := by
    intro i r b c hfi hgi
    by_cases hi : i = id
    · subst hi; rw [hg0] at hgi; cases hgi
    · rw [find_set_ne hi] at hfi; exact hfi
  refine ⟨h.below, h.size, h.calm, h.good, h.defers, fun i r b' c' hfi hgi => h.blk i r b' c' (hex i r _ _ hfi hgi) hgi, fun i i' r r' b' c' c'' hfi hfi' hgi hgi' => h.inj i i' r r' b' c' c'' (hex i r _ _ hfi hgi) (hex i' r' _ _ hfi' hgi') hgi hgi', fun i r hfi => ?_, fun i x hx => ?_⟩
  · by_cases hi : i = id
    · subst hi; rw [find_set_eq] at hfi; cases hfi
      exact ⟨hg0, hL⟩
    · rw [find_set_ne hi] at hfi
      exact (h.rows i r hfi).carry hc rfl (fun _ _ _ => rfl) (NonC.refl _) fun id' _ => hk id'
  · obtain ⟨v, hv, hrv⟩ := h.tmps i x hx
    exact ⟨v, hv, hrv.carry hc fun id' _ => hk id'⟩

def gB : Nat := 1000000
def hB : Nat := 999999
def ghosts (E : Nat → Value) (l : List (Nat × AV)) : List (Nat × ARow) := l.map fun p => (1000000 + p.1, .ghost (E p.1) p.2)
theorem find_ghosts {E : Nat → Value} : ∀ {l : List (Nat × AV)} {id : Nat} {r : ARow}, find (ghosts E l) id = some r → ∃ i x, id = 1000000 + i ∧ r = .ghost (E i) x ∧ find l i = some x
  | [], id, r, h => by simp [ghosts, find] at h
  | (k, y) :: l, id, r, h => by
    simp only [ghosts, List.map_cons, find] at h
    split at h
    · rename_i e; cases h; exact ⟨k, y, e, rfl, by simp [find]⟩
    · rename_i e
      obtain ⟨i, x, h1, h2, h3⟩ := find_ghosts (l := l) h
      refine ⟨i, x, h1, h2, ?_⟩
      simp only [find]
      rw [if_neg (by omega)]; exact h3
def ungT (E : Nat → Value) : List (Nat × AV) → ASt → Prop
  | [], _ => True
  | (i, x) :: l, s => find s.rows (1000000 + i) = some (.ghost (E i) x) ∧ ungT E l s
theorem ungT_find {E : Nat → Value} : ∀ {l : List (Nat × AV)} {s : ASt}, ungT E l s → ∀ i x, find l i = some x → find s.rows (1000000 + i) = some (.ghost (E i) x)
  | [], s, _, i, x, hf => by simp [find] at hf
  | (k, y) :: l, s, h, i, x, hf => by
    simp only [find] at hf
    split at hf
    · rename_i e; cases hf; subst e; exact h.1
    · exact ungT_find h.2 i x hf
/-- What the round's state s says of the enclosing frame: s'. -/
def ung (E : Nat → Value) (s' s : ASt) : Prop := ungT E s'.tmps s ∧ leR s'.rows s ∧ leN s.rows s'
theorem ung_mk {E : Nat → Value} {s' s : ASt} (h1 : ungT E s'.tmps s) (h2 : leR s'.rows s) (h3 : leN s.rows s') : ung E s' s := ⟨h1, h2, h3⟩

theorem Rel.ung {E : Nat → Value} {s2 s' : ASt} {a2 : Act} (h : Rel S w0 N g s2 a2 w) (hu : ung E s' s2) (hE : ∀ i x, find s'.tmps i = some x → a.tmps[i]? = some (E i)) (hs : a.tmps.size = N.n) (hcalm : N.calm = true → a.defers = []) (hd : DefOk w0.heap.size a.defers w) :
    Rel S w0 N g s' a w := by
  have hle : (ASt.mk [] s'.rows).le s2 := by
    refine le_mk (by trivial) hu.2.1 ?_
    have := hu.2.2
    have : ∀ l, leN l s' → leN l (ASt.mk [] s'.rows) := by
      intro l
      induction l with
      | nil => intro _; trivial
      | cons p l ih =>
        obtain ⟨k, r⟩ := p
        cases r with
        | arr e sz xs fl =>
          intro hl
          refine ⟨hl.1.imp id fun hm => ?_, ih hl.2⟩
          unfold ASt.nomenB at hm ⊢
          simp only [Bool.and_eq_true] at hm
          simp [hm.2]
        | _ => intro hl; exact ih hl
    exact this _ hu.2.2
  have h1 := h.weaken hle
  refine ⟨h1.below, hs, hcalm, h1.good, hd, h1.blk, h1.inj, h1.rows, fun i x hx => ⟨E i, hE i x hx, ?_⟩⟩
  have h2 := (h.rows _ _ (ungT_find hu.1 i x hx)).2
  have hF : ∀ b o, Sf w0.heap.size S s2.rows g b o → Sf w0.heap.size S s'.rows g b o := by
    intro b o hs
    rcases hs with hs | ⟨q1, q2⟩
    · exact .inl hs
    · exact .inr ⟨q1, fun id r c hf hg => q2 id r c (leR_find hu.2.1 id r hf) hg⟩
  refine h2.carry (fun b o hs _ => ⟨hF b o hs, rfl⟩) fun id2 hm => ⟨rfl, fun e sz xs fl hf2 => ?_⟩
  rcases leN_find hu.2.2 id2 e sz xs fl (find_mem hf2) with h4 | h4
  · obtain ⟨r, hr⟩ := Option.isSome_iff_exists.1 h4
    have := leR_find hu.2.1 id2 r hr
    rw [hf2] at this; cases this
    exact ⟨xs, fl, hr, rfl⟩
  · have := (nomen_of h4).1 i x hx; rw [this] at hm; cases hm

end
end Go.Abs
