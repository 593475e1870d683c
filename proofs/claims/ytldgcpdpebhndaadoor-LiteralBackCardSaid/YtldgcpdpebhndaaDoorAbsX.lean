/-
  A call walked in place: the callee's body in a frame of its own, the caller's slots held as ghosts.
-/
import Derived.Test.YtldgcpdpebhndaaDoorAbsU
set_option linter.unusedSimpArgs false
set_option linter.unusedVariables false
namespace Go.Abs
open Go.RowKit

def argAVs : Nat → List AV → List (Nat × AV)
  | _, [] => []
  | k, x :: l => (k, x) :: argAVs (k + 1) l
def ghB (β : Nat) (E : Nat → Value) (l : List (Nat × AV)) : List (Nat × ARow) := l.map fun p => (β + p.1, .ghost (E p.1) p.2)
def unT (β : Nat) (E : Nat → Value) : List (Nat × AV) → ASt → Prop
  | [], _ => True
  | (i, x) :: l, s => find s.rows (β + i) = some (.ghost (E i) x) ∧ unT β E l s
/-- No slot of the caller's has a ghost's name yet. -/
def okI (β : Nat) (s : ASt) (xs : List AV) : Prop := (s.tmps.all fun p => s.free (β + p.1) && xs.all fun x => !x.ment (β + p.1)) = true
def domOk (s' s : ASt) : Prop := (s'.tmps.all fun p => (find s.tmps p.1).isSome) = true
def mval : List AV → AV
  | [x] => x
  | xs => .tup xs
def inlE (β : Nat) (results : List AV) (E : Nat → Value) (s0 s' : ASt) (v : AV) (s : ASt) : Prop :=
  v = mval results ∧ domOk s' s0 ∧ unT β E s'.tmps s ∧ leR s'.rows s ∧ leN s.rows ⟨(0, v) :: s'.tmps, s'.rows⟩
/-- The end of a body that is walked in place. -/
def inlQ (β : Nat) (T : Tab) (results : List ResultVar) (E : Nat → Value) (s0 s' : ASt) (v : AV) : Exit → ASt → Prop
  | .normal, s | .ret, s => match retAVs T s results with
    | some vs => inlE β vs E s0 s' v s
    | none => False
  | _, _ => False

section
variable {S : Nat → Nat → Prop} {w0 : World} {N : Fm} {g : Gh} {st : ASt} {a : Act} {w : World} {P : Program} {T : Tab} {ro : Option Nat}

theorem unT_find {β : Nat} {E : Nat → Value} : ∀ {l : List (Nat × AV)} {s : ASt}, unT β E l s → ∀ i x, find l i = some x → find s.rows (β + i) = some (.ghost (E i) x)
  | [], s, _, i, x, hf => by simp [find] at hf
  | (k, y) :: l, s, h, i, x, hf => by
    simp only [find] at hf
    split at hf
    · rename_i e; cases hf; subst e; exact h.1
    · exact unT_find h.2 i x hf

theorem find_ghB {β : Nat} {E : Nat → Value} : ∀ {l : List (Nat × AV)} {id : Nat} {r : ARow}, find (ghB β E l) id = some r → ∃ i x, id = β + i ∧ r = .ghost (E i) x ∧ find l i = some x
  | [], id, r, h => by simp [ghB, find] at h
  | (k, y) :: l, id, r, h => by
    simp only [ghB, List.map_cons, find] at h
    split at h
    · rename_i e; cases h; exact ⟨k, y, e, rfl, by simp [find]⟩
    · rename_i e
      obtain ⟨i, x, h1, h2, h3⟩ := find_ghB (l := l) h
      refine ⟨i, x, h1, h2, ?_⟩
      simp only [find]
      rw [if_neg (by omega)]; exact h3

theorem argAVs_find : ∀ {k : Nat} {l : List AV} {i : Nat} {x : AV}, find (argAVs k l) i = some x → ∃ j, i = k + j ∧ l[j]? = some x
  | k, [], i, x, h => by simp [argAVs, find] at h
  | k, y :: l, i, x, h => by
    simp only [argAVs, find] at h
    split at h
    · rename_i e; cases h; exact ⟨0, by omega, by simp⟩
    · obtain ⟨j, h1, h2⟩ := argAVs_find h
      exact ⟨j + 1, by omega, by simpa using h2⟩

/-- The callee's frame. -/
theorem Rel.enter (h : Rel S w0 N g st a w) {β : Nat} {xs : List AV} (hok : okI β st xs) {vs : List Value} (hv : All2 (RelV (Sf w0.heap.size S st.rows g) w st.rows g) vs xs) {n : Nat} (hn : xs.length ≤ n) :
    ∃ g', Rel S w0 ⟨n, true⟩ g' ⟨argAVs 0 xs, ghB β (fun i => a.tmps[i]?.getD undef) st.tmps ++ st.rows⟩ { tmps := vs.toArray ++ Array.replicate (n - vs.toArray.size) undef, defers := [] } w := by
  let ns := ghB β (fun i => a.tmps[i]?.getD undef) st.tmps
  have hfree : ∀ id r, find ns id = some r → st.free id = true ∧ ∀ x, x ∈ xs → x.ment id = false := by
    intro id r hf
    obtain ⟨i, x, rfl, _, h3⟩ := find_ghB hf
    have := List.all_eq_true.1 hok _ (find_mem h3)
    simp only [Bool.and_eq_true, List.all_eq_true] at this
    exact ⟨this.1, fun y hy => by simpa using this.2 y hy⟩
  let g' : Gh := fun id => match find ns id with | some _ => none | none => g id
  have hg' : ∀ id, g' id = match find ns id with | some _ => (fun _ => none : Gh) id | none => g id := fun _ => rfl
  have hgn : ∀ id r, find ns id = some r → g' id = none := fun id r hf => by rw [hg', hf]
  have hc0 : ∀ b o, Sf w0.heap.size S st.rows g b o → Sf w0.heap.size S (ns ++ st.rows) g' b o := by
    intro b o hs
    rcases hs with hs | ⟨h1, h2⟩
    · exact .inl hs
    · refine .inr ⟨h1, fun id r c hf hgi => ?_⟩
      rw [find_append] at hf
      cases hn : find ns id with
      | some r0 => rw [hgn id r0 hn] at hgi; cases hgi
      | none => rw [hg', hn] at hgi; rw [hn] at hf; exact h2 id r c hf hgi
  have hc : ∀ b o, Sf w0.heap.size S st.rows g b o → b < w.heap.size → Sf w0.heap.size S (ns ++ st.rows) g' b o ∧ cl w b o = cl w b o := fun b o hs _ => ⟨hc0 b o hs, rfl⟩
  have keep : ∀ id, find ns id = none → g' id = g id ∧ ∀ e sz xs fl, find st.rows id = some (.arr e sz xs fl) → ∃ xs' fl', find (ns ++ st.rows) id = some (.arr e sz xs' fl') ∧ xs'.length = xs.length := by
    intro id hn
    exact ⟨by rw [hg', hn], fun e sz xs fl hf => ⟨xs, fl, by rw [find_append, hn]; exact hf, rfl⟩⟩
  have hrel := (h.news (Below.refl _ _) hg' (fun id r hf => (hfree id r hf).1) (fun id r b c hf hg => by cases hg) (fun id id' r r' b c c' hf hf' hg => by cases hg) (fun id r hf => by
    obtain ⟨i, x, rfl, rfl, hx⟩ := find_ghB hf
    refine ⟨hgn _ _ hf, ?_⟩
    obtain ⟨v, hv', hr⟩ := h.tmps i x hx
    rw [hv']
    refine hr.carry hc fun id2 hm => keep id2 ?_
    cases hn : find ns id2 with
    | none => rfl
    | some r2 => have := find_free_tmp (hfree id2 r2 hn).1 hx; rw [this] at hm; cases hm)).2
  have hl := hv.len
  refine ⟨g', ⟨hrel.below, by simp; omega, fun _ => rfl, hrel.good, DefOk.nil _ _, hrel.blk, hrel.inj, hrel.rows, fun i x hx => ?_⟩⟩
  obtain ⟨j, h1, h2⟩ := argAVs_find hx
  obtain ⟨v, hv', hr⟩ := hv.get h2
  refine ⟨v, ?_, ?_⟩
  · have : j < vs.length := (List.getElem?_eq_some_iff.1 hv').1
    rw [h1, Nat.zero_add, Array.getElem?_append_left (by simpa using this)]
    simpa using hv'
  · refine hr.carry hc fun id2 hm => keep id2 ?_
    cases hn : find ns id2 with
    | none => rfl
    | some r2 =>
      have := (hfree id2 r2 hn).2 x (List.mem_of_getElem? h2)
      rw [this] at hm; cases hm

theorem leN_cons : ∀ {l : List (Nat × ARow)} {t : List (Nat × AV)} {v : AV} {rows : List (Nat × ARow)}, leN l ⟨(0, v) :: t, rows⟩ → leN l ⟨t, rows⟩
  | [], _, _, _, _ => trivial
  | (k, r) :: l, t, v, rows, h => by
    cases r with
    | arr e sz xs fl =>
      refine ⟨h.1.imp id fun hm => ?_, leN_cons h.2⟩
      unfold ASt.nomenB at hm ⊢
      simp only [List.all_cons, Bool.and_eq_true] at hm
      simp [hm.1.2, hm.2]
    | _ => exact leN_cons (l := l) h

/-- Back in the caller's frame. -/
theorem Rel.back {β : Nat} {E : Nat → Value} {N2 : Fm} {s2 s0 s' : ASt} {a2 : Act} {v : AV} (h : Rel S w0 N2 g s2 a2 w) (hdom : domOk s' s0) (hT : unT β E s'.tmps s2) (hR : leR s'.rows s2) (hN : leN s2.rows ⟨(0, v) :: s'.tmps, s'.rows⟩)
    (hE : ∀ i x, find s0.tmps i = some x → a.tmps[i]? = some (E i)) (hs : a.tmps.size = N.n) (hd : a.defers = []) :
    Rel S w0 N g s' a w ∧ ∀ u, RelV (Sf w0.heap.size S s2.rows g) w s2.rows g u v → RelV (Sf w0.heap.size S s'.rows g) w s'.rows g u v := by
  have hle : (ASt.mk [] s'.rows).le s2 := by
    refine le_mk (by trivial) hR ?_
    have : ∀ l, leN l s' → leN l (ASt.mk [] s'.rows) := by
      intro l
      induction l with
      | nil => intro _; trivial
      | cons p l ih =>
        obtain ⟨k, r⟩ := p
        cases r with
        | arr e sz xs fl =>
          intro hl
          refine ⟨hl.1.imp id fun hm => ?_, ih hl.2⟩
          unfold ASt.nomenB at hm ⊢
          simp only [Bool.and_eq_true] at hm
          simp [hm.2]
        | _ => intro hl; exact ih hl
    exact this _ (leN_cons hN)
  have h1 := h.weaken hle
  have hF : ∀ b o, Sf w0.heap.size S s2.rows g b o → Sf w0.heap.size S s'.rows g b o := by
    intro b o hs
    rcases hs with hs | ⟨q1, q2⟩
    · exact .inl hs
    · exact .inr ⟨q1, fun id r c hf hg => q2 id r c (leR_find hR id r hf) hg⟩
  have hx : ∀ {u : Value} {x : AV}, (x = v ∨ ∃ i, find s'.tmps i = some x) → RelV (Sf w0.heap.size S s2.rows g) w s2.rows g u x → RelV (Sf w0.heap.size S s'.rows g) w s'.rows g u x := by
    intro u x hx h2
    refine h2.carry (fun b o hs _ => ⟨hF b o hs, rfl⟩) fun id2 hm => ⟨rfl, fun e sz xs fl hf2 => ?_⟩
    rcases leN_find hN id2 e sz xs fl (find_mem hf2) with h4 | h4
    · obtain ⟨r, hr⟩ := Option.isSome_iff_exists.1 h4
      have := leR_find hR id2 r hr
      rw [hf2] at this; cases this
      exact ⟨xs, fl, hr, rfl⟩
    · have hnm := (nomen_of h4).1
      rcases hx with rfl | ⟨i, hi⟩
      · have := hnm 0 x (by simp [find]); rw [this] at hm; cases hm
      · by_cases h0 : i = 0
        · -- a slot 0 of the caller is hidden by v: look it up by membership
          unfold ASt.nomenB at h4
          simp only [List.all_cons, Bool.and_eq_true] at h4
          have := List.all_eq_true.1 h4.1.2 _ (find_mem hi)
          simp at this
          rw [this] at hm; cases hm
        · have := hnm i x (by simp [find, h0, hi]); rw [this] at hm; cases hm
  refine ⟨⟨h1.below, hs, fun _ => hd, h1.good, by rw [hd]; exact DefOk.nil _ _, h1.blk, h1.inj, h1.rows, fun i x hi => ⟨E i, ?_, ?_⟩⟩, fun u hu => hx (.inl rfl) hu⟩
  · have := List.all_eq_true.1 hdom _ (find_mem hi)
    obtain ⟨y, hy⟩ := Option.isSome_iff_exists.1 this
    exact hE i y hy
  · exact hx (.inr ⟨i, hi⟩) (h.rows _ _ (unT_find hT i x hi)).2

/-- A CALL WALKED IN PLACE. -/
theorem Meth.inl (β : Nat) (hT : TabOk P T) {f : FuncId} {fn : Func} {c : Code} (hf : P.funcs[f]? = some fn) (hname : (fn.name == "runtime.NumGoroutine") = false) (hb : fn.body = some c) {s s' : ASt} {xs : List AV} {v : AV} (hlen : xs.length ≤ fn.ntmps)
    (hok : okI β s xs) (hwalk : ∀ E : Nat → Value, wpL none P ⟨fn.ntmps, true⟩ (flat c) (inlQ β T fn.results.toList E s s' v) ⟨argAVs 0 xs, ghB β E s.tmps ++ s.rows⟩) : Meth P f s xs s' v := by
  intro S w0 N g a w hcalm h vs hvs
  left
  have hbody : ¬ fn.body = none := by simp [hb]
  have hnm : ¬ fn.name = "runtime.NumGoroutine" := by simpa using hname
  refine ⟨by simp [callFunc, hf, hnm, hbody], (callsIn_wide (n := 0)).1 (callsIn_of_wp_marks hf hb trivial ?_)⟩
  obtain ⟨g2, h2⟩ := h.enter hok hvs hlen
  have := AWp_flat c (hwalk _) S w0 g2 _ w h2
  refine wpIn_mono this fun e a3 w3 ⟨g3, s3, h3, hq⟩ => ?_
  have hd3 : a3.defers = [] := h3.calm rfl
  have hd : a.defers = [] := h.calm hcalm
  have fin : ∀ vs, retAVs T s3 fn.results.toList = some vs → inlE β vs (fun i => a.tmps[i]?.getD undef) s s' v s3 → LeavesInM Fence.wide 0 P fn a3.tmps (fun e w' => ∃ u g', e = .returned u ∧ Rel S w0 N g' s' a w' ∧ RelV (Sf w0.heap.size S s'.rows g') w' s'.rows g' u v) a3.defers .returning w3 := by
    intro vs hvs ⟨hv, hdom, hT', hR, hN⟩
    rw [hd3]
    obtain ⟨us, hall, hrun⟩ := results_sound (P := P) hT h3 hvs
    obtain ⟨hb1, hb2⟩ := Rel.back (N := N) (a := a) h3 hdom hT' hR hN (fun i x hi => by obtain ⟨u, hu, _⟩ := h.tmps i x hi; rw [hu]; rfl) h.size hd
    refine ⟨_, hrun, _, _, rfl, hb1, hb2 _ ?_⟩
    rw [hv]
    have tupR : ∀ {us : List Value} {vs : List AV}, All2 (RelV (Sf w0.heap.size S s3.rows g3) w3 s3.rows g3) us vs → RelVL (Sf w0.heap.size S s3.rows g3) w3 s3.rows g3 us vs := by
      intro us vs hall
      induction hall with
      | nil => unfold RelVL; trivial
      | cons h _ ih => unfold RelVL; exact ⟨h, ih⟩
    cases hall with
    | nil => unfold mval RelV; exact ⟨_, rfl, by unfold RelVL; trivial⟩
    | cons h1 ht =>
      cases ht with
      | nil => exact h1
      | cons h4 ht => unfold mval RelV; exact ⟨_, rfl, tupR (.cons h1 (.cons h4 ht))⟩
  cases e with
  | normal =>
    simp only [inlQ] at hq
    split at hq
    · exact fin _ (by assumption) hq
    · exact hq.elim
  | ret =>
    simp only [inlQ] at hq
    split at hq
    · exact fin _ (by assumption) hq
    · exact hq.elim
  | _ => exact hq.elim

attribute [go_sem] argAVs unT okI domOk mval inlE inlQ ghB Option.isSome_some

end
end Go.Abs
