/-
  A call walked in place: the callee's body in a frame of its own, the caller's slots held as ghosts.
-/
import Derived.Test.YtcafkemjegkhkaaDoorAbsU
import Derived.Shelf.Strings.Builder1
set_option linter.unusedSimpArgs false
set_option linter.unusedVariables false
namespace Go.Abs
open Go.RowKit

def argAVs : Nat → List AV → List (Nat × AV)
  | _, [] => []
  | k, x :: l => (k, x) :: argAVs (k + 1) l
def ghB (β : Nat) (E : Nat → Value) (l : List (Nat × AV)) : List (Nat × ARow) := l.map fun p => (β + p.1, .ghost (E p.1) p.2)
def unT (β : Nat) (E : Nat → Value) : List (Nat × AV) → ASt → Prop
  | [], _ => True
  | (i, x) :: l, s => find s.rows (β + i) = some (.ghost (E i) x) ∧ unT β E l s
/-- No slot of the caller's has a ghost's name yet. -/
def okI (β : Nat) (s : ASt) (xs : List AV) : Prop := (s.tmps.all fun p => s.free (β + p.1) && xs.all fun x => !x.ment (β + p.1)) = true
def domOk (s' s : ASt) : Prop := (s'.tmps.all fun p => (find s.tmps p.1).isSome) = true
def mval : List AV → AV
  | [x] => x
  | xs => .tup xs
def inlE (β : Nat) (results : List AV) (E : Nat → Value) (s0 s' : ASt) (v : AV) (s : ASt) : Prop :=
  v = mval results ∧ domOk s' s0 ∧ unT β E s'.tmps s ∧ leR s'.rows s ∧ leN s.rows ⟨(0, v) :: s'.tmps, s'.rows⟩
/-- The end of a body that is walked in place. -/
def inlQ (β : Nat) (T : Tab) (results : List ResultVar) (E : Nat → Value) (s0 s' : ASt) (v : AV) : Exit → ASt → Prop
  | .normal, s | .ret, s => match retAVs T s results with
    | some vs => inlE β vs E s0 s' v s
    | none => False
  | _, _ => False

section
variable {S : Nat → Nat → Prop} {w0 : World} {N : Fm} {g : Gh} {st : ASt} {a : Act} {w : World} {P : Program} {T : Tab} {ro : Option Nat}

theorem unT_find {β : Nat} {E : Nat → Value} : ∀ {l : List (Nat × AV)} {s : ASt}, unT β E l s → ∀ i x, find l i = some x → find s.rows (β + i) = some (.ghost (E i) x)
  | [], s, _, i, x, hf => by simp [find] at hf
  | (k, y) :: l, s, h, i, x, hf => by
    simp only [find] at hf
    split at hf
    · rename_i e; cases hf; subst e; exact h.1
    · exact unT_find h.2 i x hf

theorem find_ghB {β : Nat} {E : Nat → Value} : ∀ {l : List (Nat × AV)} {id : Nat} {r : ARow}, find (ghB β E l) id = some r → ∃ i x, id = β + i ∧ r = .ghost (E i) x ∧ find l i = some x
  | [], id, r, h => by simp [ghB, find] at h
  | (k, y) :: l, id, r, h => by
    simp only [ghB, List.map_cons, find] at h
    split at h
    · rename_i e; cases h; exact ⟨k, y, e, rfl, by simp [find]⟩
    · rename_i e
      obtain ⟨i, x, h1, h2, h3⟩ := find_ghB (l := l) h
      refine ⟨i, x, h1, h2, ?_⟩
      simp only [find]
      rw [if_neg (by omega)]; exact h3

theorem argAVs_find : ∀ {k : Nat} {l : List AV} {i : Nat} {x : AV}, find (argAVs k l) i = some x → ∃ j, i = k + j ∧ l[j]? = some x
  | k, [], i, x, h => by simp [argAVs, find] at h
  | k, y :: l, i, x, h => by
    simp only [argAVs, find] at h
    split at h
    · rename_i e; cases h; exact ⟨0, by omega, by simp⟩
    · obtain ⟨j, h1, h2⟩ := argAVs_find h
      exact ⟨j + 1, by omega, by simpa using h2⟩

/-- The callee's frame. -/
theorem Rel.enter (h : Rel S w0 N g st a w) {β : Nat} {xs : List AV} (hok : okI β st xs) {vs : List Value} (hv : All2 (RelV (Sf w0.heap.size S st.rows g) w st.rows g) vs xs) {n : Nat} (hn : xs.length ≤ n) :
    ∃ g', Rel S w0 ⟨n, true⟩ g' ⟨argAVs 0 xs, ghB β (fun i => a.tmps[i]?.getD undef) st.tmps ++ st.rows⟩ { tmps := vs.toArray ++ Array.replicate (n - vs.toArray.size) undef, defers := [] } w := by
  let ns := ghB β (fun i => a.tmps[i]?.getD undef) st.tmps
  have hfree : ∀ id r, find ns id = some r → st.free id = true ∧ ∀ x, x ∈ xs → x.ment id = false := by
    intro id r hf
    obtain ⟨i, x, rfl, _, h3⟩ := find_ghB hf
    have := List.all_eq_true.1 hok _ (find_mem h3)
    simp only [Bool.and_eq_true, List.all_eq_true] at this
    exact ⟨this.1, fun y hy => by simpa using this.2 y hy⟩
  let g' : Gh := fun id => match find ns id with | some _ => none | none => g id
  have hg' : ∀ id, g' id = match find ns id with | some _ => (fun _ => none : Gh) id | none => g id := fun _ => rfl
  have hgn : ∀ id r, find ns id = some r → g' id = none := fun id r hf => by rw [hg', hf]
  have hc0 : ∀ b o, Sf w0.heap.size S st.rows g b o → Sf w0.heap.size S (ns ++ st.rows) g' b o := by
    intro b o hs
    rcases hs with hs | ⟨h1, h2⟩
    · exact .inl hs
    · refine .inr ⟨h1, fun id r c hf hgi => ?_⟩
      rw [find_append] at hf
      cases hn : find ns id with
      | some r0 => rw [hgn id r0 hn] at hgi; cases hgi
      | none => rw [hg', hn] at hgi; rw [hn] at hf; exact h2 id r c hf hgi
  have hc : ∀ b o, Sf w0.heap.size S st.rows g b o → b < w.heap.size → Sf w0.heap.size S (ns ++ st.rows) g' b o ∧ cl w b o = cl w b o := fun b o hs _ => ⟨hc0 b o hs, rfl⟩
  have keep : ∀ id, find ns id = none → g' id = g id ∧ ∀ e sz xs fl, find st.rows id = some (.arr e sz xs fl) → ∃ xs' fl', find (ns ++ st.rows) id = some (.arr e sz xs' fl') ∧ xs'.length = xs.length := by
    intro id hn
    exact ⟨by rw [hg', hn], fun e sz xs fl hf => ⟨xs, fl, by rw [find_append, hn]; exact hf, rfl⟩⟩
  have hrel := (h.news (Below.refl _ _) hg' (fun id r hf => (hfree id r hf).1) (fun id r b c hf hg => by cases hg) (fun id id' r r' b c c' hf hf' hg => by cases hg) (fun id r hf => by
    obtain ⟨i, x, rfl, rfl, hx⟩ := find_ghB hf
    refine ⟨hgn _ _ hf, ?_⟩
    obtain ⟨v, hv', hr⟩ := h.tmps i x hx
    rw [hv']
    refine hr.carry hc fun id2 hm => keep id2 ?_
    cases hn : find ns id2 with
    | none => rfl
    | some r2 => have := find_free_tmp (hfree id2 r2 hn).1 hx; rw [this] at hm; cases hm)).2
  have hl := hv.len
  refine ⟨g', ⟨hrel.below, by simp; omega, fun _ => rfl, hrel.good, DefOk.nil _ _, hrel.blk, hrel.inj, hrel.rows, fun i x hx => ?_⟩⟩
  obtain ⟨j, h1, h2⟩ := argAVs_find hx
  obtain ⟨v, hv', hr⟩ := hv.get h2
  refine ⟨v, ?_, ?_⟩
  · have : j < vs.length := (List.getElem?_eq_some_iff.1 hv').1
    rw [h1, Nat.zero_add, Array.getElem?_append_left (by simpa using this)]
    simpa using hv'
  · refine hr.carry hc fun id2 hm => keep id2 ?_
    cases hn : find ns id2 with
    | none => rfl
    | some r2 =>
      have := (hfree id2 r2 hn).2 x (List.mem_of_getElem? h2)
      rw [this] at hm; cases hm

theorem leN_cons : ∀ {l : List (Nat × ARow)} {t : List (Nat × AV)} {v : AV} {rows : List (Nat × ARow)}, leN l ⟨(0, v) :: t, rows⟩ → leN l ⟨t, rows⟩
  | [], _, _, _, _ => trivial
  | (k, r) :: l, t, v, rows, h => by
    cases r with
    | arr e sz xs fl =>
      refine ⟨h.1.imp id fun hm => ?_, leN_cons h.2⟩
      unfold ASt.nomenB at hm ⊢
      simp only [List.all_cons, Bool.and_eq_true] at hm
      simp [hm.1.2, hm.2]
    | _ => exact leN_cons (l := l) h

/-- Back in the caller's frame. -/
theorem Rel.back {β : Nat} {E : Nat → Value} {N2 : Fm} {s2 s0 s' : ASt} {a2 : Act} {v : AV} (h : Rel S w0 N2 g s2 a2 w) (hdom : domOk s' s0) (hT : unT β E s'.tmps s2) (hR : leR s'.rows s2) (hN : leN s2.rows ⟨(0, v) :: s'.tmps, s'.rows⟩)
    (hE : ∀ i x, find s0.tmps i = some x → a.tmps[i]? = some (E i)) (hs : a.tmps.size = N.n) (hd : a.defers = []) :
    Rel S w0 N g s' a w ∧ ∀ u, RelV (Sf w0.heap.size S s2.rows g) w s2.rows g u v → RelV (Sf w0.heap.size S s'.rows g) w s'.rows g u v := by
  have hle : (ASt.mk [] s'.rows).le s2 := by
    refine le_mk (by trivial) hR ?_
    have : ∀ l, leN l s' → leN l (ASt.mk [] s'.rows) := by
      intro l
      induction l with
      | nil => intro _; trivial
      | cons p l ih =>
        obtain ⟨k, r⟩ := p
        cases r with
        | arr e sz xs fl =>
          intro hl
          refine ⟨hl.1.imp id fun hm => ?_, ih hl.2⟩
          unfold ASt.nomenB at hm ⊢
          simp only [Bool.and_eq_true] at hm
          simp [hm.2]
        | _ => intro hl; exact ih hl
    exact this _ (leN_cons hN)
  have h1 := h.weaken hle
  have hF : ∀ b o, Sf w0.heap.size S s2.rows g b o → Sf w0.heap.size S s'.rows g b o := by
    intro b o hs
    rcases hs with hs | ⟨q1, q2⟩
    · exact .inl hs
    · exact .inr ⟨q1, fun id r c hf hg => q2 id r c (leR_find hR id r hf) hg⟩
  have hx : ∀ {u : Value} {x : AV}, (x = v ∨ ∃ i, find s'.tmps i = some x) → RelV (Sf w0.heap.size S s2.rows g) w s2.rows g u x → RelV (Sf w0.heap.size S s'.rows g) w s'.rows g u x := by
    intro u x hx h2
    refine h2.carry (fun b o hs _ => ⟨hF b o hs, rfl⟩) fun id2 hm => ⟨rfl, fun e sz xs fl hf2 => ?_⟩
    rcases leN_find hN id2 e sz xs fl (find_mem hf2) with h4 | h4
    · obtain ⟨r, hr⟩ := Option.isSome_iff_exists.1 h4
      have := leR_find hR id2 r hr
      rw [hf2] at this; cases this
      exact ⟨xs, fl, hr, rfl⟩
    · have hnm := (nomen_of h4).1
      rcases hx with rfl | ⟨i, hi⟩
      · have := hnm 0 x (by simp [find]); rw [this] at hm; cases hm
      · by_cases h0 : i = 0
        · -- a slot 0 of the caller is hidden by v: look it up by membership
          unfold ASt.nomenB at h4
          simp only [List.all_cons, Bool.and_eq_true] at h4
          have := List.all_eq_true.1 h4.1.2 _ (find_mem hi)
          simp at this
          rw [this] at hm; cases hm
        · have := hnm i x (by simp [find, h0, hi]); rw [this] at hm; cases hm
  refine ⟨⟨h1.below, hs, fun _ => hd, h1.good, by rw [hd]; exact DefOk.nil _ _, h1.blk, h1.inj, h1.rows, fun i x hi => ⟨E i, ?_, ?_⟩⟩, fun u hu => hx (.inl rfl) hu⟩
  · have := List.all_eq_true.1 hdom _ (find_mem hi)
    obtain ⟨y, hy⟩ := Option.isSome_iff_exists.1 this
    exact hE i y hy
  · exact hx (.inr ⟨i, hi⟩) (h.rows _ _ (unT_find hT i x hi)).2

/-- A CALL WALKED IN PLACE. -/
theorem Meth.inl (β : Nat) (hT : TabOk P T) {f : FuncId} {fn : Func} {c : Code} (hf : P.funcs[f]? = some fn) (hname : (fn.name == "runtime.NumGoroutine") = false) (hb : fn.body = some c) {s s' : ASt} {xs : List AV} {v : AV} (hlen : xs.length ≤ fn.ntmps)
    (hok : okI β s xs) (hwalk : ∀ E : Nat → Value, wpL none P ⟨fn.ntmps, true⟩ (flat c) (inlQ β T fn.results.toList E s s' v) ⟨argAVs 0 xs, ghB β E s.tmps ++ s.rows⟩) : Meth P f s xs s' v := by
  intro S w0 N g a w hcalm h vs hvs
  left
  have hbody : ¬ fn.body = none := by simp [hb]
  have hnm : ¬ fn.name = "runtime.NumGoroutine" := by simpa using hname
  refine ⟨by simp [callFunc, hf, hnm, hbody], (callsIn_wide (n := 0)).1 (callsIn_of_wp_marks hf hb trivial ?_)⟩
  obtain ⟨g2, h2⟩ := h.enter hok hvs hlen
  have := AWp_flat c (hwalk _) S w0 g2 _ w h2
  refine wpIn_mono this fun e a3 w3 ⟨g3, s3, h3, hq⟩ => ?_
  have hd3 : a3.defers = [] := h3.calm rfl
  have hd : a.defers = [] := h.calm hcalm
  have fin : ∀ vs, retAVs T s3 fn.results.toList = some vs → inlE β vs (fun i => a.tmps[i]?.getD undef) s s' v s3 → LeavesInM Fence.wide 0 P fn a3.tmps (fun e w' => ∃ u g', e = .returned u ∧ Rel S w0 N g' s' a w' ∧ RelV (Sf w0.heap.size S s'.rows g') w' s'.rows g' u v) a3.defers .returning w3 := by
    intro vs hvs ⟨hv, hdom, hT', hR, hN⟩
    rw [hd3]
    obtain ⟨us, hall, hrun⟩ := results_sound (P := P) hT h3 hvs
    obtain ⟨hb1, hb2⟩ := Rel.back (N := N) (a := a) h3 hdom hT' hR hN (fun i x hi => by obtain ⟨u, hu, _⟩ := h.tmps i x hi; rw [hu]; rfl) h.size hd
    refine ⟨_, hrun, _, _, rfl, hb1, hb2 _ ?_⟩
    rw [hv]
    have tupR : ∀ {us : List Value} {vs : List AV}, All2 (RelV (Sf w0.heap.size S s3.rows g3) w3 s3.rows g3) us vs → RelVL (Sf w0.heap.size S s3.rows g3) w3 s3.rows g3 us vs := by
      intro us vs hall
      induction hall with
      | nil => unfold RelVL; trivial
      | cons h _ ih => unfold RelVL; exact ⟨h, ih⟩
    cases hall with
    | nil => unfold mval RelV; exact ⟨_, rfl, by unfold RelVL; trivial⟩
    | cons h1 ht =>
      cases ht with
      | nil => exact h1
      | cons h4 ht => unfold mval RelV; exact ⟨_, rfl, tupR (.cons h1 (.cons h4 ht))⟩
  cases e with
  | normal =>
    simp only [inlQ] at hq
    split at hq
    · exact fin _ (by assumption) hq
    · exact hq.elim
  | ret =>
    simp only [inlQ] at hq
    split at hq
    · exact fin _ (by assumption) hq
    · exact hq.elim
  | _ => exact hq.elim

attribute [go_sem] argAVs unT okI domOk mval inlE inlQ ghB Option.isSome_some

end
end Go.Abs

set_option linter.unusedSimpArgs false
set_option linter.unusedVariables false
namespace Go.Abs
open Go.RowKit Go.Shelf Go.Proofs

section
variable {S : Nat → Nat → Prop} {w0 : World} {N : Fm} {g : Gh} {st : ASt} {a : Act} {w : World} {P : Program} {T : Tab} {ρ : Ren}

theorem all2_one {α β : Type} {R : α → β → Prop} {l : List α} {y : β} (h : All2 R l [y]) : ∃ x, l = [x] ∧ R x y := by
  cases h with
  | cons h t => cases t; exact ⟨_, rfl, h⟩
theorem all2_two {α β : Type} {R : α → β → Prop} {l : List α} {y z : β} (h : All2 R l [y, z]) : ∃ x x', l = [x, x'] ∧ R x y ∧ R x' z := by
  cases h with
  | cons h t => obtain ⟨x', rfl, h'⟩ := all2_one t; exact ⟨_, _, rfl, h, h'⟩

theorem setCell_setRow {w : World} {b : Nat} {cur : Array Value} {T : Nat} (h : w.heap[b]? = some (.cells cur T (0, 0))) (v : Value) : w.setCell ⟨b, 0, none⟩ v = w.setRow b (cur.setIfInBounds 0 v) := by
  have hlt := (Array.getElem?_eq_some_iff.1 h).1
  have hv := (Array.getElem?_eq_some_iff.1 h).2
  unfold World.setCell World.setRow
  congr 1
  apply Array.ext_getElem?
  intro k
  simp only [Array.getElem?_modify]
  by_cases hk : b = k
  · subst hk
    simp [h]
  · simp [hk]

/-- What copyCheck leaves: the builder is used. -/
def ASt.used (s : ASt) (b T : Nat) (x : AC) : ASt := ⟨s.tmps, (b, .box T [.ptr b 0, x]) :: s.rows⟩

theorem Meth.copyCheck {f Ty : Nat} (hent : ∀ args w, (callFunc f args).run P w = .ok (.enter f args) w)
    (hU : ∀ (b : Nat) (w : World), w.cell? ⟨b, 0, none⟩ = some (.pointer (some ⟨b, 0, none⟩)) → Calls P f #[.pointer (some ⟨b, 0, none⟩)] w fun e w' => e = .returned (.tuple #[]) ∧ w' = w)
    (hF : ∀ (b : Nat) (w : World), w.cell? ⟨b, 0, none⟩ = some (.pointer none) → w.shape? b = some (Ty, 2) → w.frozen? ⟨b, 0, none⟩ = false → Calls P f #[.pointer (some ⟨b, 0, none⟩)] w fun e w' => e = .returned (.tuple #[]) ∧ w' = w.setCell ⟨b, 0, none⟩ (.pointer (some ⟨b, 0, none⟩)))
    {s : ASt} {b : Nat} {x0 x1 : AC} (hb : find s.rows b = some (.box Ty [x0, x1])) (h0 : x0 = .d (.sc (.pointer none)) ∨ x0 = .ptr b 0) :
    Meth P f s [.c (.ptr b 0)] (s.used b Ty x1) (.tup []) := by
  intro S w0 N g a w hcalm h vs hvs
  obtain ⟨u, rfl, hu⟩ := all2_one hvs
  unfold RelV at hu
  obtain ⟨_, bb, c, hg, rfl⟩ := hu
  obtain ⟨b', c', cur, hg', hh, hsz, _, hall⟩ := h.box hb
  rw [hg] at hg'; cases hg'
  obtain ⟨u0, u1, hcur, hr0, hr1⟩ := all2_two hall
  have hcur' : cur = #[u0, u1] := by apply Array.ext'; simpa using hcur
  subst hcur'
  have htup : ∀ {g' : Gh} {w' : World}, RelV (Sf w0.heap.size S (s.used b Ty x1).rows g') w' (s.used b Ty x1).rows g' (.tuple #[]) (.tup []) := by
    intro g' w'; unfold RelV; exact ⟨#[], rfl, by unfold RelVL; trivial⟩
  left
  refine ⟨hent _ _, ?_⟩
  rcases h0 with rfl | rfl
  · have hu0 : u0 = .pointer none := by have := hr0.2; cases this; rfl
    subst hu0
    refine (hF bb w (by simp [World.cell?, hh]) (by simp [World.shape?, hh]) (by simp [World.frozen?, hh])).mono ?_
    rintro e w' ⟨rfl, rfl⟩
    rw [setCell_setRow hh]
    refine ⟨_, g, rfl, ?_, htup⟩
    refine h.store (r := .box Ty [.ptr b 0, x1]) (T := Ty) (cur := #[Value.pointer none, u1].setIfInBounds 0 (.pointer (some ⟨bb, 0, none⟩))) hb hg (fun o ho => ho) (fun e sz xs fl he => by cases he) ⟨_, hh⟩ (fun F' w' rows' hF hk hw' => ?_)
    refine ⟨bb, c, _, hg, hw', ?_⟩
    refine .cons ⟨rfl, bb, c, hg, rfl⟩ (.cons ⟨hr1.1, hr1.2.carry hF fun id' _ => ⟨rfl, hk id'⟩⟩ .nil)
  · have hu0 : u0 = .pointer (some ⟨bb, 0, none⟩) := by
      obtain ⟨b2, c2, h2, h3⟩ := hr0.2
      rw [hg] at h2; cases h2; exact h3
    subst hu0
    refine (hU bb w (by simp [World.cell?, hh])).mono ?_
    rintro e w' ⟨rfl, rfl⟩
    refine ⟨_, g, rfl, h.congr (fun _ => rfl) fun id => ?_, htup⟩
    unfold ASt.used
    simp only [find]
    split
    · rename_i e; rw [e]; exact hb.symm
    · rfl

/-- What a call of String leaves of the caller's knowledge: scalars. -/
def flatV : AV → AV
  | .c (.d (.sc v)) => .c (.d (.sc v))
  | _ => .any
def ASt.flatT (s : ASt) : ASt := ⟨mapV flatV s.tmps, []⟩

theorem row_bytes {F : Nat → Nat → Prop} {w : World} {cur : Array Value} {l : List UInt8} {b : Nat} (h : ∀ (i j : Nat) (x : List DC) (d : DC), (bytesD l)[i]? = some x → x[j]? = some d → ∃ u, cur[i * 1 + j]? = some u ∧ RelC F w u d) (hle : l.length ≤ cur.size) :
    cur.toList.take l.length = Lib.byteCells l := by
  apply List.ext_getElem?
  intro i
  rw [List.getElem?_take]
  by_cases hi : i < l.length
  · rw [if_pos hi]
    obtain ⟨u, hu, hr⟩ := h i 0 [.sc (.int .u8 l[i].toNat)] (.sc (.int .u8 l[i].toNat)) (by simp [bytesD, hi]) rfl
    cases hr
    simp at hu
    simp [Lib.byteCells, hi, hu]
  · rw [if_neg hi]
    simp [Lib.byteCells, hi]

theorem Meth.string (L : Lays.n169 P ρ) (X : Builder.Extra P ρ) {s : ASt} {b k : Nat} {x0 : AC} {l : List UInt8} {fl : Bool} (hb : find s.rows b = some (.box (ρ.t 72) [x0, .row k])) (h0 : x0 = .d (.sc (.pointer none)) ∨ x0 = .ptr b 0)
    (hk : find s.rows k = some (.arr (ρ.t 5) 1 (bytesD l) fl)) : Meth P (ρ.f 169) s [.c (.ptr b 0)] s.flatT (sstr ⟨l.toArray⟩) := by
  intro S w0 N g a w hcalm h vs hvs
  obtain ⟨u, rfl, hu⟩ := all2_one hvs
  unfold RelV at hu
  obtain ⟨_, bb, c, hg, rfl⟩ := hu
  obtain ⟨b', c', cur, hg', hh, hsz, _, hall⟩ := h.box hb
  rw [hg] at hg'; cases hg'
  obtain ⟨u0, u1, hcur, hr0, hr1⟩ := all2_two hall
  have hcur' : cur = #[u0, u1] := by apply Array.ext'; simpa using hcur
  subst hcur'
  have hd : a.defers = [] := h.calm hcalm
  have hent : (callFunc (ρ.f 169) #[.pointer (some ⟨bb, 0, none⟩)]).run P w = .ok (.enter (ρ.f 169) #[.pointer (some ⟨bb, 0, none⟩)]) w := enters_of L.f169 (by kernel_rfl) rfl _ _
  obtain ⟨hB, hlt⟩ := h.blk b _ bb c hb hg
  have hu1 : u1 = gsl (g k) (bytesD l).length := by
    obtain ⟨e, sz, xs, fl', h1, h2⟩ := hr1.2
    rw [hk] at h1; cases h1; exact h2
  have hown : w.ownsRow w0.heap.size (ρ.t 5) 1 u1 l.length (Lib.byteCells l) := by
    refine ⟨by simp [Lib.byteCells], ?_⟩
    obtain ⟨_, hrow⟩ := h.rows k _ hk
    rcases hrow with ⟨q1, q2⟩ | ⟨b2, cap, cur, q1, q2, q3, q4, q5, q6⟩
    · left
      have : l = [] := by cases l with | nil => rfl | cons c l => simp [bytesD] at q2
      subst this
      rw [hu1, q1]; exact ⟨rfl, rfl⟩
    · right
      have hl : (bytesD l).length = l.length := by simp [bytesD]
      refine ⟨b2, cap, cur, by rw [hu1, q1, hl]; rfl, (h.blk k _ b2 cap hk q1).1, q2, by omega, q4, q5, ?_⟩
      rw [Nat.mul_one]
      exact row_bytes (b := b2) q6 (by omega)
  have hne : u1.ownBlock ≠ some bb := by
    intro e
    rw [hu1] at e
    cases hgk : g k with
    | none => rw [hgk] at e; simp [gsl, Value.ownBlock] at e
    | some p =>
      obtain ⟨b2, cap⟩ := p
      rw [hgk] at e
      simp [gsl, Value.ownBlock] at e
      subst e
      have := h.inj b k _ _ _ c cap hb hk hg hgk
      subst this
      rw [hb] at hk; cases hk
  have hbu : Lib.IsBuilder (ρ.t 72) (ρ.t 5) w0.heap.size bb (Lib.byteCells l) w := by
    have hlen : (Lib.byteCells l).length = l.length := by simp [Lib.byteCells]
    rcases h0 with rfl | rfl
    · have hu0 : u0 = .pointer none := by have := hr0.2; cases this; rfl
      subst hu0
      exact .inl ⟨hB, u1, hh, by rw [hlen]; exact hown, hne⟩
    · have hu0 : u0 = .pointer (some ⟨bb, 0, none⟩) := by
        obtain ⟨b2, c2, h2, h3⟩ := hr0.2
        rw [hg] at h2; cases h2; exact h3
      subst hu0
      exact .inr ⟨hB, u1, hh, by rw [hlen]; exact hown, hne⟩
  left
  refine ⟨hent, (Any.Builder_String_any L X w0.heap.size bb l w hbu h.below.size).mono ?_⟩
  rintro e w' ⟨rfl, hbl⟩
  refine ⟨_, fun _ => none, rfl, ⟨h.below.trans hbl, h.size, h.calm, h.good, by rw [hd]; exact DefOk.nil _ _, fun id r b c hf => by simp [ASt.flatT, find] at hf, fun id id' r r' b c c' hf => by simp [ASt.flatT, find] at hf, fun id r hf => by simp [ASt.flatT, find] at hf, fun i x hx => ?_⟩, ?_⟩
  · simp only [ASt.flatT, find_mapV] at hx
    obtain ⟨x0, h1, rfl⟩ := Option.map_eq_some_iff.1 hx
    obtain ⟨v, hv, hr⟩ := h.tmps i x0 h1
    refine ⟨v, hv, ?_⟩
    unfold flatV
    split
    · have := relV_sc hr
      unfold RelV at hr ⊢
      refine ⟨hr.1, ?_⟩
      obtain ⟨h1, h2⟩ := hr
      cases h2 with
      | sc v hv => exact .sc _ hv
    · unfold RelV; trivial
  · unfold sstr RelV; exact ⟨rfl, .sc _ rfl⟩

attribute [go_sem] ASt.used ASt.flatT flatV

end
end Go.Abs

set_option linter.unusedSimpArgs false
set_option linter.unusedVariables false
namespace Go.Abs
open Go.RowKit

section
variable {S : Nat → Nat → Prop} {w0 : World} {N : Fm} {g : Gh} {st : ASt} {a : Act} {w : World} {P : Program} {T : Tab} {ro : Option Nat}

/-- Back in the caller's frame: by what is found. -/
theorem Rel.backF {β : Nat} {E : Nat → Value} {N2 : Fm} {s2 s0 s' : ASt} {a2 : Act} {v : AV} (h : Rel S w0 N2 g s2 a2 w) (hdom : ∀ i x, find s'.tmps i = some x → ∃ y, find s0.tmps i = some y)
    (hT : ∀ i x, find s'.tmps i = some x → find s2.rows (β + i) = some (.ghost (E i) x)) (hR : ∀ i r, find s'.rows i = some r → find s2.rows i = some r)
    (hN : ∀ i e sz xs fl, find s2.rows i = some (.arr e sz xs fl) → find s'.rows i = some (.arr e sz xs fl) ∨ (s'.nomen i ∧ v.ment i = false))
    (hE : ∀ i x, find s0.tmps i = some x → a.tmps[i]? = some (E i)) (hs : a.tmps.size = N.n) (hd : a.defers = []) :
    Rel S w0 N g s' a w ∧ ∀ u, RelV (Sf w0.heap.size S s2.rows g) w s2.rows g u v → RelV (Sf w0.heap.size S s'.rows g) w s'.rows g u v := by
  have hle : (ASt.mk [] s'.rows).le s2 := ⟨fun i x hx => by simp [find] at hx, hR, fun i e sz xs fl hf => (hN i e sz xs fl hf).imp (fun h => h) fun h => ⟨fun j x hx => by simp [find] at hx, h.1.2⟩⟩
  have h1 := h.weaken hle
  have hF : ∀ b o, Sf w0.heap.size S s2.rows g b o → Sf w0.heap.size S s'.rows g b o := by
    intro b o hs
    rcases hs with hs | ⟨q1, q2⟩
    · exact .inl hs
    · exact .inr ⟨q1, fun id r c hf hg => q2 id r c (hR id r hf) hg⟩
  have hx : ∀ {u : Value} {x : AV}, (x = v ∨ ∃ i, find s'.tmps i = some x) → RelV (Sf w0.heap.size S s2.rows g) w s2.rows g u x → RelV (Sf w0.heap.size S s'.rows g) w s'.rows g u x := by
    intro u x hx h2
    refine h2.carry (fun b o hs _ => ⟨hF b o hs, rfl⟩) fun id2 hm => ⟨rfl, fun e sz xs fl hf2 => ?_⟩
    rcases hN id2 e sz xs fl hf2 with h4 | h4
    · exact ⟨xs, fl, h4, rfl⟩
    · rcases hx with rfl | ⟨i, hi⟩
      · rw [h4.2] at hm; cases hm
      · rw [h4.1.1 i x hi] at hm; cases hm
  refine ⟨⟨h1.below, hs, fun _ => hd, h1.good, by rw [hd]; exact DefOk.nil _ _, h1.blk, h1.inj, h1.rows, fun i x hi => ⟨E i, ?_, ?_⟩⟩, fun u hu => hx (.inl rfl) hu⟩
  · obtain ⟨y, hy⟩ := hdom i x hi
    exact hE i y hy
  · exact hx (.inr ⟨i, hi⟩) (h.rows _ _ (hT i x hi)).2

theorem find_ghB_some {β : Nat} {E : Nat → Value} : ∀ {l : List (Nat × AV)} {i : Nat} {x : AV}, find l i = some x → find (ghB β E l) (β + i) = some (.ghost (E i) x)
  | [], i, x, h => by simp [find] at h
  | (k, y) :: l, i, x, h => by
    simp only [ghB, List.map_cons, find] at h ⊢
    split at h
    · rename_i e; cases h; subst e; simp
    · rename_i e
      rw [if_neg (by omega)]
      exact find_ghB_some (l := l) h

/-- The caller's state behind a method that has written on its builder. -/
def ASt.wrote (s : ASt) (b k Ty e : Nat) (ys : List (List DC)) : ASt := ⟨mapV (AV.kill k) s.tmps, (b, .box Ty [.ptr b 0, .row k]) :: (k, .arr e 1 ys false) :: mapV (ARow.kill k) s.rows⟩

def freeR (R : List (Nat × ARow)) (d : Nat) : Prop := (R.all fun p => !decide (p.1 = d) && !p.2.ment d) = true

/-- The end of such a method's body. -/
def wrQ (T : Tab) (results : List ResultVar) (b k Ty e : Nat) (ys : List (List DC)) (v : AV) (ex : List Nat) (R : List (Nat × ARow)) : Exit → ASt → Prop
  | .normal, s | .ret, s => match retAVs T s results with
    | some vs => v = mval vs ∧ ∃ X, s.rows = (b, .box Ty [.ptr b 0, .row k]) :: (k, .arr e 1 ys false) :: (X ++ mapV (ARow.kill k) R) ∧ (X.all fun p => p.1 == b || p.1 == k || ex.contains p.1) = true
    | none => False
  | _, _ => False

theorem Meth.writer (β : Nat) (ex : List Nat) (hT : TabOk P T) {f : FuncId} {fn : Func} {c : Code} (hf : P.funcs[f]? = some fn) (hname : (fn.name == "runtime.NumGoroutine") = false) (hb : fn.body = some c) {s : ASt} {b k Ty e : Nat} {x0 : AC} {xs0 ys : List (List DC)}
    {xs : List AV} {v : AV} (hlen : xs.length ≤ fn.ntmps) (hrb : find s.rows b = some (.box Ty [x0, .row k])) (hrk : find s.rows k = some (.arr e 1 xs0 false)) (hv : ∀ id, v.ment id = false)
    (hok : okI β s xs) (hex : (ex.all fun d => s.free d && s.tmps.all fun p => !decide (β + p.1 = d)) = true)
    (hwalk : ∀ R : List (Nat × ARow), (∀ d, d ∈ ex → freeR R d) → (∀ id r, find s.rows id = some r → find R id = some r) → wpL none P ⟨fn.ntmps, true⟩ (flat c) (wrQ T fn.results.toList b k Ty e ys v ex R) ⟨argAVs 0 xs, (b, .box Ty [x0, .row k]) :: (k, .arr e 1 xs0 false) :: R⟩) :
    Meth P f s xs (s.wrote b k Ty e ys) v := by
  intro S w0 N g a w hcalm h vs hvs
  left
  have hbody : ¬ fn.body = none := by simp [hb]
  have hnm : ¬ fn.name = "runtime.NumGoroutine" := by simpa using hname
  refine ⟨by simp [callFunc, hf, hnm, hbody], (callsIn_wide (n := 0)).1 (callsIn_of_wp_marks hf hb trivial ?_)⟩
  obtain ⟨g2, h2⟩ := h.enter hok hvs hlen
  have hbk : b ≠ k := fun e => by subst e; rw [hrb] at hrk; cases hrk
  obtain ⟨E, hEdef⟩ : ∃ E : Nat → Value, E = fun i => a.tmps[i]?.getD undef := ⟨_, rfl⟩
  rw [← hEdef] at h2
  have hgf : ∀ i x, find s.tmps i = some x → s.free (β + i) = true := fun i x hx => by
    have := List.all_eq_true.1 hok _ (find_mem hx)
    simp only [Bool.and_eq_true] at this
    exact this.1
  have hnog : ∀ id r, find s.rows id = some r → find (ghB β E s.tmps) id = none := by
    intro id r hr
    cases hn : find (ghB β E s.tmps) id with
    | none => rfl
    | some r2 =>
      obtain ⟨i, x, rfl, _, h3⟩ := find_ghB hn
      exact absurd rfl (find_free_row (hgf i x h3) hr).1
  have hRf : ∀ id, find ((b, .box Ty [x0, .row k]) :: (k, .arr e 1 xs0 false) :: (ghB β E s.tmps ++ s.rows)) id = find (ghB β E s.tmps ++ s.rows) id := by
    intro id
    simp only [find]
    split
    · rename_i e1; subst e1; rw [find_append, hnog _ _ hrb]; exact hrb.symm
    · split
      · rename_i e1; subst e1; rw [find_append, hnog _ _ hrk]; exact hrk.symm
      · rfl
  have h2' := h2.congr (s' := ⟨argAVs 0 xs, (b, .box Ty [x0, .row k]) :: (k, .arr e 1 xs0 false) :: (ghB β E s.tmps ++ s.rows)⟩) (fun _ => rfl) hRf
  have hfreeR : ∀ d, d ∈ ex → freeR (ghB β E s.tmps ++ s.rows) d := by
    intro d hd
    have hall := List.all_eq_true.1 hex d hd
    simp only [Bool.and_eq_true] at hall
    obtain ⟨hf1, hf2⟩ := hall
    unfold ASt.free at hf1
    simp only [Bool.and_eq_true] at hf1
    unfold freeR
    rw [List.all_append, Bool.and_eq_true]
    refine ⟨List.all_eq_true.2 fun p hp => ?_, List.all_eq_true.2 fun p hp => ?_⟩
    · unfold ghB at hp
      obtain ⟨q, hq, rfl⟩ := List.mem_map.1 hp
      have h5 := List.all_eq_true.1 hf1.1 q hq
      have h6 := List.all_eq_true.1 hf2 q hq
      simp only [Bool.and_eq_true]
      exact ⟨h6, by unfold ARow.ment; exact h5⟩
    · have h5 := List.all_eq_true.1 hf1.2 p hp
      simp only [Bool.and_eq_true] at h5 ⊢
      refine ⟨?_, h5.2⟩
      have := h5.1
      simpa using this
  have := AWp_flat c (hwalk _ hfreeR fun id r hr => by rw [find_append, hnog id r hr]; exact hr) S w0 g2 _ w h2'
  refine wpIn_mono this fun ee a3 w3 ⟨g3, s3, h3, hq⟩ => ?_
  have hd3 : a3.defers = [] := h3.calm rfl
  have hd : a.defers = [] := h.calm hcalm
  have hmapE : ∀ (l : List (Nat × ARow)) id, find (mapV (ARow.kill k) l) id = (find l id).map (ARow.kill k) := find_mapV _
  have fin : ∀ vs, retAVs T s3 fn.results.toList = some vs → (v = mval vs ∧ ∃ X, s3.rows = (b, .box Ty [.ptr b 0, .row k]) :: (k, .arr e 1 ys false) :: (X ++ mapV (ARow.kill k) (ghB β E s.tmps ++ s.rows)) ∧ (X.all fun p => p.1 == b || p.1 == k || ex.contains p.1) = true) →
      LeavesInM Fence.wide 0 P fn a3.tmps (fun e' w' => ∃ u g', e' = .returned u ∧ Rel S w0 N g' (s.wrote b k Ty e ys) a w' ∧ RelV (Sf w0.heap.size S (s.wrote b k Ty e ys).rows g') w' (s.wrote b k Ty e ys).rows g' u v) a3.defers .returning w3 := by
    intro vs hvs ⟨hv', X, hrows, hX⟩
    rw [hd3]
    obtain ⟨us, hall, hrun⟩ := results_sound (P := P) hT h3 hvs
    have hfX : ∀ id, id ≠ b → id ≠ k → id ∉ ex → find s3.rows id = (find (ghB β E s.tmps ++ s.rows) id).map (ARow.kill k) := by
      intro id h1 h2 h3'
      rw [hrows]
      simp only [find, if_neg h1, if_neg h2]
      rw [find_append]
      have : find X id = none := by
        cases hx : find X id with
        | none => rfl
        | some r =>
          have := List.all_eq_true.1 hX _ (find_mem hx)
          simp [h1, h2, h3'] at this
      rw [this]
      exact hmapE _ _
    have hfb : find s3.rows b = some (.box Ty [.ptr b 0, .row k]) := by rw [hrows]; simp [find]
    have hfk : find s3.rows k = some (.arr e 1 ys false) := by rw [hrows]; simp [find, Ne.symm hbk]
    have hexf : ∀ d, d ∈ ex → s.free d = true ∧ ∀ i x, find s.tmps i = some x → β + i ≠ d := by
      intro d hd
      have hall := List.all_eq_true.1 hex d hd
      simp only [Bool.and_eq_true] at hall
      refine ⟨hall.1, fun i x hx => ?_⟩
      have := List.all_eq_true.1 hall.2 _ (find_mem hx)
      simpa using this
    obtain ⟨hb1, hb2⟩ := Rel.backF (β := β) (E := E) (s0 := s) (s' := s.wrote b k Ty e ys) (v := v) (N := N) (a := a) h3
      (fun i x hx => by
        simp only [ASt.wrote, find_mapV] at hx
        obtain ⟨y, hy, _⟩ := Option.map_eq_some_iff.1 hx
        exact ⟨y, hy⟩)
      (fun i x hx => by
        simp only [ASt.wrote, find_mapV] at hx
        obtain ⟨y, hy, rfl⟩ := Option.map_eq_some_iff.1 hx
        have hfr := hgf i y hy
        rw [hfX (β + i) (fun e => (find_free_row hfr hrb).1 e.symm) (fun e => (find_free_row hfr hrk).1 e.symm) (fun hm => (hexf _ hm).2 i y hy rfl), find_append, find_ghB_some hy]
        rfl)
      (fun i r hr => by
        simp only [ASt.wrote, find] at hr
        split at hr
        · rename_i e1; subst e1; cases hr; exact hfb
        · rename_i e1
          split at hr
          · rename_i e2; subst e2; cases hr; exact hfk
          · rename_i e2
            rw [hmapE] at hr
            obtain ⟨r0, hr0, rfl⟩ := Option.map_eq_some_iff.1 hr
            rw [hfX i e1 e2 (fun hm => (find_free_row (hexf _ hm).1 hr0).1 rfl), find_append, hnog _ _ hr0]
            simp [hr0])
      (fun i e' sz xs fl hf => by
        by_cases e1 : i = b
        · subst e1; rw [hfb] at hf; cases hf
        · by_cases e2 : i = k
          · subst e2; rw [hfk] at hf; cases hf
            left; simp [ASt.wrote, find, e1]
          · by_cases e3 : i ∈ ex
            · right
              have hfr := (hexf i e3).1
              refine ⟨⟨fun j x hx => ?_, fun j r hr => ?_⟩, hv i⟩
              · simp only [ASt.wrote, find_mapV] at hx
                obtain ⟨y, hy, rfl⟩ := Option.map_eq_some_iff.1 hx
                have := find_free_tmp hfr hy
                cases hkk : (AV.kill k y).ment i with
                | false => rfl
                | true =>
                  exfalso
                  -- what kill leaves mentions no more
                  cases y with
                  | c y =>
                    simp only [AV.kill, AC.kill] at hkk
                    unfold AV.ment at hkk this
                    split at hkk
                    · simp [ment_dead] at hkk
                    · rw [this] at hkk; cases hkk
                  | agg ys =>
                    unfold AV.ment at this
                    rw [List.any_eq_false] at this
                    simp only [AV.kill] at hkk
                    unfold AV.ment at hkk
                    obtain ⟨z, hz, hz2⟩ := List.any_eq_true.1 hkk
                    obtain ⟨y, hy, rfl⟩ := List.mem_map.1 hz
                    unfold AC.kill at hz2
                    split at hz2
                    · simp [ment_dead] at hz2
                    · exact this y hy hz2
                  | tup ys =>
                    unfold AV.ment at this
                    simp only [AV.kill] at hkk
                    split at hkk
                    · unfold AV.ment at hkk; cases hkk
                    · unfold AV.ment at hkk; rw [this] at hkk; cases hkk
                  | any => simp only [AV.kill] at hkk; rw [this] at hkk; cases hkk
              · simp only [ASt.wrote, find] at hr
                split at hr
                · cases hr
                  unfold ARow.ment
                  simp [ment_ptr, ment_row, Ne.symm e1, Ne.symm e2]
                · split at hr
                  · cases hr; rfl
                  · rw [hmapE] at hr
                    obtain ⟨r0, hr0, rfl⟩ := Option.map_eq_some_iff.1 hr
                    have := (find_free_row hfr hr0).2
                    cases r0 with
                    | box T' cs =>
                      simp only [ARow.kill]
                      unfold ARow.ment at this ⊢
                      rw [List.any_eq_false] at this ⊢
                      intro z hz
                      obtain ⟨y, hy, rfl⟩ := List.mem_map.1 hz
                      unfold AC.kill
                      split
                      · simp [ment_dead]
                      · exact this y hy
                    | ghost u x =>
                      simp only [ARow.kill]
                      unfold ARow.ment at this ⊢
                      cases x with
                      | c y =>
                        unfold AV.ment at this ⊢
                        simp only [AV.kill, AC.kill]
                        split
                        · rfl
                        · exact this
                      | agg ys =>
                        unfold AV.ment at this
                        rw [List.any_eq_false] at this
                        simp only [AV.kill]
                        unfold AV.ment
                        rw [List.any_eq_false]
                        intro z hz
                        obtain ⟨y, hy, rfl⟩ := List.mem_map.1 hz
                        unfold AC.kill
                        split
                        · simp [ment_dead]
                        · exact this y hy
                      | tup ys =>
                        simp only [AV.kill]
                        split
                        · unfold AV.ment; rfl
                        · exact this
                      | any => simp only [AV.kill]; exact this
                    | _ => exact this
            · left
              rw [hfX i e1 e2 e3] at hf
              obtain ⟨r0, hr0, hr1⟩ := Option.map_eq_some_iff.1 hf
              rw [find_append] at hr0
              cases hgi : find (ghB β E s.tmps) i with
              | some r2 =>
                rw [hgi] at hr0
                simp only at hr0
                cases hr0
                obtain ⟨j, y, _, rfl, _⟩ := find_ghB hgi
                simp [ARow.kill] at hr1
              | none =>
                rw [hgi] at hr0
                simp only at hr0
                simp only [ASt.wrote, find, if_neg e1, if_neg e2]
                rw [hmapE, hr0, ← hr1]
                rfl)
      (fun i x hi => by obtain ⟨u, hu, _⟩ := h.tmps i x hi; rw [hEdef]; simp [hu]) h.size hd
    refine ⟨_, hrun, _, _, rfl, hb1, hb2 _ ?_⟩
    rw [hv']
    have tupR : ∀ {us : List Value} {vs : List AV}, All2 (RelV (Sf w0.heap.size S s3.rows g3) w3 s3.rows g3) us vs → RelVL (Sf w0.heap.size S s3.rows g3) w3 s3.rows g3 us vs := by
      intro us vs hall
      induction hall with
      | nil => unfold RelVL; trivial
      | cons h _ ih => unfold RelVL; exact ⟨h, ih⟩
    cases hall with
    | nil => unfold mval RelV; exact ⟨_, rfl, by unfold RelVL; trivial⟩
    | cons h1 ht =>
      cases ht with
      | nil => exact h1
      | cons h4 ht => unfold mval RelV; exact ⟨_, rfl, tupR (.cons h1 (.cons h4 ht))⟩
  cases ee with
  | normal =>
    simp only [wrQ] at hq
    split at hq
    · exact fin _ (by assumption) hq
    · exact hq.elim
  | ret =>
    simp only [wrQ] at hq
    split at hq
    · exact fin _ (by assumption) hq
    · exact hq.elim
  | _ => exact hq.elim

/-- A slice without elements is nil or not: to be walked with its very value. -/
theorem Gives.ofNil {f : FuncId} {r : Res} (h : ∀ ad c, Gives P f [.c (.sc (.slice ad 0 c))] r) : Gives P f [.c (.sl [])] r := by
  intro S w vs hgood hvs
  cases hvs with
  | cons h1 ht =>
    cases ht
    unfold RelDV at h1
    cases h1 with
    | emp ad c => exact h ad c S w _ hgood (.cons (.sc _ rfl) .nil)
    | sl b o c sz xs us h2 h3 h4 h5 h6 => exact h (some ⟨b, o, none⟩) c S w _ hgood (.cons (.sc _ rfl) .nil)

/-- A region in two parts, the second one kept out of the walk of the first. -/
theorem wpL_splitK (hT : TabOk P T) (k : Nat) {id : Nat} {ops : Array Oper} {l : List Code} {Q : Exit → ASt → Prop} (hl : dstOk N.n ops.toList = true)
    (h : ∀ K : ASt → Prop, (∀ s s', Ghost s s' → aOps N.calm P T ops (ops.toList.drop k) (wpL ro P N l Q) s' → K s) → aOps N.calm P T ops (ops.toList.take k) K st) : wpL ro P N (.region id ops false :: l) Q st :=
  wpL_split hT k hl (h _ fun s s' h1 h2 => ⟨s', h1, h2⟩)

theorem ghost_trans {s s' s'' : ASt} (h : Ghost s s') (h' : Ghost s' s'') : Ghost s s'' := fun S w0 N g a w hr => by
  obtain ⟨g', h1⟩ := h S w0 N g a w hr
  exact h' S w0 N g' a w h1
theorem ghost_weaken {s s' : ASt} (h : s'.le s) : Ghost s s' := fun S w0 N g a w hr => ⟨g, hr.weaken h⟩
theorem ghost_refl {s : ASt} : Ghost s s := fun S w0 N g a w hr => ⟨g, hr⟩

theorem bytes_loop (bs : ByteArray) : ∀ (k i : Nat) (r : List UInt8), bs.size - i = k → ByteArray.toList.loop bs i r = r.reverse ++ bs.data.toList.drop i := by
  intro k
  induction k with
  | zero =>
    intro i r h
    unfold ByteArray.toList.loop
    rw [if_neg (by omega)]
    have : bs.data.toList.length ≤ i := by simp; omega
    rw [List.drop_of_length_le this]; simp
  | succ k ih =>
    intro i r h
    unfold ByteArray.toList.loop
    have hi : i < bs.size := by omega
    rw [if_pos hi, ih (i + 1) _ (by omega)]
    have hg : bs.get! i = bs.data.toList[i]'(by simpa using hi) := by
      simp [ByteArray.get!]
      rw [getElem!_pos bs.data i hi]
    rw [List.drop_eq_getElem_cons (show i < bs.data.toList.length by simpa using hi), hg]
    simp
theorem bytes_toList (bs : ByteArray) : bs.toList = bs.data.toList := by
  unfold ByteArray.toList
  rw [bytes_loop bs _ 0 [] rfl]; simp

attribute [go_sem] ASt.wrote

end
end Go.Abs

set_option linter.unusedSimpArgs false
set_option linter.unusedVariables false
namespace Go.Abs
open Go.RowKit

/-- A value as it is lent to a function that only reads: a pointer to an own box, too. -/
def dvLend (rows : List (Nat × ARow)) : AV → Option DV
  | .c (.ptr id off) => match find rows id with
    | some (.box _ cs) => match dcsOf true rows cs with
      | some ys => some (.ptr (ys.drop off))
      | none => none
    | _ => none
  | x => dvOf true rows x
def dvsLend (rows : List (Nat × ARow)) : List AV → Option (List DV)
  | [] => some []
  | x :: xs => match dvLend rows x, dvsLend rows xs with
    | some y, some ys => some (y :: ys)
    | _, _ => none
attribute [go_sem] dvLend dvsLend

section
variable {S : Nat → Nat → Prop} {w0 : World} {N : Fm} {g : Gh} {st : ASt} {a : Act} {w : World} {P : Program} {T : Tab} {ro : Option Nat}

theorem dvLend_sound (h : Rel S w0 N g st a w) {v : Value} {x : AV} {y : DV} (hv : RelV (Sf w0.heap.size S st.rows g) w st.rows g v x) (hy : dvLend st.rows x = some y) : RelDV (fun _ _ => True) w v y := by
  unfold dvLend at hy
  split at hy
  · rename_i id off
    split at hy
    · rename_i T cs hf
      split at hy
      · rename_i ys hys
        cases hy
        unfold RelV at hv
        obtain ⟨_, b, c, hg, rfl⟩ := hv
        obtain ⟨b', c', cur, hg', hh, hall⟩ := h.rows id _ hf
        rw [hg] at hg'; cases hg'
        have hd := dcs_sound (lent := true) h hall hys
        refine ⟨b, off, fun j => (cur[off + j]?).getD undef, rfl, fun j d hj => ?_⟩
        rw [List.getElem?_drop] at hj
        obtain ⟨u, hu, hr⟩ := hd.get hj
        have hcu : cur[off + j]? = some u := by simpa using hu
        refine ⟨trivial, ?_, ?_⟩
        · rw [cl_row hh, hcu]; simp only [hcu, Option.getD_some]
        · simp only [hcu, Option.getD_some]
          exact hr.sub fun _ _ _ => trivial
      · cases hy
    · cases hy
  · have := dvs_sound' (lent := true) h (.cons hv .nil) (ys := [y]) (by unfold dvsOf dvsOf; rw [hy])
    cases this with
    | cons h1 _ => exact h1.mono fun b o _ _ => ⟨trivial, rfl⟩
theorem dvsLend_sound (h : Rel S w0 N g st a w) : ∀ {vs : List Value} {xs : List AV} {ys : List DV}, All2 (RelV (Sf w0.heap.size S st.rows g) w st.rows g) vs xs → dvsLend st.rows xs = some ys → All2 (RelDV (fun _ _ => True) w) vs ys := by
  intro vs xs ys hv
  induction hv generalizing ys with
  | nil => intro hy; cases hy; exact .nil
  | cons h1 _ ih =>
    intro hy
    unfold dvsLend at hy
    split at hy
    · rename_i y ys' hy1 hy2
      cases hy
      exact .cons (dvLend_sound h h1 hy1) (ih hy2)
    · cases hy

/-- A CALL THAT ONLY READS, and gives a scalar. -/
theorem Meth.read {f : Nat} {s : ASt} {xs : List AV} {dvs : List DV} {v : Value} (hx : dvsLend s.rows xs = some dvs) (hG : Gives P f dvs (.one (.c (.d (.sc v))))) : Meth P f s xs s (.c (.d (.sc v))) := by
  intro S w0 N g a w hcalm h vs hvs
  have hcf := hG (fun _ _ => True) w vs (h.goodW.sub fun _ _ _ => trivial) (dvsLend_sound h hvs hx)
  have fin : ∀ e w', Post (fun _ _ => True) w (.one (.c (.d (.sc v)))) e w' → ∃ u g', e = .returned u ∧ Rel S w0 N g' s a w' ∧ RelV (Sf w0.heap.size S s.rows g') w' s.rows g' u (.c (.d (.sc v))) := by
    intro e w' hp
    obtain ⟨u, fb, rfl, hb, _, _, hr⟩ := hp
    refine ⟨u, g, rfl, h.grow hb, ?_⟩
    obtain ⟨h1, h2⟩ := hr
    unfold RelV
    refine ⟨h1, ?_⟩
    cases h2 with
    | sc _ h3 => exact .sc _ h3
  rcases hcf with ⟨hrun, hcalls⟩ | ⟨u, w', hrun, hp⟩
  · exact .inl ⟨hrun, hcalls.mono fun e w' hp => fin e w' hp⟩
  · exact .inr ⟨u, w', hrun, fin _ _ hp⟩
end
end Go.Abs

set_option linter.unusedSimpArgs false
set_option linter.unusedVariables false
namespace Go.Abs
open Go.RowKit

def forcedB (ops : Array Oper) : List Nat → Bool
  | [] => true
  | i :: post => (match ops[i]? with | some o => (bindsOn o).all (fun p => !(i :: post).contains p) | none => false) &&
      (post.all (fun i' => match ops[i']? with | some o => (bindsOn o).any (fun p => (i :: post).contains p) | none => true) && (!post.contains i && forcedB ops post))

def isFl : Op → Bool
  | .load _ _ => true
  | .fieldAddr _ _ _ => true
  | .move _ => true
  | .extract _ _ => true
  | _ => false

def ixs (a b : Nat) : List Nat := (List.range (b - a)).map (a + ·)
def ordOf (n : Nat) (fs : List Nat) (k j : Nat) : List Nat := fs.drop j ++ ixs (k + 1) n
def opsAt (L : List Oper) : List Nat → List Oper
  | [] => []
  | i :: is => (L.drop i).take 1 ++ opsAt L is

/-- fs: the operations that may float; k: how many may come up in another order than the text's. -/
def floatOk (fs : List Nat) (k : Nat) (ops : Array Oper) : Bool :=
  decide (k < ops.size) && (decide fs.Nodup &&
  ((List.range ops.size).all (fun i => match ops[i]? with
    | some o => (bindsOn o).all (fun p => decide (p < i)) &&
      (if i < k then
        !isW o.op && (match o.dst with | some d => decide (d < 1000) | none => false) &&
        (List.range k).all (fun j => match ops[j]? with
          | some o' => (i == j || o'.dst != o.dst) && (match o'.dst with | some d => !(looks ops o).contains d || (decide (j < i) && (bindsOn o).contains j) | none => true)
          | none => true)
      else if i = k then (List.range k).all (fun j => fs.contains j || reach ops ops.size i j)
      else reach ops ops.size i k)
    | none => true) &&
  (fs.all (fun i => match ops[i]? with | some o => decide (i < k) && isFl o.op && o.guard.isNone | none => false) &&
  ((List.range (fs.length - 1)).all (fun n => match fs[n]?, fs[n + 1]? with | some a, some b => (match ops[b]? with | some o => (bindsOn o).contains a | none => false) | _, _ => true) &&
  (List.range (fs.length + 1)).all (fun j => forcedB ops (ordOf ops.size fs k j))))))

structure PreF (ops : Array Oper) (fs : List Nat) (k : Nat) : Prop extends Pre0 ops k where
  lt : k < ops.size
  nd : fs.Nodup
  at_k : ∀ j, j ∉ fs → j < k → reach ops ops.size k j = true
  past : ∀ i, k < i → i < ops.size → reach ops ops.size i k = true
  fl : ∀ i o, i ∈ fs → ops[i]? = some o → i < k ∧ isFl o.op = true ∧ o.guard = none
  chain : ∀ n a b o, fs[n]? = some a → fs[n + 1]? = some b → ops[b]? = some o → a ∈ bindsOn o
  inb : ∀ i, i ∈ fs → i < k
  forced : ∀ j, j ≤ fs.length → forcedB ops (ordOf ops.size fs k j) = true

section
variable {ops : Array Oper} {fs : List Nat} {k : Nat}
theorem preF_of (h : floatOk fs k ops = true) : PreF ops fs k := by
  unfold floatOk at h
  simp only [Bool.and_eq_true] at h
  obtain ⟨h1, h2, h3, h4, h6, h5⟩ := h
  rw [List.all_eq_true] at h3 h4 h5 h6
  have h1' : k < ops.size := by simpa using h1
  have h2' : fs.Nodup := by simpa using h2
  have row : ∀ i o, ops[i]? = some o → (bindsOn o).all (fun p => decide (p < i)) = true ∧ (if i < k then
        !isW o.op && (match o.dst with | some d => decide (d < 1000) | none => false) &&
        (List.range k).all (fun j => match ops[j]? with
          | some o' => (i == j || o'.dst != o.dst) && (match o'.dst with | some d => !(looks ops o).contains d || (decide (j < i) && (bindsOn o).contains j) | none => true)
          | none => true)
      else if i = k then (List.range k).all (fun j => fs.contains j || reach ops ops.size i j)
      else reach ops ops.size i k) = true := by
    intro i o ho
    have hi : i < ops.size := (Array.getElem?_eq_some_iff.1 ho).1
    have := h3 i (List.mem_range.2 hi)
    rw [ho] at this
    simp only at this
    rw [Bool.and_eq_true] at this
    exact this
  have rowk : ∀ i o, i < k → ops[i]? = some o → isW o.op = false ∧ (match o.dst with | some d => decide (d < 1000) | none => false) = true ∧
      ∀ j o', j < k → ops[j]? = some o' → (i == j || o'.dst != o.dst) = true ∧ (match o'.dst with | some d => !(looks ops o).contains d || (decide (j < i) && (bindsOn o).contains j) | none => true) = true := by
    intro i o hi ho
    have := (row i o ho).2
    rw [if_pos hi, Bool.and_eq_true, Bool.and_eq_true, List.all_eq_true] at this
    obtain ⟨⟨q1, q2⟩, q3⟩ := this
    refine ⟨by simpa using q1, q2, fun j o' hj ho' => ?_⟩
    have := q3 j (List.mem_range.2 hj)
    rw [ho'] at this
    simp only at this
    rw [Bool.and_eq_true] at this
    exact this
  have hin : ∀ i, i ∈ fs → i < k := fun i hi => by
    have := h4 i hi
    cases ho : ops[i]? with
    | none => rw [ho] at this; simp at this
    | some o =>
      rw [ho] at this
      simp only [Bool.and_eq_true] at this
      simpa using this.1.1
  refine ⟨⟨by omega, fun i o ho p hp => ?_, fun i o hi ho => (rowk i o hi ho).1, fun i o hi ho => ?_, fun i j o o' hi hj ho ho' hd => ?_, fun i j o o' d hi hj ho ho' hd hl => ?_⟩, h1', h2', fun j hf hj => ?_, fun i hk hi => ?_, fun i o hi ho => ?_, fun n a b o ha hb ho => ?_, hin, fun j hj => h5 j (List.mem_range.2 (by omega))⟩
  · have := List.all_eq_true.1 (row i o ho).1 p hp
    simpa using this
  · have := (rowk i o hi ho).2.1
    cases hd : o.dst with
    | none => rw [hd] at this; cases this
    | some d => rw [hd] at this; exact ⟨d, rfl, by simpa using this⟩
  · have := ((rowk i o hi ho).2.2 j o' hj ho').1
    rw [Bool.or_eq_true] at this
    rcases this with h | h
    · simpa using h
    · simp [hd] at h
  · have := ((rowk i o hi ho).2.2 j o' hj ho').2
    rw [hd] at this
    simp only [Bool.or_eq_true, Bool.and_eq_true] at this
    rcases this with h | h
    · simp at h; exact absurd hl h
    · exact ⟨by simpa using h.1, by simpa using h.2⟩
  · have ho := Array.getElem?_eq_getElem h1'
    have := (row k _ ho).2
    rw [if_neg (by omega), if_pos rfl, List.all_eq_true] at this
    have := this j (List.mem_range.2 hj)
    rw [Bool.or_eq_true] at this
    rcases this with h | h
    · exact absurd (by simpa using h) hf
    · exact h
  · have ho := Array.getElem?_eq_getElem hi
    have := (row i _ ho).2
    rwa [if_neg (by omega), if_neg (by omega)] at this
  · have := h4 i hi
    rw [ho] at this
    simp only [Bool.and_eq_true] at this
    exact ⟨by simpa using this.1.1, this.1.2, by simpa using this.2⟩
  · have hn : n < fs.length - 1 := by have := (List.getElem?_eq_some_iff.1 hb).1; omega
    have := h6 n (List.mem_range.2 hn)
    rw [ha, hb] at this
    simp only [ho] at this
    simpa using this
end

theorem cnt_ge {f : Nat → Bool} : ∀ (n : Nat) (l : List Nat), l.Nodup → (∀ x, x ∈ l → x < n ∧ f x = false) → l.length ≤ cnt f n
  | 0, l, _, h => by
    cases l with
    | nil => simp
    | cons x l => have := (h x (by simp)).1; omega
  | n + 1, l, hn, h => by
    unfold cnt
    by_cases hm : n ∈ l
    · have := cnt_ge (f := f) n (l.erase n) (hn.erase n) fun x hx => by
        rw [hn.mem_erase_iff] at hx
        have := h x hx.2
        exact ⟨by omega, this.2⟩
      rw [List.length_erase_of_mem hm] at this
      rw [(h n hm).2]
      simp only [Bool.false_eq_true, if_false]
      omega
    · have := cnt_ge (f := f) n l hn fun x hx => by
        have h1 := h x hx
        have : x ≠ n := fun e => hm (e ▸ hx)
        exact ⟨by omega, h1.2⟩
      omega

section
variable {S : Nat → Nat → Prop} {w0 : World} {N : Fm} {P : Program} {T : Tab} {ops : Array Oper} {k : Nat} {fs : List Nat} {s0 : ASt} {K : ASt → Prop} {Qc : Exit → Act → World → Prop}

/-- A forced order. -/
theorem phaseO {ro : Option Nat} (hT : TabOk P T) (hd : dstOk N.n ops.toList = true) (hb : ∀ i o, ops[i]? = some o → ∀ p ∈ bindsOn o, p < i) (hQ : ∀ g s a w, Rel S w0 N g s a w → K s → Qc .normal a w) :
    ∀ (ord : List Nat) (L : List Oper) (fuel : Nat) (listed : Array Bool) (g : Gh) (s : ASt) (a : Act) (w : World), All2 (fun i o => ops[i]? = some o) ord L → forcedB ops ord = true → ord.length ≤ fuel → listed.size = ops.size →
      (∀ i, i < ops.size → listed.getD i true = !ord.contains i) → Rel S w0 N g s a w → aOps N.calm P T ops L K s → wpAnyIn (Fr ro) 0 P .any ops Qc fuel listed a w
  | [], L, fuel, listed, g, s, a, w, hall, _, _, hsz, hl, hrel, hK => by
    cases hall
    have hfin : Region.ready .any ops listed = [] := by
      rw [List.eq_nil_iff_forall_not_mem]
      intro i hi
      obtain ⟨o, ho, h1, _⟩ := ready_iff.1 hi
      rw [hl i (Array.getElem?_eq_some_iff.1 ho).1] at h1
      simp at h1
    cases fuel with
    | zero => exact ⟨hfin, hQ g s a w hrel hK⟩
    | succ fuel => exact wpAnyIn_done hfin (hQ g s a w hrel hK) _
  | i :: post, L, fuel, listed, g, s, a, w, hall, hf, hfu, hsz, hl, hrel, hK => by
    cases hall with
    | @cons _ o _ L' ho hall' =>
    have hlt : i < ops.size := (Array.getElem?_eq_some_iff.1 ho).1
    unfold forcedB at hf
    rw [ho] at hf
    simp only [Bool.and_eq_true] at hf
    obtain ⟨f1, f2, f3, f4⟩ := hf
    have f3 : post.contains i = false := by simpa using f3
    rw [List.all_eq_true] at f1 f2
    cases fuel with
    | zero => simp at hfu
    | succ fuel =>
    have only : ∀ i', i' ∈ Region.ready .any ops listed → i' = i := by
      intro i' hi'
      obtain ⟨o', ho', h1, h2⟩ := ready_iff.1 hi'
      have hlt' : i' < ops.size := (Array.getElem?_eq_some_iff.1 ho').1
      rw [hl i' hlt'] at h1
      have hm : i' = i ∨ i' ∈ post := by
        by_cases e : i' = i
        · exact .inl e
        · exact .inr (by simpa [e] using h1)
      rcases hm with hm | hm
      · exact hm
      · exfalso
        have := f2 i' hm
        rw [ho'] at this
        simp only at this
        rw [List.any_eq_true] at this
        obtain ⟨p, hp1, hp2⟩ := this
        have h3 := h2 p hp1
        have hp := hb i' o' ho' p hp1
        rw [← getD_tf (by omega), hl p (by omega), hp2] at h3
        cases h3
    have isr : i ∈ Region.ready .any ops listed := by
      refine ready_iff.2 ⟨o, ho, by rw [hl i hlt]; simp, fun p hp1 => ?_⟩
      have hp := hb i o ho p hp1
      rw [← getD_tf (by omega), hl p (by omega)]
      exact f1 p hp1
    refine ⟨fun h0 => (by rw [h0] at isr; cases isr), fun i' hi' => ?_⟩
    have := only i' hi'
    subst this
    have hs := stepG_sound (ro := ro) (S := S) (w0 := w0) (m := N.calm) (fun hm => hm) hT hrel o (dst_of hd ho) hK (Q := Qc) (K' := wpAnyIn (Fr ro) 0 P .any ops Qc fuel (listed.setIfInBounds i' true))
      fun g' st' a' w' h1 h2 => phaseO hT hd hb hQ post L' fuel _ g' st' a' w' hall' f4 (by simpa using hfu) (by simpa using hsz) (fun j hj => by
        rw [getD_set (by omega), hl j hj]
        by_cases hji : j = i'
        · subst hji
          have : ¬ j ∈ post := by simpa using f3
          simp [this]
        · rw [if_neg hji]
          simp [hji]) h1 h2
    unfold wpOpIn
    rw [ho]
    simp only
    by_cases hw : Region.wanted o (yielded ops a.tmps) = true
    · rw [if_pos hw] at hs ⊢
      exact hs
    · rw [if_neg hw] at hs ⊢
      exact hs

def ASt.dropT (s : ASt) (ds : List Nat) : ASt := ⟨s.tmps.filter (fun p => !ds.contains p.1), s.rows⟩
def dstsOf (L : List Oper) : List Nat := L.filterMap (·.dst)
theorem find_filter {α : Type} (ds : List Nat) : ∀ (l : List (Nat × α)) (t : Nat), find (l.filter (fun p => !ds.contains p.1)) t = if ds.contains t = true then none else find l t
  | [], t => by simp [find]
  | (k, v) :: l, t => by
    rw [List.filter_cons]
    have ih := find_filter ds l t
    by_cases hk : ds.contains k = true
    · rw [if_neg (by simpa using hk), ih]
      by_cases ht : t = k
      · subst ht; rw [if_pos hk, if_pos hk]
      · simp [find, ht]
    · rw [if_pos (by simpa using hk)]
      by_cases ht : t = k
      · subst ht; simp only [find, if_pos]; rw [if_neg hk]
      · simp only [find, if_neg ht]; exact ih

theorem stepE_fl {o : Oper} {s : ASt} {e : Eff} (hf : isFl o.op = true) (h : stepE P T o s e) : e.rows = [] := by
  unfold stepE at h
  have hc : callOf s o.op = none := by
    cases ho : o.op <;> rw [ho] at hf <;> simp [isFl] at hf <;> rfl
  rw [hc] at h
  simp only at h
  split at h
  · rename_i c v rows he
    obtain ⟨_, rfl⟩ := h
    cases ho : o.op <;> rw [ho] at hf he <;> simp [isFl] at hf <;> simp only [effF] at he
    · cases he; rfl
    · split at he <;> cases he; rfl
    · unfold fieldAddrF at he
      repeat' split at he
      all_goals first | (cases he; rfl) | cases he
    · split at he
      · split at he <;> cases he; rfl
      · cases he
  · exact h.elim

theorem all2_ixs {a b : Nat} (hb : b ≤ ops.size) : All2 (fun i o => ops[i]? = some o) (ixs a b) ((ops.toList.drop a).take (b - a)) := by
  refine All2.of_get ?_ fun n i o hi ho => ?_
  · simp [ixs]; omega
  · unfold ixs at hi
    rw [List.getElem?_map] at hi
    obtain ⟨m, hm, rfl⟩ := Option.map_eq_some_iff.1 hi
    by_cases hn : n < b - a
    · rw [List.getElem?_range hn] at hm
      cases hm
      rw [List.getElem?_take, if_pos hn, List.getElem?_drop] at ho
      simpa using ho
    · rw [List.getElem?_eq_none (by simp; omega)] at hm; cases hm

theorem all2_opsAt : ∀ {l : List Nat}, (∀ i, i ∈ l → i < ops.size) → All2 (fun i o => ops[i]? = some o) l (opsAt ops.toList l)
  | [], _ => .nil
  | i :: l, h => by
    have hi := h i (by simp)
    unfold opsAt
    rw [List.drop_eq_getElem_cons (by simpa using hi)]
    simp only [List.take_succ_cons, List.take_zero, List.cons_append, List.nil_append]
    exact .cons (by simp) (all2_opsAt fun i hi => h i (by simp [hi]))
theorem all2_ord (hk : k < ops.size) (hf : ∀ i, i ∈ fs → i < k) {j : Nat} : All2 (fun i o => ops[i]? = some o) (ordOf ops.size fs k j) (opsAt ops.toList (fs.drop j) ++ ops.toList.drop (k + 1)) := by
  unfold ordOf
  refine All2.app (all2_opsAt fun i hi => by have := hf i (List.mem_of_mem_drop hi); omega) ?_
  have := all2_ixs (ops := ops) (a := k + 1) (b := ops.size) (Nat.le_refl _)
  rwa [List.take_of_length_le (by simp)] at this

theorem mem_ord {n k j i : Nat} {fs : List Nat} : (ordOf n fs k j).contains i = true ↔ i ∈ fs.drop j ∨ (k < i ∧ i < n) := by
  unfold ordOf ixs
  simp only [List.contains_eq_mem, List.mem_append, List.mem_map, List.mem_range, decide_eq_true_eq]
  constructor
  · rintro (h1 | ⟨a, h1, h2⟩)
    · exact .inl h1
    · exact .inr (by omega)
  · rintro (h | h)
    · exact .inl h
    · exact .inr ⟨i - (k + 1), by omega, by omega⟩

/-- The head, in whatever order, some of it behind the operation that writes. -/
theorem phaseF {ro : Option Nat} (hT : TabOk P T) (hd : dstOk N.n ops.toList = true) (hp : PreF ops fs k) (hQ : ∀ g s a w, Rel S w0 N g s a w → K s → Qc .normal a w) {es : Nat → Eff}
    (htext : ∀ i o, i < k → ops[i]? = some o → stepGE P T ops o (text ops es s0 i) (es i)) (hK : ∀ j, j ≤ fs.length → aOps N.calm P T ops ((ops.toList.drop k).take 1 ++ (opsAt ops.toList (fs.drop j) ++ ops.toList.drop (k + 1))) K ((text ops es s0 k).dropT (dstsOf (opsAt ops.toList (fs.drop j))))) :
    ∀ (fuel : Nat) (listed : Array Bool) (g : Gh) (s : ASt) (a : Act) (w : World), cnt (fun i => listed.getD i true) ops.size ≤ fuel → listed.size = ops.size → (∀ i, k ≤ i → i < ops.size → listed.getD i true = false) →
      Closed ops (fun i => listed.getD i true) → St ops k es s0 (fun i => listed.getD i true = true) s → Rel S w0 N g s a w → wpAnyIn (Fr ro) 0 P .any ops Qc fuel listed a w := by
  have hkeys : ∀ j o', j < k → ops[j]? = some o' → ∀ id r, (id, r) ∈ (es j).rows → ownId (o'.dst.getD 0) id := fun j o' hj ho' id r hm => (stepGE_keys (htext j o' hj ho') id r hm).1
  have hsome : ∀ j, j < k → ∃ o', ops[j]? = some o' := fun j hj => ⟨_, Array.getElem?_eq_getElem (Nat.lt_of_lt_of_le hj hp.le)⟩
  have hflr : ∀ j, j ∈ fs → (es j).rows = [] := fun j hj => by
    obtain ⟨o, ho⟩ := hsome j (hp.inb j hj)
    obtain ⟨_, h1, h2⟩ := hp.fl j o hj ho
    have := htext j o (hp.inb j hj) ho
    unfold stepGE at this
    rw [h2] at this
    exact stepE_fl h1 this
  intro fuel
  induction fuel with
  | zero =>
    intro listed g s a w hc hsz hge hcl hst hrel
    exfalso
    have := cnt_pos (f := fun i => listed.getD i true) (hge k (Nat.le_refl _) hp.lt) hp.lt
    omega
  | succ fuel ih =>
    intro listed g s a w hc hsz hge hcl hst hrel
    refine ⟨fun h0 => ?_, fun i hi => ?_⟩
    · exfalso
      obtain ⟨j, hj, hju, hjl⟩ := least (p := fun i => listed.getD i true) (hge k (Nat.le_refl _) hp.lt)
      have ho := Array.getElem?_eq_getElem (show j < ops.size by have := hp.lt; omega)
      have : j ∈ Region.ready .any ops listed := ready_iff.2 ⟨_, ho, hju, fun p hp1 => by
        have hpj := hp.bind j _ ho p hp1
        have hlt := hp.lt
        rw [← getD_tf (by omega)]
        exact hjl p hpj⟩
      rw [h0] at this; cases this
    · obtain ⟨o, ho, h1, h2⟩ := ready_iff.1 hi
      have hlt : i < ops.size := (Array.getElem?_eq_some_iff.1 ho).1
      have h2' : ∀ p ∈ bindsOn o, listed.getD p true = true := fun p hp1 => by
        have := hp.bind i o ho p hp1
        rw [getD_tf (by omega)]; exact h2 p hp1
      by_cases hik : i < k
      · have hTx := text_St hp.toPre0 htext i (by omega)
        have hnD : ¬ listed.getD i true = true := by rw [h1]; simp
        -- what it looks at is the same
        have slot : ∀ t, t ∈ looks ops o → find s.tmps t = find (text ops es s0 i).tmps t := by
          intro t ht
          by_cases hx : ∃ j o', j < k ∧ ops[j]? = some o' ∧ o'.dst = some t
          · obtain ⟨j, o', hj, ho', hdt⟩ := hx
            obtain ⟨hji, hb⟩ := hp.look i j o o' t hik hj ho ho' hdt ht
            rw [hst.t1 j o' t hj (h2' j hb) ho' hdt, hTx.t1 j o' t hj hji ho' hdt]
          · rw [hst.t2 t fun j o' hj _ ho' hdt => hx ⟨j, o', hj, ho', hdt⟩, hTx.t2 t fun j o' hj _ ho' hdt => hx ⟨j, o', hj, ho', hdt⟩]
        have evs : ∀ x, x ∈ o.op.operands.toList → s.ev x = (text ops es s0 i).ev x := by
          intro x hx
          unfold ASt.ev
          cases x with
          | tmp t =>
            simp only
            rw [slot t (by
              unfold looks
              rw [List.mem_append]
              exact .inl (List.mem_filterMap.2 ⟨.tmp t, hx, rfl⟩))]
          | _ => rfl
        have hA : Agree o.op.operands.toList (text ops es s0 i) s := by
          refine ⟨evs, fun x hx id hm => ?_⟩
          have hm' : (s.ev x).ment id = true := by rw [evs x hx]; exact hm
          by_cases hxx : ∃ j r, j < k ∧ find (es j).rows id = some r
          · obtain ⟨j, r, hj, hr⟩ := hxx
            by_cases hDj : listed.getD j true = true
            · by_cases hji : j < i
              · rw [hst.r1 j id r hj hDj hr, hTx.r1 j id r hj hji hr]
              · have := ev_free (hTx.fr j id r hj hji (find_mem hr)) x
                rw [this] at hm; cases hm
            · have := ev_free (hst.fr j id r hj hDj (find_mem hr)) x
              rw [this] at hm'; cases hm'
          · have none_ : ∀ j, j < k → find (es j).rows id = none := fun j hj => by
              cases hf : find (es j).rows id with
              | none => rfl
              | some r => exact absurd ⟨j, r, hj, hf⟩ hxx
            rw [hst.r2 id fun j hj _ => none_ j hj, hTx.r2 id fun j hj _ => none_ j hj]
        have hg : ∀ j want, o.guard = some (j, want) → gval ops s j = gval ops (text ops es s0 i) j := by
          intro j want hgd
          unfold gval
          cases hb : (ops[j]?).bind (·.dst) with
          | none => rfl
          | some d =>
            simp only
            rw [slot d (by
              unfold looks
              rw [List.mem_append, hgd]
              refine .inr ?_
              simp only
              rw [hb]
              simp)]
        have hE : stepGE P T ops o s (es i) := stepGE_agree (htext i o hik ho) hA hg fun id r hm => hst.fr i id r hik hnD hm
        have hG : stepG false P T ops o (fun s' => s' = s.ap o.dst (es i)) s := (stepG_E (hp.w i o hik ho)).2 ⟨es i, hE, rfl⟩
        have hstep := hst.step hp.toPre0 hik hnD ho hE hkeys
        have hs := stepG_sound (ro := ro) (S := S) (w0 := w0) (m := false) (fun hm => by cases hm) hT hrel o (dst_of hd ho) hG (Q := Qc) (K' := wpAnyIn (Fr ro) 0 P .any ops Qc fuel (listed.setIfInBounds i true))
          fun g' st' a' w' hr2 he => by
            subst he
            have hset : ∀ j, (listed.setIfInBounds i true).getD j true = if j = i then true else listed.getD j true := fun j => getD_set (by omega) true j
            refine ih _ g' _ a' w' ?_ (by simpa using hsz) (fun j hj hj2 => ?_) (fun j o' ho' hj p hp1 => ?_) ?_ hr2
            · have := cnt_set (f := fun i => listed.getD i true) (f' := fun j => (listed.setIfInBounds i true).getD j true) (i := i) h1 (by simp only [hset]; simp) (fun j hj => by simp only [hset]; rw [if_neg hj]) ops.size
              rw [if_pos hlt] at this
              omega
            · rw [hset, if_neg (by omega)]; exact hge j hj hj2
            · simp only [hset] at hj ⊢
              by_cases hpi : p = i
              · rw [if_pos hpi]
              · rw [if_neg hpi]
                by_cases hji : j = i
                · subst hji
                  rw [ho] at ho'; cases ho'
                  exact h2' p hp1
                · rw [if_neg hji] at hj
                  exact hcl j o' ho' hj p hp1
            · have hiff : ∀ j, ((listed.setIfInBounds i true).getD j true = true) ↔ (listed.getD j true = true ∨ j = i) := fun j => by
                rw [hset]
                by_cases hji : j = i
                · simp [hji]
                · simp [hji]
              refine ⟨fun j o' t hj hD => hstep.t1 j o' t hj ((hiff j).1 hD), fun t ht => hstep.t2 t fun j o' hj hD => ht j o' hj ((hiff j).2 hD), fun j id r hj hD => hstep.r1 j id r hj ((hiff j).1 hD), fun id hid => hstep.r2 id fun j hj hD => hid j hj ((hiff j).2 hD), fun j id r hj hD => hstep.fr j id r hj fun q => hD ((hiff j).2 q)⟩
        unfold wpOpIn
        rw [ho]
        simp only
        by_cases hw : Region.wanted o (yielded ops a.tmps) = true
        · rw [if_pos hw] at hs ⊢
          exact hs
        · rw [if_neg hw] at hs ⊢
          exact hs
      · -- the operation that writes
        have hk0 : i = k := by
          by_cases e : i = k
          · exact e
          · exfalso
            have hr := hp.past i (by omega) hlt
            obtain ⟨p, hp1, hp2⟩ := reach_first hr ho
            have hlp := h2' p hp1
            have hkf := hge k (Nat.le_refl _) hp.lt
            rcases hp2 with rfl | ⟨f', hp2⟩
            · rw [hkf] at hlp; cases hlp
            · have := closed_reach hcl hp2 hlp
              simp only [hkf] at this; cases this
        subst hk0
        have hmid : ∀ j, j ∉ fs → j < i → listed.getD j true = true := fun j h3 h4 => by
          have hr := hp.at_k j h3 h4
          obtain ⟨p, hp1, hp2⟩ := reach_first hr ho
          have hlp := h2' p hp1
          rcases hp2 with rfl | ⟨f', hp2⟩
          · exact hlp
          · exact closed_reach hcl hp2 hlp
        -- which of the floating ones have come up
        have hj0 : ∃ j, j ≤ fs.length ∧ (∀ l, l ∈ fs.take j → listed.getD l true = true) ∧ ∀ l, l ∈ fs.drop j → listed.getD l true = false := by
          have hq : ∃ j, j ≤ fs.length ∧ (∀ (n l : Nat), n < j → fs[n]? = some l → listed.getD l true = true) ∧ ∀ (n l : Nat), j ≤ n → fs[n]? = some l → listed.getD l true = false := by
            by_cases hall : ∀ (n l : Nat), fs[n]? = some l → listed.getD l true = true
            · exact ⟨fs.length, Nat.le_refl _, fun n l _ hl => hall n l hl, fun n l hn hl => by have := (List.getElem?_eq_some_iff.1 hl).1; omega⟩
            · have hex : ∃ n, n < fs.length ∧ (match fs[n]? with | some l => listed.getD l true | none => true) = false := by
                by_cases h : ∃ n, n < fs.length ∧ (match fs[n]? with | some l => listed.getD l true | none => true) = false
                · exact h
                · refine absurd (fun n l hl => ?_) hall
                  cases hb : listed.getD l true with
                  | true => rfl
                  | false => exact absurd ⟨n, (List.getElem?_eq_some_iff.1 hl).1, by rw [hl]; exact hb⟩ h
              obtain ⟨n, hn, hu⟩ := hex
              obtain ⟨j, hj, hju, hjl⟩ := least (p := fun n => match fs[n]? with | some l => listed.getD l true | none => true) hu
              refine ⟨j, by omega, fun n l hn hl => ?_, ?_⟩
              · have := hjl n hn
                simp only [hl] at this
                exact this
              · intro n l h3
                induction h3 generalizing l with
                | refl => intro hl; simp only [hl] at hju; exact hju
                | @step m h3 ih2 =>
                  intro hl
                  have hm : m < fs.length := by have := (List.getElem?_eq_some_iff.1 hl).1; omega
                  have h5 := ih2 fs[m] (List.getElem?_eq_getElem hm)
                  obtain ⟨o', ho'⟩ := hsome l (hp.inb l (List.mem_of_getElem? hl))
                  have h7 := hp.chain m _ _ o' (List.getElem?_eq_getElem hm) hl ho'
                  cases hb : listed.getD l true with
                  | false => rfl
                  | true =>
                    have := hcl l o' ho' hb _ h7
                    simp only [h5] at this; cases this
          obtain ⟨j, h3, h4, h5⟩ := hq
          refine ⟨j, h3, fun l hl => ?_, fun l hl => ?_⟩
          · obtain ⟨n, hn⟩ := List.mem_iff_getElem?.1 hl
            rw [List.getElem?_take] at hn
            split at hn
            · exact h4 n l ‹_› hn
            · cases hn
          · obtain ⟨n, hn⟩ := List.mem_iff_getElem?.1 hl
            rw [List.getElem?_drop] at hn
            exact h5 _ l (by omega) hn
        obtain ⟨j, hjf, hjl, hju⟩ := hj0
        have hD : ∀ l, l < i → (listed.getD l true = true ↔ l ∉ fs.drop j) := fun l hl => by
          constructor
          · intro h3 h4
            rw [hju l h4] at h3; cases h3
          · intro h3
            by_cases h4 : l ∈ fs
            · rw [← List.take_append_drop j fs, List.mem_append] at h4
              rcases h4 with h4 | h4
              · exact hjl l h4
              · exact absurd h4 h3
            · exact hmid l h4 hl
        have hTx := text_St hp.toPre0 htext i (Nat.le_refl _)
        have hdst : ∀ l o' t, l ∈ fs.drop j → ops[l]? = some o' → o'.dst = some t → (dstsOf (opsAt ops.toList (fs.drop j))).contains t = true := fun l o' t h3 ho' ht => by
          simp only [List.contains_eq_mem, decide_eq_true_eq]
          unfold dstsOf
          rw [List.mem_filterMap]
          refine ⟨o', ?_, ht⟩
          obtain ⟨n, hn⟩ := List.mem_iff_getElem?.1 h3
          obtain ⟨y, hy, hy2⟩ := (all2_opsAt (ops := ops) (l := fs.drop j) fun i' hi' => by have := hp.inb i' (List.mem_of_mem_drop hi'); omega).get' hn
          rw [ho'] at hy2; cases hy2
          exact List.mem_of_getElem? hy
        have hrows : ∀ id, find (text ops es s0 i).rows id = find s.rows id := by
          intro id
          by_cases hxx : ∃ l r, l < i ∧ find (es l).rows id = some r
          · obtain ⟨l, r, hl, hr⟩ := hxx
            have hDl : listed.getD l true = true := (hD l hl).2 fun h3 => by rw [hflr l (List.mem_of_mem_drop h3)] at hr; simp [find] at hr
            rw [hst.r1 l id r hl hDl hr, hTx.r1 l id r hl hl hr]
          · have none_ : ∀ l, l < i → find (es l).rows id = none := fun l hl => by
              cases hf : find (es l).rows id with
              | none => rfl
              | some r => exact absurd ⟨l, r, hl, hf⟩ hxx
            rw [hst.r2 id fun l hl _ => none_ l hl, hTx.r2 id fun l hl _ => none_ l hl]
        have hle : ((text ops es s0 i).dropT (dstsOf (opsAt ops.toList (fs.drop j)))).le s := by
          refine ⟨fun t x hx => ?_, fun id r hr => by rw [← hrows]; exact hr, fun id e sz xs fl hf => .inl (by show find (text ops es s0 i).rows id = _; rw [hrows]; exact hf)⟩
          unfold ASt.dropT at hx
          simp only at hx
          rw [find_filter] at hx
          split at hx
          · cases hx
          · rename_i hnc
            by_cases hxx : ∃ l o', l < i ∧ ops[l]? = some o' ∧ o'.dst = some t
            · obtain ⟨l, o', hl, ho', ht⟩ := hxx
              have hDl : listed.getD l true = true := (hD l hl).2 fun h3 => hnc (hdst l o' t h3 ho' ht)
              rw [hTx.t1 l o' t hl hl ho' ht] at hx
              rw [hst.t1 l o' t hl hDl ho' ht, hx]
            · rw [hTx.t2 t fun l o' hl _ ho' ht => hxx ⟨l, o', hl, ho', ht⟩] at hx
              rw [hst.t2 t fun l o' hl _ ho' ht => hxx ⟨l, o', hl, ho', ht⟩, hx]
        have hset : ∀ j, (listed.setIfInBounds i true).getD j true = if j = i then true else listed.getD j true := fun j => getD_set (by omega) true j
        have hlist : ∀ l, l < ops.size → (listed.setIfInBounds i true).getD l true = !(ordOf ops.size fs i j).contains l := fun l hl => by
          rw [hset]
          cases hc2 : (ordOf ops.size fs i j).contains l with
          | true =>
            rcases mem_ord.1 hc2 with h3 | h3
            · have := hp.inb l (List.mem_of_mem_drop h3)
              rw [if_neg (by omega)]; exact hju l h3
            · rw [if_neg (by omega)]; exact hge l (by omega) hl
          | false =>
            have hn : ¬ (l ∈ fs.drop j ∨ (i < l ∧ l < ops.size)) := fun h3 => by rw [mem_ord.2 h3] at hc2; cases hc2
            by_cases hli : l = i
            · rw [if_pos hli]; rfl
            · rw [if_neg hli]
              exact (hD l (by omega)).2 fun h3 => hn (.inl h3)
        have hcnt : (ordOf ops.size fs i j).length ≤ fuel := by
          have hcs := cnt_set (f := fun i => listed.getD i true) (f' := fun j => (listed.setIfInBounds i true).getD j true) (i := i) h1 (by simp only [hset]; simp) (fun j hj => by simp only [hset]; rw [if_neg hj]) ops.size
          rw [if_pos hlt] at hcs
          have hnd : (ordOf ops.size fs i j).Nodup := by
            unfold ordOf
            rw [List.nodup_append]
            refine ⟨(List.drop_sublist j fs).nodup hp.nd, ?_, ?_⟩
            · unfold ixs
              exact List.Pairwise.map _ (fun a b h => by omega) List.nodup_range
            · intro a ha b hb e
              subst e
              have h3 := hp.inb a (List.mem_of_mem_drop ha)
              unfold ixs at hb
              rw [List.mem_map] at hb
              obtain ⟨c, _, hc⟩ := hb
              omega
          have := cnt_ge (f := fun l => (listed.setIfInBounds i true).getD l true) ops.size (ordOf ops.size fs i j) hnd fun x hx => by
            have hx' : (ordOf ops.size fs i j).contains x = true := by simpa using hx
            have hxs : x < ops.size := by
              rcases mem_ord.1 hx' with h3 | h3
              · have := hp.inb x (List.mem_of_mem_drop h3); omega
              · exact h3.2
            exact ⟨hxs, by rw [hlist x hxs, hx']; rfl⟩
          omega
        have hKj := hK j hjf
        have h1o : (ops.toList.drop i).take 1 = [o] := by
          rw [List.drop_eq_getElem_cons (by simpa using hlt)]
          have := Array.getElem?_eq_getElem hlt
          rw [ho] at this
          cases this
          simp
        rw [h1o, List.singleton_append] at hKj
        have hs := stepG_sound (ro := ro) (S := S) (w0 := w0) (m := N.calm) (fun hm => hm) hT (hrel.weaken hle) o (dst_of hd ho) hKj (Q := Qc) (K' := wpAnyIn (Fr ro) 0 P .any ops Qc fuel (listed.setIfInBounds i true))
          fun g' st' a' w' h1 h2 => phaseO hT hd (fun i o ho p hp1 => hp.bind i o ho p hp1) hQ _ _ fuel _ g' st' a' w' (all2_ord hp.lt hp.inb) (hp.forced j hjf) hcnt (by simpa using hsz) hlist h1 h2
        unfold wpOpIn
        rw [ho]
        simp only
        by_cases hw : Region.wanted o (yielded ops a.tmps) = true
        · rw [if_pos hw] at hs ⊢
          exact hs
        · rw [if_neg hw] at hs ⊢
          exact hs

/-- What is to be shown behind the head: for each number of floating operations that have come up by then. -/
def FloatK (fs : List Nat) (k : Nat) (P : Program) (T : Tab) (N : Fm) (ops : Array Oper) (K : ASt → Prop) (s : ASt) : Prop :=
  ∀ j, j ≤ fs.length → aOps N.calm P T ops ((ops.toList.drop k).take 1 ++ (opsAt ops.toList (fs.drop j) ++ ops.toList.drop (k + 1))) K (s.dropT (dstsOf (opsAt ops.toList (fs.drop j))))
theorem floatK_two {N : Fm} {s : ASt} {a b : Nat} (h0 : aOps N.calm P T ops ((ops.toList.drop k).take 1 ++ (((ops.toList.drop a).take 1 ++ (ops.toList.drop b).take 1) ++ ops.toList.drop (k + 1))) K (s.dropT (dstsOf ((ops.toList.drop a).take 1 ++ (ops.toList.drop b).take 1))))
    (h1 : aOps N.calm P T ops ((ops.toList.drop k).take 1 ++ ((ops.toList.drop b).take 1 ++ ops.toList.drop (k + 1))) K (s.dropT (dstsOf ((ops.toList.drop b).take 1))))
    (h2 : aOps N.calm P T ops ((ops.toList.drop k).take 1 ++ ops.toList.drop (k + 1)) K (s.dropT [])) : FloatK [a, b] k P T N ops K s := by
  intro j hj
  have : j = 0 ∨ j = 1 ∨ j = 2 := by simp at hj; omega
  rcases this with rfl | rfl | rfl
  · simpa [opsAt] using h0
  · simpa [opsAt] using h1
  · simpa [dstsOf, opsAt] using h2
theorem floatK_one {N : Fm} {s : ASt} {a : Nat} (h1 : aOps N.calm P T ops ((ops.toList.drop k).take 1 ++ ((ops.toList.drop a).take 1 ++ ops.toList.drop (k + 1))) K (s.dropT (dstsOf ((ops.toList.drop a).take 1))))
    (h2 : aOps N.calm P T ops ((ops.toList.drop k).take 1 ++ ops.toList.drop (k + 1)) K (s.dropT [])) : FloatK [a] k P T N ops K s := by
  intro j hj
  have : j = 0 ∨ j = 1 := by simp at hj; omega
  rcases this with rfl | rfl
  · simpa [opsAt] using h1
  · simpa [dstsOf, opsAt] using h2

/-- A region that draws its order, with first operations that may float behind the first one that writes. -/
theorem wpL_drawF {ro : Option Nat} (hT : TabOk P T) (hm : P.follows .mixedOrders = true) (fs : List Nat) (k : Nat) {id : Nat} {l : List Code} {Q : Exit → ASt → Prop} {st : ASt} (hdk : floatOk fs k ops = true) (hl : dstOk N.n ops.toList = true) (h : aOps false P T ops (ops.toList.take k) (FloatK fs k P T N ops (wpL ro P N l Q)) st) :
    wpL ro P N (.region id ops true :: l) Q st := by
  intro S w0 g a w hr
  have hp := preF_of hdk
  obtain ⟨es, htext, hK⟩ := aOps_es hp.toPre0 h k (Nat.le_refl _)
  rw [List.drop_eq_nil_of_le (by simp; omega)] at hK
  replace hK : FloatK fs k P T N ops (wpL ro P N l Q) (text ops es st k) := hK
  refine wpIn_region_any hm ?_
  have hgd : ∀ i, i < ops.size → (Array.replicate ops.size false).getD i true = false := fun i hi => by
    simp [Array.getD_eq_getD_getElem?, hi]
  have hst := text_St hp.toPre0 htext 0 (Nat.zero_le _)
  refine phaseF hT hl hp (Qc := fun e a' w' => ∃ g' st', Rel S w0 N g' st' a' w' ∧ thenL (wpL ro P N l Q) Q e st') (fun g s a w h1 h2 => ⟨g, s, h1, h2⟩) htext hK ops.size _ g st a _ ?_ (by simp) (fun i _ hi => hgd i hi) (fun i o ho hi => ?_) ?_ (hr.heap rfl rfl rfl rfl)
  · have : ∀ n (f : Nat → Bool), cnt f n ≤ n := by
      intro n f
      induction n with
      | zero => simp [cnt]
      | succ n ih => unfold cnt; split <;> omega
    exact this _ _
  · have hlt : i < ops.size := (Array.getElem?_eq_some_iff.1 ho).1
    simp only [hgd i hlt] at hi
    cases hi
  · have hno : ∀ i, i < k → ¬ (Array.replicate ops.size false).getD i true = true := fun i hi => by
      rw [hgd i (Nat.lt_of_lt_of_le hi hp.le)]; simp
    refine ⟨fun i o t hi hD => absurd hD (hno i hi), fun t _ => rfl, fun i id r hi hD => absurd hD (hno i hi), fun id _ => rfl, fun i id r hi _ hmm => hst.fr i id r hi (by omega) hmm⟩
def memN (k : Nat) : List Nat → Bool
  | [] => false
  | d :: ds => if k = d then true else memN k ds
theorem memN_eq (k : Nat) : ∀ ds : List Nat, memN k ds = ds.contains k
  | [] => rfl
  | d :: ds => by
    unfold memN
    rw [memN_eq k ds]
    by_cases h : k = d <;> simp [h]
def dropL (ds : List Nat) (l : List (Nat × AV)) : List (Nat × AV) := l.filter fun p => !ds.contains p.1
@[go_sem] theorem memN_nil (k : Nat) : memN k [] = false := rfl
@[go_sem] theorem memN_cons (k d : Nat) (ds : List Nat) : memN k (d :: ds) = if k = d then true else memN k ds := rfl
@[go_sem] theorem dropL_nil (ds : List Nat) : dropL ds [] = [] := rfl
@[go_sem] theorem dropL_cons (ds : List Nat) (k : Nat) (v : AV) (l : List (Nat × AV)) : dropL ds ((k, v) :: l) = if memN k ds = true then dropL ds l else (k, v) :: dropL ds l := by
  rw [memN_eq]
  unfold dropL
  rw [List.filter_cons]
  by_cases h : ds.contains k = true
  · rw [if_neg (by simpa using h), if_pos h]
  · rw [if_pos (by simpa using h), if_neg h]
@[go_sem] theorem dropT_mk (t : List (Nat × AV)) (r : List (Nat × ARow)) (ds : List Nat) : ASt.dropT ⟨t, r⟩ ds = ⟨dropL ds t, r⟩ := rfl
@[go_sem] theorem dstsOf_nil : dstsOf [] = [] := rfl
@[go_sem] theorem dstsOf_cons (o : Oper) (l : List Oper) : dstsOf (o :: l) = (match o.dst with | some d => d :: dstsOf l | none => dstsOf l) := by
  unfold dstsOf
  rw [List.filterMap_cons]
  cases o.dst <;> rfl

/-- A box whose cells lead to frozen rows alone: its cells are data. -/
theorem Rel.boxD {g : Gh} {st : ASt} {a : Act} {w : World} (h : Rel S w0 N g st a w) {id Ty : Nat} {cs : List AC} {xs : List DC} (hr : find st.rows id = some (.box Ty cs)) (hd : dcsOf false st.rows cs = some xs) :
    Rel S w0 N g ⟨st.tmps, (id, .box Ty (xs.map .d)) :: st.rows⟩ a w := by
  have hrows : ∀ i r, find ((id, ARow.box Ty (xs.map .d)) :: st.rows) i = some r → ∃ r', find st.rows i = some r' ∧ (∀ o, r'.safe o → r.safe o) := by
    intro i r hf
    simp only [find] at hf
    split at hf
    · rename_i he; subst he; cases hf; exact ⟨_, hr, fun o ho => ho⟩
    · exact ⟨r, hf, fun o ho => ho⟩
  have hF : ∀ b' o, Sf w0.heap.size S st.rows g b' o → Sf w0.heap.size S ((id, ARow.box Ty (xs.map .d)) :: st.rows) g b' o := by
    intro b' o hs
    rcases hs with hs | ⟨q1, q2⟩
    · exact .inl hs
    · refine .inr ⟨q1, fun i r c hf hgi => ?_⟩
      obtain ⟨r', hf', hsafe⟩ := hrows i r hf
      exact hsafe o (q2 i r' c hf' hgi)
  have hc : ∀ b' o, Sf w0.heap.size S st.rows g b' o → b' < w.heap.size → Sf w0.heap.size S ((id, ARow.box Ty (xs.map .d)) :: st.rows) g b' o ∧ cl w b' o = cl w b' o := fun b' o hs _ => ⟨hF b' o hs, rfl⟩
  have hk : ∀ i : Nat, g i = g i ∧ ∀ e' sz' xs' fl', find st.rows i = some (.arr e' sz' xs' fl') → ∃ xs2 fl2, find ((id, ARow.box Ty (xs.map .d)) :: st.rows) i = some (.arr e' sz' xs2 fl2) ∧ xs2.length = xs'.length := by
    intro i
    refine ⟨rfl, fun e' sz' xs' fl' hf => ?_⟩
    by_cases hi : i = id
    · subst hi; rw [hr] at hf; cases hf
    · exact ⟨xs', fl', by rw [find_set_ne hi]; exact hf, rfl⟩
  refine ⟨h.below, h.size, h.calm, h.good, h.defers, fun i r b' c hf hgi => ?_, fun i i' r r' b' c c' hf hf' hgi hgi' => ?_, fun i r hf => ?_, fun i x hx => ?_⟩
  · obtain ⟨r', hf', _⟩ := hrows i r hf
    exact h.blk i r' b' c hf' hgi
  · obtain ⟨r1, hf1, _⟩ := hrows i r hf
    obtain ⟨r2, hf2, _⟩ := hrows i' r' hf'
    exact h.inj i i' r1 r2 b' c c' hf1 hf2 hgi hgi'
  · by_cases he : i = id
    · subst he
      rw [find_set_eq] at hf
      cases hf
      obtain ⟨b, c, cur, hg, hb, hall⟩ := h.rows _ _ hr
      refine ⟨b, c, cur, hg, hb, ?_⟩
      have h1 := dcs_sound (lent := false) h hall hd
      refine All2.of_get ?_ fun n u x hu hx => ?_
      · have := h1.len; simpa using this
      · rw [List.getElem?_map] at hx
        obtain ⟨y, hy, rfl⟩ := Option.map_eq_some_iff.1 hx
        obtain ⟨u', hu', hr'⟩ := h1.get hy
        rw [hu] at hu'; cases hu'
        obtain ⟨y', _, hone, _⟩ := hall.get' hu
        refine ⟨hone, ?_⟩
        unfold RelAC
        exact RelC.sub (fun b o hb => hF b o (by simpa using hb)) hr'
    · rw [find_set_ne he] at hf
      exact (h.rows i r hf).carry hc rfl (fun _ _ _ => rfl) (NonC.refl _) fun id' _ => hk id'
  · obtain ⟨v, hv, hrv⟩ := h.tmps i x hx
    exact ⟨v, hv, hrv.carry hc fun id' _ => hk id'⟩
theorem wpL_boxD {ro : Option Nat} {st : ASt} {c : Code} {l : List Code} {Q : Exit → ASt → Prop} (id : Nat) {Ty : Nat} {cs : List AC} {xs : List DC} (hr : find st.rows id = some (.box Ty cs)) (hd : dcsOf false st.rows cs = some xs)
    (h : wpL ro P N (c :: l) Q ⟨st.tmps, (id, .box Ty (xs.map .d)) :: st.rows⟩) : wpL ro P N (c :: l) Q st :=
  fun S w0 g a w hrel => h S w0 g a w (hrel.boxD hr hd)
end
end Go.Abs

set_option linter.unusedSimpArgs false
set_option linter.unusedVariables false
namespace Go.Abs
open Go.RowKit Go.Shelf Go.Proofs

def sameW (w w' : World) : Prop := w'.heap = w.heap ∧ w'.os = w.os ∧ w'.tape = w.tape ∧ w'.output = w.output

section
variable {S : Nat → Nat → Prop} {w0 : World} {N : Fm} {g : Gh} {st : ASt} {a : Act} {w : World} {P : Program} {T : Tab}

theorem setCell_setRowO {w : World} {b : Nat} {cur : Array Value} {T : Nat} (h : w.heap[b]? = some (.cells cur T (0, 0))) (o : Nat) (v : Value) : w.setCell ⟨b, o, none⟩ v = w.setRow b (cur.setIfInBounds o v) := by
  have hlt := (Array.getElem?_eq_some_iff.1 h).1
  have hv := (Array.getElem?_eq_some_iff.1 h).2
  unfold World.setCell World.setRow
  congr 1
  apply Array.ext_getElem?
  intro k
  simp only [Array.getElem?_modify]
  by_cases hk : b = k
  · subst hk
    simp [h]
  · simp [hk]

theorem push_modify {α : Type} (h : Array α) (x : α) (b : Nat) (f : α → α) (hb : b < h.size) : (h.modify b f).push x = (h.push x).modify b f := by
  apply Array.ext_getElem?
  intro i
  rw [Array.getElem?_modify, Array.getElem?_push, Array.getElem?_push, Array.getElem?_modify, Array.size_modify]
  by_cases hi : i = h.size
  · rw [if_pos hi, if_neg (by omega), if_pos hi]
  · rw [if_neg hi, if_neg hi]
theorem alloc_setCell {w : World} {b : Nat} (hlt : b < w.heap.size) (o : Nat) (v : Value) (x : Obj) : ((w.setCell ⟨b, o, none⟩ v).alloc x).heap = ((w.alloc x).setCell ⟨b, o, none⟩ v).heap := by
  unfold World.alloc World.setCell
  exact push_modify _ _ _ _ hlt

theorem Meth.growB {f Ty e : Nat} (hent : ∀ args w, (callFunc f args).run P w = .ok (.enter f args) w)
    (hG : ∀ (b n : Nat) (w : World), w.heap[b]? = some (.cells #[.pointer none, .slice none 0 0] Ty (0, 0)) → n ≤ 281474976710656 → Calls P f #[.pointer (some ⟨b, 0, none⟩), .int .i64 n] w fun r w' => r = .returned (.tuple #[]) ∧
      (sameW (w.setCell ⟨b, 0, none⟩ (.pointer (some ⟨b, 0, none⟩))) w' ∨ ∃ cs : Array Value, cs.size ≤ maxLen ∧ sameW (((w.setCell ⟨b, 0, none⟩ (.pointer (some ⟨b, 0, none⟩))).alloc (.cells cs e)).setCell ⟨b, 1, none⟩ (.slice (some ⟨w.heap.size, 0, none⟩) 0 cs.size)) w'))
    {s : ASt} {b k : Nat} (hb : find s.rows b = some (.box Ty [.d (.sc (.pointer none)), .nil])) (hne : b ≠ k) (hk : s.free k = true) (n : Nat) (hn : n ≤ 281474976710656) :
    Meth P f s [.c (.ptr b 0), sint .i64 n] ⟨s.tmps, (b, .box Ty [.ptr b 0, .row k]) :: (k, .arr e 1 [] false) :: s.rows⟩ (.tup []) := by
  intro S w0 N g a w hcalm h vs hvs
  obtain ⟨u, v, rfl, hu, hv⟩ := all2_two hvs
  have hv := relV_sc hv
  subst hv
  unfold RelV at hu
  obtain ⟨_, bb, c, hg, rfl⟩ := hu
  obtain ⟨b', c', cur, hg', hh, hsz, _, hall⟩ := h.box hb
  rw [hg] at hg'; cases hg'
  obtain ⟨u0, u1, hcur, hr0, hr1⟩ := all2_two hall
  have hcur' : cur = #[u0, u1] := by apply Array.ext'; simpa using hcur
  subst hcur'
  have hu0 : u0 = .pointer none := by have := hr0.2; cases this; rfl
  have hu1 : u1 = .slice none 0 0 := hr1.2
  subst hu0 hu1
  have htup : ∀ {F : Nat → Nat → Prop} {rows : List (Nat × ARow)} {g' : Gh} {w' : World}, RelV F w' rows g' (.tuple #[]) (.tup []) := by
    intro F rows g' w'; unfold RelV; exact ⟨#[], rfl, by unfold RelVL; trivial⟩
  have hrk : find s.rows k = none := by
    cases hf : find s.rows k with
    | none => rfl
    | some r => exact absurd rfl (find_free_row hk hf).1
  -- the builder is used
  have h1 : Rel S w0 N g ⟨s.tmps, (b, .box Ty [.ptr b 0, .nil]) :: s.rows⟩ a (w.setCell ⟨bb, 0, none⟩ (.pointer (some ⟨bb, 0, none⟩))) := by
    rw [setCell_setRow hh]
    refine h.store (r := .box Ty [.ptr b 0, .nil]) (T := Ty) (cur := #[Value.pointer none, .slice none 0 0].setIfInBounds 0 (.pointer (some ⟨bb, 0, none⟩))) hb hg (fun o ho => ho) (fun e sz xs fl he => by cases he) ⟨_, hh⟩ (fun F' w' rows' hF hk hw' => ?_)
    refine ⟨bb, c, _, hg, hw', ?_⟩
    refine .cons ⟨rfl, bb, c, hg, rfl⟩ (.cons ⟨hr1.1, rfl⟩ .nil)
  generalize hw1 : w.setCell ⟨bb, 0, none⟩ (.pointer (some ⟨bb, 0, none⟩)) = w1 at *
  have hfr1 : (ASt.mk s.tmps ((b, ARow.box Ty [.ptr b 0, .nil]) :: s.rows)).free k = true := by
    unfold ASt.free at hk ⊢
    simp only [List.all_cons, Bool.and_eq_true] at hk ⊢
    refine ⟨hk.1, ?_, hk.2⟩
    simp [ARow.ment, AC.ment, AC.id?, hne]
  left
  refine ⟨hent _ _, (hG bb n w hh hn).mono ?_⟩
  rintro r w' ⟨rfl, hp⟩
  rw [hw1] at hp
  rcases hp with ⟨e1, e2, e3, e4⟩ | ⟨cs, hcs, e1, e2, e3, e4⟩
  · have hno : (ASt.mk s.tmps ((b, ARow.box Ty [.ptr b 0, .nil]) :: s.rows)).nomenB k = true := by
      unfold ASt.free at hfr1
      unfold ASt.nomenB
      rw [Bool.and_eq_true] at hfr1 ⊢
      refine ⟨hfr1.1, List.all_eq_true.2 fun p hp => ?_⟩
      have := List.all_eq_true.1 hfr1.2 p hp
      simp only [Bool.and_eq_true] at this
      exact this.2
    have h2 := (h1.bear (nomen_of hno) e 1).nilCell (j := 1) hne (by rw [find_set_ne hne]; exact find_set_eq) rfl find_set_eq (updG_eq _ _ _)
    refine ⟨_, _, rfl, (h2.heap e1 e2 e3 e4).congr (fun _ => rfl) fun id => ?_, htup⟩
    simp only [find, List.set]
    split
    · rfl
    · split
      · rfl
      · rfl
  · have hw1s : w1.heap.size = w.heap.size := by rw [← hw1]; simp [World.setCell]
    have hbl := h1.blk b _ bb c find_set_eq hg
    have hnews := (h1.news (w' := w1.alloc (.cells cs e)) (Below.alloc (Below.refl _ _) (Nat.le_refl _) _) (ns := [(k, .arr e 1 [] false)]) (gN := fun _ => some (w1.heap.size, cs.size)) (g' := updG g k (some (w1.heap.size, cs.size)))
      (fun id => by by_cases hid : id = k <;> simp [find, updG, hid]) (fun id r hf => by simp only [find] at hf; split at hf; (rename_i e; subst e; exact hfr1); cases hf)
      (fun id r b c hf hg => by cases hg; exact ⟨Nat.le_refl _, by simp⟩)
      (fun id id' r r' b c c' hf hf' _ _ => by simp only [find] at hf hf'; split at hf; (split at hf'; (rename_i e e'; rw [e, e']); cases hf'); cases hf)
      (fun id r hf => by
        simp only [find] at hf
        split at hf
        · rename_i e'; cases hf; subst e'
          refine ⟨fun i x hx => by simp at hx, .inr ⟨_, _, cs, updG_eq _ _ _, heap_alloc_new w1 _, by simp, hcs, by simp, fun i j x d hx => by simp at hx⟩⟩
        · cases hf)).2
    have hbk : find ((k, ARow.arr e 1 [] false) :: (b, ARow.box Ty [.ptr b 0, .nil]) :: s.rows) b = some (.box Ty [.ptr b 0, .nil]) := by
      rw [find_set_ne hne]; exact find_set_eq
    obtain ⟨b3, c3, cur3, hg3, hh3, hall3⟩ := hnews.rows b _ hbk
    have hg3' : updG g k (some (w1.heap.size, cs.size)) b = some (bb, c) := by unfold updG; rw [if_neg hne]; exact hg
    rw [hg3'] at hg3; cases hg3
    obtain ⟨x0, x1, hc3, hx0, hx1⟩ := all2_two hall3
    have hcur3 : cur3 = #[x0, x1] := by apply Array.ext'; simpa using hc3
    subst hcur3
    have h3 := hnews.store (id := b) (b := bb) (c := c) (r := .box Ty [.ptr b 0, .row k]) (T := Ty) (cur := #[x0, x1].setIfInBounds 1 (.slice (some ⟨w1.heap.size, 0, none⟩) 0 cs.size)) hbk hg3' (fun o ho => ho) (fun e sz xs fl he => by cases he) ⟨_, hh3⟩ (fun F' w' rows' hF hkk hw' => by
      refine ⟨bb, c, _, hg3', hw', ?_⟩
      refine .cons ⟨hx0.1, hx0.2.carry hF fun id' _ => ⟨rfl, hkk id'⟩⟩ (.cons ⟨rfl, ?_⟩ .nil)
      obtain ⟨xs', fl', q1, q2⟩ := hkk k e 1 [] false find_set_eq
      have hxs : xs' = [] := by simpa using q2
      subst hxs
      exact ⟨e, 1, [], fl', q1, by rw [updG_eq]; rfl⟩)
    rw [← setCell_setRowO hh3] at h3
    rw [← hw1s] at e1
    refine ⟨_, _, rfl, (h3.heap e1 e2 e3 e4).congr (fun _ => rfl) fun id => ?_, htup⟩
    by_cases hib : id = b
    · simp [find, hib]
    · by_cases hik : id = k <;> simp [find, hib, hik]
end
end Go.Abs

