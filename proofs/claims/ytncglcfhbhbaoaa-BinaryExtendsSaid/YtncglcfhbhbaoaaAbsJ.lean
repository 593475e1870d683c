/-
  Functions as values see them: what a call asks and what it gives.
-/
import Derived.Test.YtncglcfhbhbaoaaAbsI
set_option linter.unusedSimpArgs false
set_option linter.unusedVariables false
namespace Go.Abs
open Go.RowKit

/-- A cell of a result: data, or a slice that is the caller's own. -/
inductive RC where
  | d (x : DC)
  | fresh (e sz : Nat) (xs : List (List DC))
inductive RV where
  | c (x : RC)
  | agg (xs : List RC)
inductive Res where
  | one (v : RV)
  | tup (vs : List RV)

def cid (d p : Nat) : Nat := d + 1000 * (p + 1)

def rowsRC (d p : Nat) : RC → List (Nat × ARow)
  | .d _ => []
  | .fresh e sz xs => [(cid d p, .arr e sz xs false)]
def acRC (d p : Nat) : RC → AC
  | .d x => .d x
  | .fresh _ _ _ => .row (cid d p)
def rowsRCs (d : Nat) : Nat → List RC → List (Nat × ARow)
  | _, [] => []
  | p, x :: xs => rowsRC d p x ++ rowsRCs d (p + 1) xs
def acRCs (d : Nat) : Nat → List RC → List AC
  | _, [] => []
  | p, x :: xs => acRC d p x :: acRCs d (p + 1) xs
def rowsRV (d p : Nat) : RV → List (Nat × ARow)
  | .c x => rowsRC d p x
  | .agg xs => rowsRCs d p xs
def avRV (d p : Nat) : RV → AV
  | .c x => .c (acRC d p x)
  | .agg xs => .agg (acRCs d p xs)
def rowsRVs (d : Nat) : Nat → List RV → List (Nat × ARow)
  | _, [] => []
  | p, x :: xs => rowsRV d p x ++ rowsRVs d (p + 50) xs
def avRVs (d : Nat) : Nat → List RV → List AV
  | _, [] => []
  | p, x :: xs => avRV d p x :: avRVs d (p + 50) xs
def rowsRes (d : Nat) : Res → List (Nat × ARow)
  | .one v => rowsRV d 0 v
  | .tup vs => rowsRVs d 0 vs
def avRes (d : Nat) : Res → AV
  | .one v => avRV d 0 v
  | .tup vs => .tup (avRVs d 0 vs)

def DC.flat : DC → Bool
  | .sc _ => true
  | .sl _ => false
  | .clo _ _ => false
  | .rc _ => false
def RC.flat : RC → Bool
  | .d x => x.flat
  | .fresh _ _ xs => xs.all fun x => x.all (·.flat)
def RV.flat : RV → Bool
  | .c x => x.flat
  | .agg xs => xs.all (·.flat)
def Res.flat : Res → Bool
  | .one v => v.flat
  | .tup vs => vs.all (·.flat)

def RelRC (F : Nat → Nat → Prop) (w : World) (fb : Gh) (p : Nat) (u : Value) : RC → Prop
  | .d x => RelC F w u x
  | .fresh e sz xs => u = gsl (fb p) xs.length ∧ RelRow F w [] fb p (.arr e sz xs false)
def RelRCs (F : Nat → Nat → Prop) (w : World) (fb : Gh) : Nat → List Value → List RC → Prop
  | _, [], [] => True
  | p, u :: us, x :: xs => (u.oneCell' = true ∧ RelRC F w fb p u x) ∧ RelRCs F w fb (p + 1) us xs
  | _, _, _ => False
def RelRV (F : Nat → Nat → Prop) (w : World) (fb : Gh) (p : Nat) (v : Value) : RV → Prop
  | .c x => v.oneCell' = true ∧ RelRC F w fb p v x
  | .agg xs => ∃ cs, v = .agg cs ∧ RelRCs F w fb p cs.toList xs
def RelRVs (F : Nat → Nat → Prop) (w : World) (fb : Gh) : Nat → List Value → List RV → Prop
  | _, [], [] => True
  | p, u :: us, x :: xs => RelRV F w fb p u x ∧ RelRVs F w fb (p + 50) us xs
  | _, _, _ => False
def RelRes (F : Nat → Nat → Prop) (w : World) (fb : Gh) (v : Value) : Res → Prop
  | .one x => RelRV F w fb 0 v x
  | .tup xs => ∃ vs, v = .tuple vs ∧ RelRVs F w fb 0 vs.toList xs

/-- Where a result's data lies: where the arguments' did, or in blocks that are new and no fresh slice's. -/
def Fp (S : Nat → Nat → Prop) (n : Nat) (fb : Gh) (b o : Nat) : Prop := (b < n ∧ S b o) ∨ (n ≤ b ∧ ∀ p c, fb p ≠ some (b, c))

def Post (S : Nat → Nat → Prop) (w : World) (r : Res) (e : Ending) (w' : World) : Prop :=
  ∃ v fb, e = .returned v ∧ Below w.heap.size w w' ∧ (∀ p b c, fb p = some (b, c) → w.heap.size ≤ b ∧ b < w'.heap.size) ∧
    (∀ p p' b c c', fb p = some (b, c) → fb p' = some (b, c') → p = p') ∧ RelRes (Fp S w.heap.size fb) w' fb v r

/-- A call of function f, with a body or without. -/
def CallF (P : Program) (f : FuncId) (args : Array Value) (w : World) (R : Ending → World → Prop) : Prop :=
  ((callFunc f args).run P w = .ok (.enter f args) w ∧ Calls P f args w R) ∨ ∃ v w', (callFunc f args).run P w = .ok (.value v) w' ∧ R (.returned v) w'

/-- FUNCTION f, HANDED THESE VALUES, GIVES THIS RESULT, in whatever memory, and changes none. -/
def Gives (P : Program) (f : FuncId) (args : List DV) (r : Res) : Prop :=
  ∀ (S : Nat → Nat → Prop) (w : World) (vs : List Value), TabGood S w → All2 (RelDV S w) vs args → CallF P f vs.toArray w (Post S w r)

section
variable {S : Nat → Nat → Prop} {w0 : World} {N : Fm} {g : Gh} {st : ASt} {a : Act} {w : World}

theorem find_append {α : Type} (l m : List (Nat × α)) (i : Nat) : find (l ++ m) i = (match find l i with | some x => some x | none => find m i) := by
  induction l with
  | nil => rfl
  | cons p l ih =>
    obtain ⟨k, v⟩ := p
    simp only [List.cons_append, find]
    split
    · rfl
    · exact ih

/-- Many new rows at once, behind a call. -/
theorem Rel.news (h : Rel S w0 N g st a w) {w' : World} (hb : Below w.heap.size w w') {ns : List (Nat × ARow)} {gN : Gh} {g' : Gh} (hg' : ∀ id, g' id = match find ns id with | some _ => gN id | none => g id)
    (hfree : ∀ id r, find ns id = some r → st.free id = true)
    (hblk : ∀ id r b c, find ns id = some r → gN id = some (b, c) → w.heap.size ≤ b ∧ b < w'.heap.size)
    (hinj : ∀ id id' r r' b c c', find ns id = some r → find ns id' = some r' → gN id = some (b, c) → gN id' = some (b, c') → id = id')
    (hrows : ∀ id r, find ns id = some r → RelRow (Sf w0.heap.size S (ns ++ st.rows) g') w' (ns ++ st.rows) g' id r) :
    (∀ b o, Sf w0.heap.size S st.rows g b o → b < w.heap.size → Sf w0.heap.size S (ns ++ st.rows) g' b o ∧ cl w' b o = cl w b o) ∧ Rel S w0 N g' ⟨st.tmps, ns ++ st.rows⟩ a w' := by
  have hc : ∀ b o, Sf w0.heap.size S st.rows g b o → b < w.heap.size → Sf w0.heap.size S (ns ++ st.rows) g' b o ∧ cl w' b o = cl w b o := by
    intro b o hs hlt
    refine ⟨?_, cl_of_block (hb.block b hlt) o⟩
    rcases hs with hs | ⟨h1, h2⟩
    · exact .inl hs
    · refine .inr ⟨h1, fun id r c hf hgi => ?_⟩
      rw [find_append] at hf
      rw [hg'] at hgi
      cases hn : find ns id with
      | some r0 =>
        rw [hn] at hgi
        have := (hblk id r0 b c hn hgi).1
        omega
      | none =>
        rw [hn] at hf hgi
        exact h2 id r c hf hgi
  refine ⟨hc, ?_⟩
  have keep : ∀ id, find ns id = none → g' id = g id ∧ ∀ e sz xs fl, find st.rows id = some (.arr e sz xs fl) → ∃ xs' fl', find (ns ++ st.rows) id = some (.arr e sz xs' fl') ∧ xs'.length = xs.length := by
    intro id hn
    refine ⟨by rw [hg', hn], fun e sz xs fl hf => ⟨xs, fl, by rw [find_append, hn]; exact hf, rfl⟩⟩
  refine ⟨h.below.trans (hb.mono h.below.size), h.size, h.calm, h.good, h.defers.carry (NonC.of_old hb.block), fun id r b c hf hgi => ?_, fun id1 id2 r1 r2 b c1 c2 hf1 hf2 hg1 hg2 => ?_, fun id r hf => ?_, fun i x hx => ?_⟩
  · simp only [find_append] at hf
    rw [hg'] at hgi
    cases hn : find ns id with
    | some r0 => rw [hn] at hgi; have := hblk id r0 b c hn hgi; exact ⟨by have := h.below.size; omega, this.2⟩
    | none => rw [hn] at hf hgi; have := h.blk id r b c hf hgi; exact ⟨this.1, by have := hb.size; omega⟩
  · simp only [find_append] at hf1 hf2
    rw [hg'] at hg1 hg2
    cases hn1 : find ns id1 with
    | some q1 =>
      rw [hn1] at hg1
      cases hn2 : find ns id2 with
      | some q2 => rw [hn2] at hg2; exact hinj id1 id2 q1 q2 b c1 c2 hn1 hn2 hg1 hg2
      | none =>
        rw [hn2] at hf2 hg2
        have := hblk id1 q1 b c1 hn1 hg1
        have := h.blk id2 r2 b c2 hf2 hg2
        omega
    | none =>
      rw [hn1] at hf1 hg1
      cases hn2 : find ns id2 with
      | some q2 =>
        rw [hn2] at hg2
        have := hblk id2 q2 b c2 hn2 hg2
        have := h.blk id1 r1 b c1 hf1 hg1
        omega
      | none => rw [hn2] at hf2 hg2; exact h.inj id1 id2 r1 r2 b c1 c2 hf1 hf2 hg1 hg2
  · simp only [find_append] at hf
    cases hn : find ns id with
    | some r0 => rw [hn] at hf; cases hf; exact hrows id _ hn
    | none =>
      rw [hn] at hf
      refine (h.rows id r hf).carry hc (keep id hn).1 (fun b c hgi => hb.block b (h.blk id r b c hf hgi).2) (NonC.of_old hb.block) (fun id2 hm => keep id2 ?_)
      cases hn2 : find ns id2 with
      | none => rfl
      | some r2 => have := (find_free_row (hfree id2 r2 hn2) hf).2; rw [this] at hm; cases hm
  · obtain ⟨v, hv, hr⟩ := h.tmps i x hx
    refine ⟨v, hv, hr.carry hc fun id2 hm => keep id2 ?_⟩
    cases hn2 : find ns id2 with
    | none => rfl
    | some r2 => have := find_free_tmp (hfree id2 r2 hn2) hx; rw [this] at hm; cases hm

theorem relRow_arr {F F' : Nat → Nat → Prop} {w : World} {rows rows' : List (Nat × ARow)} {g g' : Gh} {id id' e sz : Nat} {xs : List (List DC)} {fl fl' : Bool} (hF : ∀ b o, F b o → F' b o) (hg : g' id' = g id)
    (h : RelRow F w rows g id (.arr e sz xs fl)) : RelRow F' w rows' g' id' (.arr e sz xs fl') := by
  obtain ⟨h1, h2⟩ := h
  refine ⟨h1, ?_⟩
  rcases h2 with ⟨h3, h4⟩ | ⟨b, cap, cur, h3, h4, h5, h6, h7, h8⟩
  · exact .inl ⟨by rw [hg]; exact h3, h4⟩
  · refine .inr ⟨b, cap, cur, by rw [hg]; exact h3, h4, h5, h6, h7, fun i j x d hx hd => ?_⟩
    obtain ⟨u, hu, hr⟩ := h8 i j x d hx hd
    exact ⟨u, hu, hr.sub hF⟩

def Good (F : Nat → Nat → Prop) (w : World) (fb : Gh) (d : Nat) (id : Nat) (r : ARow) : Prop := ∃ p e sz xs, id = cid d p ∧ r = .arr e sz xs false ∧ RelRow F w [] fb p (.arr e sz xs false)

theorem good_RC {F : Nat → Nat → Prop} {fb : Gh} {d p : Nat} {u : Value} {x : RC} (h : RelRC F w fb p u x) : ∀ id r, (id, r) ∈ rowsRC d p x → Good F w fb d id r := by
  intro id r hm
  cases x with
  | d x => simp [rowsRC] at hm
  | fresh e sz xs =>
    simp only [rowsRC, List.mem_singleton, Prod.mk.injEq] at hm
    exact ⟨p, e, sz, xs, hm.1, hm.2, h.2⟩
theorem good_RCs {F : Nat → Nat → Prop} {fb : Gh} {d : Nat} : ∀ {p : Nat} {us : List Value} {xs : List RC}, RelRCs F w fb p us xs → ∀ id r, (id, r) ∈ rowsRCs d p xs → Good F w fb d id r
  | p, [], [], _, id, r, hm => by simp [rowsRCs] at hm
  | p, u :: us, x :: xs, h, id, r, hm => by
    simp only [rowsRCs, List.mem_append] at hm
    rcases hm with hm | hm
    · exact good_RC h.1.2 id r hm
    · exact good_RCs h.2 id r hm
  | p, [], _ :: _, h, _, _, _ => h.elim
  | p, _ :: _, [], h, _, _, _ => h.elim
theorem good_RV {F : Nat → Nat → Prop} {fb : Gh} {d p : Nat} {v : Value} {x : RV} (h : RelRV F w fb p v x) : ∀ id r, (id, r) ∈ rowsRV d p x → Good F w fb d id r := by
  cases x with
  | c x => exact good_RC h.2
  | agg xs => obtain ⟨cs, _, h⟩ := h; exact good_RCs h
theorem good_RVs {F : Nat → Nat → Prop} {fb : Gh} {d : Nat} : ∀ {p : Nat} {us : List Value} {xs : List RV}, RelRVs F w fb p us xs → ∀ id r, (id, r) ∈ rowsRVs d p xs → Good F w fb d id r
  | p, [], [], _, id, r, hm => by simp [rowsRVs] at hm
  | p, u :: us, x :: xs, h, id, r, hm => by
    simp only [rowsRVs, List.mem_append] at hm
    rcases hm with hm | hm
    · exact good_RV h.1 id r hm
    · exact good_RVs h.2 id r hm
  | p, [], _ :: _, h, _, _, _ => h.elim
  | p, _ :: _, [], h, _, _, _ => h.elim
theorem good_Res {F : Nat → Nat → Prop} {fb : Gh} {d : Nat} {v : Value} {x : Res} (h : RelRes F w fb v x) : ∀ id r, (id, r) ∈ rowsRes d x → Good F w fb d id r := by
  cases x with
  | one x => exact good_RV h
  | tup xs => obtain ⟨cs, _, h⟩ := h; exact good_RVs h

def backP (d id : Nat) : Nat := (id - d) / 1000 - 1
theorem backP_cid (d p : Nat) : backP d (cid d p) = p := by
  unfold backP cid
  omega

/- A result as the caller's frame sees it. 'rows' holds the fresh rows. -/
section
variable {F F' : Nat → Nat → Prop} {fb : Gh} {d : Nat} {rows : List (Nat × ARow)} {g' : Gh}
theorem av_RC (hF : ∀ b o, F b o → F' b o) {p : Nat} {u : Value} {x : RC} (h : RelRC F w fb p u x) (hr : ∀ id r, (id, r) ∈ rowsRC d p x → find rows id = some r ∧ g' id = fb (backP d id)) : RelAC F' w rows g' u (acRC d p x) := by
  cases x with
  | d x => exact RelC.sub hF h
  | fresh e sz xs =>
    obtain ⟨h1, h2⟩ := hr (cid d p) (.arr e sz xs false) (by simp [rowsRC])
    refine ⟨e, sz, xs, false, h1, ?_⟩
    rw [h2, backP_cid]; exact h.1
theorem av_RCs (hF : ∀ b o, F b o → F' b o) : ∀ {p : Nat} {us : List Value} {xs : List RC}, RelRCs F w fb p us xs → (∀ id r, (id, r) ∈ rowsRCs d p xs → find rows id = some r ∧ g' id = fb (backP d id)) →
    All2 (fun u x => u.oneCell' = true ∧ RelAC F' w rows g' u x) us (acRCs d p xs)
  | p, [], [], _, _ => .nil
  | p, u :: us, x :: xs, h, hr => .cons ⟨h.1.1, av_RC hF h.1.2 fun id r hm => hr id r (by simp only [rowsRCs, List.mem_append]; exact .inl hm)⟩ (av_RCs hF h.2 fun id r hm => hr id r (by simp only [rowsRCs, List.mem_append]; exact .inr hm))
  | p, [], _ :: _, h, _ => h.elim
  | p, _ :: _, [], h, _ => h.elim
theorem av_RV (hF : ∀ b o, F b o → F' b o) {p : Nat} {v : Value} {x : RV} (h : RelRV F w fb p v x) (hr : ∀ id r, (id, r) ∈ rowsRV d p x → find rows id = some r ∧ g' id = fb (backP d id)) : RelV F' w rows g' v (avRV d p x) := by
  cases x with
  | c x => unfold avRV RelV; exact ⟨h.1, av_RC hF h.2 hr⟩
  | agg xs => obtain ⟨cs, h1, h⟩ := h; unfold avRV RelV; exact ⟨cs, h1, av_RCs hF h hr⟩
theorem av_RVs (hF : ∀ b o, F b o → F' b o) : ∀ {p : Nat} {us : List Value} {xs : List RV}, RelRVs F w fb p us xs → (∀ id r, (id, r) ∈ rowsRVs d p xs → find rows id = some r ∧ g' id = fb (backP d id)) →
    RelVL F' w rows g' us (avRVs d p xs)
  | p, [], [], _, _ => by unfold avRVs RelVL; trivial
  | p, u :: us, x :: xs, h, hr => by
    unfold avRVs RelVL
    exact ⟨av_RV hF h.1 fun id r hm => hr id r (by simp only [rowsRVs, List.mem_append]; exact .inl hm), av_RVs hF h.2 fun id r hm => hr id r (by simp only [rowsRVs, List.mem_append]; exact .inr hm)⟩
  | p, [], _ :: _, h, _ => h.elim
  | p, _ :: _, [], h, _ => h.elim
theorem av_Res (hF : ∀ b o, F b o → F' b o) {v : Value} {x : Res} (h : RelRes F w fb v x) (hr : ∀ id r, (id, r) ∈ rowsRes d x → find rows id = some r ∧ g' id = fb (backP d id)) : RelV F' w rows g' v (avRes d x) := by
  cases x with
  | one x => exact av_RV hF h hr
  | tup xs => obtain ⟨vs, h1, h⟩ := h; unfold avRes RelV; exact ⟨vs, h1, av_RVs hF h hr⟩
end

/-- A flat result leads nowhere: the safe places do not matter. -/
theorem flat_RC {F F' : Nat → Nat → Prop} {fb : Gh} {p : Nat} {u : Value} {x : RC} (hx : x.flat = true) (h : RelRC F w fb p u x) : RelRC F' w fb p u x := by
  cases x with
  | d x => cases x with
    | sc v => cases h with | sc _ h => exact .sc _ h
    | sl xs => simp [RC.flat, DC.flat] at hx
    | clo f xs => simp [RC.flat, DC.flat] at hx
    | rc f => simp [RC.flat, DC.flat] at hx
  | fresh e sz xs =>
    refine ⟨h.1, h.2.1, ?_⟩
    rcases h.2.2 with h3 | ⟨b, cap, cur, h4, h5, h6, h7, h8, h9⟩
    · exact .inl h3
    · refine .inr ⟨b, cap, cur, h4, h5, h6, h7, h8, fun i j x d hx' hd => ?_⟩
      obtain ⟨u, hu, hr⟩ := h9 i j x d hx' hd
      have hf : d.flat = true := List.all_eq_true.1 (List.all_eq_true.1 hx x (List.mem_of_getElem? hx')) d (List.mem_of_getElem? hd)
      refine ⟨u, hu, ?_⟩
      cases d with
      | sc v => cases hr with | sc _ h => exact .sc _ h
      | sl xs => simp [DC.flat] at hf
      | clo f xs => simp [DC.flat] at hf
      | rc f => simp [DC.flat] at hf
theorem flat_RCs {F F' : Nat → Nat → Prop} {fb : Gh} : ∀ {p : Nat} {us : List Value} {xs : List RC}, xs.all (·.flat) = true → RelRCs F w fb p us xs → RelRCs F' w fb p us xs
  | p, [], [], _, _ => trivial
  | p, u :: us, x :: xs, hx, h => by
    simp only [List.all_cons, Bool.and_eq_true] at hx
    exact ⟨⟨h.1.1, flat_RC hx.1 h.1.2⟩, flat_RCs hx.2 h.2⟩
  | p, [], _ :: _, _, h => h.elim
  | p, _ :: _, [], _, h => h.elim
theorem flat_RV {F F' : Nat → Nat → Prop} {fb : Gh} {p : Nat} {v : Value} {x : RV} (hx : x.flat = true) (h : RelRV F w fb p v x) : RelRV F' w fb p v x := by
  cases x with
  | c x => exact ⟨h.1, flat_RC hx h.2⟩
  | agg xs => obtain ⟨cs, h1, h⟩ := h; exact ⟨cs, h1, flat_RCs hx h⟩
theorem flat_RVs {F F' : Nat → Nat → Prop} {fb : Gh} : ∀ {p : Nat} {us : List Value} {xs : List RV}, xs.all (·.flat) = true → RelRVs F w fb p us xs → RelRVs F' w fb p us xs
  | p, [], [], _, _ => trivial
  | p, u :: us, x :: xs, hx, h => by
    simp only [List.all_cons, Bool.and_eq_true] at hx
    exact ⟨flat_RV hx.1 h.1, flat_RVs hx.2 h.2⟩
  | p, [], _ :: _, _, h => h.elim
  | p, _ :: _, [], _, h => h.elim
theorem flat_Res {F F' : Nat → Nat → Prop} {fb : Gh} {v : Value} {x : Res} (hx : x.flat = true) (h : RelRes F w fb v x) : RelRes F' w fb v x := by
  cases x with
  | one x => exact flat_RV hx h
  | tup xs => obtain ⟨vs, h1, h⟩ := h; exact ⟨vs, h1, flat_RVs hx h⟩

theorem dvs_sound' (h : Rel S w0 N g st a w) {lent : Bool} {vs : List Value} {xs : List AV} {ys : List DV} (hv : All2 (RelV (Sf w0.heap.size S st.rows g) w st.rows g) vs xs) (hy : dvsOf lent st.rows xs = some ys) :
    All2 (RelDV (fun b o => lent = true ∨ Sf w0.heap.size S st.rows g b o) w) vs ys := by
  induction hv generalizing ys with
  | nil => simp [dvsOf] at hy; subst hy; exact .nil
  | cons h1 _ ih =>
    simp only [dvsOf] at hy
    split at hy
    · rename_i y ys' hy1 hy2
      cases hy
      exact .cons (dv_sound h h1 hy1) (ih hy2)
    · cases hy

theorem dcOf_lent {rows : List (Nat × ARow)} {x : AC} {y : DC} (h : dcOf false rows x = some y) : dcOf true rows x = some y := by
  unfold dcOf at *
  split at h <;> simp_all
  split at h <;> simp_all

theorem dcsOf_lent {rows : List (Nat × ARow)} : ∀ {xs : List AC} {ys : List DC}, dcsOf false rows xs = some ys → dcsOf true rows xs = some ys
  | [], ys, h => by simpa [dcsOf] using h
  | x :: xs, ys, h => by
    simp only [dcsOf] at h ⊢
    split at h
    · rename_i y ys' h1 h2
      rw [dcOf_lent h1, dcsOf_lent h2]; exact h
    · cases h
theorem dvOf_lent {rows : List (Nat × ARow)} {x : AV} {y : DV} (h : dvOf false rows x = some y) : dvOf true rows x = some y := by
  unfold dvOf at *
  split at h
  · exact h
  · split at h
    · rename_i y' hy; simp only [dcOf_lent hy]; exact h
    · cases h
  · split at h
    · rename_i y' hy; simp only [dcsOf_lent hy]; exact h
    · cases h
  · cases h
theorem dvsOf_lent {rows : List (Nat × ARow)} : ∀ {xs : List AV} {ys : List DV}, dvsOf false rows xs = some ys → dvsOf true rows xs = some ys
  | [], ys, h => by simpa [dvsOf] using h
  | x :: xs, ys, h => by
    simp only [dvsOf] at h ⊢
    split at h
    · rename_i y ys' h1 h2
      rw [dvOf_lent h1, dvsOf_lent h2]; exact h
    · cases h

/-- Behind a call. -/
theorem Rel.call (h : Rel S w0 N g st a w) {w' : World} {v : Value} {fb : Gh} {r : Res} {d : Nat} {F0 : Nat → Nat → Prop} (hF0 : r.flat = true ∨ ∀ b o, F0 b o → Sf w0.heap.size S st.rows g b o)
    (hb : Below w.heap.size w w') (hblk : ∀ p b c, fb p = some (b, c) → w.heap.size ≤ b ∧ b < w'.heap.size) (hinj : ∀ p p' b c c', fb p = some (b, c) → fb p' = some (b, c') → p = p')
    (hr : RelRes (Fp F0 w.heap.size fb) w' fb v r) (hfree : ∀ id r', find (rowsRes d r) id = some r' → st.free id = true) (huniq : ∀ id r', (id, r') ∈ rowsRes d r → find (rowsRes d r) id = some r') :
    ∃ g', Rel S w0 N g' ⟨st.tmps, rowsRes d r ++ st.rows⟩ a w' ∧ RelV (Sf w0.heap.size S (rowsRes d r ++ st.rows) g') w' (rowsRes d r ++ st.rows) g' v (avRes d r) := by
  have hgood := good_Res (d := d) hr
  let g' : Gh := fun id => match find (rowsRes d r) id with | some _ => fb (backP d id) | none => g id
  have hg' : ∀ id, g' id = match find (rowsRes d r) id with | some _ => fb (backP d id) | none => g id := fun _ => rfl
  have hcid : ∀ id r', find (rowsRes d r) id = some r' → id = cid d (backP d id) := by
    intro id r' hf
    obtain ⟨p, _, _, _, h1, _⟩ := hgood id r' (find_mem hf)
    rw [h1, backP_cid]
  have hF : ∀ b o, Fp (Sf w0.heap.size S st.rows g) w.heap.size fb b o → Sf w0.heap.size S (rowsRes d r ++ st.rows) g' b o := by
    intro b o hf
    rcases hf with ⟨h1, h2⟩ | ⟨h1, h2⟩
    · rcases h2 with h2 | ⟨h2, h3⟩
      · exact .inl h2
      · refine .inr ⟨h2, fun id r' c hfi hgi => ?_⟩
        rw [find_append] at hfi
        rw [hg'] at hgi
        cases hn : find (rowsRes d r) id with
        | some r0 => rw [hn] at hgi; have := (hblk _ b c hgi).1; omega
        | none => rw [hn] at hfi hgi; exact h3 id r' c hfi hgi
    · refine .inr ⟨by have := h.below.size; omega, fun id r' c hfi hgi => ?_⟩
      rw [find_append] at hfi
      rw [hg'] at hgi
      cases hn : find (rowsRes d r) id with
      | some r0 => rw [hn] at hgi; exact absurd hgi (h2 _ c)
      | none => rw [hn] at hfi hgi; have := (h.blk id r' b c hfi hgi).2; omega
  have hr' : RelRes (Fp (Sf w0.heap.size S st.rows g) w.heap.size fb) w' fb v r ∨ r.flat = true := by
    rcases hF0 with hfl | hsub
    · exact .inr hfl
    · left
      have e : ∀ b o, Fp F0 w.heap.size fb b o → Fp (Sf w0.heap.size S st.rows g) w.heap.size fb b o := by
        intro b o hf
        rcases hf with ⟨h1, h2⟩ | hf
        · exact .inl ⟨h1, hsub b o h2⟩
        · exact .inr hf
      cases r with
      | one x =>
        have key : ∀ {p : Nat} {u : Value} {x : RC}, RelRC (Fp F0 w.heap.size fb) w' fb p u x → RelRC (Fp (Sf w0.heap.size S st.rows g) w.heap.size fb) w' fb p u x := by
          intro p u x hx
          cases x with
          | d x => exact RelC.sub e hx
          | fresh e' sz xs => exact ⟨hx.1, relRow_arr e rfl hx.2⟩
        have keys : ∀ {us : List Value} {xs : List RC} {p : Nat}, RelRCs (Fp F0 w.heap.size fb) w' fb p us xs → RelRCs (Fp (Sf w0.heap.size S st.rows g) w.heap.size fb) w' fb p us xs := by
          intro us
          induction us with
          | nil => intro xs p hx; cases xs with
            | nil => trivial
            | cons => exact hx.elim
          | cons u us ih => intro xs p hx; cases xs with
            | nil => exact hx.elim
            | cons x xs => exact ⟨⟨hx.1.1, key hx.1.2⟩, ih hx.2⟩
        cases x with
        | c x => exact ⟨hr.1, key hr.2⟩
        | agg xs => obtain ⟨cs, h1, h2⟩ := hr; exact ⟨cs, h1, keys h2⟩
      | tup xs =>
        have key : ∀ {p : Nat} {u : Value} {x : RC}, RelRC (Fp F0 w.heap.size fb) w' fb p u x → RelRC (Fp (Sf w0.heap.size S st.rows g) w.heap.size fb) w' fb p u x := by
          intro p u x hx
          cases x with
          | d x => exact RelC.sub e hx
          | fresh e' sz xs => exact ⟨hx.1, relRow_arr e rfl hx.2⟩
        have keys : ∀ {us : List Value} {xs : List RC} {p : Nat}, RelRCs (Fp F0 w.heap.size fb) w' fb p us xs → RelRCs (Fp (Sf w0.heap.size S st.rows g) w.heap.size fb) w' fb p us xs := by
          intro us
          induction us with
          | nil => intro xs p hx; cases xs with
            | nil => trivial
            | cons => exact hx.elim
          | cons u us ih => intro xs p hx; cases xs with
            | nil => exact hx.elim
            | cons x xs => exact ⟨⟨hx.1.1, key hx.1.2⟩, ih hx.2⟩
        obtain ⟨vs, h1, h2⟩ := hr
        refine ⟨vs, h1, ?_⟩
        have keyv : ∀ {us : List Value} {ys : List RV} {p : Nat}, RelRVs (Fp F0 w.heap.size fb) w' fb p us ys → RelRVs (Fp (Sf w0.heap.size S st.rows g) w.heap.size fb) w' fb p us ys := by
          intro us
          induction us with
          | nil => intro xs p hx; cases xs with
            | nil => trivial
            | cons => exact hx.elim
          | cons u us ih => intro ys p hx; cases ys with
            | nil => exact hx.elim
            | cons x ys =>
              refine ⟨?_, ih hx.2⟩
              cases x with
              | c x => exact ⟨hx.1.1, key hx.1.2⟩
              | agg xs => obtain ⟨cs, h1, h2⟩ := hx.1; exact ⟨cs, h1, keys h2⟩
        exact keyv h2
  have hr2 : RelRes (Fp (Sf w0.heap.size S st.rows g) w.heap.size fb) w' fb v r := by
    rcases hr' with h1 | h1
    · exact h1
    · exact flat_Res h1 hr
  have hrel := (h.news hb hg' hfree (fun id r' b c hf hgi => hblk _ b c hgi) (fun id id' r' r'' b c c' hf hf' hgi hgi' => by
      have := hinj _ _ b c c' hgi hgi'
      rw [hcid id r' hf, hcid id' r'' hf', this]) (fun id r' hf => by
      obtain ⟨p, e, sz, xs, h1, h2, h3⟩ := good_Res (d := d) hr2 id r' (find_mem hf)
      subst h2
      refine relRow_arr hF ?_ h3
      rw [hg', hf, h1]
      simp [backP_cid])).2
  refine ⟨g', hrel, av_Res hF hr2 fun id r' hm => ⟨?_, ?_⟩⟩
  · rw [find_append, huniq id r' hm]
  · rw [hg', huniq id r' hm]

end
end Go.Abs
