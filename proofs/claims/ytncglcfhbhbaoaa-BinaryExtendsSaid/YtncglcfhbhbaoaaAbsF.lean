/-
  The abstract steps are sound, part four: a row that grows.
-/
import Derived.Test.YtncglcfhbhbaoaaAbsE
set_option linter.unusedSimpArgs false
set_option linter.unusedVariables false
namespace Go.Abs
open Go.RowKit

def AC.kill (id : Nat) (x : AC) : AC := match x.ment id with | true => .dead | false => x
def AV.kill (id : Nat) : AV → AV
  | .c x => .c (x.kill id)
  | .agg xs => .agg (xs.map (AC.kill id))
  | .tup xs => match mentL id xs with | true => .any | false => .tup xs
  | .any => .any
def ARow.kill (id : Nat) : ARow → ARow
  | .ghost v x => .ghost v (x.kill id)
  | .box T cs => .box T (cs.map (AC.kill id))
  | r => r
def mapV {α β : Type} (f : α → β) : List (Nat × α) → List (Nat × β)
  | [] => []
  | (k, v) :: l => (k, f v) :: mapV f l
def ASt.kill (s : ASt) (id : Nat) : ASt := ⟨mapV (AV.kill id) s.tmps, mapV (ARow.kill id) s.rows⟩

theorem find_mapV {α β : Type} (f : α → β) : ∀ (l : List (Nat × α)) (i : Nat), find (mapV f l) i = (find l i).map f
  | [], i => rfl
  | (k, v) :: l, i => by
    simp only [mapV, find]
    split
    · rfl
    · exact find_mapV f l i

theorem AC.kill_ment (id : Nat) (x : AC) : (x.kill id).ment id = false := by
  unfold AC.kill
  cases h : x.ment id
  · exact h
  · rfl
theorem AV.kill_ment (id : Nat) (x : AV) : (x.kill id).ment id = false := by
  cases x with
  | c x => unfold AV.kill AV.ment; exact AC.kill_ment id x
  | agg xs =>
    unfold AV.kill AV.ment
    rw [List.any_eq_false]
    intro y hy
    obtain ⟨z, _, rfl⟩ := List.mem_map.1 hy
    simp [AC.kill_ment]
  | tup xs =>
    cases h : mentL id xs
    · rw [show AV.kill id (.tup xs) = .tup xs by simp only [AV.kill, h]]
      unfold AV.ment; exact h
    · rw [show AV.kill id (.tup xs) = .any by simp only [AV.kill, h]]
      unfold AV.ment; rfl
  | any => unfold AV.kill AV.ment; rfl
theorem ARow.kill_ment (id : Nat) (r : ARow) : (r.kill id).ment id = false := by
  cases r with
  | box T cs =>
    unfold ARow.kill ARow.ment
    rw [List.any_eq_false]
    intro y hy
    obtain ⟨z, _, rfl⟩ := List.mem_map.1 hy
    simp [AC.kill_ment]
  | arr => rfl
  | ghost v x => exact AV.kill_ment id x
  | held => rfl
  | gone => rfl
  | iter => rfl

section
variable {S : Nat → Nat → Prop} {w0 : World} {N : Fm} {g : Gh} {st : ASt} {a : Act} {w : World}

theorem RelAC.kill {F : Nat → Nat → Prop} {rows rows' : List (Nat × ARow)} (hrows : ∀ id e sz xs fl, find rows id = some (.arr e sz xs fl) → find rows' id = some (.arr e sz xs fl)) (id : Nat) {u : Value} {x : AC}
    (h : RelAC F w rows g u x) : RelAC F w rows' g u (x.kill id) := by
  unfold AC.kill
  cases hm : x.ment id
  · exact h.carry (fun b o hb _ => ⟨hb, rfl⟩) fun i hi => ⟨rfl, fun e sz xs fl hf => ⟨xs, fl, hrows i e sz xs fl hf, rfl⟩⟩
  · trivial

theorem RelV.kill {F : Nat → Nat → Prop} {rows rows' : List (Nat × ARow)} (hrows : ∀ id e sz xs fl, find rows id = some (.arr e sz xs fl) → find rows' id = some (.arr e sz xs fl)) (id : Nat) {v : Value} {x : AV}
    (h : RelV F w rows g v x) : RelV F w rows' g v (x.kill id) := by
  cases x with
  | c x =>
    unfold AV.kill
    unfold RelV at h ⊢
    exact ⟨h.1, h.2.kill hrows id⟩
  | agg xs =>
    unfold AV.kill
    unfold RelV at h ⊢
    obtain ⟨cs, h1, h2⟩ := h
    exact ⟨cs, h1, All2.map_r (h2.mono fun u y hu => ⟨hu.1, hu.2.kill hrows id⟩)⟩
  | tup xs =>
    cases hm : mentL id xs
    · rw [show AV.kill id (.tup xs) = .tup xs by simp only [AV.kill, hm]]
      exact h.carry (fun b o hb _ => ⟨hb, rfl⟩) fun i _ => ⟨rfl, fun e sz ys fl hf => ⟨ys, fl, hrows i e sz ys fl hf, rfl⟩⟩
    · rw [show AV.kill id (.tup xs) = .any by simp only [AV.kill, hm]]
      unfold RelV; trivial
  | any => unfold AV.kill RelV; trivial

theorem Rel.kill (h : Rel S w0 N g st a w) (id : Nat) : Rel S w0 N g (st.kill id) a w := by
  have hrows : ∀ i e sz xs fl, find st.rows i = some (.arr e sz xs fl) → find (st.kill id).rows i = some (.arr e sz xs fl) := by
    intro i e sz xs fl hf
    simp [ASt.kill, find_mapV, hf, ARow.kill]
  have hback : ∀ i r, find (st.kill id).rows i = some r → ∃ r0, find st.rows i = some r0 ∧ r = r0.kill id := by
    intro i r hr
    simp only [ASt.kill, find_mapV] at hr
    obtain ⟨r0, h1, h2⟩ := Option.map_eq_some_iff.1 hr
    exact ⟨r0, h1, h2.symm⟩
  have hsafe : ∀ b o, Sf w0.heap.size S st.rows g b o → Sf w0.heap.size S (st.kill id).rows g b o := by
    intro b o hs
    rcases hs with hs | ⟨h1, h2⟩
    · exact .inl hs
    · refine .inr ⟨h1, fun i r c hr hg => ?_⟩
      obtain ⟨r0, hr0, rfl⟩ := hback i r hr
      have := h2 i r0 c hr0 hg
      cases r0 <;> exact this
  have hc : ∀ b o, Sf w0.heap.size S st.rows g b o → b < w.heap.size → Sf w0.heap.size S (st.kill id).rows g b o ∧ cl w b o = cl w b o := fun b o hs _ => ⟨hsafe b o hs, rfl⟩
  have same : ∀ {rows : List (Nat × ARow)} i, g i = g i ∧ ∀ e sz xs fl, find rows i = some (.arr e sz xs fl) → ∃ xs' fl', find rows i = some (.arr e sz xs' fl') ∧ xs'.length = xs.length :=
    fun i => ⟨rfl, fun e sz xs fl hf => ⟨xs, fl, hf, rfl⟩⟩
  refine ⟨h.below, h.size, h.calm, h.good, h.defers, fun i r b c hr hg => ?_, fun i i' r r' b c c' hr hr' hg hg' => ?_, fun i r hr => ?_, fun i x hx => ?_⟩
  · obtain ⟨r0, hr0, _⟩ := hback i r hr
    exact h.blk i r0 b c hr0 hg
  · obtain ⟨r0, hr0, _⟩ := hback i r hr
    obtain ⟨r1, hr1, _⟩ := hback i' r' hr'
    exact h.inj i i' r0 r1 b c c' hr0 hr1 hg hg'
  · obtain ⟨r0, hr0, rfl⟩ := hback i r hr
    have := h.rows i r0 hr0
    cases r0 with
    | box T cs =>
      obtain ⟨b, c, cur, h1, h2, h3⟩ := this
      refine ⟨b, c, cur, h1, h2, All2.map_r (h3.mono fun u y hu => ⟨hu.1, ?_⟩)⟩
      exact (hu.2.kill hrows id).carry hc (fun i _ => same i)
    | arr e sz xs fl => exact this.carry hc rfl (fun _ _ _ => rfl) (NonC.refl _) (fun i hi => by cases hi)
    | ghost v x => exact ⟨this.1, (this.2.kill hrows id).carry hc fun i _ => same i⟩
    | held l => exact this.carry hc rfl (fun _ _ _ => rfl) (NonC.refl _) (fun i hi => by cases hi)
    | gone => exact this.carry hc rfl (fun _ _ _ => rfl) (NonC.refl _) (fun i hi => by cases hi)
    | iter s pos => exact this.carry hc rfl (fun _ _ _ => rfl) (NonC.refl _) (fun i hi => by cases hi)
  · simp only [ASt.kill, find_mapV] at hx
    obtain ⟨x0, h1, rfl⟩ := Option.map_eq_some_iff.1 hx
    obtain ⟨v, hv, hr⟩ := h.tmps i x0 h1
    exact ⟨v, hv, (hr.kill hrows id).carry hc fun i _ => same i⟩

/-- Nothing leads to row id. -/
def ASt.nomen (s : ASt) (id : Nat) : Prop := (∀ i x, find s.tmps i = some x → x.ment id = false) ∧ ∀ i r, find s.rows i = some r → r.ment id = false

theorem kill_nomen (s : ASt) (id : Nat) : (s.kill id).nomen id := by
  refine ⟨fun i x hx => ?_, fun i r hr => ?_⟩
  · simp only [ASt.kill, find_mapV] at hx
    obtain ⟨x0, _, rfl⟩ := Option.map_eq_some_iff.1 hx
    exact AV.kill_ment id x0
  · simp only [ASt.kill, find_mapV] at hr
    obtain ⟨r0, _, rfl⟩ := Option.map_eq_some_iff.1 hr
    exact ARow.kill_ment id r0

/-- Row id made anew, nothing leading to it. -/
theorem Rel.renew (h : Rel S w0 N g st a w) {id : Nat} (hm : st.nomen id) {w' : World} {x : Option (Nat × Nat)} {r : ARow}
    (h1 : w'.os = w.os) (h2 : w'.tape = w.tape) (h3 : w'.output = w.output) (h4 : w.heap.size ≤ w'.heap.size)
    (hblk : ∀ b, b < w.heap.size → (∀ cap, x ≠ some (b, cap)) → w'.heap[b]? = w.heap[b]?)
    (hx : ∀ b cap, x = some (b, cap) → w0.heap.size ≤ b ∧ b < w'.heap.size ∧ ((∃ r0 c0, find st.rows id = some r0 ∧ g id = some (b, c0) ∧ r0.isIter = false) ∨ w.heap.size ≤ b))
    (hcell : ∀ b cap o, x = some (b, cap) → Sf w0.heap.size S st.rows g b o → b < w.heap.size → r.safe o ∧ cl w' b o = cl w b o)
    (hr : (∀ b o, Sf w0.heap.size S st.rows g b o → b < w.heap.size → Sf w0.heap.size S ((id, r) :: st.rows) (updG g id x) b o ∧ cl w' b o = cl w b o) →
      RelRow (Sf w0.heap.size S ((id, r) :: st.rows) (updG g id x)) w' ((id, r) :: st.rows) (updG g id x) id r) :
    Rel S w0 N (updG g id x) ⟨st.tmps, (id, r) :: st.rows⟩ a w' := by
  have hc : ∀ b o, Sf w0.heap.size S st.rows g b o → b < w.heap.size → Sf w0.heap.size S ((id, r) :: st.rows) (updG g id x) b o ∧ cl w' b o = cl w b o := by
    cases x with
    | none =>
      intro b o hs hb
      refine ⟨?_, cl_of_block (hblk b hb (by simp)) o⟩
      rcases hs with hs | ⟨h5, h6⟩
      · exact .inl hs
      · refine .inr ⟨h5, fun id' r' c hf hg => ?_⟩
        by_cases hid : id' = id
        · subst hid; rw [updG_eq] at hg; cases hg
        · rw [find_set_ne hid] at hf; rw [updG_ne _ _ hid] at hg; exact h6 id' r' c hf hg
    | some p =>
      obtain ⟨b', cap⟩ := p
      refine safe_core (id := id) (b' := b') (cap := cap) (r := r) find_set_eq (fun id' hid r' hr' => ?_) (fun b c hg => ?_) (fun id' hid => updG_ne _ _ hid) (fun b hb hne => hblk b hb (fun c e => by cases e; exact hne rfl)) (hx b' cap rfl).1 (fun o hs hlt => hcell b' cap o rfl hs hlt)
      · rw [find_set_ne hid] at hr'
        exact ⟨r', hr', fun _ y => y⟩
      · rw [updG_eq] at hg; cases hg; rfl
  have other : ∀ id' r' b c, id' ≠ id → find st.rows id' = some r' → g id' = some (b, c) → ∀ cap, x ≠ some (b, cap) := by
    intro id' r' b c hid hf hg cap he
    rcases (hx b cap he).2.2 with ⟨r0, c0, hf0, hg0, hni0⟩ | hge
    · exact hid (h.inj id' id r' r0 b c c0 hf hf0 hg hg0)
    · have := (h.blk id' r' b c hf hg).2; omega
  have hnc : NonC w w' := fun D o hd ho => by
    refine (hblk D (Array.getElem?_eq_some_iff.1 hd).1 (fun cap he => ?_)).trans hd
    rcases (hx D cap he).2.2 with ⟨r0, c0, hf0, hg0, hni0⟩ | hge
    · obtain ⟨cur, T, fr, hc0⟩ := h.row_cells hf0 hni0 hg0
      rw [hc0] at hd; cases hd; simp [oStill, Obj.isCells] at ho
    · have := (Array.getElem?_eq_some_iff.1 hd).1
      omega
  refine ⟨⟨h1.trans h.below.os, h2.trans h.below.tape, h3.trans h.below.output, Nat.le_trans h.below.size h4, fun k hk => ?_⟩, h.size, h.calm, h.good, h.defers.carry hnc, fun id' r' b c hfr hg => ?_, fun id1 id2 r1 r2 b c1 c2 hf1 hf2 hg1 hg2 => ?_, fun id' r' hfr => ?_, fun i y hy => ?_⟩
  · rw [hblk k (by have := h.below.size; omega) (fun cap he => by have := (hx k cap he).1; omega)]
    exact h.below.block k hk
  · by_cases hid : id' = id
    · subst hid; rw [updG_eq] at hg
      exact ⟨(hx b c hg).1, (hx b c hg).2.1⟩
    · rw [updG_ne _ _ hid] at hg
      simp only [find_set_ne hid] at hfr
      have := h.blk id' r' b c hfr hg
      exact ⟨this.1, by omega⟩
  · by_cases e1 : id1 = id <;> by_cases e2 : id2 = id
    · rw [e1, e2]
    · subst e1
      rw [updG_eq] at hg1
      rw [updG_ne _ _ e2] at hg2
      simp only [find_set_ne e2] at hf2
      exact absurd hg1 (other id2 r2 b c2 e2 hf2 hg2 c1)
    · subst e2
      rw [updG_eq] at hg2
      rw [updG_ne _ _ e1] at hg1
      simp only [find_set_ne e1] at hf1
      exact absurd hg2 (other id1 r1 b c1 e1 hf1 hg1 c2)
    · rw [updG_ne _ _ e1] at hg1
      rw [updG_ne _ _ e2] at hg2
      simp only [find_set_ne e1] at hf1
      simp only [find_set_ne e2] at hf2
      exact h.inj id1 id2 r1 r2 b c1 c2 hf1 hf2 hg1 hg2
  · by_cases hid : id' = id
    · subst hid
      simp only [find_set_eq] at hfr
      cases hfr
      exact hr hc
    · simp only [find_set_ne hid] at hfr
      have hmr := hm.2 id' r' hfr
      refine (h.rows id' r' hfr).carry hc (updG_ne _ _ hid) (fun b c hg => hblk b (h.blk id' r' b c hfr hg).2 (other id' r' b c hid hfr hg)) hnc (fun id2 hid2 => ?_)
      exact keep_new r _ (fun e => by subst e; rw [hmr] at hid2; cases hid2)
  · obtain ⟨v, hv, hrv⟩ := h.tmps i y hy
    have hmy := hm.1 i y hy
    exact ⟨v, hv, hrv.carry hc fun id2 hid2 => keep_new r _ (fun e => by subst e; rw [hmy] at hid2; cases hid2)⟩

/-- What is appended: m elements, these cells. -/
structure Src (P : Program) (size m : Nat) (w : World) (x : Value) (news : List Value) : Prop where
  len : Builtin.lenOf x = pure m
  cells : ∀ w', w'.heap = w.heap → (Builtin.firstCells size m x).run P w' = .ok news.toArray w'
  size : news.length = m * size
  one : ∀ u ∈ news, u.oneCell' = true

theorem run_app_room {P : Program} (t tx ty e : TypeId) (i : TypeInfo) (ht : P.underlying t = some (.slice e)) {dx : TypeDesc} (htx : P.underlying tx = some dx) (hdx : (∃ e2, dx = .slice e2) ∨ dx = .string) (hi : P.info? e = some i)
    {x : Value} {m : Nat} {news : List Value} (hs : Src P i.size m w x news) (b n cap : Nat) (cur : Array Value) (hb : w.heap[b]? = some (.cells cur e (0, 0))) (hroom : n + m ≤ cap) (hfit : n * i.size + news.length ≤ cur.size) :
    (Builtin.append_ #[t, tx] ty #[.slice (some ⟨b, 0, none⟩) n cap, x]).run P w =
      .ok (.slice (some ⟨b, 0, none⟩) (n + m) cap) (w.setRow b (cur.toList.take (n * i.size) ++ news ++ cur.toList.drop (n * i.size + news.length)).toArray) := by
  have hst := run_storeCells_at P b (n * i.size) e news 0 cur w hb (by simpa using hfit) hs.one
  simp only [Nat.add_zero] at hst
  rcases hdx with ⟨e2, rfl⟩ | rfl <;> simp [Builtin.append_, run_underlying ht, run_underlying htx, sizeOf, typeInfo, hi, hs.len, hroom, hs.cells w rfl, Addr.add_lit, hst]

theorem run_app_grow {P : Program} (t tx ty e : TypeId) (i : TypeInfo) (z : Value) (ht : P.underlying t = some (.slice e)) {dx : TypeDesc} (htx : P.underlying tx = some dx) (hdx : (∃ e2, dx = .slice e2) ∨ dx = .string) (hi : P.info? e = some i) (hz0 : i.zero = some z)
    {x : Value} {m : Nat} {news : List Value} (hs : Src P i.size m w x news) (base : Option Addr) (n cap : Nat) (olds : List Value)
    (hold : ∀ w', w'.heap = w.heap → (Builtin.firstCells i.size n (.slice base n cap)).run P w' = .ok olds.toArray w') (hg : cap < n + m) (h63 : ((n + m : Nat) : Int) ≤ 9223372036854775807) (hfit : Builtin.nextslicecap (n + m) cap * i.bytes ≤ 281474976710656) :
    (Builtin.append_ #[t, tx] ty #[.slice base n cap, x]).run P w =
      .ok (.slice (some ⟨w.heap.size, 0, none⟩) (n + m) (grownCap w (n + m) cap e))
        (w.drew.alloc (.cells (olds.toArray ++ news.toArray ++ Builtin.zeroCells z.cells (grownCap w (n + m) cap e - (n + m))) e)) := by
  have hn : ¬ (n + m ≤ cap) := by omega
  have h63' : ¬ (9223372036854775807 < ((n : Int) + (m : Int))) := by omega
  have h48' : ¬ (281474976710656 < Builtin.nextslicecap (n + m) cap * i.bytes) := by omega
  rcases hdx with ⟨e2, rfl⟩ | rfl
  all_goals
    simp [Builtin.append_, run_underlying ht, run_underlying htx, sizeOf, typeInfo, zeroValue, hi, hz0, hs.len, hn, h63', h48', Question.forced, hs.cells w.drew rfl, hold w.drew rfl, newRow, grownCap]
    congr 2
    apply Array.ext'
    simp [List.append_assoc]

end
end Go.Abs
