/-
  The abstract steps are sound, part three: how the state's relation is carried over a new row, a store, a row that grows.
-/
import Derived.Test.YtncglcfhbhbaoaaAbsD
set_option linter.unusedSimpArgs false
set_option linter.unusedVariables false
namespace Go.Abs
open Go.RowKit

section
variable {S : Nat → Nat → Prop} {w0 : World} {N : Fm} {g : Gh} {st : ASt} {a : Act} {w : World}

/-- A row written anew: what happens to the safe places. -/
theorem safe_core {rows rows' : List (Nat × ARow)} {g g' : Gh} {B : Nat} {w' : World} {id b' : Nat} {cap : Nat} {r : ARow} (hr : find rows' id = some r)
    (hrows : ∀ id', id' ≠ id → ∀ r', find rows' id' = some r' → ∃ r0, find rows id' = some r0 ∧ ∀ o, r0.safe o → r'.safe o)
    (hg : ∀ b c, g' id = some (b, c) → b = b') (hgo : ∀ id', id' ≠ id → g' id' = g id')
    (hblk : ∀ b, b < w.heap.size → b ≠ b' → w'.heap[b]? = w.heap[b]?) (hB : B ≤ b')
    (hcell : ∀ o, Sf B S rows g b' o → b' < w.heap.size → r.safe o ∧ cl w' b' o = cl w b' o) :
    ∀ b o, Sf B S rows g b o → b < w.heap.size → Sf B S rows' g' b o ∧ cl w' b o = cl w b o := by
  intro b o hs hb
  by_cases hbb : b = b'
  · subst hbb
    obtain ⟨h1, h2⟩ := hcell o hs hb
    refine ⟨?_, h2⟩
    rcases hs with ⟨h3, _⟩ | ⟨h3, h4⟩
    · omega
    · refine .inr ⟨h3, fun id' r' c hf hg' => ?_⟩
      by_cases hid : id' = id
      · subst hid; rw [hr] at hf; cases hf; exact h1
      · obtain ⟨r0, hf0, hs0⟩ := hrows id' hid r' hf
        rw [hgo id' hid] at hg'
        exact hs0 o (h4 id' r0 c hf0 hg')
  · refine ⟨?_, cl_of_block (hblk b hb hbb) o⟩
    rcases hs with h3 | ⟨h3, h4⟩
    · exact .inl h3
    · refine .inr ⟨h3, fun id' r' c hf hg' => ?_⟩
      by_cases hid : id' = id
      · subst hid; exact absurd (hg _ _ hg') hbb
      · obtain ⟨r0, hf0, hs0⟩ := hrows id' hid r' hf
        rw [hgo id' hid] at hg'
        exact hs0 o (h4 id' r0 c hf0 hg')

theorem Rel.put (h : Rel S w0 N g st a w) {d : Option Nat} (hd : ∀ i, d = some i → i < N.n) {v : Value} {x : AV} (hv : RelV (Sf w0.heap.size S st.rows g) w st.rows g v x) :
    Rel S w0 N g ⟨match d with | some i => (i, x) :: st.tmps | none => st.tmps, st.rows⟩ (a.put d v) w := by
  cases d with
  | none => exact h
  | some i =>
    have hi : i < a.tmps.size := by rw [h.size]; exact hd i rfl
    refine ⟨h.below, by simp [Act.put, h.size], h.calm, h.good, h.defers, h.blk, h.inj, h.rows, fun j y hy => ?_⟩
    simp only [find] at hy
    split at hy
    · rename_i hij
      cases hy; subst hij
      exact ⟨v, by simp [Act.put, hi], hv⟩
    · rename_i hij
      obtain ⟨u, hu, hr⟩ := h.tmps j y hy
      exact ⟨u, by simp only [Act.put]; rw [Array.getElem?_setIfInBounds_ne (by omega)]; exact hu, hr⟩

/-- The state only looks at the heap. -/
theorem Rel.heap (h : Rel S w0 N g st a w) {w' : World} (hh : w'.heap = w.heap) (h1 : w'.os = w.os) (h2 : w'.tape = w.tape) (h3 : w'.output = w.output) : Rel S w0 N g st a w' := by
  have hc : ∀ b o, Sf w0.heap.size S st.rows g b o → b < w.heap.size → Sf w0.heap.size S st.rows g b o ∧ cl w' b o = cl w b o :=
    fun b o hs _ => ⟨hs, cl_of_block (by rw [hh]) o⟩
  have hk : ∀ id, g id = g id ∧ ∀ e sz xs fl, find st.rows id = some (.arr e sz xs fl) → ∃ xs' fl', find st.rows id = some (.arr e sz xs' fl') ∧ xs'.length = xs.length :=
    fun id => ⟨rfl, fun e sz xs fl hf => ⟨xs, fl, hf, rfl⟩⟩
  refine ⟨⟨h1.trans h.below.os, h2.trans h.below.tape, h3.trans h.below.output, by rw [hh]; exact h.below.size, fun k hk => by rw [hh]; exact h.below.block k hk⟩, h.size, h.calm, h.good, h.defers.carry (NonC.of_heap hh),
    fun id r b c hf hg => by rw [hh]; exact h.blk id r b c hf hg, h.inj, fun id r hf => (h.rows id r hf).carry hc rfl (fun b c _ => by rw [hh]) (NonC.of_heap hh) (fun id' _ => hk id'), fun i x hx => ?_⟩
  obtain ⟨v, hv, hr⟩ := h.tmps i x hx
  exact ⟨v, hv, hr.carry hc fun id _ => hk id⟩

theorem find_free_tmp {id : Nat} (hf : st.free id = true) {i : Nat} {x : AV} (hx : find st.tmps i = some x) : x.ment id = false := by
  unfold ASt.free at hf
  rw [Bool.and_eq_true, List.all_eq_true, List.all_eq_true] at hf
  have := hf.1 _ (find_mem hx)
  simpa using this
theorem find_free_row {id : Nat} (hf : st.free id = true) {i : Nat} {r : ARow} (hx : find st.rows i = some r) : i ≠ id ∧ r.ment id = false := by
  unfold ASt.free at hf
  rw [Bool.and_eq_true, List.all_eq_true, List.all_eq_true] at hf
  have := hf.2 _ (find_mem hx)
  simpa using this

def updG (g : Gh) (id : Nat) (x : Option (Nat × Nat)) : Gh := fun i => if i = id then x else g i
theorem updG_eq (g : Gh) (id : Nat) (x : Option (Nat × Nat)) : updG g id x id = x := by simp [updG]
theorem updG_ne (g : Gh) {id i : Nat} (x : Option (Nat × Nat)) (h : i ≠ id) : updG g id x i = g i := by simp [updG, h]

/-- What a new row does to the safe places. -/
theorem safe_new (h : Rel S w0 N g st a w) {id : Nat} (hf : st.free id = true) (r : ARow) (cells : Array Value) (T cap : Nat) :
    ∀ b o, Sf w0.heap.size S st.rows g b o → b < w.heap.size → Sf w0.heap.size S ((id, r) :: st.rows) (updG g id (some (w.heap.size, cap))) b o ∧ cl (w.alloc (.cells cells T)) b o = cl w b o := by
  refine safe_core (id := id) (b' := w.heap.size) (cap := cap) (r := r) find_set_eq (fun id' hid r' hr' => ?_) (fun b c hg => ?_) (fun id' hid => updG_ne _ _ hid) (fun b hb hne => ?_) h.below.size (fun o _ hlt => absurd hlt (Nat.lt_irrefl _))
  · rw [find_set_ne hid] at hr'
    exact ⟨r', hr', fun _ x => x⟩
  · rw [updG_eq] at hg; cases hg; rfl
  · exact heap_alloc_old w _ hb

theorem keep_new {id : Nat} (r : ARow) (x : Option (Nat × Nat)) {id' : Nat} (hne : id' ≠ id) :
    updG g id x id' = g id' ∧ ∀ e sz xs fl, find st.rows id' = some (.arr e sz xs fl) → ∃ xs' fl', find ((id, r) :: st.rows) id' = some (.arr e sz xs' fl') ∧ xs'.length = xs.length :=
  ⟨updG_ne _ _ hne, fun e sz xs fl hf => ⟨xs, fl, by rw [find_set_ne hne]; exact hf, rfl⟩⟩

/-- A new row in a new block. -/
theorem Rel.new (h : Rel S w0 N g st a w) {id : Nat} (hf : st.free id = true) {r : ARow} {cells : Array Value} {T cap : Nat}
    (hr : RelRow (Sf w0.heap.size S ((id, r) :: st.rows) (updG g id (some (w.heap.size, cap)))) (w.alloc (.cells cells T)) ((id, r) :: st.rows) (updG g id (some (w.heap.size, cap))) id r) :
    Rel S w0 N (updG g id (some (w.heap.size, cap))) ⟨st.tmps, (id, r) :: st.rows⟩ a (w.alloc (.cells cells T)) := by
  have hc := safe_new h hf r cells T cap
  refine ⟨h.below.alloc h.below.size _, h.size, h.calm, h.good, h.defers.carry (NonC.of_old fun k hk => Below.heap_alloc w _ k hk), fun id' r' b c hfr hg => ?_, fun id1 id2 r1 r2 b c1 c2 hf1 hf2 hg1 hg2 => ?_, fun id' r' hfr => ?_, fun i x hx => ?_⟩
  · by_cases hid : id' = id
    · subst hid; rw [updG_eq] at hg; cases hg
      exact ⟨h.below.size, by simp⟩
    · rw [updG_ne _ _ hid] at hg
      simp only [find_set_ne hid] at hfr
      have := h.blk id' r' b c hfr hg
      exact ⟨this.1, by simp; omega⟩
  · by_cases h1 : id1 = id <;> by_cases h2 : id2 = id
    · rw [h1, h2]
    · subst h1
      rw [updG_eq] at hg1; cases hg1
      rw [updG_ne _ _ h2] at hg2
      simp only [find_set_ne h2] at hf2
      have := (h.blk id2 r2 _ _ hf2 hg2).2
      omega
    · subst h2
      rw [updG_eq] at hg2; cases hg2
      rw [updG_ne _ _ h1] at hg1
      simp only [find_set_ne h1] at hf1
      have := (h.blk id1 r1 _ _ hf1 hg1).2
      omega
    · rw [updG_ne _ _ h1] at hg1
      rw [updG_ne _ _ h2] at hg2
      simp only [find_set_ne h1] at hf1
      simp only [find_set_ne h2] at hf2
      exact h.inj id1 id2 r1 r2 b c1 c2 hf1 hf2 hg1 hg2
  · by_cases hid : id' = id
    · subst hid
      simp only [find_set_eq] at hfr
      cases hfr
      exact hr
    · simp only [find_set_ne hid] at hfr
      obtain ⟨_, hm⟩ := find_free_row hf hfr
      refine (h.rows id' r' hfr).carry hc (updG_ne _ _ hid) (fun b c hg => heap_alloc_old w _ (h.blk id' r' b c hfr hg).2) (NonC.of_old fun k hk => Below.heap_alloc w _ k hk) (fun id2 hid2 => ?_)
      exact keep_new r _ (fun e => by subst e; rw [hm] at hid2; cases hid2)
  · obtain ⟨v, hv, hrv⟩ := h.tmps i x hx
    have hm := find_free_tmp hf hx
    exact ⟨v, hv, hrv.carry hc fun id2 hid2 => keep_new r _ (fun e => by subst e; rw [hm] at hid2; cases hid2)⟩

/-- A frame's value over a new row. -/
theorem relV_new (h : Rel S w0 N g st a w) {id : Nat} (hf : st.free id = true) (r : ARow) (cells : Array Value) (T cap : Nat) {v : Value} {x : AV} (hm : x.ment id = false)
    (hv : RelV (Sf w0.heap.size S st.rows g) w st.rows g v x) :
    RelV (Sf w0.heap.size S ((id, r) :: st.rows) (updG g id (some (w.heap.size, cap)))) (w.alloc (.cells cells T)) ((id, r) :: st.rows) (updG g id (some (w.heap.size, cap))) v x :=
  hv.carry (safe_new h hf r cells T cap) fun id2 hid2 => keep_new r _ (fun e => by subst e; rw [hm] at hid2; cases hid2)

theorem ev_free {id : Nat} (hf : st.free id = true) (x : Operand) : (st.ev x).ment id = false := by
  cases x with
  | tmp t =>
    simp only [ASt.ev]
    split
    · rename_i y hy; exact find_free_tmp hf hy
    · unfold AV.ment; rfl
  | const v => simp only [ASt.ev, cst]; split <;> unfold AV.ment <;> rfl
  | func f => simp only [ASt.ev]; unfold AV.ment; rfl
  | global g => simp only [ASt.ev]; exact goodAV_ment g id

/-- A box of cells. -/
theorem Rel.newBox (h : Rel S w0 N g st a w) {id : Nat} (hf : st.free id = true) {cs : List AC} {cells : Array Value} (T : Nat) (hm : cs.any (·.ment id) = false)
    (hr : All2 (fun u x => u.oneCell' = true ∧ RelAC (Sf w0.heap.size S st.rows g) w st.rows g u x) cells.toList cs) :
    Rel S w0 N (updG g id (some (w.heap.size, 0))) ⟨st.tmps, (id, .box T cs) :: st.rows⟩ a (w.alloc (.cells cells T)) := by
  refine h.new hf ⟨w.heap.size, 0, cells, updG_eq _ _ _, heap_alloc_new w _, hr.mono' fun u x hx hu => ⟨hu.1, hu.2.carry (safe_new h hf _ cells T 0) fun id2 hid2 => keep_new _ _ fun e => ?_⟩⟩
  subst e
  have := List.any_eq_false.1 hm x hx
  exact this (by simp [AC.ment, hid2])

/-- A row of elements, all pure data. -/
theorem Rel.newArr (h : Rel S w0 N g st a w) {id : Nat} (hf : st.free id = true) {e sz : Nat} {xs : List (List DC)} {fl : Bool} {cells : Array Value} {cap : Nat}
    (hsz : ∀ (i : Nat) (x : List DC), xs[i]? = some x → x.length = sz) (hcap : xs.length ≤ cap) (hm : cap ≤ maxLen) (hcs : cells.size = cap * sz)
    (hr : ∀ (i j : Nat) (x : List DC) (d : DC), xs[i]? = some x → x[j]? = some d → ∃ u, cells[i * sz + j]? = some u ∧ RelC (Sf w0.heap.size S st.rows g) w u d) :
    Rel S w0 N (updG g id (some (w.heap.size, cap))) ⟨st.tmps, (id, .arr e sz xs fl) :: st.rows⟩ a (w.alloc (.cells cells e)) := by
  refine h.new hf ⟨hsz, .inr ⟨w.heap.size, cap, cells, updG_eq _ _ _, heap_alloc_new w _, hcap, hm, hcs, fun i j x d hx hd => ?_⟩⟩
  obtain ⟨u, hu, hru⟩ := hr i j x d hx hd
  exact ⟨u, hu, hru.mono (safe_new h hf _ cells e cap)⟩

/-- A row whose block is written in place: as many elements as before, or a box. -/
theorem Rel.store (h : Rel S w0 N g st a w) {id b c : Nat} {r0 r : ARow} (hf : find st.rows id = some r0) (hg : g id = some (b, c)) (hns : ∀ o, ¬ r0.safe o)
    (hlen : ∀ e sz xs fl, r0 = .arr e sz xs fl → ∃ xs' fl', r = .arr e sz xs' fl' ∧ xs'.length = xs.length) {cur : Array Value} {T : Nat}
    (hh : ∃ cur0, w.heap[b]? = some (.cells cur0 T (0, 0)))
    (hr : ∀ F' w' rows', (∀ b' o, Sf w0.heap.size S st.rows g b' o → b' < w.heap.size → F' b' o ∧ cl w' b' o = cl w b' o) →
        (∀ id', ∀ e sz xs fl, find st.rows id' = some (.arr e sz xs fl) → ∃ xs' fl', find rows' id' = some (.arr e sz xs' fl') ∧ xs'.length = xs.length) →
        w'.heap[b]? = some (.cells cur T (0, 0)) → RelRow F' w' rows' g id r) :
    Rel S w0 N g ⟨st.tmps, (id, r) :: st.rows⟩ a (w.setRow b cur) := by
  obtain ⟨cur0, hh⟩ := hh
  obtain ⟨hb1, hb2⟩ := h.blk id r0 b c hf hg
  have hother : ∀ k, k ≠ b → (w.setRow b cur).heap[k]? = w.heap[k]? := fun k hk => setRow_other w b k _ (fun e => hk e)
  have hc : ∀ b' o, Sf w0.heap.size S st.rows g b' o → b' < w.heap.size → Sf w0.heap.size S ((id, r) :: st.rows) g b' o ∧ cl (w.setRow b cur) b' o = cl w b' o := by
    refine safe_core (id := id) (b' := b) (cap := c) (r := r) find_set_eq (fun id' hid r' hr' => ?_) (fun b2 c2 hg2 => ?_) (fun id' hid => rfl) (fun b2 hb hne => hother b2 hne) hb1 (fun o hs hlt => ?_)
    · rw [find_set_ne hid] at hr'
      exact ⟨r', hr', fun _ x => x⟩
    · rw [hg] at hg2; cases hg2; rfl
    · rcases hs with ⟨h3, _⟩ | ⟨h3, h4⟩
      · omega
      · exact absurd (h4 id r0 c hf hg) (hns o)
  have hk : ∀ id', ∀ e sz xs fl, find st.rows id' = some (.arr e sz xs fl) → ∃ xs' fl', find ((id, r) :: st.rows) id' = some (.arr e sz xs' fl') ∧ xs'.length = xs.length := by
    intro id' e sz xs fl hfi
    by_cases hid : id' = id
    · subst hid
      rw [hf] at hfi
      cases hfi
      obtain ⟨xs', fl', h1, h2⟩ := hlen e sz xs fl rfl
      exact ⟨xs', fl', by rw [find_set_eq, h1], h2⟩
    · exact ⟨xs, fl, by rw [find_set_ne hid]; exact hfi, rfl⟩
  have hnc : NonC w (w.setRow b cur) := fun D o hd ho => (hother D (fun e => by subst e; rw [hh] at hd; cases hd; simp [oStill, Obj.isCells] at ho)).trans hd
  refine ⟨⟨h.below.os, h.below.tape, h.below.output, by simpa using h.below.size, fun k hk => by rw [hother k (by omega)]; exact h.below.block k hk⟩, h.size, h.calm, h.good, h.defers.carry hnc, fun id' r' b2 c2 hfr hg2 => ?_, fun id1 id2 r1 r2 b2 c1 c2 hf1 hf2 hg1 hg2 => ?_, fun id' r' hfr => ?_, fun i x hx => ?_⟩
  · have : ∃ r1, find st.rows id' = some r1 := by
      by_cases hid : id' = id
      · subst hid; exact ⟨r0, hf⟩
      · exact ⟨r', by simpa only [find_set_ne hid] using hfr⟩
    obtain ⟨r1, hr1⟩ := this
    simpa using h.blk id' r1 b2 c2 hr1 hg2
  · have old : ∀ id' r', find ((id, r) :: st.rows) id' = some r' → ∃ r1, find st.rows id' = some r1 := by
      intro id' r' hfr
      by_cases hid : id' = id
      · subst hid; exact ⟨r0, hf⟩
      · exact ⟨r', by simpa only [find_set_ne hid] using hfr⟩
    obtain ⟨q1, hq1⟩ := old id1 r1 hf1
    obtain ⟨q2, hq2⟩ := old id2 r2 hf2
    exact h.inj id1 id2 q1 q2 b2 c1 c2 hq1 hq2 hg1 hg2
  · by_cases hid : id' = id
    · subst hid
      simp only [find_set_eq] at hfr
      cases hfr
      exact hr _ _ _ hc hk (setRow_heap w b cur0 _ T _ hh)
    · simp only [find_set_ne hid] at hfr
      refine (h.rows id' r' hfr).carry hc rfl (fun b2 c2 hg2 => hother b2 fun e => ?_) hnc (fun id2 _ => ⟨rfl, hk id2⟩)
      subst e
      exact hid (h.inj id' id r' r0 _ c2 c hfr hf hg2 hg)
  · obtain ⟨v, hv, hrv⟩ := h.tmps i x hx
    exact ⟨v, hv, hrv.carry hc fun id2 _ => ⟨rfl, hk id2⟩⟩

/-- An iterator goes on. -/
theorem Rel.goOn (h : Rel S w0 N g st a w) {id b c : Nat} {str : ByteArray} {pos pos' : Nat} (hf : find st.rows id = some (.iter str pos)) (hg : g id = some (b, c)) :
    Rel S w0 N g ⟨st.tmps, (id, .iter str pos') :: st.rows⟩ a (w.putObj b (.stringIter str pos')) := by
  have hh : w.heap[b]? = some (.stringIter str pos) := by
    obtain ⟨b', c', h1, h2⟩ := h.rows id _ hf
    rw [hg] at h1; cases h1; exact h2
  have hlt := (Array.getElem?_eq_some_iff.1 hh).1
  obtain ⟨hb1, hb2⟩ := h.blk id _ b c hf hg
  have hother : ∀ k, k ≠ b → (w.putObj b (.stringIter str pos')).heap[k]? = w.heap[k]? := fun k hk => World.putObj_heap_other hk
  have hcl : ∀ b' o, cl (w.putObj b (.stringIter str pos')) b' o = cl w b' o := by
    intro b' o
    by_cases hb : b' = b
    · subst hb
      unfold cl World.cell?
      rw [World.putObj_heap_same hlt, hh]
    · exact cl_of_block (hother b' hb) o
  have hc : ∀ b' o, Sf w0.heap.size S st.rows g b' o → b' < w.heap.size → Sf w0.heap.size S ((id, .iter str pos') :: st.rows) g b' o ∧ cl (w.putObj b (.stringIter str pos')) b' o = cl w b' o := by
    intro b' o hs _
    refine ⟨?_, hcl b' o⟩
    rcases hs with hs | ⟨q1, q2⟩
    · exact .inl hs
    · refine .inr ⟨q1, fun i r c' hfi hgi => ?_⟩
      by_cases hi : i = id
      · subst hi
        rw [find_set_eq] at hfi; cases hfi
        exact (q2 i (.iter str pos) c' hf hgi).elim
      · rw [find_set_ne hi] at hfi; exact q2 i r c' hfi hgi
  have hk : ∀ id', ∀ e sz xs fl, find st.rows id' = some (.arr e sz xs fl) → ∃ xs' fl', find ((id, ARow.iter str pos') :: st.rows) id' = some (.arr e sz xs' fl') ∧ xs'.length = xs.length := by
    intro id' e sz xs fl hfi
    refine ⟨xs, fl, ?_, rfl⟩
    rw [find_set_ne]
    · exact hfi
    · intro hi; subst hi; rw [hf] at hfi; cases hfi
  have hnc : NonC w (w.putObj b (.stringIter str pos')) := fun D o hd ho => (hother D (fun e => by subst e; rw [hh] at hd; cases hd; simp [oStill, oIter] at ho)).trans hd
  have old : ∀ id' r', find ((id, ARow.iter str pos') :: st.rows) id' = some r' → ∃ r1, find st.rows id' = some r1 := by
    intro id' r' hfr
    by_cases hid : id' = id
    · subst hid; exact ⟨_, hf⟩
    · exact ⟨r', by simpa only [find_set_ne hid] using hfr⟩
  refine ⟨⟨h.below.os, h.below.tape, h.below.output, by simpa using h.below.size, fun k hk => by rw [hother k (by omega)]; exact h.below.block k hk⟩, h.size, h.calm, h.good, h.defers.carry hnc, fun id' r' b2 c2 hfr hg2 => ?_, fun id1 id2 r1 r2 b2 c1 c2 hf1 hf2 hg1 hg2 => ?_, fun id' r' hfr => ?_, fun i x hx => ?_⟩
  · obtain ⟨r1, hr1⟩ := old id' r' hfr
    simpa using h.blk id' r1 b2 c2 hr1 hg2
  · obtain ⟨q1, hq1⟩ := old id1 r1 hf1
    obtain ⟨q2, hq2⟩ := old id2 r2 hf2
    exact h.inj id1 id2 q1 q2 b2 c1 c2 hq1 hq2 hg1 hg2
  · by_cases hid : id' = id
    · subst hid
      simp only [find_set_eq] at hfr
      cases hfr
      exact ⟨b, c, hg, World.putObj_heap_same hlt⟩
    · simp only [find_set_ne hid] at hfr
      refine (h.rows id' r' hfr).carry hc rfl (fun b2 c2 hg2 => hother b2 fun e => ?_) hnc (fun id2 _ => ⟨rfl, hk id2⟩)
      subst e
      exact hid (h.inj id' id r' _ _ c2 c hfr hf hg2 hg)
  · obtain ⟨v, hv, hrv⟩ := h.tmps i x hx
    exact ⟨v, hv, hrv.carry hc fun id2 _ => ⟨rfl, hk id2⟩⟩

end
end Go.Abs
