/-
  The abstract steps are sound, part five: append, and a store.
-/
import Derived.Test.YtldgcpdpebhndaaDoorAbsF
set_option linter.unusedSimpArgs false
set_option linter.unusedVariables false
namespace Go.Abs
open Go.RowKit

section
variable {S : Nat → Nat → Prop} {w0 : World} {N : Fm} {g : Gh} {st : ASt} {a : Act} {w : World}

theorem idx_lt {n sz i j : Nat} (hi : i < n) (hj : j < sz) : i * sz + j < n * sz := by
  have : (i + 1) * sz ≤ n * sz := Nat.mul_le_mul_right _ hi
  rw [Nat.add_mul, Nat.one_mul] at this
  omega

theorem idx_div {sz i j : Nat} (hj : j < sz) : (i * sz + j) / sz = i ∧ (i * sz + j) % sz = j := by
  have h0 : 0 < sz := by omega
  constructor
  · rw [Nat.mul_comm, Nat.mul_add_div h0, Nat.div_eq_of_lt hj, Nat.add_zero]
  · rw [Nat.mul_comm, Nat.mul_add_mod, Nat.mod_eq_of_lt hj]

/-- What these values are, element by element. -/
def Elems (F : Nat → Nat → Prop) (w : World) (sz : Nat) (vs : List Value) (ys : List (List DC)) : Prop :=
  ∀ (i j : Nat) (x : List DC) (d : DC), ys[i]? = some x → x[j]? = some d → ∃ u, vs[i * sz + j]? = some u ∧ RelC F w u d

theorem src_nil (P : Program) (size : Nat) (w : World) (ad : Option Addr) (c : Nat) : Src P size 0 w (.slice ad 0 c) [] := by
  refine ⟨rfl, fun w' _ => ?_, by simp, by simp⟩
  cases ad <;> simp [Builtin.firstCells, loadCells, loadCellsFrom]

theorem src_cells {P : Program} {sz m b o c : Nat} (hsz : 0 < sz) (us : Nat → Nat → Value) (hone : ∀ i j, i < m → j < sz → (us i j).oneCell' = true)
    (hc : ∀ i j, i < m → j < sz → cl w b (o + i * sz + j) = some (us i j)) :
    Src P sz m w (.slice (some ⟨b, o, none⟩) m c) ((List.range (m * sz)).map fun k => us (k / sz) (k % sz)) := by
  have key : ∀ k, k < m * sz → k / sz < m ∧ k % sz < sz ∧ k / sz * sz + k % sz = k := fun k hk =>
    ⟨(Nat.div_lt_iff_lt_mul hsz).2 hk, Nat.mod_lt _ hsz, by rw [Nat.mul_comm]; exact Nat.div_add_mod k sz⟩
  refine ⟨rfl, fun w' hw' => ?_, by simp, fun u hu => ?_⟩
  · have := run_loadCells (P := P) w' ⟨b, o, none⟩ (m * sz) (fun k => us (k / sz) (k % sz)) (fun k hk => by
      obtain ⟨h1, h2, h3⟩ := key k hk
      rw [Addr.add_lit]
      have := hc (k / sz) (k % sz) h1 h2
      rw [Nat.add_assoc, h3] at this
      rw [← this]
      exact cl_of_block (by rw [hw']) _)
    simp [Builtin.firstCells, this]
  · obtain ⟨k, hk, rfl⟩ := List.mem_map.1 hu
    obtain ⟨h1, h2, _⟩ := key k (List.mem_range.1 hk)
    exact hone _ _ h1 h2

theorem elems_cells {F : Nat → Nat → Prop} {sz : Nat} (us : Nat → Nat → Value) (ys : List (List DC)) (hlen : ∀ (i : Nat) (x : List DC), ys[i]? = some x → x.length = sz)
    (hr : ∀ (i j : Nat) (x : List DC) (d : DC), ys[i]? = some x → x[j]? = some d → RelC F w (us i j) d) :
    Elems F w sz ((List.range (ys.length * sz)).map fun k => us (k / sz) (k % sz)) ys := by
  intro i j x d hx hd
  have hi := (List.getElem?_eq_some_iff.1 hx).1
  have hj := (List.getElem?_eq_some_iff.1 hd).1
  rw [hlen i x hx] at hj
  have hlt := idx_lt hi hj
  obtain ⟨e1, e2⟩ := idx_div (i := i) hj
  refine ⟨us i j, ?_, hr i j x d hx hd⟩
  rw [List.getElem?_map, List.getElem?_range hlt]
  simp [e1, e2]

theorem src_sl (P : Program) {F : Nat → Nat → Prop} {v : Value} {ys : List (List DC)} (hr : RelC F w v (.sl ys)) {sz : Nat} (hsz : 0 < sz) (hlen : ∀ y, y ∈ ys → y.length = sz) :
    ∃ news, Src P sz ys.length w v news ∧ Elems F w sz news ys := by
  cases hr with
  | emp ad c => exact ⟨[], src_nil P sz w ad c, fun i j x d hx => by simp at hx⟩
  | sl b o c sz' xs us hc hm hs hS hrr =>
    have hl : ∀ (i : Nat) (x : List DC), ys[i]? = some x → x.length = sz := fun i x hx => hlen x (List.mem_of_getElem? hx)
    have get : ∀ i j, i < ys.length → j < sz → ∃ x d, ys[i]? = some x ∧ x[j]? = some d ∧ sz' = sz := by
      intro i j hi hj
      have hx := List.getElem?_eq_getElem hi
      have hj' : j < (ys[i]).length := by rw [hl i _ hx]; exact hj
      exact ⟨_, _, hx, List.getElem?_eq_getElem hj', by rw [← hs i _ hx, hl i _ hx]⟩
    refine ⟨_, src_cells hsz us (fun i j hi hj => ?_) (fun i j hi hj => ?_), elems_cells us ys hl hrr⟩
    · obtain ⟨x, d, h1, h2, _⟩ := get i j hi hj
      exact (hrr i j x d h1 h2).one
    · obtain ⟨x, d, h1, h2, rfl⟩ := get i j hi hj
      exact (hS i j x d h1 h2).2

theorem src_row (P : Program) (h : Rel S w0 N g st a w) {id e sz : Nat} {ys : List (List DC)} {fl : Bool} (hf : find st.rows id = some (.arr e sz ys fl)) (hsz : 0 < sz) :
    ∃ news, Src P sz ys.length w (gsl (g id) ys.length) news ∧ Elems (Sf w0.heap.size S st.rows g) w sz news ys := by
  obtain ⟨hl, hrow⟩ := h.rows id _ hf
  rcases hrow with ⟨hg, rfl⟩ | ⟨b, cap, cur, hg, hh, hcap, hm, hcs, hcells⟩
  · rw [hg]; exact ⟨[], src_nil P sz w none 0, fun i j x d hx => by simp at hx⟩
  · rw [hg]
    have get : ∀ i j, i < ys.length → j < sz → ∃ x d u, ys[i]? = some x ∧ x[j]? = some d ∧ cur[i * sz + j]? = some u ∧ RelC (Sf w0.heap.size S st.rows g) w u d := by
      intro i j hi hj
      have hx := List.getElem?_eq_getElem hi
      have hj' : j < (ys[i]).length := by rw [hl i _ hx]; exact hj
      obtain ⟨u, hu, hr⟩ := hcells i j _ _ hx (List.getElem?_eq_getElem hj')
      exact ⟨_, _, u, hx, List.getElem?_eq_getElem hj', hu, hr⟩
    refine ⟨_, src_cells (o := 0) hsz (fun i j => (cur[i * sz + j]?).getD undef) (fun i j hi hj => ?_) (fun i j hi hj => ?_), elems_cells (fun i j => (cur[i * sz + j]?).getD undef) ys hl (fun i j x d hx hd => ?_)⟩
    · obtain ⟨x, d, u, _, _, hu, hr⟩ := get i j hi hj
      simp only [hu, Option.getD_some]; exact hr.one
    · obtain ⟨x, d, u, _, _, hu, hr⟩ := get i j hi hj
      rw [Nat.zero_add, cl_row hh]; simp [hu]
    · obtain ⟨u, hu, hr⟩ := hcells i j x d hx hd
      simp only [hu, Option.getD_some]; exact hr

theorem take_get {α : Type} (l : List α) (n k : Nat) (h : k < n) : (l.take n)[k]? = l[k]? := by
  rw [List.getElem?_take, if_pos h]

/-- The elements of a row that has grown. -/
theorem elems_app {F : Nat → Nat → Prop} {sz : Nat} {olds news : List Value} {xs ys : List (List DC)} (ho : olds.length = xs.length * sz) (hlx : ∀ (i : Nat) (x : List DC), xs[i]? = some x → x.length = sz) (hly : ∀ (i : Nat) (x : List DC), ys[i]? = some x → x.length = sz)
    (h1 : Elems F w sz olds xs) (h2 : Elems F w sz news ys) (rest : List Value) : Elems F w sz (olds ++ news ++ rest) (xs ++ ys) := by
  intro i j x d hx hd
  by_cases hi : i < xs.length
  · rw [List.getElem?_append_left hi] at hx
    obtain ⟨u, hu, hr⟩ := h1 i j x d hx hd
    refine ⟨u, ?_, hr⟩
    have := (List.getElem?_eq_some_iff.1 hu).1
    rw [List.append_assoc, List.getElem?_append_left this]; exact hu
  · rw [List.getElem?_append_right (by omega)] at hx
    obtain ⟨u, hu, hr⟩ := h2 (i - xs.length) j x d hx hd
    refine ⟨u, ?_, hr⟩
    have := (List.getElem?_eq_some_iff.1 hu).1
    have e : i * sz + j = olds.length + ((i - xs.length) * sz + j) := by
      rw [ho, ← Nat.add_assoc, ← Nat.add_mul]; congr 2; omega
    rw [List.append_assoc, e, List.getElem?_append_right (by omega), Nat.add_sub_cancel_left, List.getElem?_append_left this]
    exact hu

/-- Append: row id, to which nothing leads, gets the elements ys. -/
theorem Rel.app {P : Program} (h : Rel S w0 N g st a w) {id : Nat} (hm : st.nomen id) {t tx ty e sz : Nat} {i : TypeInfo} {z : Value} (ht : P.underlying t = some (.slice e)) {dx : TypeDesc} (htx : P.underlying tx = some dx)
    (hdx : (∃ e2, dx = .slice e2) ∨ dx = .string) (hi : P.info? e = some i) (hz : i.zero = some z) (hsz : i.size = sz) (hzl : z.cells.size = sz) (hpos : 0 < sz)
    {v x : Value} {xs ys : List (List DC)} {fl : Bool} {news : List Value}
    (hv : (v = .slice none 0 0 ∧ xs = []) ∨ ∃ b cap, v = .slice (some ⟨b, 0, none⟩) xs.length cap ∧ g id = some (b, cap) ∧ find st.rows id = some (.arr e sz xs fl))
    (hs : Src P sz ys.length w x news) (hel : Elems (Sf w0.heap.size S st.rows g) w sz news ys) (hly : ∀ y, y ∈ ys → y.length = sz)
    (hb1 : xs.length + ys.length ≤ 1099511627776) (hb2 : i.bytes ≤ 128) :
    ∃ v' w' g', (Builtin.append_ #[t, tx] ty #[v, x]).run P w = .ok v' w' ∧ v' = gsl (g' id) (xs ++ ys).length ∧ Rel S w0 N g' ⟨st.tmps, (id, .arr e sz (xs ++ ys) fl) :: st.rows⟩ a w' := by
  subst hsz
  have hly' : ∀ (i' : Nat) (x : List DC), ys[i']? = some x → x.length = i.size := fun i' x hx => hly x (List.mem_of_getElem? hx)
  have hfit : ∀ cap, cap < xs.length + ys.length → Builtin.nextslicecap (xs.length + ys.length) cap * i.bytes ≤ 281474976710656 := by
    intro cap hc
    refine growslice_fits hc ?_
    have := Nat.mul_le_mul hb1 hb2
    omega
  have h63 : ((xs.length + ys.length : Nat) : Int) ≤ 9223372036854775807 := by omega
  -- the row that is made anew
  have grow : ∀ (base : Option Addr) (cap : Nat) (olds : List Value), v = .slice base xs.length cap → (∀ w', w'.heap = w.heap → (Builtin.firstCells i.size xs.length (.slice base xs.length cap)).run P w' = .ok olds.toArray w') →
      cap < xs.length + ys.length → olds.length = xs.length * i.size → (∀ (i' : Nat) (x : List DC), xs[i']? = some x → x.length = i.size) → Elems (Sf w0.heap.size S st.rows g) w i.size olds xs →
      ∃ v' w' g', (Builtin.append_ #[t, tx] ty #[v, x]).run P w = .ok v' w' ∧ v' = gsl (g' id) (xs ++ ys).length ∧ Rel S w0 N g' ⟨st.tmps, (id, .arr e i.size (xs ++ ys) fl) :: st.rows⟩ a w' := by
    intro base cap olds hvv hold hc hol hlx helo
    have hrun := run_app_grow (P := P) t tx ty e i z ht htx hdx hi hz hs base xs.length cap olds hold hc h63 (hfit cap hc)
    have hge := grownCap_ge w (xs.length + ys.length) cap e
    have hle : grownCap w (xs.length + ys.length) cap e ≤ maxLen := grownCap_le_maxLen w _ _ _ (by unfold maxLen; omega)
    refine ⟨_, _, updG g id (some (w.heap.size, grownCap w (xs.length + ys.length) cap e)), by rw [hvv]; exact hrun, by rw [updG_eq]; simp [gsl], ?_⟩
    refine Rel.renew (h.heap (w' := w.drew) rfl rfl rfl rfl) hm rfl rfl rfl (by simp) (fun b hb _ => heap_alloc_old w.drew _ hb) (fun b c he => ?_) (fun b c o he hs' hlt => ?_) (fun hc' => ?_)
    · cases he
      exact ⟨h.below.size, by simp, .inr (by simp)⟩
    · cases he; simp at hlt
    · refine ⟨fun i' x hx => ?_, .inr ⟨w.heap.size, _, _, updG_eq _ _ _, heap_alloc_new w.drew _, by simpa using hge, hle, ?_, fun i' j x d hx hd => ?_⟩⟩
      · rcases List.getElem?_append.symm.trans hx |> fun _ => List.mem_append.1 (List.mem_of_getElem? hx) with hmem | hmem
        · obtain ⟨k, hk⟩ := List.mem_iff_getElem?.1 hmem
          exact hlx k x hk
        · exact hly x hmem
      · simp only [Array.size_append, List.size_toArray, size_zeroCells, hzl, hol, hs.size, ← Nat.add_mul]
        congr 1; omega
      · obtain ⟨u, hu, hr⟩ := elems_app (rest := (Builtin.zeroCells z.cells (grownCap w (xs.length + ys.length) cap e - (xs.length + ys.length))).toList) hol hlx hly' helo hel i' j x d hx hd
        refine ⟨u, ?_, RelC.mono (w := w) (fun b o hb hlt => hc' b o hb hlt) hr⟩
        rw [← Array.getElem?_toList]
        simpa [Array.toList_append, List.append_assoc] using hu
  rcases hv with ⟨hv, hxs⟩ | ⟨b, cap, hv, hg, hf⟩
  · subst hxs
    by_cases hys : ys = []
    · subst hys
      have hnews : news = [] := List.eq_nil_of_length_eq_zero (by simpa using hs.size)
      refine ⟨.slice none 0 0, w, updG g id none, ?_, by rw [updG_eq]; rfl, ?_⟩
      · have := hs.cells w rfl
        have hl := hs.len
        simp only [List.length_nil] at this hl
        rcases hdx with ⟨e2, rfl⟩ | rfl <;> simp [Builtin.append_, run_underlying ht, run_underlying htx, sizeOf, typeInfo, hi, hv, hl, this]
      · refine h.renew hm rfl rfl rfl (Nat.le_refl _) (fun b _ _ => rfl) (fun b c he => by cases he) (fun b c o he => by cases he) (fun hc' => ⟨fun i' x hx => by simp at hx, .inl ⟨updG_eq _ _ _, rfl⟩⟩)
    · have hpos' : 0 < ys.length := List.length_pos_iff.2 hys
      exact grow none 0 [] hv (fun w' _ => by simp [Builtin.firstCells]) (by simpa using hpos') (by simp) (fun i' x hx => by simp at hx) (fun i' j x d hx => by simp at hx)
  · obtain ⟨hlx, hrow⟩ := h.rows id _ hf
    rcases hrow with ⟨hg', _⟩ | ⟨b', cap', cur, hg', hh, hcap, hm', hcs, hcells⟩
    · rw [hg'] at hg; cases hg
    · rw [hg'] at hg
      cases hg
      have hol : (cur.toList.take (xs.length * i.size)).length = xs.length * i.size := by
        have hcl : cur.toList.length = cap * i.size := by simpa using hcs
        rw [List.length_take, hcl]
        exact Nat.min_eq_left (Nat.mul_le_mul_right _ hcap)
      have helo : Elems (Sf w0.heap.size S st.rows g) w i.size (cur.toList.take (xs.length * i.size)) xs := by
        intro i' j x d hx hd
        obtain ⟨u, hu, hr⟩ := hcells i' j x d hx hd
        have hi' := (List.getElem?_eq_some_iff.1 hx).1
        have hj := (List.getElem?_eq_some_iff.1 hd).1
        rw [hlx i' x hx] at hj
        exact ⟨u, by rw [take_get _ _ _ (idx_lt hi' hj)]; simpa using hu, hr⟩
      by_cases hroom : xs.length + ys.length ≤ cap
      · have hfit' : xs.length * i.size + news.length ≤ cur.size := by rw [hs.size, hcs, ← Nat.add_mul]; exact Nat.mul_le_mul_right _ hroom
        have hrun := run_app_room (P := P) t tx ty e i ht htx hdx hi hs b xs.length cap cur hh hroom hfit'
        obtain ⟨hb3, hb4⟩ := h.blk id _ b cap hf hg'
        refine ⟨_, _, updG g id (some (b, cap)), by rw [hv]; exact hrun, by rw [updG_eq]; simp [gsl], ?_⟩
        refine Rel.renew h hm rfl rfl rfl (by simp) (fun k hk hne => setRow_other w b k _ (fun he => hne cap (by rw [he]))) (fun k c he => ?_) (fun k c o he hs' hlt => ?_) (fun hc' => ?_)
        · cases he
          exact ⟨hb3, by simpa using hb4, .inl ⟨_, _, hf, hg', rfl⟩⟩
        · cases he
          rcases hs' with ⟨h5, _⟩ | ⟨_, h6⟩
          · omega
          · obtain ⟨h7, h8⟩ := h6 id _ _ hf hg'
            refine ⟨⟨h7, ?_⟩, ?_⟩
            · rw [List.length_append, Nat.add_mul]; omega
            · rw [cl_row (setRow_heap w b cur _ e _ hh), cl_row hh]
              simp only [List.getElem?_toArray, List.append_assoc]
              rw [List.getElem?_append_left (by rw [hol]; exact h8), take_get _ _ _ h8]
              simp
        · refine ⟨fun i' x hx => ?_, .inr ⟨b, cap, _, updG_eq _ _ _, setRow_heap w b cur _ e _ hh, by simpa using hroom, hm', ?_, fun i' j x d hx hd => ?_⟩⟩
          · rcases List.mem_append.1 (List.mem_of_getElem? hx) with hmem | hmem
            · obtain ⟨k, hk⟩ := List.mem_iff_getElem?.1 hmem
              exact hlx k x hk
            · exact hly x hmem
          · simp only [List.size_toArray, List.length_append, hol, List.length_drop, Array.length_toList]
            omega
          · obtain ⟨u, hu, hr⟩ := elems_app (rest := cur.toList.drop (xs.length * i.size + news.length)) hol hlx hly' helo hel i' j x d hx hd
            exact ⟨u, by simpa using hu, hr.mono hc'⟩
      · refine grow (some ⟨b, 0, none⟩) cap _ hv (fun w' hw' => ?_) (by omega) hol hlx helo
        have := run_firstCells_some (P := P) w' i.size xs.length ⟨b, 0, none⟩ xs.length cap (cur.toList.take (xs.length * i.size)) hol (fun j u hu => by
          rw [Addr.add_lit, Nat.zero_add]
          have : w'.heap[b]? = some (.cells cur e (0, 0)) := by rw [hw']; exact hh
          rw [cell_of_row w' b j cur e (0, 0) this]
          rw [List.getElem?_take] at hu
          split at hu
          · simpa using hu
          · cases hu)
        exact this

/-- Appending onto an empty slice without room. -/
theorem Rel.appE {P : Program} (h : Rel S w0 N g st a w) {id : Nat} (hm : st.nomen id) {t tx ty e sz : Nat} {i : TypeInfo} {z : Value} (ht : P.underlying t = some (.slice e)) {dx : TypeDesc} (htx : P.underlying tx = some dx)
    (hdx : (∃ e2, dx = .slice e2) ∨ dx = .string) (hi : P.info? e = some i) (hz : i.zero = some z) (hsz : i.size = sz) (hzl : z.cells.size = sz) (hpos : 0 < sz)
    {x : Value} {ys : List (List DC)} {fl : Bool} {news : List Value} (p : Option Addr)
    (hs : Src P sz ys.length w x news) (hel : Elems (Sf w0.heap.size S st.rows g) w sz news ys) (hly : ∀ y, y ∈ ys → y.length = sz)
    (hb1 : ys.length ≤ 1099511627776) (hb2 : i.bytes ≤ 128) :
    ∃ v' w' g', (Builtin.append_ #[t, tx] ty #[.slice p 0 0, x]).run P w = .ok v' w' ∧ ((ys = [] ∧ v' = .slice p 0 0) ∨ v' = gsl (g' id) ys.length) ∧ Rel S w0 N g' ⟨st.tmps, (id, .arr e sz ys fl) :: st.rows⟩ a w' := by
  obtain ⟨v', w', g', h6, h7, h8⟩ := h.app (P := P) (ty := ty) (fl := fl) (v := .slice none 0 0) (xs := []) hm ht htx hdx hi hz hsz hzl hpos (.inl ⟨rfl, rfl⟩) hs hel hly (by simpa using hb1) hb2
  subst hsz
  by_cases hys : ys = []
  · subst hys
    have hnews : news = [] := List.eq_nil_of_length_eq_zero (by simpa using hs.size)
    have hcl := hs.cells w rfl
    have hl := hs.len
    simp only [List.length_nil] at hcl hl
    have e1 : (Builtin.append_ #[t, tx] ty #[.slice none 0 0, x]).run P w = .ok (.slice none 0 0) w := by
      rcases hdx with ⟨e2, rfl⟩ | rfl <;> simp [Builtin.append_, run_underlying ht, run_underlying htx, sizeOf, typeInfo, hi, hl, hcl]
    have e2 : (Builtin.append_ #[t, tx] ty #[.slice p 0 0, x]).run P w = .ok (.slice p 0 0) w := by
      cases p <;> rcases hdx with ⟨e2, rfl⟩ | rfl <;> simp [Builtin.append_, run_underlying ht, run_underlying htx, sizeOf, typeInfo, hi, hl, hcl, hnews, storeCells]
    rw [e1] at h6
    cases h6
    exact ⟨_, _, g', e2, .inl ⟨rfl, rfl⟩, by simpa using h8⟩
  · have hpos' : 0 < ys.length := List.length_pos_iff.2 hys
    have hfit : Builtin.nextslicecap (0 + ys.length) 0 * i.bytes ≤ 281474976710656 := by
      refine growslice_fits (by omega) ?_
      have := Nat.mul_le_mul hb1 hb2
      rw [Nat.zero_add]
      omega
    have h63 : ((0 + ys.length : Nat) : Int) ≤ 9223372036854775807 := by omega
    have r1 := run_app_grow (P := P) t tx ty e i z ht htx hdx hi hz hs p 0 0 [] (fun w' _ => by cases p <;> simp [Builtin.firstCells, loadCells, loadCellsFrom]) (by omega) h63 hfit
    have r2 := run_app_grow (P := P) t tx ty e i z ht htx hdx hi hz hs none 0 0 [] (fun w' _ => by simp [Builtin.firstCells]) (by omega) h63 hfit
    exact ⟨v', w', g', by rw [r1, ← r2]; exact h6, .inr (by simpa using h7), by simpa using h8⟩

end
end Go.Abs

set_option linter.unusedSimpArgs false
set_option linter.unusedVariables false
namespace Go.Abs
open Go.RowKit

def spliceD (cs : List DC) (off : Nat) (xs : List DC) : List DC := cs.take off ++ xs ++ cs.drop (off + xs.length)

def storeF (T : Tab) (t : Nat) (s : ASt) (v : AV) : AV → Option (Prop × ASt)
  | .c (.ptr id off) => match T t, find s.rows id, v.cells with
    | some ti, some (.box T cs), some xs => some (xs.length = ti.size ∧ off + xs.length ≤ cs.length, ⟨s.tmps, (id, .box T (splice cs off xs)) :: s.rows⟩)
    | _, _, _ => none
  | .c (.eptr id i off) => match T t, find s.rows id, v.cells with
    | some ti, some (.arr e sz xs fl), some cs => match xs[i]?, dcsOf false s.rows cs with
      | some x, some ys => some (ys.length = ti.size ∧ off + ys.length ≤ x.length ∧ fl = false, ⟨s.tmps, (id, .arr e sz (xs.set i (spliceD x off ys)) fl) :: s.rows⟩)
      | _, _ => none
    | _, _, _ => none
  | _ => none

section
variable {S : Nat → Nat → Prop} {w0 : World} {N : Fm} {g : Gh} {st : ASt} {a : Act} {w : World}

theorem cells_sound {F : Nat → Nat → Prop} {rows : List (Nat × ARow)} {v : Value} {x : AV} {xs : List AC} (h : RelV F w rows g v x) (hx : x.cells = some xs) :
    All2 (fun u y => u.oneCell' = true ∧ RelAC F w rows g u y) v.cells.toList xs := by
  cases x with
  | c y =>
    unfold RelV at h
    cases hx
    have : v.cells = #[v] := by
      cases v <;> first | rfl | (have := h.1; simp [Value.oneCell'] at this)
    rw [this]
    exact .cons h .nil
  | agg ys =>
    unfold RelV at h
    cases hx
    obtain ⟨cs, rfl, h2⟩ := h
    exact h2
  | tup _ => cases hx
  | any => cases hx
  | emp => cases hx

theorem splice_all2 {α β : Type} {R : α → β → Prop} {l : List α} {m : List β} {us : List α} {xs : List β} (h : All2 R l m) (h2 : All2 R us xs) (off : Nat) :
    All2 R (l.take off ++ us ++ l.drop (off + us.length)) (m.take off ++ xs ++ m.drop (off + xs.length)) := by
  rw [h2.len]
  exact ((h.take off).app h2).app (h.drop _)

theorem store_sound {P : Program} {T : Tab} (hT : TabOk P T) (h : Rel S w0 N g st a w) (t : Nat) (x y : Operand) {c : Prop} {st' : ASt} (hv : storeF T t st (st.ev y) (st.ev x) = some (c, st')) (hc : c) :
    ∃ w', (Instr.storeAt t (a.eval x) (a.eval y)).run P w = .ok () w' ∧ Rel S w0 N g st' a w' := by
  have hx := h.ev x
  have hy := h.ev y
  unfold storeF at hv
  split at hv
  · rename_i id off he
    rw [he] at hx
    unfold RelV at hx
    obtain ⟨_, b, cc, hg, hu⟩ := hx
    split at hv
    · rename_i ti T' cs xs ht hf hcs
      cases hv
      obtain ⟨hl1, hl2⟩ := hc
      have hys := cells_sound hy hcs
      obtain ⟨i, z, hi, hs, _, _, _⟩ := (hT t ti ht).info'
      obtain ⟨b', c', cur, h1, hh, hsize, _, hall⟩ := h.box hf
      rw [h1] at hg; cases hg
      have hlen := hys.len
      have hst := run_storeCells_at P b off T' (a.eval y).cells.toList 0 cur w hh (by rw [hlen, hsize]; omega) (fun v hv => by
        obtain ⟨k, hk⟩ := List.mem_iff_getElem?.1 hv
        obtain ⟨z, _, hz, _⟩ := hys.get' hk
        exact hz)
      simp only [Nat.add_zero] at hst
      have hcsz : (a.eval y).cells.size = ti.size := by rw [← Array.length_toList, hlen, hl1]
      refine ⟨_, ?_, h.store (r := .box T' (splice cs off xs)) (cur := (cur.toList.take off ++ (a.eval y).cells.toList ++ cur.toList.drop (off + (a.eval y).cells.toList.length)).toArray) hf h1 (fun o hso => hso) (fun e sz xs fl he => by cases he) ⟨cur, hh⟩ (fun F' w' rows' hF hk hw' => ?_)⟩
      · simp [Instr.storeAt, hu, Instr.sureAddr, storeVar, sizeOf, typeInfo, hi, hs, hcsz, hst]
      · refine ⟨b, _, _, h1, hw', ?_⟩
        exact (splice_all2 hall hys off).mono fun u z hu => ⟨hu.1, hu.2.carry hF fun id' _ => ⟨rfl, hk id'⟩⟩
    · cases hv
  · rename_i id k off he
    rw [he] at hx
    unfold RelV at hx
    obtain ⟨_, b, cc, e, sz, xs, fl, hg, hf, hu⟩ := hx
    split at hv
    · rename_i ti e2 sz2 xs2 fl2 cs ht hf2 hcs
      rw [hf] at hf2
      cases hf2
      split at hv
      · rename_i el ys hel hys
        cases hv
        obtain ⟨hl1, hl2, hfl⟩ := hc
        subst hfl
        have hcy := cells_sound hy hcs
        have hdy := dcs_sound h hcy hys
        obtain ⟨i, z, hi, hs, _, _, _⟩ := (hT t ti ht).info'
        obtain ⟨hlx, hrow⟩ := h.rows id _ hf
        rcases hrow with ⟨hgn, _⟩ | ⟨b', cap, cur, hg', hh, hcap, hm, hcsz, hcells⟩
        · rw [hgn] at hg; cases hg
        · rw [hg'] at hg
          cases hg
          have hk := (List.getElem?_eq_some_iff.1 hel).1
          have hlen := hdy.len
          have hsz := hlx k el hel
          have hbound : k * sz + off + ys.length ≤ cur.size := by
            rw [hcsz]
            have : (k + 1) * sz ≤ cc * sz := Nat.mul_le_mul_right _ (by omega)
            rw [Nat.add_mul, Nat.one_mul] at this
            omega
          have hst := run_storeCells_at P b (k * sz + off) e (a.eval y).cells.toList 0 cur w hh (by rw [hlen]; omega) (fun v hv => by
            obtain ⟨j, hj⟩ := List.mem_iff_getElem?.1 hv
            obtain ⟨z, _, hz⟩ := hdy.get' hj
            exact hz.one)
          simp only [Nat.add_zero] at hst
          have hcsz' : (a.eval y).cells.size = ti.size := by rw [← Array.length_toList, hlen, hl1]
          have hF0 : ∀ b o, (false = true ∨ Sf w0.heap.size S st.rows g b o) → Sf w0.heap.size S st.rows g b o := fun b o hb => by simpa using hb
          refine ⟨_, ?_, h.store (r := .arr e sz (xs.set k (spliceD el off ys)) false) (cur := (cur.toList.take (k * sz + off) ++ (a.eval y).cells.toList ++ cur.toList.drop (k * sz + off + (a.eval y).cells.toList.length)).toArray) hf hg' (fun o hso => by simp [ARow.safe] at hso) (fun e' sz' xs' fl' he => by cases he; exact ⟨_, _, rfl, by simp⟩) ⟨cur, hh⟩ (fun F' w' rows' hF hkk hw' => ?_)⟩
          · simp [Instr.storeAt, hu, Instr.sureAddr, storeVar, sizeOf, typeInfo, hi, hs, hcsz', hst]
          · have hspl : (spliceD el off ys).length = sz := by
              simp only [spliceD, List.length_append, List.length_take, List.length_drop]
              omega
            refine ⟨fun i' x hx => ?_, .inr ⟨b, cc, _, hg', hw', by simpa using hcap, hm, ?_, fun i' j x d hx hd => ?_⟩⟩
            · rw [List.getElem?_set] at hx
              split at hx
              · cases hx; exact hspl
              · exact hlx i' x hx
            · rw [← hcsz]
              simp only [List.size_toArray, List.length_append, List.length_take, List.length_drop, Array.length_toList]
              have : (a.eval y).cells.size = ys.length := by rw [hcsz', hl1]
              omega
            · simp only [List.getElem?_toArray]
              have hcl : (a.eval y).cells.toList.length = ys.length := hlen
              have htk : (cur.toList.take (k * sz + off)).length = k * sz + off := by
                rw [List.length_take, Array.length_toList]; omega
              rw [List.getElem?_set] at hx
              split at hx
              · rename_i hki
                subst hki
                · cases hx
                  simp only [spliceD] at hd
                  by_cases hj1 : j < off
                  · have hlt : j < (el.take off).length := by rw [List.length_take]; omega
                    rw [List.append_assoc, List.getElem?_append_left hlt, take_get _ _ _ hj1] at hd
                    obtain ⟨u, hu1, hu2⟩ := hcells k j el d hel hd
                    refine ⟨u, ?_, hu2.mono hF⟩
                    rw [List.append_assoc, List.getElem?_append_left (by rw [htk]; omega), take_get _ _ _ (by omega)]
                    simpa using hu1
                  · have hlo : (el.take off).length = off := by rw [List.length_take]; omega
                    by_cases hj2 : j < off + ys.length
                    · rw [List.append_assoc, List.getElem?_append_right (by omega), hlo, List.getElem?_append_left (by omega)] at hd
                      obtain ⟨u, hu1, hu2⟩ := hdy.get hd
                      refine ⟨u, ?_, (hu2.sub hF0).mono hF⟩
                      rw [List.append_assoc, List.getElem?_append_right (by rw [htk]; omega), htk, List.getElem?_append_left (by omega)]
                      rw [← hu1]; congr 1; omega
                    · rw [List.append_assoc, List.getElem?_append_right (by omega), hlo, List.getElem?_append_right (by omega), List.getElem?_drop] at hd
                      have hjj : off + ys.length + (j - off - ys.length) = j := by omega
                      rw [hjj] at hd
                      obtain ⟨u, hu1, hu2⟩ := hcells k j el d hel hd
                      refine ⟨u, ?_, hu2.mono hF⟩
                      rw [List.append_assoc, List.getElem?_append_right (by rw [htk]; omega), htk, List.getElem?_append_right (by omega), List.getElem?_drop, hcl]
                      have : k * sz + off + ys.length + (k * sz + j - (k * sz + off) - ys.length) = k * sz + j := by omega
                      rw [this]; simpa using hu1
              · rename_i hki
                obtain ⟨u, hu1, hu2⟩ := hcells i' j x d hx hd
                refine ⟨u, ?_, hu2.mono hF⟩
                have hj := (List.getElem?_eq_some_iff.1 hd).1
                rw [hlx i' x hx] at hj
                by_cases hlt : i' < k
                · have := idx_lt hlt hj
                  rw [List.append_assoc, List.getElem?_append_left (by rw [htk]; omega), take_get _ _ _ (by omega)]
                  simpa using hu1
                · have hgt : k < i' := by omega
                  have : (k + 1) * sz ≤ i' * sz := Nat.mul_le_mul_right _ hgt
                  rw [Nat.add_mul, Nat.one_mul] at this
                  rw [List.append_assoc, List.getElem?_append_right (by rw [htk]; omega), htk, List.getElem?_append_right (by omega), List.getElem?_drop, hcl]
                  have : k * sz + off + ys.length + (i' * sz + j - (k * sz + off) - ys.length) = i' * sz + j := by omega
                  rw [this]; simpa using hu1
      · cases hv
    · cases hv
  · cases hv

theorem zac_sound (F : Nat → Nat → Prop) (w : World) (rows : List (Nat × ARow)) (g : Gh) (v : Value) (hv : v.oneCell' = true) : RelAC F w rows g v (zac v) := by
  unfold zac
  split
  · rfl
  · exact .sc _ hv
theorem zac_ment (v : Value) (id : Nat) : (zac v).ment id = false := by
  unfold zac; split <;> rfl
theorem zdc_sound (F : Nat → Nat → Prop) (w : World) (v : Value) (hv : v.oneCell' = true) : RelC F w v (zdc v) := by
  unfold zdc
  split
  · exact .emp _ _
  · exact .sc _ hv

theorem zeros_sound {t : Nat} {ti : TI} {P : Program} (hT : TIok P t ti) (F : Nat → Nat → Prop) (w : World) (rows : List (Nat × ARow)) (g : Gh) :
    All2 (fun u x => u.oneCell' = true ∧ RelAC F w rows g u x) ti.zero (ti.zero.map zac) := by
  refine All2.map_r ?_
  have : ∀ v ∈ ti.zero, v.oneCell' = true := List.all_eq_true.1 hT.one
  generalize ti.zero = l at this
  induction l with
  | nil => exact .nil
  | cons v l ih => exact .cons ⟨this v (by simp), zac_sound _ _ _ _ _ (this v (by simp))⟩ (ih fun u hu => this u (List.mem_cons_of_mem _ hu))

/-- 'new' and a variable whose address is taken. -/
theorem alloc_sound {P : Program} {T : Tab} (hT : TabOk P T) (h : Rel S w0 N g st a w) (t d : Nat) {ti : TI} (ht : T t = some ti) (hf : st.free d = true) :
    ∃ u w', (Instr.alloc t true (.tuple #[])).run P w = .ok u w' ∧ Rel S w0 N (updG g d (some (w.heap.size, 0))) ⟨st.tmps, (d, .box t (ti.zero.map zac)) :: st.rows⟩ a w' ∧
      u = .pointer (some ⟨w.heap.size, 0, none⟩) := by
  obtain ⟨i, z, hi, hs, _, hz, hzc⟩ := (hT t ti ht).info'
  refine ⟨_, w.alloc (.cells z.cells t), ?_, h.newBox hf t ?_ ?_, rfl⟩
  · simp [Instr.alloc, zeroValue, typeInfo, hi, hz, newVar, newRow]
  · rw [List.any_eq_false]
    intro x hx
    obtain ⟨v, _, rfl⟩ := List.mem_map.1 hx
    simp [zac_ment]
  · rw [hzc]; exact zeros_sound (hT t ti ht) _ _ _ _

theorem box_sound {P : Program} (h : Rel S w0 N g st a w) (t d : Nat) (x : Operand) {cs : List AC} (hx : (st.ev x).cells = some cs) (hf : st.free d = true) :
    ∃ u w', (Instr.box t (a.eval x)).run P w = .ok u w' ∧ Rel S w0 N (updG g d (some (w.heap.size, 0))) ⟨st.tmps, (d, .box t cs) :: st.rows⟩ a w' ∧
      u = .pointer (some ⟨w.heap.size, 0, none⟩) := by
  refine ⟨_, w.alloc (.cells (a.eval x).cells t), ?_, h.newBox hf t ?_ (cells_sound (h.ev x) hx), rfl⟩
  · simp [Instr.box, newVar, newRow]
  · have := ev_free hf x
    cases he : st.ev x with
    | c y => rw [he] at this hx; cases hx; unfold AV.ment at this; simp [this]
    | agg ys => rw [he] at this hx; cases hx; unfold AV.ment at this; exact this
    | tup _ => rw [he] at hx; cases hx
    | any => rw [he] at hx; cases hx
    | emp => rw [he] at hx; cases hx

end
end Go.Abs

set_option linter.unusedSimpArgs false
set_option linter.unusedVariables false
namespace Go.Abs
open Go.RowKit

theorem foldl_splice : ∀ (l : List Value) (off : Nat) (cells : Array Value), off + l.length ≤ cells.size →
    ((l.zipIdx.foldl (fun (cs : Array Value) (p : Value × Nat) => cs.setIfInBounds (off + p.2) p.1) cells)).toList = cells.toList.take off ++ l ++ cells.toList.drop (off + l.length) := by
  suffices H : ∀ (l : List Value) (off k : Nat) (cells : Array Value), off + k + l.length ≤ cells.size →
      (((l.zipIdx k).foldl (fun (cs : Array Value) (p : Value × Nat) => cs.setIfInBounds (off + p.2) p.1) cells)).toList = cells.toList.take (off + k) ++ l ++ cells.toList.drop (off + k + l.length) by
    intro l off cells h
    simpa using H l off 0 cells (by simpa using h)
  intro l
  induction l with
  | nil => intro off k cells h; simp
  | cons v l ih =>
    intro off k cells h
    simp only [List.length_cons] at h
    simp only [List.zipIdx_cons, List.foldl_cons]
    rw [ih off (k + 1) _ (by simp; omega)]
    have e := list_seg_step cells.toList (off + k) v l (by simp; omega)
    simpa [Array.toList_setIfInBounds, Nat.add_assoc] using e

theorem foldl_splice_arr (v : Value) (off : Nat) (cells : Array Value) (h : off + v.cells.size ≤ cells.size) :
    (v.cells.zipIdx.foldl (fun (cs : Array Value) (p : Value × Nat) => cs.setIfInBounds (off + p.2) p.1) cells).toList = cells.toList.take off ++ v.cells.toList ++ cells.toList.drop (off + v.cells.size) := by
  have := foldl_splice v.cells.toList off cells (by simpa using h)
  rw [← Array.foldl_toList]
  simpa using this

section
variable {S : Nat → Nat → Prop} {w0 : World} {N : Fm} {g : Gh} {st : ASt} {a : Act} {w : World}

theorem fill_sound (h : Rel S w0 N g st a w) (fs : List (Nat × Nat × Bool)) (place : Nat → Option (Nat × Nat)) (hp : ∀ i off sz ag, fs[i]? = some (off, sz, ag) → place i = some (off, sz)) :
    ∀ (parts : List (Nat × Operand)) (cells : Array Value) (cs cs' : List AC),
      All2 (fun u x => u.oneCell' = true ∧ RelAC (Sf w0.heap.size S st.rows g) w st.rows g u x) cells.toList cs → buildF fs st cs parts = some cs' →
      ∃ cells', Instr.fill place cells (parts.map fun p => (p.1, a.eval p.2)) = some cells' ∧ All2 (fun u x => u.oneCell' = true ∧ RelAC (Sf w0.heap.size S st.rows g) w st.rows g u x) cells'.toList cs'
  | [], cells, cs, cs', hall, hb => by
    simp only [buildF] at hb
    cases hb
    exact ⟨cells, rfl, hall⟩
  | (i, x) :: rest, cells, cs, cs', hall, hb => by
    simp only [buildF] at hb
    split at hb
    · rename_i off sz ag xs hf hx
      split at hb
      · rename_i hc
        obtain ⟨h1, h2⟩ := hc
        have hxs := cells_sound (h.ev x) hx
        have hl1 : (a.eval x).cells.size = sz := by rw [← Array.length_toList, hxs.len, h1]
        have hl2 : cells.size = cs.length := by rw [← Array.length_toList, hall.len]
        have hsp := foldl_splice_arr (a.eval x) off cells (by omega)
        have hnew : All2 (fun u x => u.oneCell' = true ∧ RelAC (Sf w0.heap.size S st.rows g) w st.rows g u x)
            ((a.eval x).cells.zipIdx.foldl (fun (cs : Array Value) (p : Value × Nat) => cs.setIfInBounds (off + p.2) p.1) cells).toList (splice cs off xs) := by
          rw [hsp]
          have := splice_all2 hall hxs off
          simpa [splice] using this
        obtain ⟨cells', h3, h4⟩ := fill_sound h fs place hp rest _ _ _ hnew hb
        refine ⟨cells', ?_, h4⟩
        simp only [List.map_cons, Instr.fill, hp i off sz ag hf]
        rw [if_neg (by simp [hl1]; omega)]
        exact h3
      · cases hb
    · cases hb

theorem build_sound {P : Program} {T : Tab} (hT : TabOk P T) (h : Rel S w0 N g st a w) (t : Nat) (parts : Array (Nat × Operand)) {ti : TI} (ht : T t = some ti) {fs : List (Nat × Nat × Bool)} (hd : ti.desc = .struct fs)
    {cs : List AC} (hb : buildF fs st (ti.zero.map zac) parts.toList = some cs) :
    ∃ u, (Instr.build t (parts.map fun (i, x) => (i, a.eval x))).run P w = .ok u w ∧ RelV (Sf w0.heap.size S st.rows g) w st.rows g u (.agg cs) := by
  obtain ⟨i, z, hi, hs, _, hz, hzc⟩ := (hT t ti ht).info'
  obtain ⟨F, hF1, hF, hsome⟩ := (hT t ti ht).strc hd
  have hinfo : ∀ f ∈ F.toList, ∃ j, P.info? f.type = some j := by
    intro f hf
    obtain ⟨d, hd'⟩ := hsome f hf
    unfold Program.underlying at hd'
    cases hq : P.info? f.type with
    | none => simp [hq] at hd'
    | some j => exact ⟨j, rfl⟩
  have hpl : F.toList.mapM (fun f => (P.info? f.type).map fun i => (f.offset, i.size)) = some (fs.map fun p => (p.1, p.2.1)) := by
    rw [← hF]
    clear hF hF1 hsome
    generalize F.toList = l at hinfo
    induction l with
    | nil => simp
    | cons f l ih =>
      obtain ⟨j, hj⟩ := hinfo f (by simp)
      have := ih fun q hq => hinfo q (List.mem_cons_of_mem _ hq)
      simp only [List.mapM_cons, hj, Option.map_some, this, List.map_cons, List.map_map]
      simp
  have hz0 := zeros_sound (hT t ti ht) (Sf w0.heap.size S st.rows g) w st.rows g
  rw [← hzc] at hz0
  rw [← hzc] at hb
  obtain ⟨cells', h1, h2⟩ := fill_sound h fs (fun i => ((fs.map fun p => (p.1, p.2.1)).toArray)[i]?) (fun i off sz ag hf => by simp [hf]) parts.toList z.cells _ _ hz0 hb
  refine ⟨.agg cells', ?_, by unfold RelV; exact ⟨cells', rfl, h2⟩⟩
  refine run_build w t _ cells' ?_
  unfold Program.built
  simp only [hi, hF1, hz, hpl]
  have e : (Array.map (fun x => match x with | (i, x) => (i, a.eval x)) parts).toList = parts.toList.map fun p => (p.1, a.eval p.2) := by simp
  rw [e]
  exact h1

theorem build_arr_sound {P : Program} {T : Tab} (hT : TabOk P T) (h : Rel S w0 N g st a w) (t : Nat) (parts : Array (Nat × Operand)) {ti te : TI} (ht : T t = some ti) {m e : Nat} (hd : ti.desc = .array m e) (hte : T e = some te)
    {cs : List AC} (hb : buildF (arrFs te.size m 0) st (ti.zero.map zac) parts.toList = some cs) :
    ∃ u, (Instr.build t (parts.map fun (i, x) => (i, a.eval x))).run P w = .ok u w ∧ RelV (Sf w0.heap.size S st.rows g) w st.rows g u (.agg cs) := by
  obtain ⟨i, z, hi, hs, _, hz, hzc⟩ := (hT t ti ht).info'
  obtain ⟨ie, ze, hie, hse, _⟩ := (hT e te hte).info'
  have hun := (hT t ti ht).under
  rw [hd] at hun
  simp only at hun
  have hz0 := zeros_sound (hT t ti ht) (Sf w0.heap.size S st.rows g) w st.rows g
  rw [← hzc] at hz0
  rw [← hzc] at hb
  obtain ⟨cells', h1, h2⟩ := fill_sound h (arrFs te.size m 0) (fun i => some (i * ie.size, ie.size)) (fun i off sz ag hf => by
    have := arrFs_get hf
    simp only [Prod.mk.injEq] at this
    rw [this.1, this.2.1, hse, Nat.zero_add]) parts.toList z.cells _ _ hz0 hb
  refine ⟨.agg cells', ?_, by unfold RelV; exact ⟨cells', rfl, h2⟩⟩
  refine run_build w t _ cells' ?_
  unfold Program.built
  simp only [hi, hun, hz, hie]
  have e : (Array.map (fun x => match x with | (i, x) => (i, a.eval x)) parts).toList = parts.toList.map fun p => (p.1, a.eval p.2) := by simp
  rw [e]
  exact h1

/-- Slices written out: the elements. -/
theorem fillSlice_sound (h : Rel S w0 N g st a w) (sz : Nat) :
    ∀ (parts : List (Nat × Operand)) (cells : Array Value) (xs xs' : List (List DC)), cells.size = xs.length * sz → (∀ (i : Nat) (x : List DC), xs[i]? = some x → x.length = sz) →
      Elems (Sf w0.heap.size S st.rows g) w sz cells.toList xs → buildSliceF sz st xs parts = some xs' →
      ∃ cells', Instr.fill (fun i => some (i * sz, sz)) cells (parts.map fun p => (p.1, a.eval p.2)) = some cells' ∧ cells'.size = xs'.length * sz ∧ xs'.length = xs.length ∧
        (∀ (i : Nat) (x : List DC), xs'[i]? = some x → x.length = sz) ∧ Elems (Sf w0.heap.size S st.rows g) w sz cells'.toList xs'
  | [], cells, xs, xs', hcs, hl, hel, hb => by
    simp only [buildSliceF] at hb
    cases hb
    exact ⟨cells, rfl, hcs, rfl, hl, hel⟩
  | (k, x) :: rest, cells, xs, xs', hcs, hl, hel, hb => by
    simp only [buildSliceF] at hb
    split at hb
    · rename_i cs hx
      split at hb
      · rename_i y hy
        split at hb
        · rename_i hc
          obtain ⟨h1, h2⟩ := hc
          have hxs := cells_sound (h.ev x) hx
          have hdy := dcs_sound h hxs hy
          have hl1 : (a.eval x).cells.size = sz := by rw [← Array.length_toList, hdy.len, h1]
          have hkb : k * sz + sz ≤ cells.size := by
            rw [hcs]
            have : (k + 1) * sz ≤ xs.length * sz := Nat.mul_le_mul_right _ h2
            rw [Nat.add_mul, Nat.one_mul] at this; exact this
          have hsp := foldl_splice_arr (a.eval x) (k * sz) cells (by omega)
          have hF0 : ∀ b o, (false = true ∨ Sf w0.heap.size S st.rows g b o) → Sf w0.heap.size S st.rows g b o := fun b o hb => by simpa using hb
          have hsize : ((a.eval x).cells.zipIdx.foldl (fun (cs : Array Value) (p : Value × Nat) => cs.setIfInBounds (k * sz + p.2) p.1) cells).size = (xs.set k y).length * sz := by
            rw [← Array.length_toList, hsp]
            simp only [List.length_append, List.length_take, List.length_drop, Array.length_toList, List.length_set]
            rw [← hcs]; omega
          have hnew : Elems (Sf w0.heap.size S st.rows g) w sz ((a.eval x).cells.zipIdx.foldl (fun (cs : Array Value) (p : Value × Nat) => cs.setIfInBounds (k * sz + p.2) p.1) cells).toList (xs.set k y) := by
            intro i j z d hz hd
            rw [hsp]
            have htk : (cells.toList.take (k * sz)).length = k * sz := by rw [List.length_take, Array.length_toList]; omega
            rw [List.getElem?_set] at hz
            split at hz
            · rename_i hki
              subst hki
              cases hz
              obtain ⟨u, hu1, hu2⟩ := hdy.get hd
              refine ⟨u, ?_, hu2.sub hF0⟩
              have hj := (List.getElem?_eq_some_iff.1 hu1).1
              rw [List.append_assoc, List.getElem?_append_right (by rw [htk]; omega), htk, Nat.add_sub_cancel_left, List.getElem?_append_left hj]
              exact hu1
            · rename_i hki
              obtain ⟨u, hu1, hu2⟩ := hel i j z d hz hd
              refine ⟨u, ?_, hu2⟩
              have hj := (List.getElem?_eq_some_iff.1 hd).1
              rw [hl i z hz] at hj
              by_cases hlt : i < k
              · have := idx_lt hlt hj
                rw [List.append_assoc, List.getElem?_append_left (by rw [htk]; omega), take_get _ _ _ (by omega)]
                exact hu1
              · have hgt : k < i := by omega
                have : (k + 1) * sz ≤ i * sz := Nat.mul_le_mul_right _ hgt
                rw [Nat.add_mul, Nat.one_mul] at this
                have hcl : (a.eval x).cells.toList.length = sz := by simpa using hl1
                rw [List.append_assoc, List.getElem?_append_right (by rw [htk]; omega), htk, List.getElem?_append_right (by omega), List.getElem?_drop, hcl, hl1]
                have : k * sz + sz + (i * sz + j - k * sz - sz) = i * sz + j := by omega
                rw [this]; exact hu1
          obtain ⟨cells', h3, h4, h5, h6, h7⟩ := fillSlice_sound h sz rest _ _ _ hsize (fun i z hz => by
            rw [List.getElem?_set] at hz
            split at hz
            · cases hz; exact h1
            · exact hl i z hz) hnew hb
          refine ⟨cells', ?_, h4, by simpa using h5, h6, h7⟩
          simp only [List.map_cons, Instr.fill]
          rw [if_neg (by simp [hl1]; omega)]
          exact h3
        · cases hb
      · cases hb
    · cases hb

theorem zeroCells_elems {t : Nat} {ti : TI} {P : Program} (hT : TIok P t ti) (F : Nat → Nat → Prop) (w : World) (n : Nat) {z : Array Value} (hz : z.toList = ti.zero) (hpos : 0 < ti.size) (cells : Array Value) (m : Nat) (hm : n * ti.size ≤ m)
    (hcells : cells = (Array.range m).map (z[· % z.size]!)) :
    Elems F w ti.size cells.toList (List.replicate n (ti.zero.map zdc)) := by
  intro i j x d hx hd
  have hi := (List.getElem?_eq_some_iff.1 hx).1
  rw [List.getElem?_replicate] at hx
  split at hx
  · cases hx
    have hj := (List.getElem?_eq_some_iff.1 hd).1
    rw [List.length_map, hT.len] at hj
    rw [List.getElem?_map] at hd
    obtain ⟨v, hv, rfl⟩ := Option.map_eq_some_iff.1 hd
    have hone := List.all_eq_true.1 hT.one v (List.mem_of_getElem? hv)
    refine ⟨v, ?_, zdc_sound F w v hone⟩
    have hzs : z.size = ti.size := by rw [← Array.length_toList, hz, hT.len]
    have hlt : i * ti.size + j < m := by
      rename_i hin
      have := idx_lt hin hj; omega
    obtain ⟨_, e2⟩ := idx_div (i := i) hj
    rw [hcells]
    simp only [Array.toList_map, Array.toList_range]
    rw [List.getElem?_map, List.getElem?_range hlt]
    simp only [Option.map_some, hzs, e2]
    have hzj : z[j]? = some v := by rw [← Array.getElem?_toList, hz]; exact hv
    have : z[j]! = v := by rw [getElem!_def, hzj]
    rw [this]
  · cases hx

theorem buildSlice_sound {P : Program} {T : Tab} (hT : TabOk P T) (h : Rel S w0 N g st a w) (t n d : Nat) (parts : Array (Nat × Operand)) {ti te : TI} {e : Nat} (ht : T t = some ti) (hd : ti.desc = .slice e) (hte : T e = some te)
    {xs : List (List DC)} (hb : buildSliceF te.size st (List.replicate n (te.zero.map zdc)) parts.toList = some xs) (hf : st.free d = true) (hn : n * te.size ≤ 2 ^ 24) (hpos : 0 < te.size) :
    ∃ u w', (Instr.buildSlice t n (parts.map fun (i, x) => (i, a.eval x))).run P w = .ok u w' ∧ Rel S w0 N (updG g d (some (w.heap.size, n))) ⟨st.tmps, (d, .arr e te.size xs ti.fast) :: st.rows⟩ a w' ∧
      u = gsl (some (w.heap.size, n)) xs.length ∧ xs.length = n := by
  have hu := (hT t ti ht).under
  rw [hd] at hu
  simp only at hu
  obtain ⟨i, z, hi, hs, _, hz, hzc⟩ := (hT e te hte).info'
  have hz0 : ∃ cells0, cells0 = (Array.range (n * te.size)).map (z.cells[· % z.cells.size]!) := ⟨_, rfl⟩
  obtain ⟨cells0, hc0⟩ := hz0
  have hsize0 : cells0.size = (List.replicate n (te.zero.map zdc)).length * te.size := by rw [hc0]; simp
  obtain ⟨cells', h1, h2, h3, h4, h5⟩ := fillSlice_sound h te.size parts.toList cells0 _ _ hsize0 (fun i x hx => by
    rw [List.getElem?_replicate] at hx
    split at hx
    · cases hx; simp [(hT e te hte).len]
    · cases hx) (zeroCells_elems (hT e te hte) _ w n hzc hpos cells0 _ (Nat.le_refl _) hc0) hb
  have hxl : xs.length = n := by simpa using h3
  refine ⟨_, w.alloc (.cells cells' e), ?_, h.newArr hf h4 (cap := n) (by omega) (by unfold maxLen; have := Nat.le_mul_of_pos_right n hpos; omega) (by rw [h2, hxl]) (fun i' j x d' hx hd' => ?_), rfl, hxl⟩
  · have hnot : ¬ (n * te.size > 2 ^ 24) := by omega
    have ep : (Array.map (fun x => match x with | (i, x) => (i, a.eval x)) parts).toList = parts.toList.map fun p => (p.1, a.eval p.2) := by simp
    by_cases hn0 : n * te.size = 0
    · have hn1 : n = 0 := by
        rcases Nat.mul_eq_zero.1 hn0 with hh | hh
        · exact hh
        · omega
      subst hn1
      have hc00 : cells0 = #[] := by rw [hc0]; simp
      rw [hc00] at h1
      have hr : (Instr.buildSlice t 0 (parts.map fun (i, x) => (i, a.eval x))).run P w = .ok (.slice (some ⟨w.heap.size, 0, none⟩) 0 0) (w.alloc (.cells cells' e)) := by
        simp only [Instr.buildSlice, Sem.run_bind, run_underlying hu, Result.andThen_ok, sizeOf, typeInfo, Sem.run_pure, run_program, hi, hs, ep]
        have e0 : ∀ f : Nat → Value, (Array.range 0).map f = #[] := fun f => by simp
        simp only [Nat.zero_mul, gt_iff_lt, Nat.not_lt_zero, if_false, if_true, Sem.run_pure, Result.andThen_ok, Sem.run_ite, e0, h1]
        simp [newRow, e0, h1]
      rw [hr]
      simp [gsl, hxl]
    · have hr : (Instr.buildSlice t n (parts.map fun (i, x) => (i, a.eval x))).run P w = .ok (.slice (some ⟨w.heap.size, 0, none⟩) n n) (w.alloc (.cells cells' e)) := by
        rw [hc0] at h1
        simp only [Instr.buildSlice, Sem.run_bind, run_underlying hu, Result.andThen_ok, sizeOf, typeInfo, Sem.run_pure, run_program, hi, hs, ep, zeroValue, hz, Sem.run_ite, if_neg hnot, if_neg hn0, h1]
        simp [newRow]
      rw [hr]
      simp [gsl, hxl]
  · obtain ⟨u, hu1, hu2⟩ := h5 i' j x d' hx hd'
    exact ⟨u, by simpa using hu1, hu2⟩

theorem makeSlice_sound {P : Program} {T : Tab} (hT : TabOk P T) (h : Rel S w0 N g st a w) (t d : Nat) {ti te : TI} {e : Nat} (ht : T t = some ti) (hd : ti.desc = .slice e) (hte : T e = some te)
    (kl kc : IntKind) (n m : Int) (hf : st.free d = true) (h0 : 0 ≤ n) (hnm : n ≤ m) (hm : m ≤ 2 ^ 40) (hby : te.bytes ≤ 256) (hpos : 0 < te.size) :
    ∃ u w', (Instr.makeSlice t (.int kl n) (.int kc m)).run P w = .ok u w' ∧
      Rel S w0 N (updG g d (some (w.heap.size, m.toNat))) ⟨st.tmps, (d, .arr e te.size (List.replicate n.toNat (te.zero.map zdc)) false) :: st.rows⟩ a w' ∧
      u = gsl (some (w.heap.size, m.toNat)) (List.replicate n.toNat (te.zero.map zdc)).length := by
  have hu := (hT t ti ht).under
  rw [hd] at hu
  simp only at hu
  obtain ⟨i, z, hi, hs, hb, hz, hzc⟩ := (hT e te hte).info'
  have hbytes : (i.bytes : Int) * m ≤ 281474976710656 := by
    have h1 : (i.bytes : Int) ≤ 256 := by omega
    have h2 : (i.bytes : Int) * m ≤ 256 * m := Int.mul_le_mul_of_nonneg_right h1 (by omega)
    omega
  have hrun := run_make (P := P) w t e i z hu hi hz kl kc n m h0 hnm hbytes (by omega)
  refine ⟨_, _, hrun, h.newArr hf (fun i' x hx => ?_) (cap := m.toNat) (by simp; omega) (by unfold maxLen; omega) (by rw [size_madeCells, hs]) (fun i' j x d' hx hd' => ?_), by simp [gsl]⟩
  · rw [List.getElem?_replicate] at hx
    split at hx
    · cases hx; simp [(hT e te hte).len]
    · cases hx
  · have := zeroCells_elems (hT e te hte) (Sf w0.heap.size S st.rows g) w n.toNat hzc hpos (madeCells z.cells (m.toNat * i.size)) (m.toNat * i.size) (by rw [hs]; exact Nat.mul_le_mul_right _ (by omega)) rfl
    obtain ⟨u, hu1, hu2⟩ := this i' j x d' hx hd'
    exact ⟨u, by simpa using hu1, hu2⟩

end
end Go.Abs

set_option linter.unusedSimpArgs false
set_option linter.unusedVariables false
namespace Go.Abs
open Go.RowKit

/-- A cell of a result: data, or a slice that is the caller's own. -/
inductive RC where
  | d (x : DC)
  | fresh (e sz : Nat) (xs : List (List DC))
inductive RV where
  | c (x : RC)
  | agg (xs : List RC)
inductive Res where
  | one (v : RV)
  | tup (vs : List RV)

def cid (d p : Nat) : Nat := d + 1000 * (p + 1)

def rowsRC (d p : Nat) : RC → List (Nat × ARow)
  | .d _ => []
  | .fresh e sz xs => [(cid d p, .arr e sz xs false)]
def acRC (d p : Nat) : RC → AC
  | .d x => .d x
  | .fresh _ _ _ => .row (cid d p)
def rowsRCs (d : Nat) : Nat → List RC → List (Nat × ARow)
  | _, [] => []
  | p, x :: xs => rowsRC d p x ++ rowsRCs d (p + 1) xs
def acRCs (d : Nat) : Nat → List RC → List AC
  | _, [] => []
  | p, x :: xs => acRC d p x :: acRCs d (p + 1) xs
def rowsRV (d p : Nat) : RV → List (Nat × ARow)
  | .c x => rowsRC d p x
  | .agg xs => rowsRCs d p xs
def avRV (d p : Nat) : RV → AV
  | .c x => .c (acRC d p x)
  | .agg xs => .agg (acRCs d p xs)
def rowsRVs (d : Nat) : Nat → List RV → List (Nat × ARow)
  | _, [] => []
  | p, x :: xs => rowsRV d p x ++ rowsRVs d (p + 50) xs
def avRVs (d : Nat) : Nat → List RV → List AV
  | _, [] => []
  | p, x :: xs => avRV d p x :: avRVs d (p + 50) xs
def rowsRes (d : Nat) : Res → List (Nat × ARow)
  | .one v => rowsRV d 0 v
  | .tup vs => rowsRVs d 0 vs
def avRes (d : Nat) : Res → AV
  | .one v => avRV d 0 v
  | .tup vs => .tup (avRVs d 0 vs)

def DC.flat : DC → Bool
  | .sc _ => true
  | .sl _ => false
  | .clo _ _ => false
  | .rc _ => false
def RC.flat : RC → Bool
  | .d x => x.flat
  | .fresh _ _ xs => xs.all fun x => x.all (·.flat)
def RV.flat : RV → Bool
  | .c x => x.flat
  | .agg xs => xs.all (·.flat)
def Res.flat : Res → Bool
  | .one v => v.flat
  | .tup vs => vs.all (·.flat)

def RelRC (F : Nat → Nat → Prop) (w : World) (fb : Gh) (p : Nat) (u : Value) : RC → Prop
  | .d x => RelC F w u x
  | .fresh e sz xs => u = gsl (fb p) xs.length ∧ RelRow F w [] fb p (.arr e sz xs false)
def RelRCs (F : Nat → Nat → Prop) (w : World) (fb : Gh) : Nat → List Value → List RC → Prop
  | _, [], [] => True
  | p, u :: us, x :: xs => (u.oneCell' = true ∧ RelRC F w fb p u x) ∧ RelRCs F w fb (p + 1) us xs
  | _, _, _ => False
def RelRV (F : Nat → Nat → Prop) (w : World) (fb : Gh) (p : Nat) (v : Value) : RV → Prop
  | .c x => v.oneCell' = true ∧ RelRC F w fb p v x
  | .agg xs => ∃ cs, v = .agg cs ∧ RelRCs F w fb p cs.toList xs
def RelRVs (F : Nat → Nat → Prop) (w : World) (fb : Gh) : Nat → List Value → List RV → Prop
  | _, [], [] => True
  | p, u :: us, x :: xs => RelRV F w fb p u x ∧ RelRVs F w fb (p + 50) us xs
  | _, _, _ => False
def RelRes (F : Nat → Nat → Prop) (w : World) (fb : Gh) (v : Value) : Res → Prop
  | .one x => RelRV F w fb 0 v x
  | .tup xs => ∃ vs, v = .tuple vs ∧ RelRVs F w fb 0 vs.toList xs

/-- Where a result's data lies: where the arguments' did, or in blocks that are new and no fresh slice's. -/
def Fp (S : Nat → Nat → Prop) (n : Nat) (fb : Gh) (b o : Nat) : Prop := (b < n ∧ S b o) ∨ (n ≤ b ∧ ∀ p c, fb p ≠ some (b, c))

def Post (S : Nat → Nat → Prop) (w : World) (r : Res) (e : Ending) (w' : World) : Prop :=
  ∃ v fb, e = .returned v ∧ Below w.heap.size w w' ∧ (∀ p b c, fb p = some (b, c) → w.heap.size ≤ b ∧ b < w'.heap.size) ∧
    (∀ p p' b c c', fb p = some (b, c) → fb p' = some (b, c') → p = p') ∧ RelRes (Fp S w.heap.size fb) w' fb v r

/-- A call of function f, with a body or without. -/
def CallF (P : Program) (f : FuncId) (args : Array Value) (w : World) (R : Ending → World → Prop) : Prop :=
  ((callFunc f args).run P w = .ok (.enter f args) w ∧ Calls P f args w R) ∨ ∃ v w', (callFunc f args).run P w = .ok (.value v) w' ∧ R (.returned v) w'

/-- FUNCTION f, HANDED THESE VALUES, GIVES THIS RESULT, in whatever memory, and changes none. -/
def Gives (P : Program) (f : FuncId) (args : List DV) (r : Res) : Prop :=
  ∀ (S : Nat → Nat → Prop) (w : World) (vs : List Value), TabGood S w → All2 (RelDV S w) vs args → CallF P f vs.toArray w (Post S w r)

section
variable {S : Nat → Nat → Prop} {w0 : World} {N : Fm} {g : Gh} {st : ASt} {a : Act} {w : World}

theorem find_append {α : Type} (l m : List (Nat × α)) (i : Nat) : find (l ++ m) i = (match find l i with | some x => some x | none => find m i) := by
  induction l with
  | nil => rfl
  | cons p l ih =>
    obtain ⟨k, v⟩ := p
    simp only [List.cons_append, find]
    split
    · rfl
    · exact ih

/-- Many new rows at once, behind a call. -/
theorem Rel.news (h : Rel S w0 N g st a w) {w' : World} (hb : Below w.heap.size w w') {ns : List (Nat × ARow)} {gN : Gh} {g' : Gh} (hg' : ∀ id, g' id = match find ns id with | some _ => gN id | none => g id)
    (hfree : ∀ id r, find ns id = some r → st.free id = true)
    (hblk : ∀ id r b c, find ns id = some r → gN id = some (b, c) → w.heap.size ≤ b ∧ b < w'.heap.size)
    (hinj : ∀ id id' r r' b c c', find ns id = some r → find ns id' = some r' → gN id = some (b, c) → gN id' = some (b, c') → id = id')
    (hrows : ∀ id r, find ns id = some r → RelRow (Sf w0.heap.size S (ns ++ st.rows) g') w' (ns ++ st.rows) g' id r) :
    (∀ b o, Sf w0.heap.size S st.rows g b o → b < w.heap.size → Sf w0.heap.size S (ns ++ st.rows) g' b o ∧ cl w' b o = cl w b o) ∧ Rel S w0 N g' ⟨st.tmps, ns ++ st.rows⟩ a w' := by
  have hc : ∀ b o, Sf w0.heap.size S st.rows g b o → b < w.heap.size → Sf w0.heap.size S (ns ++ st.rows) g' b o ∧ cl w' b o = cl w b o := by
    intro b o hs hlt
    refine ⟨?_, cl_of_block (hb.block b hlt) o⟩
    rcases hs with hs | ⟨h1, h2⟩
    · exact .inl hs
    · refine .inr ⟨h1, fun id r c hf hgi => ?_⟩
      rw [find_append] at hf
      rw [hg'] at hgi
      cases hn : find ns id with
      | some r0 =>
        rw [hn] at hgi
        have := (hblk id r0 b c hn hgi).1
        omega
      | none =>
        rw [hn] at hf hgi
        exact h2 id r c hf hgi
  refine ⟨hc, ?_⟩
  have keep : ∀ id, find ns id = none → g' id = g id ∧ ∀ e sz xs fl, find st.rows id = some (.arr e sz xs fl) → ∃ xs' fl', find (ns ++ st.rows) id = some (.arr e sz xs' fl') ∧ xs'.length = xs.length := by
    intro id hn
    refine ⟨by rw [hg', hn], fun e sz xs fl hf => ⟨xs, fl, by rw [find_append, hn]; exact hf, rfl⟩⟩
  refine ⟨h.below.trans (hb.mono h.below.size), h.size, h.calm, h.good, h.defers.carry (NonC.of_old hb.block), fun id r b c hf hgi => ?_, fun id1 id2 r1 r2 b c1 c2 hf1 hf2 hg1 hg2 => ?_, fun id r hf => ?_, fun i x hx => ?_⟩
  · simp only [find_append] at hf
    rw [hg'] at hgi
    cases hn : find ns id with
    | some r0 => rw [hn] at hgi; have := hblk id r0 b c hn hgi; exact ⟨by have := h.below.size; omega, this.2⟩
    | none => rw [hn] at hf hgi; have := h.blk id r b c hf hgi; exact ⟨this.1, by have := hb.size; omega⟩
  · simp only [find_append] at hf1 hf2
    rw [hg'] at hg1 hg2
    cases hn1 : find ns id1 with
    | some q1 =>
      rw [hn1] at hg1
      cases hn2 : find ns id2 with
      | some q2 => rw [hn2] at hg2; exact hinj id1 id2 q1 q2 b c1 c2 hn1 hn2 hg1 hg2
      | none =>
        rw [hn2] at hf2 hg2
        have := hblk id1 q1 b c1 hn1 hg1
        have := h.blk id2 r2 b c2 hf2 hg2
        omega
    | none =>
      rw [hn1] at hf1 hg1
      cases hn2 : find ns id2 with
      | some q2 =>
        rw [hn2] at hg2
        have := hblk id2 q2 b c2 hn2 hg2
        have := h.blk id1 r1 b c1 hf1 hg1
        omega
      | none => rw [hn2] at hf2 hg2; exact h.inj id1 id2 r1 r2 b c1 c2 hf1 hf2 hg1 hg2
  · simp only [find_append] at hf
    cases hn : find ns id with
    | some r0 => rw [hn] at hf; cases hf; exact hrows id _ hn
    | none =>
      rw [hn] at hf
      refine (h.rows id r hf).carry hc (keep id hn).1 (fun b c hgi => hb.block b (h.blk id r b c hf hgi).2) (NonC.of_old hb.block) (fun id2 hm => keep id2 ?_)
      cases hn2 : find ns id2 with
      | none => rfl
      | some r2 => have := (find_free_row (hfree id2 r2 hn2) hf).2; rw [this] at hm; cases hm
  · obtain ⟨v, hv, hr⟩ := h.tmps i x hx
    refine ⟨v, hv, hr.carry hc fun id2 hm => keep id2 ?_⟩
    cases hn2 : find ns id2 with
    | none => rfl
    | some r2 => have := find_free_tmp (hfree id2 r2 hn2) hx; rw [this] at hm; cases hm

theorem relRow_arr {F F' : Nat → Nat → Prop} {w : World} {rows rows' : List (Nat × ARow)} {g g' : Gh} {id id' e sz : Nat} {xs : List (List DC)} {fl fl' : Bool} (hF : ∀ b o, F b o → F' b o) (hg : g' id' = g id)
    (h : RelRow F w rows g id (.arr e sz xs fl)) : RelRow F' w rows' g' id' (.arr e sz xs fl') := by
  obtain ⟨h1, h2⟩ := h
  refine ⟨h1, ?_⟩
  rcases h2 with ⟨h3, h4⟩ | ⟨b, cap, cur, h3, h4, h5, h6, h7, h8⟩
  · exact .inl ⟨by rw [hg]; exact h3, h4⟩
  · refine .inr ⟨b, cap, cur, by rw [hg]; exact h3, h4, h5, h6, h7, fun i j x d hx hd => ?_⟩
    obtain ⟨u, hu, hr⟩ := h8 i j x d hx hd
    exact ⟨u, hu, hr.sub hF⟩

def Good (F : Nat → Nat → Prop) (w : World) (fb : Gh) (d : Nat) (id : Nat) (r : ARow) : Prop := ∃ p e sz xs, id = cid d p ∧ r = .arr e sz xs false ∧ RelRow F w [] fb p (.arr e sz xs false)

theorem good_RC {F : Nat → Nat → Prop} {fb : Gh} {d p : Nat} {u : Value} {x : RC} (h : RelRC F w fb p u x) : ∀ id r, (id, r) ∈ rowsRC d p x → Good F w fb d id r := by
  intro id r hm
  cases x with
  | d x => simp [rowsRC] at hm
  | fresh e sz xs =>
    simp only [rowsRC, List.mem_singleton, Prod.mk.injEq] at hm
    exact ⟨p, e, sz, xs, hm.1, hm.2, h.2⟩
theorem good_RCs {F : Nat → Nat → Prop} {fb : Gh} {d : Nat} : ∀ {p : Nat} {us : List Value} {xs : List RC}, RelRCs F w fb p us xs → ∀ id r, (id, r) ∈ rowsRCs d p xs → Good F w fb d id r
  | p, [], [], _, id, r, hm => by simp [rowsRCs] at hm
  | p, u :: us, x :: xs, h, id, r, hm => by
    simp only [rowsRCs, List.mem_append] at hm
    rcases hm with hm | hm
    · exact good_RC h.1.2 id r hm
    · exact good_RCs h.2 id r hm
  | p, [], _ :: _, h, _, _, _ => h.elim
  | p, _ :: _, [], h, _, _, _ => h.elim
theorem good_RV {F : Nat → Nat → Prop} {fb : Gh} {d p : Nat} {v : Value} {x : RV} (h : RelRV F w fb p v x) : ∀ id r, (id, r) ∈ rowsRV d p x → Good F w fb d id r := by
  cases x with
  | c x => exact good_RC h.2
  | agg xs => obtain ⟨cs, _, h⟩ := h; exact good_RCs h
theorem good_RVs {F : Nat → Nat → Prop} {fb : Gh} {d : Nat} : ∀ {p : Nat} {us : List Value} {xs : List RV}, RelRVs F w fb p us xs → ∀ id r, (id, r) ∈ rowsRVs d p xs → Good F w fb d id r
  | p, [], [], _, id, r, hm => by simp [rowsRVs] at hm
  | p, u :: us, x :: xs, h, id, r, hm => by
    simp only [rowsRVs, List.mem_append] at hm
    rcases hm with hm | hm
    · exact good_RV h.1 id r hm
    · exact good_RVs h.2 id r hm
  | p, [], _ :: _, h, _, _, _ => h.elim
  | p, _ :: _, [], h, _, _, _ => h.elim
theorem good_Res {F : Nat → Nat → Prop} {fb : Gh} {d : Nat} {v : Value} {x : Res} (h : RelRes F w fb v x) : ∀ id r, (id, r) ∈ rowsRes d x → Good F w fb d id r := by
  cases x with
  | one x => exact good_RV h
  | tup xs => obtain ⟨cs, _, h⟩ := h; exact good_RVs h

def backP (d id : Nat) : Nat := (id - d) / 1000 - 1
theorem backP_cid (d p : Nat) : backP d (cid d p) = p := by
  unfold backP cid
  omega

/- A result as the caller's frame sees it. 'rows' holds the fresh rows. -/
section
variable {F F' : Nat → Nat → Prop} {fb : Gh} {d : Nat} {rows : List (Nat × ARow)} {g' : Gh}
theorem av_RC (hF : ∀ b o, F b o → F' b o) {p : Nat} {u : Value} {x : RC} (h : RelRC F w fb p u x) (hr : ∀ id r, (id, r) ∈ rowsRC d p x → find rows id = some r ∧ g' id = fb (backP d id)) : RelAC F' w rows g' u (acRC d p x) := by
  cases x with
  | d x => exact RelC.sub hF h
  | fresh e sz xs =>
    obtain ⟨h1, h2⟩ := hr (cid d p) (.arr e sz xs false) (by simp [rowsRC])
    refine ⟨e, sz, xs, false, h1, ?_⟩
    rw [h2, backP_cid]; exact h.1
theorem av_RCs (hF : ∀ b o, F b o → F' b o) : ∀ {p : Nat} {us : List Value} {xs : List RC}, RelRCs F w fb p us xs → (∀ id r, (id, r) ∈ rowsRCs d p xs → find rows id = some r ∧ g' id = fb (backP d id)) →
    All2 (fun u x => u.oneCell' = true ∧ RelAC F' w rows g' u x) us (acRCs d p xs)
  | p, [], [], _, _ => .nil
  | p, u :: us, x :: xs, h, hr => .cons ⟨h.1.1, av_RC hF h.1.2 fun id r hm => hr id r (by simp only [rowsRCs, List.mem_append]; exact .inl hm)⟩ (av_RCs hF h.2 fun id r hm => hr id r (by simp only [rowsRCs, List.mem_append]; exact .inr hm))
  | p, [], _ :: _, h, _ => h.elim
  | p, _ :: _, [], h, _ => h.elim
theorem av_RV (hF : ∀ b o, F b o → F' b o) {p : Nat} {v : Value} {x : RV} (h : RelRV F w fb p v x) (hr : ∀ id r, (id, r) ∈ rowsRV d p x → find rows id = some r ∧ g' id = fb (backP d id)) : RelV F' w rows g' v (avRV d p x) := by
  cases x with
  | c x => unfold avRV RelV; exact ⟨h.1, av_RC hF h.2 hr⟩
  | agg xs => obtain ⟨cs, h1, h⟩ := h; unfold avRV RelV; exact ⟨cs, h1, av_RCs hF h hr⟩
theorem av_RVs (hF : ∀ b o, F b o → F' b o) : ∀ {p : Nat} {us : List Value} {xs : List RV}, RelRVs F w fb p us xs → (∀ id r, (id, r) ∈ rowsRVs d p xs → find rows id = some r ∧ g' id = fb (backP d id)) →
    RelVL F' w rows g' us (avRVs d p xs)
  | p, [], [], _, _ => by unfold avRVs RelVL; trivial
  | p, u :: us, x :: xs, h, hr => by
    unfold avRVs RelVL
    exact ⟨av_RV hF h.1 fun id r hm => hr id r (by simp only [rowsRVs, List.mem_append]; exact .inl hm), av_RVs hF h.2 fun id r hm => hr id r (by simp only [rowsRVs, List.mem_append]; exact .inr hm)⟩
  | p, [], _ :: _, h, _ => h.elim
  | p, _ :: _, [], h, _ => h.elim
theorem av_Res (hF : ∀ b o, F b o → F' b o) {v : Value} {x : Res} (h : RelRes F w fb v x) (hr : ∀ id r, (id, r) ∈ rowsRes d x → find rows id = some r ∧ g' id = fb (backP d id)) : RelV F' w rows g' v (avRes d x) := by
  cases x with
  | one x => exact av_RV hF h hr
  | tup xs => obtain ⟨vs, h1, h⟩ := h; unfold avRes RelV; exact ⟨vs, h1, av_RVs hF h hr⟩
end

/-- A flat result leads nowhere: the safe places do not matter. -/
theorem flat_RC {F F' : Nat → Nat → Prop} {fb : Gh} {p : Nat} {u : Value} {x : RC} (hx : x.flat = true) (h : RelRC F w fb p u x) : RelRC F' w fb p u x := by
  cases x with
  | d x => cases x with
    | sc v => cases h with | sc _ h => exact .sc _ h
    | sl xs => simp [RC.flat, DC.flat] at hx
    | clo f xs => simp [RC.flat, DC.flat] at hx
    | rc f => simp [RC.flat, DC.flat] at hx
  | fresh e sz xs =>
    refine ⟨h.1, h.2.1, ?_⟩
    rcases h.2.2 with h3 | ⟨b, cap, cur, h4, h5, h6, h7, h8, h9⟩
    · exact .inl h3
    · refine .inr ⟨b, cap, cur, h4, h5, h6, h7, h8, fun i j x d hx' hd => ?_⟩
      obtain ⟨u, hu, hr⟩ := h9 i j x d hx' hd
      have hf : d.flat = true := List.all_eq_true.1 (List.all_eq_true.1 hx x (List.mem_of_getElem? hx')) d (List.mem_of_getElem? hd)
      refine ⟨u, hu, ?_⟩
      cases d with
      | sc v => cases hr with | sc _ h => exact .sc _ h
      | sl xs => simp [DC.flat] at hf
      | clo f xs => simp [DC.flat] at hf
      | rc f => simp [DC.flat] at hf
theorem flat_RCs {F F' : Nat → Nat → Prop} {fb : Gh} : ∀ {p : Nat} {us : List Value} {xs : List RC}, xs.all (·.flat) = true → RelRCs F w fb p us xs → RelRCs F' w fb p us xs
  | p, [], [], _, _ => trivial
  | p, u :: us, x :: xs, hx, h => by
    simp only [List.all_cons, Bool.and_eq_true] at hx
    exact ⟨⟨h.1.1, flat_RC hx.1 h.1.2⟩, flat_RCs hx.2 h.2⟩
  | p, [], _ :: _, _, h => h.elim
  | p, _ :: _, [], _, h => h.elim
theorem flat_RV {F F' : Nat → Nat → Prop} {fb : Gh} {p : Nat} {v : Value} {x : RV} (hx : x.flat = true) (h : RelRV F w fb p v x) : RelRV F' w fb p v x := by
  cases x with
  | c x => exact ⟨h.1, flat_RC hx h.2⟩
  | agg xs => obtain ⟨cs, h1, h⟩ := h; exact ⟨cs, h1, flat_RCs hx h⟩
theorem flat_RVs {F F' : Nat → Nat → Prop} {fb : Gh} : ∀ {p : Nat} {us : List Value} {xs : List RV}, xs.all (·.flat) = true → RelRVs F w fb p us xs → RelRVs F' w fb p us xs
  | p, [], [], _, _ => trivial
  | p, u :: us, x :: xs, hx, h => by
    simp only [List.all_cons, Bool.and_eq_true] at hx
    exact ⟨flat_RV hx.1 h.1, flat_RVs hx.2 h.2⟩
  | p, [], _ :: _, _, h => h.elim
  | p, _ :: _, [], _, h => h.elim
theorem flat_Res {F F' : Nat → Nat → Prop} {fb : Gh} {v : Value} {x : Res} (hx : x.flat = true) (h : RelRes F w fb v x) : RelRes F' w fb v x := by
  cases x with
  | one x => exact flat_RV hx h
  | tup xs => obtain ⟨vs, h1, h⟩ := h; exact ⟨vs, h1, flat_RVs hx h⟩

theorem dvs_sound' (h : Rel S w0 N g st a w) {lent : Bool} {vs : List Value} {xs : List AV} {ys : List DV} (hv : All2 (RelV (Sf w0.heap.size S st.rows g) w st.rows g) vs xs) (hy : dvsOf lent st.rows xs = some ys) :
    All2 (RelDV (fun b o => lent = true ∨ Sf w0.heap.size S st.rows g b o) w) vs ys := by
  induction hv generalizing ys with
  | nil => simp [dvsOf] at hy; subst hy; exact .nil
  | cons h1 _ ih =>
    simp only [dvsOf] at hy
    split at hy
    · rename_i y ys' hy1 hy2
      cases hy
      exact .cons (dv_sound h h1 hy1) (ih hy2)
    · cases hy

theorem dcOf_lent {rows : List (Nat × ARow)} {x : AC} {y : DC} (h : dcOf false rows x = some y) : dcOf true rows x = some y := by
  unfold dcOf at *
  split at h <;> simp_all
  split at h <;> simp_all

theorem dcsOf_lent {rows : List (Nat × ARow)} : ∀ {xs : List AC} {ys : List DC}, dcsOf false rows xs = some ys → dcsOf true rows xs = some ys
  | [], ys, h => by simpa [dcsOf] using h
  | x :: xs, ys, h => by
    simp only [dcsOf] at h ⊢
    split at h
    · rename_i y ys' h1 h2
      rw [dcOf_lent h1, dcsOf_lent h2]; exact h
    · cases h
theorem dvOf_lent {rows : List (Nat × ARow)} {x : AV} {y : DV} (h : dvOf false rows x = some y) : dvOf true rows x = some y := by
  unfold dvOf at *
  split at h
  · exact h
  · split at h
    · rename_i y' hy; simp only [dcOf_lent hy]; exact h
    · cases h
  · split at h
    · rename_i y' hy; simp only [dcsOf_lent hy]; exact h
    · cases h
  · cases h
theorem dvsOf_lent {rows : List (Nat × ARow)} : ∀ {xs : List AV} {ys : List DV}, dvsOf false rows xs = some ys → dvsOf true rows xs = some ys
  | [], ys, h => by simpa [dvsOf] using h
  | x :: xs, ys, h => by
    simp only [dvsOf] at h ⊢
    split at h
    · rename_i y ys' h1 h2
      rw [dvOf_lent h1, dvsOf_lent h2]; exact h
    · cases h

/-- Behind a call. -/
theorem Rel.call (h : Rel S w0 N g st a w) {w' : World} {v : Value} {fb : Gh} {r : Res} {d : Nat} {F0 : Nat → Nat → Prop} (hF0 : r.flat = true ∨ ∀ b o, F0 b o → Sf w0.heap.size S st.rows g b o)
    (hb : Below w.heap.size w w') (hblk : ∀ p b c, fb p = some (b, c) → w.heap.size ≤ b ∧ b < w'.heap.size) (hinj : ∀ p p' b c c', fb p = some (b, c) → fb p' = some (b, c') → p = p')
    (hr : RelRes (Fp F0 w.heap.size fb) w' fb v r) (hfree : ∀ id r', find (rowsRes d r) id = some r' → st.free id = true) (huniq : ∀ id r', (id, r') ∈ rowsRes d r → find (rowsRes d r) id = some r') :
    ∃ g', Rel S w0 N g' ⟨st.tmps, rowsRes d r ++ st.rows⟩ a w' ∧ RelV (Sf w0.heap.size S (rowsRes d r ++ st.rows) g') w' (rowsRes d r ++ st.rows) g' v (avRes d r) := by
  have hgood := good_Res (d := d) hr
  let g' : Gh := fun id => match find (rowsRes d r) id with | some _ => fb (backP d id) | none => g id
  have hg' : ∀ id, g' id = match find (rowsRes d r) id with | some _ => fb (backP d id) | none => g id := fun _ => rfl
  have hcid : ∀ id r', find (rowsRes d r) id = some r' → id = cid d (backP d id) := by
    intro id r' hf
    obtain ⟨p, _, _, _, h1, _⟩ := hgood id r' (find_mem hf)
    rw [h1, backP_cid]
  have hF : ∀ b o, Fp (Sf w0.heap.size S st.rows g) w.heap.size fb b o → Sf w0.heap.size S (rowsRes d r ++ st.rows) g' b o := by
    intro b o hf
    rcases hf with ⟨h1, h2⟩ | ⟨h1, h2⟩
    · rcases h2 with h2 | ⟨h2, h3⟩
      · exact .inl h2
      · refine .inr ⟨h2, fun id r' c hfi hgi => ?_⟩
        rw [find_append] at hfi
        rw [hg'] at hgi
        cases hn : find (rowsRes d r) id with
        | some r0 => rw [hn] at hgi; have := (hblk _ b c hgi).1; omega
        | none => rw [hn] at hfi hgi; exact h3 id r' c hfi hgi
    · refine .inr ⟨by have := h.below.size; omega, fun id r' c hfi hgi => ?_⟩
      rw [find_append] at hfi
      rw [hg'] at hgi
      cases hn : find (rowsRes d r) id with
      | some r0 => rw [hn] at hgi; exact absurd hgi (h2 _ c)
      | none => rw [hn] at hfi hgi; have := (h.blk id r' b c hfi hgi).2; omega
  have hr' : RelRes (Fp (Sf w0.heap.size S st.rows g) w.heap.size fb) w' fb v r ∨ r.flat = true := by
    rcases hF0 with hfl | hsub
    · exact .inr hfl
    · left
      have e : ∀ b o, Fp F0 w.heap.size fb b o → Fp (Sf w0.heap.size S st.rows g) w.heap.size fb b o := by
        intro b o hf
        rcases hf with ⟨h1, h2⟩ | hf
        · exact .inl ⟨h1, hsub b o h2⟩
        · exact .inr hf
      cases r with
      | one x =>
        have key : ∀ {p : Nat} {u : Value} {x : RC}, RelRC (Fp F0 w.heap.size fb) w' fb p u x → RelRC (Fp (Sf w0.heap.size S st.rows g) w.heap.size fb) w' fb p u x := by
          intro p u x hx
          cases x with
          | d x => exact RelC.sub e hx
          | fresh e' sz xs => exact ⟨hx.1, relRow_arr e rfl hx.2⟩
        have keys : ∀ {us : List Value} {xs : List RC} {p : Nat}, RelRCs (Fp F0 w.heap.size fb) w' fb p us xs → RelRCs (Fp (Sf w0.heap.size S st.rows g) w.heap.size fb) w' fb p us xs := by
          intro us
          induction us with
          | nil => intro xs p hx; cases xs with
            | nil => trivial
            | cons => exact hx.elim
          | cons u us ih => intro xs p hx; cases xs with
            | nil => exact hx.elim
            | cons x xs => exact ⟨⟨hx.1.1, key hx.1.2⟩, ih hx.2⟩
        cases x with
        | c x => exact ⟨hr.1, key hr.2⟩
        | agg xs => obtain ⟨cs, h1, h2⟩ := hr; exact ⟨cs, h1, keys h2⟩
      | tup xs =>
        have key : ∀ {p : Nat} {u : Value} {x : RC}, RelRC (Fp F0 w.heap.size fb) w' fb p u x → RelRC (Fp (Sf w0.heap.size S st.rows g) w.heap.size fb) w' fb p u x := by
          intro p u x hx
          cases x with
          | d x => exact RelC.sub e hx
          | fresh e' sz xs => exact ⟨hx.1, relRow_arr e rfl hx.2⟩
        have keys : ∀ {us : List Value} {xs : List RC} {p : Nat}, RelRCs (Fp F0 w.heap.size fb) w' fb p us xs → RelRCs (Fp (Sf w0.heap.size S st.rows g) w.heap.size fb) w' fb p us xs := by
          intro us
          induction us with
          | nil => intro xs p hx; cases xs with
            | nil => trivial
            | cons => exact hx.elim
          | cons u us ih => intro xs p hx; cases xs with
            | nil => exact hx.elim
            | cons x xs => exact ⟨⟨hx.1.1, key hx.1.2⟩, ih hx.2⟩
        obtain ⟨vs, h1, h2⟩ := hr
        refine ⟨vs, h1, ?_⟩
        have keyv : ∀ {us : List Value} {ys : List RV} {p : Nat}, RelRVs (Fp F0 w.heap.size fb) w' fb p us ys → RelRVs (Fp (Sf w0.heap.size S st.rows g) w.heap.size fb) w' fb p us ys := by
          intro us
          induction us with
          | nil => intro xs p hx; cases xs with
            | nil => trivial
            | cons => exact hx.elim
          | cons u us ih => intro ys p hx; cases ys with
            | nil => exact hx.elim
            | cons x ys =>
              refine ⟨?_, ih hx.2⟩
              cases x with
              | c x => exact ⟨hx.1.1, key hx.1.2⟩
              | agg xs => obtain ⟨cs, h1, h2⟩ := hx.1; exact ⟨cs, h1, keys h2⟩
        exact keyv h2
  have hr2 : RelRes (Fp (Sf w0.heap.size S st.rows g) w.heap.size fb) w' fb v r := by
    rcases hr' with h1 | h1
    · exact h1
    · exact flat_Res h1 hr
  have hrel := (h.news hb hg' hfree (fun id r' b c hf hgi => hblk _ b c hgi) (fun id id' r' r'' b c c' hf hf' hgi hgi' => by
      have := hinj _ _ b c c' hgi hgi'
      rw [hcid id r' hf, hcid id' r'' hf', this]) (fun id r' hf => by
      obtain ⟨p, e, sz, xs, h1, h2, h3⟩ := good_Res (d := d) hr2 id r' (find_mem hf)
      subst h2
      refine relRow_arr hF ?_ h3
      rw [hg', hf, h1]
      simp [backP_cid])).2
  refine ⟨g', hrel, av_Res hF hr2 fun id r' hm => ⟨?_, ?_⟩⟩
  · rw [find_append, huniq id r' hm]
  · rw [hg', huniq id r' hm]

end
end Go.Abs

