/-
  The abstract steps are sound, part five: append, and a store.
-/
import Derived.Test.YtncglcfhbhbaoaaAbsF
set_option linter.unusedSimpArgs false
set_option linter.unusedVariables false
namespace Go.Abs
open Go.RowKit

section
variable {S : Nat → Nat → Prop} {w0 : World} {N : Fm} {g : Gh} {st : ASt} {a : Act} {w : World}

theorem idx_lt {n sz i j : Nat} (hi : i < n) (hj : j < sz) : i * sz + j < n * sz := by
  have : (i + 1) * sz ≤ n * sz := Nat.mul_le_mul_right _ hi
  rw [Nat.add_mul, Nat.one_mul] at this
  omega

theorem idx_div {sz i j : Nat} (hj : j < sz) : (i * sz + j) / sz = i ∧ (i * sz + j) % sz = j := by
  have h0 : 0 < sz := by omega
  constructor
  · rw [Nat.mul_comm, Nat.mul_add_div h0, Nat.div_eq_of_lt hj, Nat.add_zero]
  · rw [Nat.mul_comm, Nat.mul_add_mod, Nat.mod_eq_of_lt hj]

/-- What these values are, element by element. -/
def Elems (F : Nat → Nat → Prop) (w : World) (sz : Nat) (vs : List Value) (ys : List (List DC)) : Prop :=
  ∀ (i j : Nat) (x : List DC) (d : DC), ys[i]? = some x → x[j]? = some d → ∃ u, vs[i * sz + j]? = some u ∧ RelC F w u d

theorem src_nil (P : Program) (size : Nat) (w : World) (ad : Option Addr) (c : Nat) : Src P size 0 w (.slice ad 0 c) [] := by
  refine ⟨rfl, fun w' _ => ?_, by simp, by simp⟩
  cases ad <;> simp [Builtin.firstCells, loadCells, loadCellsFrom]

theorem src_cells {P : Program} {sz m b o c : Nat} (hsz : 0 < sz) (us : Nat → Nat → Value) (hone : ∀ i j, i < m → j < sz → (us i j).oneCell' = true)
    (hc : ∀ i j, i < m → j < sz → cl w b (o + i * sz + j) = some (us i j)) :
    Src P sz m w (.slice (some ⟨b, o, none⟩) m c) ((List.range (m * sz)).map fun k => us (k / sz) (k % sz)) := by
  have key : ∀ k, k < m * sz → k / sz < m ∧ k % sz < sz ∧ k / sz * sz + k % sz = k := fun k hk =>
    ⟨(Nat.div_lt_iff_lt_mul hsz).2 hk, Nat.mod_lt _ hsz, by rw [Nat.mul_comm]; exact Nat.div_add_mod k sz⟩
  refine ⟨rfl, fun w' hw' => ?_, by simp, fun u hu => ?_⟩
  · have := run_loadCells (P := P) w' ⟨b, o, none⟩ (m * sz) (fun k => us (k / sz) (k % sz)) (fun k hk => by
      obtain ⟨h1, h2, h3⟩ := key k hk
      rw [Addr.add_lit]
      have := hc (k / sz) (k % sz) h1 h2
      rw [Nat.add_assoc, h3] at this
      rw [← this]
      exact cl_of_block (by rw [hw']) _)
    simp [Builtin.firstCells, this]
  · obtain ⟨k, hk, rfl⟩ := List.mem_map.1 hu
    obtain ⟨h1, h2, _⟩ := key k (List.mem_range.1 hk)
    exact hone _ _ h1 h2

theorem elems_cells {F : Nat → Nat → Prop} {sz : Nat} (us : Nat → Nat → Value) (ys : List (List DC)) (hlen : ∀ (i : Nat) (x : List DC), ys[i]? = some x → x.length = sz)
    (hr : ∀ (i j : Nat) (x : List DC) (d : DC), ys[i]? = some x → x[j]? = some d → RelC F w (us i j) d) :
    Elems F w sz ((List.range (ys.length * sz)).map fun k => us (k / sz) (k % sz)) ys := by
  intro i j x d hx hd
  have hi := (List.getElem?_eq_some_iff.1 hx).1
  have hj := (List.getElem?_eq_some_iff.1 hd).1
  rw [hlen i x hx] at hj
  have hlt := idx_lt hi hj
  obtain ⟨e1, e2⟩ := idx_div (i := i) hj
  refine ⟨us i j, ?_, hr i j x d hx hd⟩
  rw [List.getElem?_map, List.getElem?_range hlt]
  simp [e1, e2]

theorem src_sl (P : Program) {F : Nat → Nat → Prop} {v : Value} {ys : List (List DC)} (hr : RelC F w v (.sl ys)) {sz : Nat} (hsz : 0 < sz) (hlen : ∀ y, y ∈ ys → y.length = sz) :
    ∃ news, Src P sz ys.length w v news ∧ Elems F w sz news ys := by
  cases hr with
  | emp ad c => exact ⟨[], src_nil P sz w ad c, fun i j x d hx => by simp at hx⟩
  | sl b o c sz' xs us hc hm hs hS hrr =>
    have hl : ∀ (i : Nat) (x : List DC), ys[i]? = some x → x.length = sz := fun i x hx => hlen x (List.mem_of_getElem? hx)
    have get : ∀ i j, i < ys.length → j < sz → ∃ x d, ys[i]? = some x ∧ x[j]? = some d ∧ sz' = sz := by
      intro i j hi hj
      have hx := List.getElem?_eq_getElem hi
      have hj' : j < (ys[i]).length := by rw [hl i _ hx]; exact hj
      exact ⟨_, _, hx, List.getElem?_eq_getElem hj', by rw [← hs i _ hx, hl i _ hx]⟩
    refine ⟨_, src_cells hsz us (fun i j hi hj => ?_) (fun i j hi hj => ?_), elems_cells us ys hl hrr⟩
    · obtain ⟨x, d, h1, h2, _⟩ := get i j hi hj
      exact (hrr i j x d h1 h2).one
    · obtain ⟨x, d, h1, h2, rfl⟩ := get i j hi hj
      exact (hS i j x d h1 h2).2

theorem src_row (P : Program) (h : Rel S w0 N g st a w) {id e sz : Nat} {ys : List (List DC)} {fl : Bool} (hf : find st.rows id = some (.arr e sz ys fl)) (hsz : 0 < sz) :
    ∃ news, Src P sz ys.length w (gsl (g id) ys.length) news ∧ Elems (Sf w0.heap.size S st.rows g) w sz news ys := by
  obtain ⟨hl, hrow⟩ := h.rows id _ hf
  rcases hrow with ⟨hg, rfl⟩ | ⟨b, cap, cur, hg, hh, hcap, hm, hcs, hcells⟩
  · rw [hg]; exact ⟨[], src_nil P sz w none 0, fun i j x d hx => by simp at hx⟩
  · rw [hg]
    have get : ∀ i j, i < ys.length → j < sz → ∃ x d u, ys[i]? = some x ∧ x[j]? = some d ∧ cur[i * sz + j]? = some u ∧ RelC (Sf w0.heap.size S st.rows g) w u d := by
      intro i j hi hj
      have hx := List.getElem?_eq_getElem hi
      have hj' : j < (ys[i]).length := by rw [hl i _ hx]; exact hj
      obtain ⟨u, hu, hr⟩ := hcells i j _ _ hx (List.getElem?_eq_getElem hj')
      exact ⟨_, _, u, hx, List.getElem?_eq_getElem hj', hu, hr⟩
    refine ⟨_, src_cells (o := 0) hsz (fun i j => (cur[i * sz + j]?).getD undef) (fun i j hi hj => ?_) (fun i j hi hj => ?_), elems_cells (fun i j => (cur[i * sz + j]?).getD undef) ys hl (fun i j x d hx hd => ?_)⟩
    · obtain ⟨x, d, u, _, _, hu, hr⟩ := get i j hi hj
      simp only [hu, Option.getD_some]; exact hr.one
    · obtain ⟨x, d, u, _, _, hu, hr⟩ := get i j hi hj
      rw [Nat.zero_add, cl_row hh]; simp [hu]
    · obtain ⟨u, hu, hr⟩ := hcells i j x d hx hd
      simp only [hu, Option.getD_some]; exact hr

theorem take_get {α : Type} (l : List α) (n k : Nat) (h : k < n) : (l.take n)[k]? = l[k]? := by
  rw [List.getElem?_take, if_pos h]

/-- The elements of a row that has grown. -/
theorem elems_app {F : Nat → Nat → Prop} {sz : Nat} {olds news : List Value} {xs ys : List (List DC)} (ho : olds.length = xs.length * sz) (hlx : ∀ (i : Nat) (x : List DC), xs[i]? = some x → x.length = sz) (hly : ∀ (i : Nat) (x : List DC), ys[i]? = some x → x.length = sz)
    (h1 : Elems F w sz olds xs) (h2 : Elems F w sz news ys) (rest : List Value) : Elems F w sz (olds ++ news ++ rest) (xs ++ ys) := by
  intro i j x d hx hd
  by_cases hi : i < xs.length
  · rw [List.getElem?_append_left hi] at hx
    obtain ⟨u, hu, hr⟩ := h1 i j x d hx hd
    refine ⟨u, ?_, hr⟩
    have := (List.getElem?_eq_some_iff.1 hu).1
    rw [List.append_assoc, List.getElem?_append_left this]; exact hu
  · rw [List.getElem?_append_right (by omega)] at hx
    obtain ⟨u, hu, hr⟩ := h2 (i - xs.length) j x d hx hd
    refine ⟨u, ?_, hr⟩
    have := (List.getElem?_eq_some_iff.1 hu).1
    have e : i * sz + j = olds.length + ((i - xs.length) * sz + j) := by
      rw [ho, ← Nat.add_assoc, ← Nat.add_mul]; congr 2; omega
    rw [List.append_assoc, e, List.getElem?_append_right (by omega), Nat.add_sub_cancel_left, List.getElem?_append_left this]
    exact hu

/-- Append: row id, to which nothing leads, gets the elements ys. -/
theorem Rel.app {P : Program} (h : Rel S w0 N g st a w) {id : Nat} (hm : st.nomen id) {t tx ty e sz : Nat} {i : TypeInfo} {z : Value} (ht : P.underlying t = some (.slice e)) {dx : TypeDesc} (htx : P.underlying tx = some dx)
    (hdx : (∃ e2, dx = .slice e2) ∨ dx = .string) (hi : P.info? e = some i) (hz : i.zero = some z) (hsz : i.size = sz) (hzl : z.cells.size = sz) (hpos : 0 < sz)
    {v x : Value} {xs ys : List (List DC)} {fl : Bool} {news : List Value}
    (hv : (v = .slice none 0 0 ∧ xs = []) ∨ ∃ b cap, v = .slice (some ⟨b, 0, none⟩) xs.length cap ∧ g id = some (b, cap) ∧ find st.rows id = some (.arr e sz xs fl))
    (hs : Src P sz ys.length w x news) (hel : Elems (Sf w0.heap.size S st.rows g) w sz news ys) (hly : ∀ y, y ∈ ys → y.length = sz)
    (hb1 : xs.length + ys.length ≤ 1099511627776) (hb2 : i.bytes ≤ 128) :
    ∃ v' w' g', (Builtin.append_ #[t, tx] ty #[v, x]).run P w = .ok v' w' ∧ v' = gsl (g' id) (xs ++ ys).length ∧ Rel S w0 N g' ⟨st.tmps, (id, .arr e sz (xs ++ ys) fl) :: st.rows⟩ a w' := by
  subst hsz
  have hly' : ∀ (i' : Nat) (x : List DC), ys[i']? = some x → x.length = i.size := fun i' x hx => hly x (List.mem_of_getElem? hx)
  have hfit : ∀ cap, cap < xs.length + ys.length → Builtin.nextslicecap (xs.length + ys.length) cap * i.bytes ≤ 281474976710656 := by
    intro cap hc
    refine growslice_fits hc ?_
    have := Nat.mul_le_mul hb1 hb2
    omega
  have h63 : ((xs.length + ys.length : Nat) : Int) ≤ 9223372036854775807 := by omega
  -- the row that is made anew
  have grow : ∀ (base : Option Addr) (cap : Nat) (olds : List Value), v = .slice base xs.length cap → (∀ w', w'.heap = w.heap → (Builtin.firstCells i.size xs.length (.slice base xs.length cap)).run P w' = .ok olds.toArray w') →
      cap < xs.length + ys.length → olds.length = xs.length * i.size → (∀ (i' : Nat) (x : List DC), xs[i']? = some x → x.length = i.size) → Elems (Sf w0.heap.size S st.rows g) w i.size olds xs →
      ∃ v' w' g', (Builtin.append_ #[t, tx] ty #[v, x]).run P w = .ok v' w' ∧ v' = gsl (g' id) (xs ++ ys).length ∧ Rel S w0 N g' ⟨st.tmps, (id, .arr e i.size (xs ++ ys) fl) :: st.rows⟩ a w' := by
    intro base cap olds hvv hold hc hol hlx helo
    have hrun := run_app_grow (P := P) t tx ty e i z ht htx hdx hi hz hs base xs.length cap olds hold hc h63 (hfit cap hc)
    have hge := grownCap_ge w (xs.length + ys.length) cap e
    have hle : grownCap w (xs.length + ys.length) cap e ≤ maxLen := grownCap_le_maxLen w _ _ _ (by unfold maxLen; omega)
    refine ⟨_, _, updG g id (some (w.heap.size, grownCap w (xs.length + ys.length) cap e)), by rw [hvv]; exact hrun, by rw [updG_eq]; simp [gsl], ?_⟩
    refine Rel.renew (h.heap (w' := w.drew) rfl rfl rfl rfl) hm rfl rfl rfl (by simp) (fun b hb _ => heap_alloc_old w.drew _ hb) (fun b c he => ?_) (fun b c o he hs' hlt => ?_) (fun hc' => ?_)
    · cases he
      exact ⟨h.below.size, by simp, .inr (by simp)⟩
    · cases he; simp at hlt
    · refine ⟨fun i' x hx => ?_, .inr ⟨w.heap.size, _, _, updG_eq _ _ _, heap_alloc_new w.drew _, by simpa using hge, hle, ?_, fun i' j x d hx hd => ?_⟩⟩
      · rcases List.getElem?_append.symm.trans hx |> fun _ => List.mem_append.1 (List.mem_of_getElem? hx) with hmem | hmem
        · obtain ⟨k, hk⟩ := List.mem_iff_getElem?.1 hmem
          exact hlx k x hk
        · exact hly x hmem
      · simp only [Array.size_append, List.size_toArray, size_zeroCells, hzl, hol, hs.size, ← Nat.add_mul]
        congr 1; omega
      · obtain ⟨u, hu, hr⟩ := elems_app (rest := (Builtin.zeroCells z.cells (grownCap w (xs.length + ys.length) cap e - (xs.length + ys.length))).toList) hol hlx hly' helo hel i' j x d hx hd
        refine ⟨u, ?_, RelC.mono (w := w) (fun b o hb hlt => hc' b o hb hlt) hr⟩
        rw [← Array.getElem?_toList]
        simpa [Array.toList_append, List.append_assoc] using hu
  rcases hv with ⟨hv, hxs⟩ | ⟨b, cap, hv, hg, hf⟩
  · subst hxs
    by_cases hys : ys = []
    · subst hys
      have hnews : news = [] := List.eq_nil_of_length_eq_zero (by simpa using hs.size)
      refine ⟨.slice none 0 0, w, updG g id none, ?_, by rw [updG_eq]; rfl, ?_⟩
      · have := hs.cells w rfl
        have hl := hs.len
        simp only [List.length_nil] at this hl
        rcases hdx with ⟨e2, rfl⟩ | rfl <;> simp [Builtin.append_, run_underlying ht, run_underlying htx, sizeOf, typeInfo, hi, hv, hl, this]
      · refine h.renew hm rfl rfl rfl (Nat.le_refl _) (fun b _ _ => rfl) (fun b c he => by cases he) (fun b c o he => by cases he) (fun hc' => ⟨fun i' x hx => by simp at hx, .inl ⟨updG_eq _ _ _, rfl⟩⟩)
    · have hpos' : 0 < ys.length := List.length_pos_iff.2 hys
      exact grow none 0 [] hv (fun w' _ => by simp [Builtin.firstCells]) (by simpa using hpos') (by simp) (fun i' x hx => by simp at hx) (fun i' j x d hx => by simp at hx)
  · obtain ⟨hlx, hrow⟩ := h.rows id _ hf
    rcases hrow with ⟨hg', _⟩ | ⟨b', cap', cur, hg', hh, hcap, hm', hcs, hcells⟩
    · rw [hg'] at hg; cases hg
    · rw [hg'] at hg
      cases hg
      have hol : (cur.toList.take (xs.length * i.size)).length = xs.length * i.size := by
        have hcl : cur.toList.length = cap * i.size := by simpa using hcs
        rw [List.length_take, hcl]
        exact Nat.min_eq_left (Nat.mul_le_mul_right _ hcap)
      have helo : Elems (Sf w0.heap.size S st.rows g) w i.size (cur.toList.take (xs.length * i.size)) xs := by
        intro i' j x d hx hd
        obtain ⟨u, hu, hr⟩ := hcells i' j x d hx hd
        have hi' := (List.getElem?_eq_some_iff.1 hx).1
        have hj := (List.getElem?_eq_some_iff.1 hd).1
        rw [hlx i' x hx] at hj
        exact ⟨u, by rw [take_get _ _ _ (idx_lt hi' hj)]; simpa using hu, hr⟩
      by_cases hroom : xs.length + ys.length ≤ cap
      · have hfit' : xs.length * i.size + news.length ≤ cur.size := by rw [hs.size, hcs, ← Nat.add_mul]; exact Nat.mul_le_mul_right _ hroom
        have hrun := run_app_room (P := P) t tx ty e i ht htx hdx hi hs b xs.length cap cur hh hroom hfit'
        obtain ⟨hb3, hb4⟩ := h.blk id _ b cap hf hg'
        refine ⟨_, _, updG g id (some (b, cap)), by rw [hv]; exact hrun, by rw [updG_eq]; simp [gsl], ?_⟩
        refine Rel.renew h hm rfl rfl rfl (by simp) (fun k hk hne => setRow_other w b k _ (fun he => hne cap (by rw [he]))) (fun k c he => ?_) (fun k c o he hs' hlt => ?_) (fun hc' => ?_)
        · cases he
          exact ⟨hb3, by simpa using hb4, .inl ⟨_, _, hf, hg', rfl⟩⟩
        · cases he
          rcases hs' with ⟨h5, _⟩ | ⟨_, h6⟩
          · omega
          · obtain ⟨h7, h8⟩ := h6 id _ _ hf hg'
            refine ⟨⟨h7, ?_⟩, ?_⟩
            · rw [List.length_append, Nat.add_mul]; omega
            · rw [cl_row (setRow_heap w b cur _ e _ hh), cl_row hh]
              simp only [List.getElem?_toArray, List.append_assoc]
              rw [List.getElem?_append_left (by rw [hol]; exact h8), take_get _ _ _ h8]
              simp
        · refine ⟨fun i' x hx => ?_, .inr ⟨b, cap, _, updG_eq _ _ _, setRow_heap w b cur _ e _ hh, by simpa using hroom, hm', ?_, fun i' j x d hx hd => ?_⟩⟩
          · rcases List.mem_append.1 (List.mem_of_getElem? hx) with hmem | hmem
            · obtain ⟨k, hk⟩ := List.mem_iff_getElem?.1 hmem
              exact hlx k x hk
            · exact hly x hmem
          · simp only [List.size_toArray, List.length_append, hol, List.length_drop, Array.length_toList]
            omega
          · obtain ⟨u, hu, hr⟩ := elems_app (rest := cur.toList.drop (xs.length * i.size + news.length)) hol hlx hly' helo hel i' j x d hx hd
            exact ⟨u, by simpa using hu, hr.mono hc'⟩
      · refine grow (some ⟨b, 0, none⟩) cap _ hv (fun w' hw' => ?_) (by omega) hol hlx helo
        have := run_firstCells_some (P := P) w' i.size xs.length ⟨b, 0, none⟩ xs.length cap (cur.toList.take (xs.length * i.size)) hol (fun j u hu => by
          rw [Addr.add_lit, Nat.zero_add]
          have : w'.heap[b]? = some (.cells cur e (0, 0)) := by rw [hw']; exact hh
          rw [cell_of_row w' b j cur e (0, 0) this]
          rw [List.getElem?_take] at hu
          split at hu
          · simpa using hu
          · cases hu)
        exact this

end
end Go.Abs
