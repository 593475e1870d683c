/-
  The abstract steps are sound, part seven: structs and slices written out, make.
-/
import Derived.Test.YtncglcfhbhbaoaaAbsH
set_option linter.unusedSimpArgs false
set_option linter.unusedVariables false
namespace Go.Abs
open Go.RowKit

theorem foldl_splice : ∀ (l : List Value) (off : Nat) (cells : Array Value), off + l.length ≤ cells.size →
    ((l.zipIdx.foldl (fun (cs : Array Value) (p : Value × Nat) => cs.setIfInBounds (off + p.2) p.1) cells)).toList = cells.toList.take off ++ l ++ cells.toList.drop (off + l.length) := by
  suffices H : ∀ (l : List Value) (off k : Nat) (cells : Array Value), off + k + l.length ≤ cells.size →
      (((l.zipIdx k).foldl (fun (cs : Array Value) (p : Value × Nat) => cs.setIfInBounds (off + p.2) p.1) cells)).toList = cells.toList.take (off + k) ++ l ++ cells.toList.drop (off + k + l.length) by
    intro l off cells h
    simpa using H l off 0 cells (by simpa using h)
  intro l
  induction l with
  | nil => intro off k cells h; simp
  | cons v l ih =>
    intro off k cells h
    simp only [List.length_cons] at h
    simp only [List.zipIdx_cons, List.foldl_cons]
    rw [ih off (k + 1) _ (by simp; omega)]
    have e := list_seg_step cells.toList (off + k) v l (by simp; omega)
    simpa [Array.toList_setIfInBounds, Nat.add_assoc] using e

theorem foldl_splice_arr (v : Value) (off : Nat) (cells : Array Value) (h : off + v.cells.size ≤ cells.size) :
    (v.cells.zipIdx.foldl (fun (cs : Array Value) (p : Value × Nat) => cs.setIfInBounds (off + p.2) p.1) cells).toList = cells.toList.take off ++ v.cells.toList ++ cells.toList.drop (off + v.cells.size) := by
  have := foldl_splice v.cells.toList off cells (by simpa using h)
  rw [← Array.foldl_toList]
  simpa using this

section
variable {S : Nat → Nat → Prop} {w0 : World} {N : Fm} {g : Gh} {st : ASt} {a : Act} {w : World}

theorem fill_sound (h : Rel S w0 N g st a w) (fs : List (Nat × Nat × Bool)) (place : Nat → Option (Nat × Nat)) (hp : ∀ i off sz ag, fs[i]? = some (off, sz, ag) → place i = some (off, sz)) :
    ∀ (parts : List (Nat × Operand)) (cells : Array Value) (cs cs' : List AC),
      All2 (fun u x => u.oneCell' = true ∧ RelAC (Sf w0.heap.size S st.rows g) w st.rows g u x) cells.toList cs → buildF fs st cs parts = some cs' →
      ∃ cells', Instr.fill place cells (parts.map fun p => (p.1, a.eval p.2)) = some cells' ∧ All2 (fun u x => u.oneCell' = true ∧ RelAC (Sf w0.heap.size S st.rows g) w st.rows g u x) cells'.toList cs'
  | [], cells, cs, cs', hall, hb => by
    simp only [buildF] at hb
    cases hb
    exact ⟨cells, rfl, hall⟩
  | (i, x) :: rest, cells, cs, cs', hall, hb => by
    simp only [buildF] at hb
    split at hb
    · rename_i off sz ag xs hf hx
      split at hb
      · rename_i hc
        obtain ⟨h1, h2⟩ := hc
        have hxs := cells_sound (h.ev x) hx
        have hl1 : (a.eval x).cells.size = sz := by rw [← Array.length_toList, hxs.len, h1]
        have hl2 : cells.size = cs.length := by rw [← Array.length_toList, hall.len]
        have hsp := foldl_splice_arr (a.eval x) off cells (by omega)
        have hnew : All2 (fun u x => u.oneCell' = true ∧ RelAC (Sf w0.heap.size S st.rows g) w st.rows g u x)
            ((a.eval x).cells.zipIdx.foldl (fun (cs : Array Value) (p : Value × Nat) => cs.setIfInBounds (off + p.2) p.1) cells).toList (splice cs off xs) := by
          rw [hsp]
          have := splice_all2 hall hxs off
          simpa [splice] using this
        obtain ⟨cells', h3, h4⟩ := fill_sound h fs place hp rest _ _ _ hnew hb
        refine ⟨cells', ?_, h4⟩
        simp only [List.map_cons, Instr.fill, hp i off sz ag hf]
        rw [if_neg (by simp [hl1]; omega)]
        exact h3
      · cases hb
    · cases hb

theorem build_sound {P : Program} {T : Tab} (hT : TabOk P T) (h : Rel S w0 N g st a w) (t : Nat) (parts : Array (Nat × Operand)) {ti : TI} (ht : T t = some ti) {fs : List (Nat × Nat × Bool)} (hd : ti.desc = .struct fs)
    {cs : List AC} (hb : buildF fs st (ti.zero.map zac) parts.toList = some cs) :
    ∃ u, (Instr.build t (parts.map fun (i, x) => (i, a.eval x))).run P w = .ok u w ∧ RelV (Sf w0.heap.size S st.rows g) w st.rows g u (.agg cs) := by
  obtain ⟨i, z, hi, hs, _, hz, hzc⟩ := (hT t ti ht).info'
  obtain ⟨F, hF1, hF, hsome⟩ := (hT t ti ht).strc hd
  have hinfo : ∀ f ∈ F.toList, ∃ j, P.info? f.type = some j := by
    intro f hf
    obtain ⟨d, hd'⟩ := hsome f hf
    unfold Program.underlying at hd'
    cases hq : P.info? f.type with
    | none => simp [hq] at hd'
    | some j => exact ⟨j, rfl⟩
  have hpl : F.toList.mapM (fun f => (P.info? f.type).map fun i => (f.offset, i.size)) = some (fs.map fun p => (p.1, p.2.1)) := by
    rw [← hF]
    clear hF hF1 hsome
    generalize F.toList = l at hinfo
    induction l with
    | nil => simp
    | cons f l ih =>
      obtain ⟨j, hj⟩ := hinfo f (by simp)
      have := ih fun q hq => hinfo q (List.mem_cons_of_mem _ hq)
      simp only [List.mapM_cons, hj, Option.map_some, this, List.map_cons, List.map_map]
      simp
  have hz0 := zeros_sound (hT t ti ht) (Sf w0.heap.size S st.rows g) w st.rows g
  rw [← hzc] at hz0
  rw [← hzc] at hb
  obtain ⟨cells', h1, h2⟩ := fill_sound h fs (fun i => ((fs.map fun p => (p.1, p.2.1)).toArray)[i]?) (fun i off sz ag hf => by simp [hf]) parts.toList z.cells _ _ hz0 hb
  refine ⟨.agg cells', ?_, by unfold RelV; exact ⟨cells', rfl, h2⟩⟩
  refine run_build w t _ cells' ?_
  unfold Program.built
  simp only [hi, hF1, hz, hpl]
  have e : (Array.map (fun x => match x with | (i, x) => (i, a.eval x)) parts).toList = parts.toList.map fun p => (p.1, a.eval p.2) := by simp
  rw [e]
  exact h1

theorem build_arr_sound {P : Program} {T : Tab} (hT : TabOk P T) (h : Rel S w0 N g st a w) (t : Nat) (parts : Array (Nat × Operand)) {ti te : TI} (ht : T t = some ti) {m e : Nat} (hd : ti.desc = .array m e) (hte : T e = some te)
    {cs : List AC} (hb : buildF (arrFs te.size m 0) st (ti.zero.map zac) parts.toList = some cs) :
    ∃ u, (Instr.build t (parts.map fun (i, x) => (i, a.eval x))).run P w = .ok u w ∧ RelV (Sf w0.heap.size S st.rows g) w st.rows g u (.agg cs) := by
  obtain ⟨i, z, hi, hs, _, hz, hzc⟩ := (hT t ti ht).info'
  obtain ⟨ie, ze, hie, hse, _⟩ := (hT e te hte).info'
  have hun := (hT t ti ht).under
  rw [hd] at hun
  simp only at hun
  have hz0 := zeros_sound (hT t ti ht) (Sf w0.heap.size S st.rows g) w st.rows g
  rw [← hzc] at hz0
  rw [← hzc] at hb
  obtain ⟨cells', h1, h2⟩ := fill_sound h (arrFs te.size m 0) (fun i => some (i * ie.size, ie.size)) (fun i off sz ag hf => by
    have := arrFs_get hf
    simp only [Prod.mk.injEq] at this
    rw [this.1, this.2.1, hse, Nat.zero_add]) parts.toList z.cells _ _ hz0 hb
  refine ⟨.agg cells', ?_, by unfold RelV; exact ⟨cells', rfl, h2⟩⟩
  refine run_build w t _ cells' ?_
  unfold Program.built
  simp only [hi, hun, hz, hie]
  have e : (Array.map (fun x => match x with | (i, x) => (i, a.eval x)) parts).toList = parts.toList.map fun p => (p.1, a.eval p.2) := by simp
  rw [e]
  exact h1

/-- Slices written out: the elements. -/
theorem fillSlice_sound (h : Rel S w0 N g st a w) (sz : Nat) :
    ∀ (parts : List (Nat × Operand)) (cells : Array Value) (xs xs' : List (List DC)), cells.size = xs.length * sz → (∀ (i : Nat) (x : List DC), xs[i]? = some x → x.length = sz) →
      Elems (Sf w0.heap.size S st.rows g) w sz cells.toList xs → buildSliceF sz st xs parts = some xs' →
      ∃ cells', Instr.fill (fun i => some (i * sz, sz)) cells (parts.map fun p => (p.1, a.eval p.2)) = some cells' ∧ cells'.size = xs'.length * sz ∧ xs'.length = xs.length ∧
        (∀ (i : Nat) (x : List DC), xs'[i]? = some x → x.length = sz) ∧ Elems (Sf w0.heap.size S st.rows g) w sz cells'.toList xs'
  | [], cells, xs, xs', hcs, hl, hel, hb => by
    simp only [buildSliceF] at hb
    cases hb
    exact ⟨cells, rfl, hcs, rfl, hl, hel⟩
  | (k, x) :: rest, cells, xs, xs', hcs, hl, hel, hb => by
    simp only [buildSliceF] at hb
    split at hb
    · rename_i cs hx
      split at hb
      · rename_i y hy
        split at hb
        · rename_i hc
          obtain ⟨h1, h2⟩ := hc
          have hxs := cells_sound (h.ev x) hx
          have hdy := dcs_sound h hxs hy
          have hl1 : (a.eval x).cells.size = sz := by rw [← Array.length_toList, hdy.len, h1]
          have hkb : k * sz + sz ≤ cells.size := by
            rw [hcs]
            have : (k + 1) * sz ≤ xs.length * sz := Nat.mul_le_mul_right _ h2
            rw [Nat.add_mul, Nat.one_mul] at this; exact this
          have hsp := foldl_splice_arr (a.eval x) (k * sz) cells (by omega)
          have hF0 : ∀ b o, (false = true ∨ Sf w0.heap.size S st.rows g b o) → Sf w0.heap.size S st.rows g b o := fun b o hb => by simpa using hb
          have hsize : ((a.eval x).cells.zipIdx.foldl (fun (cs : Array Value) (p : Value × Nat) => cs.setIfInBounds (k * sz + p.2) p.1) cells).size = (xs.set k y).length * sz := by
            rw [← Array.length_toList, hsp]
            simp only [List.length_append, List.length_take, List.length_drop, Array.length_toList, List.length_set]
            rw [← hcs]; omega
          have hnew : Elems (Sf w0.heap.size S st.rows g) w sz ((a.eval x).cells.zipIdx.foldl (fun (cs : Array Value) (p : Value × Nat) => cs.setIfInBounds (k * sz + p.2) p.1) cells).toList (xs.set k y) := by
            intro i j z d hz hd
            rw [hsp]
            have htk : (cells.toList.take (k * sz)).length = k * sz := by rw [List.length_take, Array.length_toList]; omega
            rw [List.getElem?_set] at hz
            split at hz
            · rename_i hki
              subst hki
              cases hz
              obtain ⟨u, hu1, hu2⟩ := hdy.get hd
              refine ⟨u, ?_, hu2.sub hF0⟩
              have hj := (List.getElem?_eq_some_iff.1 hu1).1
              rw [List.append_assoc, List.getElem?_append_right (by rw [htk]; omega), htk, Nat.add_sub_cancel_left, List.getElem?_append_left hj]
              exact hu1
            · rename_i hki
              obtain ⟨u, hu1, hu2⟩ := hel i j z d hz hd
              refine ⟨u, ?_, hu2⟩
              have hj := (List.getElem?_eq_some_iff.1 hd).1
              rw [hl i z hz] at hj
              by_cases hlt : i < k
              · have := idx_lt hlt hj
                rw [List.append_assoc, List.getElem?_append_left (by rw [htk]; omega), take_get _ _ _ (by omega)]
                exact hu1
              · have hgt : k < i := by omega
                have : (k + 1) * sz ≤ i * sz := Nat.mul_le_mul_right _ hgt
                rw [Nat.add_mul, Nat.one_mul] at this
                have hcl : (a.eval x).cells.toList.length = sz := by simpa using hl1
                rw [List.append_assoc, List.getElem?_append_right (by rw [htk]; omega), htk, List.getElem?_append_right (by omega), List.getElem?_drop, hcl, hl1]
                have : k * sz + sz + (i * sz + j - k * sz - sz) = i * sz + j := by omega
                rw [this]; exact hu1
          obtain ⟨cells', h3, h4, h5, h6, h7⟩ := fillSlice_sound h sz rest _ _ _ hsize (fun i z hz => by
            rw [List.getElem?_set] at hz
            split at hz
            · cases hz; exact h1
            · exact hl i z hz) hnew hb
          refine ⟨cells', ?_, h4, by simpa using h5, h6, h7⟩
          simp only [List.map_cons, Instr.fill]
          rw [if_neg (by simp [hl1]; omega)]
          exact h3
        · cases hb
      · cases hb
    · cases hb

theorem zeroCells_elems {t : Nat} {ti : TI} {P : Program} (hT : TIok P t ti) (F : Nat → Nat → Prop) (w : World) (n : Nat) {z : Array Value} (hz : z.toList = ti.zero) (hpos : 0 < ti.size) (cells : Array Value) (m : Nat) (hm : n * ti.size ≤ m)
    (hcells : cells = (Array.range m).map (z[· % z.size]!)) :
    Elems F w ti.size cells.toList (List.replicate n (ti.zero.map zdc)) := by
  intro i j x d hx hd
  have hi := (List.getElem?_eq_some_iff.1 hx).1
  rw [List.getElem?_replicate] at hx
  split at hx
  · cases hx
    have hj := (List.getElem?_eq_some_iff.1 hd).1
    rw [List.length_map, hT.len] at hj
    rw [List.getElem?_map] at hd
    obtain ⟨v, hv, rfl⟩ := Option.map_eq_some_iff.1 hd
    have hone := List.all_eq_true.1 hT.one v (List.mem_of_getElem? hv)
    refine ⟨v, ?_, zdc_sound F w v hone⟩
    have hzs : z.size = ti.size := by rw [← Array.length_toList, hz, hT.len]
    have hlt : i * ti.size + j < m := by
      rename_i hin
      have := idx_lt hin hj; omega
    obtain ⟨_, e2⟩ := idx_div (i := i) hj
    rw [hcells]
    simp only [Array.toList_map, Array.toList_range]
    rw [List.getElem?_map, List.getElem?_range hlt]
    simp only [Option.map_some, hzs, e2]
    have hzj : z[j]? = some v := by rw [← Array.getElem?_toList, hz]; exact hv
    have : z[j]! = v := by rw [getElem!_def, hzj]
    rw [this]
  · cases hx

theorem buildSlice_sound {P : Program} {T : Tab} (hT : TabOk P T) (h : Rel S w0 N g st a w) (t n d : Nat) (parts : Array (Nat × Operand)) {ti te : TI} {e : Nat} (ht : T t = some ti) (hd : ti.desc = .slice e) (hte : T e = some te)
    {xs : List (List DC)} (hb : buildSliceF te.size st (List.replicate n (te.zero.map zdc)) parts.toList = some xs) (hf : st.free d = true) (hn : n * te.size ≤ 2 ^ 24) (hpos : 0 < te.size) :
    ∃ u w', (Instr.buildSlice t n (parts.map fun (i, x) => (i, a.eval x))).run P w = .ok u w' ∧ Rel S w0 N (updG g d (some (w.heap.size, n))) ⟨st.tmps, (d, .arr e te.size xs ti.fast) :: st.rows⟩ a w' ∧
      u = gsl (some (w.heap.size, n)) xs.length := by
  have hu := (hT t ti ht).under
  rw [hd] at hu
  simp only at hu
  obtain ⟨i, z, hi, hs, _, hz, hzc⟩ := (hT e te hte).info'
  have hz0 : ∃ cells0, cells0 = (Array.range (n * te.size)).map (z.cells[· % z.cells.size]!) := ⟨_, rfl⟩
  obtain ⟨cells0, hc0⟩ := hz0
  have hsize0 : cells0.size = (List.replicate n (te.zero.map zdc)).length * te.size := by rw [hc0]; simp
  obtain ⟨cells', h1, h2, h3, h4, h5⟩ := fillSlice_sound h te.size parts.toList cells0 _ _ hsize0 (fun i x hx => by
    rw [List.getElem?_replicate] at hx
    split at hx
    · cases hx; simp [(hT e te hte).len]
    · cases hx) (zeroCells_elems (hT e te hte) _ w n hzc hpos cells0 _ (Nat.le_refl _) hc0) hb
  have hxl : xs.length = n := by simpa using h3
  refine ⟨_, w.alloc (.cells cells' e), ?_, h.newArr hf h4 (cap := n) (by omega) (by unfold maxLen; have := Nat.le_mul_of_pos_right n hpos; omega) (by rw [h2, hxl]) (fun i' j x d' hx hd' => ?_), rfl⟩
  · have hnot : ¬ (n * te.size > 2 ^ 24) := by omega
    have ep : (Array.map (fun x => match x with | (i, x) => (i, a.eval x)) parts).toList = parts.toList.map fun p => (p.1, a.eval p.2) := by simp
    by_cases hn0 : n * te.size = 0
    · have hn1 : n = 0 := by
        rcases Nat.mul_eq_zero.1 hn0 with hh | hh
        · exact hh
        · omega
      subst hn1
      have hc00 : cells0 = #[] := by rw [hc0]; simp
      rw [hc00] at h1
      have hr : (Instr.buildSlice t 0 (parts.map fun (i, x) => (i, a.eval x))).run P w = .ok (.slice (some ⟨w.heap.size, 0, none⟩) 0 0) (w.alloc (.cells cells' e)) := by
        simp only [Instr.buildSlice, Sem.run_bind, run_underlying hu, Result.andThen_ok, sizeOf, typeInfo, Sem.run_pure, run_program, hi, hs, ep]
        have e0 : ∀ f : Nat → Value, (Array.range 0).map f = #[] := fun f => by simp
        simp only [Nat.zero_mul, gt_iff_lt, Nat.not_lt_zero, if_false, if_true, Sem.run_pure, Result.andThen_ok, Sem.run_ite, e0, h1]
        simp [newRow, e0, h1]
      rw [hr]
      simp [gsl, hxl]
    · have hr : (Instr.buildSlice t n (parts.map fun (i, x) => (i, a.eval x))).run P w = .ok (.slice (some ⟨w.heap.size, 0, none⟩) n n) (w.alloc (.cells cells' e)) := by
        rw [hc0] at h1
        simp only [Instr.buildSlice, Sem.run_bind, run_underlying hu, Result.andThen_ok, sizeOf, typeInfo, Sem.run_pure, run_program, hi, hs, ep, zeroValue, hz, Sem.run_ite, if_neg hnot, if_neg hn0, h1]
        simp [newRow]
      rw [hr]
      simp [gsl, hxl]
  · obtain ⟨u, hu1, hu2⟩ := h5 i' j x d' hx hd'
    exact ⟨u, by simpa using hu1, hu2⟩

theorem makeSlice_sound {P : Program} {T : Tab} (hT : TabOk P T) (h : Rel S w0 N g st a w) (t d : Nat) {ti te : TI} {e : Nat} (ht : T t = some ti) (hd : ti.desc = .slice e) (hte : T e = some te)
    (kl kc : IntKind) (n m : Int) (hf : st.free d = true) (h0 : 0 ≤ n) (hnm : n ≤ m) (hm : m ≤ 2 ^ 40) (hby : te.bytes ≤ 256) (hpos : 0 < te.size) :
    ∃ u w', (Instr.makeSlice t (.int kl n) (.int kc m)).run P w = .ok u w' ∧
      Rel S w0 N (updG g d (some (w.heap.size, m.toNat))) ⟨st.tmps, (d, .arr e te.size (List.replicate n.toNat (te.zero.map zdc)) false) :: st.rows⟩ a w' ∧
      u = gsl (some (w.heap.size, m.toNat)) (List.replicate n.toNat (te.zero.map zdc)).length := by
  have hu := (hT t ti ht).under
  rw [hd] at hu
  simp only at hu
  obtain ⟨i, z, hi, hs, hb, hz, hzc⟩ := (hT e te hte).info'
  have hbytes : (i.bytes : Int) * m ≤ 281474976710656 := by
    have h1 : (i.bytes : Int) ≤ 256 := by omega
    have h2 : (i.bytes : Int) * m ≤ 256 * m := Int.mul_le_mul_of_nonneg_right h1 (by omega)
    omega
  have hrun := run_make (P := P) w t e i z hu hi hz kl kc n m h0 hnm hbytes (by omega)
  refine ⟨_, _, hrun, h.newArr hf (fun i' x hx => ?_) (cap := m.toNat) (by simp; omega) (by unfold maxLen; omega) (by rw [size_madeCells, hs]) (fun i' j x d' hx hd' => ?_), by simp [gsl]⟩
  · rw [List.getElem?_replicate] at hx
    split at hx
    · cases hx; simp [(hT e te hte).len]
    · cases hx
  · have := zeroCells_elems (hT e te hte) (Sf w0.heap.size S st.rows g) w n.toNat hzc hpos (madeCells z.cells (m.toNat * i.size)) (m.toNat * i.size) (by rw [hs]; exact Nat.mul_le_mul_right _ (by omega)) rfl
    obtain ⟨u, hu1, hu2⟩ := this i' j x d' hx hd'
    exact ⟨u, by simpa using hu1, hu2⟩

end
end Go.Abs
