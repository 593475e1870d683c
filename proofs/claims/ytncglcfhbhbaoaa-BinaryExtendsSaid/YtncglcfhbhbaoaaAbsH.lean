/-
  The abstract steps are sound, part six: stores, new rows, values built by value.
-/
import Derived.Test.YtncglcfhbhbaoaaAbsG
set_option linter.unusedSimpArgs false
set_option linter.unusedVariables false
namespace Go.Abs
open Go.RowKit

def spliceD (cs : List DC) (off : Nat) (xs : List DC) : List DC := cs.take off ++ xs ++ cs.drop (off + xs.length)

def storeF (T : Tab) (t : Nat) (s : ASt) (v : AV) : AV → Option (Prop × ASt)
  | .c (.ptr id off) => match T t, find s.rows id, v.cells with
    | some ti, some (.box T cs), some xs => some (xs.length = ti.size ∧ off + xs.length ≤ cs.length, ⟨s.tmps, (id, .box T (splice cs off xs)) :: s.rows⟩)
    | _, _, _ => none
  | .c (.eptr id i off) => match T t, find s.rows id, v.cells with
    | some ti, some (.arr e sz xs fl), some cs => match xs[i]?, dcsOf false s.rows cs with
      | some x, some ys => some (ys.length = ti.size ∧ off + ys.length ≤ x.length ∧ fl = false, ⟨s.tmps, (id, .arr e sz (xs.set i (spliceD x off ys)) fl) :: s.rows⟩)
      | _, _ => none
    | _, _, _ => none
  | _ => none

section
variable {S : Nat → Nat → Prop} {w0 : World} {N : Fm} {g : Gh} {st : ASt} {a : Act} {w : World}

theorem cells_sound {F : Nat → Nat → Prop} {rows : List (Nat × ARow)} {v : Value} {x : AV} {xs : List AC} (h : RelV F w rows g v x) (hx : x.cells = some xs) :
    All2 (fun u y => u.oneCell' = true ∧ RelAC F w rows g u y) v.cells.toList xs := by
  cases x with
  | c y =>
    unfold RelV at h
    cases hx
    have : v.cells = #[v] := by
      cases v <;> first | rfl | (have := h.1; simp [Value.oneCell'] at this)
    rw [this]
    exact .cons h .nil
  | agg ys =>
    unfold RelV at h
    cases hx
    obtain ⟨cs, rfl, h2⟩ := h
    exact h2
  | tup _ => cases hx
  | any => cases hx

theorem splice_all2 {α β : Type} {R : α → β → Prop} {l : List α} {m : List β} {us : List α} {xs : List β} (h : All2 R l m) (h2 : All2 R us xs) (off : Nat) :
    All2 R (l.take off ++ us ++ l.drop (off + us.length)) (m.take off ++ xs ++ m.drop (off + xs.length)) := by
  rw [h2.len]
  exact ((h.take off).app h2).app (h.drop _)

theorem store_sound {P : Program} {T : Tab} (hT : TabOk P T) (h : Rel S w0 N g st a w) (t : Nat) (x y : Operand) {c : Prop} {st' : ASt} (hv : storeF T t st (st.ev y) (st.ev x) = some (c, st')) (hc : c) :
    ∃ w', (Instr.storeAt t (a.eval x) (a.eval y)).run P w = .ok () w' ∧ Rel S w0 N g st' a w' := by
  have hx := h.ev x
  have hy := h.ev y
  unfold storeF at hv
  split at hv
  · rename_i id off he
    rw [he] at hx
    unfold RelV at hx
    obtain ⟨_, b, cc, hg, hu⟩ := hx
    split at hv
    · rename_i ti T' cs xs ht hf hcs
      cases hv
      obtain ⟨hl1, hl2⟩ := hc
      have hys := cells_sound hy hcs
      obtain ⟨i, z, hi, hs, _, _, _⟩ := (hT t ti ht).info'
      obtain ⟨b', c', cur, h1, hh, hsize, _, hall⟩ := h.box hf
      rw [h1] at hg; cases hg
      have hlen := hys.len
      have hst := run_storeCells_at P b off T' (a.eval y).cells.toList 0 cur w hh (by rw [hlen, hsize]; omega) (fun v hv => by
        obtain ⟨k, hk⟩ := List.mem_iff_getElem?.1 hv
        obtain ⟨z, _, hz, _⟩ := hys.get' hk
        exact hz)
      simp only [Nat.add_zero] at hst
      have hcsz : (a.eval y).cells.size = ti.size := by rw [← Array.length_toList, hlen, hl1]
      refine ⟨_, ?_, h.store (r := .box T' (splice cs off xs)) (cur := (cur.toList.take off ++ (a.eval y).cells.toList ++ cur.toList.drop (off + (a.eval y).cells.toList.length)).toArray) hf h1 (fun o hso => hso) (fun e sz xs fl he => by cases he) ⟨cur, hh⟩ (fun F' w' rows' hF hk hw' => ?_)⟩
      · simp [Instr.storeAt, hu, Instr.sureAddr, storeVar, sizeOf, typeInfo, hi, hs, hcsz, hst]
      · refine ⟨b, _, _, h1, hw', ?_⟩
        exact (splice_all2 hall hys off).mono fun u z hu => ⟨hu.1, hu.2.carry hF fun id' _ => ⟨rfl, hk id'⟩⟩
    · cases hv
  · rename_i id k off he
    rw [he] at hx
    unfold RelV at hx
    obtain ⟨_, b, cc, e, sz, xs, fl, hg, hf, hu⟩ := hx
    split at hv
    · rename_i ti e2 sz2 xs2 fl2 cs ht hf2 hcs
      rw [hf] at hf2
      cases hf2
      split at hv
      · rename_i el ys hel hys
        cases hv
        obtain ⟨hl1, hl2, hfl⟩ := hc
        subst hfl
        have hcy := cells_sound hy hcs
        have hdy := dcs_sound h hcy hys
        obtain ⟨i, z, hi, hs, _, _, _⟩ := (hT t ti ht).info'
        obtain ⟨hlx, hrow⟩ := h.rows id _ hf
        rcases hrow with ⟨hgn, _⟩ | ⟨b', cap, cur, hg', hh, hcap, hm, hcsz, hcells⟩
        · rw [hgn] at hg; cases hg
        · rw [hg'] at hg
          cases hg
          have hk := (List.getElem?_eq_some_iff.1 hel).1
          have hlen := hdy.len
          have hsz := hlx k el hel
          have hbound : k * sz + off + ys.length ≤ cur.size := by
            rw [hcsz]
            have : (k + 1) * sz ≤ cc * sz := Nat.mul_le_mul_right _ (by omega)
            rw [Nat.add_mul, Nat.one_mul] at this
            omega
          have hst := run_storeCells_at P b (k * sz + off) e (a.eval y).cells.toList 0 cur w hh (by rw [hlen]; omega) (fun v hv => by
            obtain ⟨j, hj⟩ := List.mem_iff_getElem?.1 hv
            obtain ⟨z, _, hz⟩ := hdy.get' hj
            exact hz.one)
          simp only [Nat.add_zero] at hst
          have hcsz' : (a.eval y).cells.size = ti.size := by rw [← Array.length_toList, hlen, hl1]
          have hF0 : ∀ b o, (false = true ∨ Sf w0.heap.size S st.rows g b o) → Sf w0.heap.size S st.rows g b o := fun b o hb => by simpa using hb
          refine ⟨_, ?_, h.store (r := .arr e sz (xs.set k (spliceD el off ys)) false) (cur := (cur.toList.take (k * sz + off) ++ (a.eval y).cells.toList ++ cur.toList.drop (k * sz + off + (a.eval y).cells.toList.length)).toArray) hf hg' (fun o hso => by simp [ARow.safe] at hso) (fun e' sz' xs' fl' he => by cases he; exact ⟨_, _, rfl, by simp⟩) ⟨cur, hh⟩ (fun F' w' rows' hF hkk hw' => ?_)⟩
          · simp [Instr.storeAt, hu, Instr.sureAddr, storeVar, sizeOf, typeInfo, hi, hs, hcsz', hst]
          · have hspl : (spliceD el off ys).length = sz := by
              simp only [spliceD, List.length_append, List.length_take, List.length_drop]
              omega
            refine ⟨fun i' x hx => ?_, .inr ⟨b, cc, _, hg', hw', by simpa using hcap, hm, ?_, fun i' j x d hx hd => ?_⟩⟩
            · rw [List.getElem?_set] at hx
              split at hx
              · cases hx; exact hspl
              · exact hlx i' x hx
            · rw [← hcsz]
              simp only [List.size_toArray, List.length_append, List.length_take, List.length_drop, Array.length_toList]
              have : (a.eval y).cells.size = ys.length := by rw [hcsz', hl1]
              omega
            · simp only [List.getElem?_toArray]
              have hcl : (a.eval y).cells.toList.length = ys.length := hlen
              have htk : (cur.toList.take (k * sz + off)).length = k * sz + off := by
                rw [List.length_take, Array.length_toList]; omega
              rw [List.getElem?_set] at hx
              split at hx
              · rename_i hki
                subst hki
                · cases hx
                  simp only [spliceD] at hd
                  by_cases hj1 : j < off
                  · have hlt : j < (el.take off).length := by rw [List.length_take]; omega
                    rw [List.append_assoc, List.getElem?_append_left hlt, take_get _ _ _ hj1] at hd
                    obtain ⟨u, hu1, hu2⟩ := hcells k j el d hel hd
                    refine ⟨u, ?_, hu2.mono hF⟩
                    rw [List.append_assoc, List.getElem?_append_left (by rw [htk]; omega), take_get _ _ _ (by omega)]
                    simpa using hu1
                  · have hlo : (el.take off).length = off := by rw [List.length_take]; omega
                    by_cases hj2 : j < off + ys.length
                    · rw [List.append_assoc, List.getElem?_append_right (by omega), hlo, List.getElem?_append_left (by omega)] at hd
                      obtain ⟨u, hu1, hu2⟩ := hdy.get hd
                      refine ⟨u, ?_, (hu2.sub hF0).mono hF⟩
                      rw [List.append_assoc, List.getElem?_append_right (by rw [htk]; omega), htk, List.getElem?_append_left (by omega)]
                      rw [← hu1]; congr 1; omega
                    · rw [List.append_assoc, List.getElem?_append_right (by omega), hlo, List.getElem?_append_right (by omega), List.getElem?_drop] at hd
                      have hjj : off + ys.length + (j - off - ys.length) = j := by omega
                      rw [hjj] at hd
                      obtain ⟨u, hu1, hu2⟩ := hcells k j el d hel hd
                      refine ⟨u, ?_, hu2.mono hF⟩
                      rw [List.append_assoc, List.getElem?_append_right (by rw [htk]; omega), htk, List.getElem?_append_right (by omega), List.getElem?_drop, hcl]
                      have : k * sz + off + ys.length + (k * sz + j - (k * sz + off) - ys.length) = k * sz + j := by omega
                      rw [this]; simpa using hu1
              · rename_i hki
                obtain ⟨u, hu1, hu2⟩ := hcells i' j x d hx hd
                refine ⟨u, ?_, hu2.mono hF⟩
                have hj := (List.getElem?_eq_some_iff.1 hd).1
                rw [hlx i' x hx] at hj
                by_cases hlt : i' < k
                · have := idx_lt hlt hj
                  rw [List.append_assoc, List.getElem?_append_left (by rw [htk]; omega), take_get _ _ _ (by omega)]
                  simpa using hu1
                · have hgt : k < i' := by omega
                  have : (k + 1) * sz ≤ i' * sz := Nat.mul_le_mul_right _ hgt
                  rw [Nat.add_mul, Nat.one_mul] at this
                  rw [List.append_assoc, List.getElem?_append_right (by rw [htk]; omega), htk, List.getElem?_append_right (by omega), List.getElem?_drop, hcl]
                  have : k * sz + off + ys.length + (i' * sz + j - (k * sz + off) - ys.length) = i' * sz + j := by omega
                  rw [this]; simpa using hu1
      · cases hv
    · cases hv
  · cases hv

theorem zac_sound (F : Nat → Nat → Prop) (w : World) (rows : List (Nat × ARow)) (g : Gh) (v : Value) (hv : v.oneCell' = true) : RelAC F w rows g v (zac v) := by
  unfold zac
  split
  · rfl
  · exact .sc _ hv
theorem zac_ment (v : Value) (id : Nat) : (zac v).ment id = false := by
  unfold zac; split <;> rfl
theorem zdc_sound (F : Nat → Nat → Prop) (w : World) (v : Value) (hv : v.oneCell' = true) : RelC F w v (zdc v) := by
  unfold zdc
  split
  · exact .emp _ _
  · exact .sc _ hv

theorem zeros_sound {t : Nat} {ti : TI} {P : Program} (hT : TIok P t ti) (F : Nat → Nat → Prop) (w : World) (rows : List (Nat × ARow)) (g : Gh) :
    All2 (fun u x => u.oneCell' = true ∧ RelAC F w rows g u x) ti.zero (ti.zero.map zac) := by
  refine All2.map_r ?_
  have : ∀ v ∈ ti.zero, v.oneCell' = true := List.all_eq_true.1 hT.one
  generalize ti.zero = l at this
  induction l with
  | nil => exact .nil
  | cons v l ih => exact .cons ⟨this v (by simp), zac_sound _ _ _ _ _ (this v (by simp))⟩ (ih fun u hu => this u (List.mem_cons_of_mem _ hu))

/-- 'new' and a variable whose address is taken. -/
theorem alloc_sound {P : Program} {T : Tab} (hT : TabOk P T) (h : Rel S w0 N g st a w) (t d : Nat) {ti : TI} (ht : T t = some ti) (hf : st.free d = true) :
    ∃ u w', (Instr.alloc t true (.tuple #[])).run P w = .ok u w' ∧ Rel S w0 N (updG g d (some (w.heap.size, 0))) ⟨st.tmps, (d, .box t (ti.zero.map zac)) :: st.rows⟩ a w' ∧
      u = .pointer (some ⟨w.heap.size, 0, none⟩) := by
  obtain ⟨i, z, hi, hs, _, hz, hzc⟩ := (hT t ti ht).info'
  refine ⟨_, w.alloc (.cells z.cells t), ?_, h.newBox hf t ?_ ?_, rfl⟩
  · simp [Instr.alloc, zeroValue, typeInfo, hi, hz, newVar, newRow]
  · rw [List.any_eq_false]
    intro x hx
    obtain ⟨v, _, rfl⟩ := List.mem_map.1 hx
    simp [zac_ment]
  · rw [hzc]; exact zeros_sound (hT t ti ht) _ _ _ _

theorem box_sound {P : Program} (h : Rel S w0 N g st a w) (t d : Nat) (x : Operand) {cs : List AC} (hx : (st.ev x).cells = some cs) (hf : st.free d = true) :
    ∃ u w', (Instr.box t (a.eval x)).run P w = .ok u w' ∧ Rel S w0 N (updG g d (some (w.heap.size, 0))) ⟨st.tmps, (d, .box t cs) :: st.rows⟩ a w' ∧
      u = .pointer (some ⟨w.heap.size, 0, none⟩) := by
  refine ⟨_, w.alloc (.cells (a.eval x).cells t), ?_, h.newBox hf t ?_ (cells_sound (h.ev x) hx), rfl⟩
  · simp [Instr.box, newVar, newRow]
  · have := ev_free hf x
    cases he : st.ev x with
    | c y => rw [he] at this hx; cases hx; unfold AV.ment at this; simp [this]
    | agg ys => rw [he] at this hx; cases hx; unfold AV.ment at this; exact this
    | tup _ => rw [he] at hx; cases hx
    | any => rw [he] at hx; cases hx

end
end Go.Abs
