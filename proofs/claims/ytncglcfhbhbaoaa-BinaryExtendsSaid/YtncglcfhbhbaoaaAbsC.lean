/-
  The abstract steps are sound, part one: the operations that leave memory as it is.
-/
import Derived.Test.YtncglcfhbhbaoaaAbsB
import Derived.Laws.StructEq
import Derived.ChangeKeysEq
set_option linter.unusedSimpArgs false
set_option linter.unusedVariables false
namespace Go.Abs
open Go.RowKit

section
variable {S : Nat → Nat → Prop} {w0 : World} {N : Fm} {g : Gh} {st : ASt} {a : Act} {w : World}

theorem cst_sound (F : Nat → Nat → Prop) (w : World) (rows : List (Nat × ARow)) (g : Gh) (v : Value) : RelV F w rows g v (cst v) := by
  unfold cst
  split <;> unfold RelV <;> first | trivial | exact ⟨rfl, rfl⟩ | exact ⟨rfl, .sc _ rfl⟩

theorem Rel.ev (h : Rel S w0 N g st a w) (x : Operand) : RelV (Sf w0.heap.size S st.rows g) w st.rows g (a.eval x) (st.ev x) := by
  cases x with
  | tmp t =>
    simp only [ASt.ev]
    cases hf : find st.tmps t with
    | none => unfold RelV; trivial
    | some x =>
      obtain ⟨v, hv, hr⟩ := h.tmps t x hf
      have : a.eval (.tmp t) = v := by simp [Act.eval, hv]
      rw [this]; exact hr
  | const v => exact cst_sound _ _ _ _ v
  | func f =>
    simp only [ASt.ev]; unfold RelV
    exact ⟨rfl, .sc _ rfl⟩
  | global k =>
    simp only [ASt.ev, goodAV]
    cases hf : find goodTab k with
    | none => unfold RelV; trivial
    | some vs =>
      simp only
      obtain ⟨h1, T, fr, h2⟩ := h.goodW (k, vs) (find_mem hf)
      have hone := List.all_eq_true.1 goodOk (k, vs) (find_mem hf)
      unfold RelV
      refine ⟨rfl, k, 0, fun j => (vs[j]?).getD undef, rfl, fun j d hd => ?_⟩
      rw [List.getElem?_map] at hd
      obtain ⟨v, hv, rfl⟩ := Option.map_eq_some_iff.1 hd
      have hlt := (List.getElem?_eq_some_iff.1 hv).1
      refine ⟨by rw [Nat.zero_add]; exact h1 j hlt, ?_, ?_⟩
      · rw [Nat.zero_add, cl_row h2]; simp [hv]
      · simp only [hv, Option.getD_some]
        exact .sc _ (List.all_eq_true.1 hone v (List.mem_of_getElem? hv))


/-- Cells that lie at b, o and on. -/
def Win (F : Nat → Nat → Prop) (w : World) (rows : List (Nat × ARow)) (g : Gh) (b o : Nat) (cs : List AC) : Prop :=
  ∀ (j : Nat) (x : AC), cs[j]? = some x → ∃ u, cl w b (o + j) = some u ∧ u.oneCell' = true ∧ RelAC F w rows g u x

theorem load_win {P : Program} {t : Nat} {ti : TI} (hT : TIok P t ti) {F : Nat → Nat → Prop} {rows : List (Nat × ARow)} {b o off : Nat} {cs : List AC} (hw : Win F w rows g b o cs) {v : AV}
    (hv : takeAV ti.agg cs off ti.size = some v) : ∃ u, (loadVar t ⟨b, o + off, none⟩).run P w = .ok u w ∧ RelV F w rows g u v := by
  obtain ⟨d, hd⟩ := hT.isSome
  have hag := run_isAgg hd w
  rw [hT.agg] at hag
  obtain ⟨i, z, hi, hs, _, _, _⟩ := hT.info'
  unfold takeAV at hv
  cases hg : ti.agg with
  | false =>
    rw [hg] at hv hag
    simp only at hv
    cases hc : cs[off]? with
    | none => simp [hc] at hv
    | some x =>
      simp [hc] at hv
      subst hv
      obtain ⟨u, h1, h2, h3⟩ := hw off x hc
      refine ⟨u, ?_, ?_⟩
      · have hl : w.cell? ⟨b, o + off, none⟩ = some u := h1
        simp [loadVar, hag, run_load, hl]
      · unfold RelV; exact ⟨h2, h3⟩
  | true =>
    rw [hg] at hv hag
    simp only at hv
    split at hv
    · rename_i hle
      cases hv
      have hsel : ∀ j, ∃ u, (j < ti.size → cl w b (o + (off + j)) = some u ∧ u.oneCell' = true ∧ ∀ x, cs[off + j]? = some x → RelAC F w rows g u x) := by
        intro j
        by_cases hj : j < ti.size
        · have hlt : off + j < cs.length := by omega
          obtain ⟨u, h1, h2, h3⟩ := hw (off + j) cs[off + j] (List.getElem?_eq_getElem hlt)
          exact ⟨u, fun _ => ⟨h1, h2, fun x hx => by rw [List.getElem?_eq_getElem hlt] at hx; cases hx; exact h3⟩⟩
        · exact ⟨undef, fun h => absurd h hj⟩
      have hf : ∃ f : Nat → Value, ∀ j, j < ti.size → cl w b (o + (off + j)) = some (f j) ∧ (f j).oneCell' = true ∧ ∀ x, cs[off + j]? = some x → RelAC F w rows g (f j) x :=
        ⟨fun j => Classical.choose (hsel j), fun j => Classical.choose_spec (hsel j)⟩
      obtain ⟨f, hf⟩ := hf
      have hrun := run_loadCells (P := P) w ⟨b, o + off, none⟩ ti.size f (fun j hj => by
        rw [Addr.add_lit, Nat.add_assoc]; exact (hf j hj).1)
      refine ⟨.agg ((List.range ti.size).map f).toArray, ?_, ?_⟩
      · simp [loadVar, hag, sizeOf, typeInfo, hi, hs, hrun]
      · unfold RelV
        refine ⟨_, rfl, ?_⟩
        refine All2.of_get (by simp; omega) fun j u x hu hx => ?_
        simp only [List.getElem?_map] at hu
        rw [List.getElem?_take, List.getElem?_drop] at hx
        split at hx
        · rename_i hj
          rw [List.getElem?_range hj] at hu
          simp at hu
          subst hu
          obtain ⟨_, h2, h3⟩ := hf j hj
          exact ⟨h2, h3 x hx⟩
        · cases hx
    · cases hv

theorem Rel.box (h : Rel S w0 N g st a w) {id T : Nat} {cs : List AC} (hf : find st.rows id = some (.box T cs)) :
    ∃ b c cur, g id = some (b, c) ∧ w.heap[b]? = some (.cells cur T (0, 0)) ∧ cur.size = cs.length ∧ Win (Sf w0.heap.size S st.rows g) w st.rows g b 0 cs ∧
      All2 (fun u x => u.oneCell' = true ∧ RelAC (Sf w0.heap.size S st.rows g) w st.rows g u x) cur.toList cs := by
  obtain ⟨b, c, cur, h1, h2, h3⟩ := h.rows id _ hf
  refine ⟨b, c, cur, h1, h2, by simpa using h3.len, fun j x hx => ?_, h3⟩
  obtain ⟨u, hu, h4, h5⟩ := h3.get hx
  refine ⟨u, ?_, h4, h5⟩
  rw [Nat.zero_add, cl_row h2]
  simpa using hu

theorem Rel.arr (h : Rel S w0 N g st a w) {id e sz : Nat} {xs : List (List DC)} {fl : Bool} (hf : find st.rows id = some (.arr e sz xs fl)) {b c : Nat} (hg : g id = some (b, c)) {i : Nat} {x : List DC} (hx : xs[i]? = some x) :
    Win (Sf w0.heap.size S st.rows g) w st.rows g b (i * sz) (x.map .d) := by
  obtain ⟨_, h0⟩ := h.rows id _ hf
  rcases h0 with ⟨h1, _⟩ | ⟨b', cap, cur, h1, h2, _, _, _, h3⟩
  · rw [h1] at hg; cases hg
  · rw [h1] at hg
    cases hg
    intro j y hy
    rw [List.getElem?_map] at hy
    obtain ⟨d, hd, rfl⟩ := Option.map_eq_some_iff.1 hy
    obtain ⟨u, hu, hr⟩ := h3 i j x d hx hd
    exact ⟨u, by rw [cl_row h2]; exact hu, hr.one, hr⟩

theorem win_dptr {F : Nat → Nat → Prop} {rows : List (Nat × ARow)} {xs : List DC} {b o : Nat} {us : Nat → Value}
    (h : ∀ (j : Nat) (d : DC), xs[j]? = some d → F b (o + j) ∧ cl w b (o + j) = some (us j) ∧ RelC F w (us j) d) : Win F w rows g b o (xs.map .d) := by
  intro j y hy
  rw [List.getElem?_map] at hy
  obtain ⟨d, hd, rfl⟩ := Option.map_eq_some_iff.1 hy
  obtain ⟨_, h2, h3⟩ := h j d hd
  exact ⟨_, h2, h3.one, h3⟩

theorem load_sound {P : Program} {T : Tab} (hT : TabOk P T) (h : Rel S w0 N g st a w) (t : Nat) (x : Operand) {v : AV} (hv : loadF T t st.rows (st.ev x) = some v) :
    ∃ u, (Instr.loadAt t (a.eval x)).run P w = .ok u w ∧ RelV (Sf w0.heap.size S st.rows g) w st.rows g u v := by
  have hx := h.ev x
  unfold loadF at hv
  split at hv
  · rename_i id off he
    rw [he] at hx
    unfold RelV at hx
    obtain ⟨_, b, c, hg, hu⟩ := hx
    split at hv
    · rename_i ti T0 cs ht hf
      obtain ⟨b', c', cur, h1, _, _, hwin, _⟩ := h.box hf
      rw [h1] at hg; cases hg
      have := load_win (hT t ti ht) hwin hv
      rw [Nat.zero_add] at this
      obtain ⟨u, h4, h5⟩ := this
      exact ⟨u, by simp [Instr.loadAt, hu, Instr.sureAddr, h4], h5⟩
    · cases hv
  · rename_i id i off he
    rw [he] at hx
    unfold RelV at hx
    obtain ⟨_, b, c, e, sz, xs, fl, hg, hf, hu⟩ := hx
    split at hv
    · rename_i ti e' sz' xs' fl' ht hf'
      rw [hf'] at hf
      cases hf
      split at hv
      · rename_i y hy
        have hwin := h.arr hf' hg hy
        obtain ⟨u, h4, h5⟩ := load_win (hT t ti ht) hwin hv
        exact ⟨u, by simp [Instr.loadAt, hu, Instr.sureAddr, h4], h5⟩
      · cases hv
    · cases hv
  · rename_i xs he
    rw [he] at hx
    unfold RelV at hx
    obtain ⟨_, b, o, us, hu, hall⟩ := hx
    split at hv
    · rename_i ti ht
      obtain ⟨u, h4, h5⟩ := load_win (off := 0) (hT t ti ht) (win_dptr hall) hv
      exact ⟨u, by simp [Instr.loadAt, hu, Instr.sureAddr] at h4 ⊢; exact h4, h5⟩
    · cases hv
  · cases hv

theorem run_fieldAt {P : Program} {t : Nat} {F : Array Field} (hu : P.underlying t = some (.struct F)) {f : Nat} {off sz : Nat} {ag : Bool}
    (hf : (F.toList.map (fun f => (f.offset, ((P.info? f.type).map (·.size)).getD 0, aggB P f.type)))[f]? = some (off, sz, ag)) (hz : sz ≠ 0) (b o : Nat) (w : World) :
    (Instr.fieldAt t (.pointer (some ⟨b, o, none⟩)) f).run P w = .ok (.pointer (some ⟨b, o + off, none⟩)) w := by
  rw [List.getElem?_map] at hf
  obtain ⟨fd, h1, h2⟩ := Option.map_eq_some_iff.1 hf
  simp only [Prod.mk.injEq] at h2
  obtain ⟨h2, h3, _⟩ := h2
  have hF : F[f]? = some fd := by simpa using h1
  cases hi : P.info? fd.type with
  | none => rw [hi] at h3; simp at h3; omega
  | some i =>
    rw [hi] at h3
    simp at h3
    have hsz : i.size ≠ 0 := by omega
    simp [Instr.fieldAt, run_underlying hu, hF, Instr.sureAddr, fieldPlace, sizeOf, typeInfo, hi, hsz, Addr.add_lit, h2]

theorem fieldAddr_sound {P : Program} {T : Tab} (hT : TabOk P T) (h : Rel S w0 N g st a w) (t f : Nat) (x : Operand) {c : Prop} {v : AV} {rs : List (Nat × ARow)} (hv : fieldAddrF T t f (st.ev x) = .ok c v rs) (hc : c) :
    rs = [] ∧ ∃ u, (Instr.fieldAt t (a.eval x) f).run P w = .ok u w ∧ RelV (Sf w0.heap.size S st.rows g) w st.rows g u v := by
  have hx := h.ev x
  unfold fieldAddrF at hv
  split at hv
  · rename_i ti ht
    split at hv
    · rename_i fs hd
      obtain ⟨F, hu, hF, _⟩ := (hT t ti ht).strc hd
      split at hv
      · rename_i off' sz ag hf
        rw [← hF] at hf
        split at hv
        · rename_i id off he
          rw [he] at hx
          cases hv
          unfold RelV at hx
          obtain ⟨_, b, c, hg, hu'⟩ := hx
          refine ⟨rfl, _, by rw [hu']; exact run_fieldAt hu hf hc b off w, ?_⟩
          unfold RelV
          exact ⟨rfl, b, c, hg, rfl⟩
        · rename_i id i off he
          rw [he] at hx
          cases hv
          unfold RelV at hx
          obtain ⟨_, b, c, e, sz', xs, fl, hg, hr, hu'⟩ := hx
          refine ⟨rfl, _, by rw [hu']; exact run_fieldAt hu hf hc b _ w, ?_⟩
          unfold RelV
          exact ⟨rfl, b, c, e, sz', xs, fl, hg, hr, by rw [Nat.add_assoc]⟩
        · rename_i xs he
          rw [he] at hx
          cases hv
          unfold RelV at hx
          obtain ⟨_, b, o, us, hu', hall⟩ := hx
          refine ⟨rfl, _, by rw [hu']; exact run_fieldAt hu hf hc b _ w, ?_⟩
          unfold RelV
          refine ⟨rfl, b, o + off', fun j => us (off' + j), rfl, fun j d hd => ?_⟩
          rw [List.getElem?_drop] at hd
          have := hall (off' + j) d hd
          rw [Nat.add_assoc]
          exact this
        · cases hv
      · cases hv
    · cases hv
  · cases hv

theorem field_sound {P : Program} {T : Tab} (hT : TabOk P T) (h : Rel S w0 N g st a w) (t f : Nat) (x : Operand) {v : AV} (hv : fieldF T t f (st.ev x) = some v) :
    ∃ u, (Instr.field t (a.eval x) f).run P w = .ok u w ∧ RelV (Sf w0.heap.size S st.rows g) w st.rows g u v := by
  have hx := h.ev x
  unfold fieldF at hv
  split at hv
  · rename_i xs he
    rw [he] at hx
    unfold RelV at hx
    obtain ⟨cs, hu, hall⟩ := hx
    split at hv
    · rename_i ti ht
      split at hv
      · rename_i fs hd
        obtain ⟨F, hF1, hF, hsome⟩ := (hT t ti ht).strc hd
        split at hv
        · rename_i off sz ag hf
          rw [← hF, List.getElem?_map] at hf
          obtain ⟨fd, h1, h2⟩ := Option.map_eq_some_iff.1 hf
          simp only [Prod.mk.injEq] at h2
          obtain ⟨h2, h3, h4⟩ := h2
          have hFd : F[f]? = some fd := by simpa using h1
          unfold takeAV at hv
          cases ag with
          | true =>
            simp only at hv
            split at hv
            · cases hv
              have hagg : ∃ d, P.underlying fd.type = some d := by
                unfold aggB at h4
                cases hq : P.underlying fd.type with
                | none => simp [hq] at h4
                | some d => exact ⟨d, rfl⟩
              obtain ⟨d, hd'⟩ := hagg
              have hinfo : ∃ i, P.info? fd.type = some i := by
                unfold Program.underlying at hd'
                cases hq : P.info? fd.type with
                | none => simp [hq] at hd'
                | some i => exact ⟨i, rfl⟩
              obtain ⟨i, hi⟩ := hinfo
              rw [hi] at h3
              simp at h3
              refine ⟨.agg (cs.extract off (off + sz)), ?_, ?_⟩
              · simp [Instr.field, run_underlying hF1, hFd, hu, asAgg, part, run_isAgg hd' w, h4, sizeOf, typeInfo, hi, h3, h2]
              · unfold RelV
                refine ⟨_, rfl, ?_⟩
                have := (hall.drop off).take sz
                simpa [List.extract_eq_take_drop] using this
            · cases hv
          | false =>
            simp only at hv
            split at hv
            · rename_i y hy
              cases hv
              obtain ⟨u, hu1, hu2, hu3⟩ := hall.get hy
              have hcu : cs[off]? = some u := by simpa using hu1
              refine ⟨u, ?_, by unfold RelV; exact ⟨hu2, hu3⟩⟩
              obtain ⟨d, hq⟩ := hsome fd (List.mem_of_getElem? h1)
              simp [Instr.field, run_underlying hF1, hFd, hu, asAgg, part, run_isAgg hq w, h4, h2, hcu]
            · cases hv
        · cases hv
      · cases hv
    · cases hv
  · cases hv


theorem indexAddr_sound {P : Program} {T : Tab} (hT : TabOk P T) (h : Rel S w0 N g st a w) (t : Nat) (x i : Operand) {c : Prop} {v : AV} {rs : List (Nat × ARow)}
    (hv : indexAddrF T t st.rows (st.ev x) (st.ev i) = .ok c v rs) (hc : c) :
    rs = [] ∧ ∃ u, (Instr.indexAt t (a.eval x) (a.eval i)).run P w = .ok u w ∧ RelV (Sf w0.heap.size S st.rows g) w st.rows g u v := by
  have hx := h.ev x
  have hi := h.ev i
  unfold indexAddrF at hv
  split at hv
  · rename_i k n he
    rw [he] at hi
    unfold RelV at hi
    obtain ⟨_, hi⟩ := hi
    cases hi' : a.eval i <;> rw [hi'] at hi <;> cases hi
    split at hv
    · rename_i ti ht
      split at hv
      · rename_i e hd
        have hu := (hT t ti ht).under
        rw [hd] at hu
        simp only at hu
        split at hv
        · rename_i te hte
          obtain ⟨ie, ze, hie, hse, _, _, _⟩ := (hT e te hte).info'
          split at hv
          · rename_i xs hex
            rw [hex] at hx
            unfold RelV at hx
            obtain ⟨_, hx⟩ := hx
            split at hv
            · rename_i y hy
              cases hv
              obtain ⟨h0, hlen⟩ := hc
              generalize a.eval x = u at hx
              cases hx with
              | emp => simp at hy
              | sl b o c' sz xs us hcap hm hsz hS hr =>
                have hsz' : sz = te.size := by rw [← hlen]; exact (hsz _ _ hy).symm
                have hlt : n.toNat < xs.length := (List.getElem?_eq_some_iff.1 hy).1
                refine ⟨rfl, .pointer (some ⟨b, o + n.toNat * te.size, none⟩), ?_, ?_⟩
                · have : (0 ≤ n ∧ n < (xs.length : Int)) := ⟨h0, by omega⟩
                  simp [Instr.indexAt, run_underlying hu, asIntOf, this, sizeOf, typeInfo, hie, hse, Addr.add_lit]
                · unfold RelV
                  refine ⟨rfl, b, _, fun j => us n.toNat j, rfl, fun j d hd => ?_⟩
                  subst hsz'
                  obtain ⟨h1, h2⟩ := hS _ j y d hy hd
                  exact ⟨h1, h2, hr _ j y d hy hd⟩
            · cases hv
          · rename_i id hex
            rw [hex] at hx
            unfold RelV at hx
            obtain ⟨_, e', sz', xs', fl', hf', hu'⟩ := hx
            split at hv
            · rename_i e2 sz xs fl hf
              rw [hf] at hf'
              cases hf'
              cases hv
              obtain ⟨h0, hlt, hsz⟩ := hc
              obtain ⟨_, hrow⟩ := h.rows id _ hf
              rcases hrow with ⟨hg, hnil⟩ | ⟨b, cap, cur, hg, hh, hcap, hm, hcs, hcells⟩
              · subst hnil; simp at hlt; omega
              · rw [hg] at hu'
                simp only [gsl] at hu'
                refine ⟨rfl, .pointer (some ⟨b, n.toNat * te.size, none⟩), ?_, ?_⟩
                · simp [Instr.indexAt, run_underlying hu, asIntOf, hu', h0, hlt, sizeOf, typeInfo, hie, hse, Addr.add_lit]
                · unfold RelV
                  exact ⟨rfl, b, cap, _, _, _, _, hg, hf, by rw [hsz]; rfl⟩
            · cases hv
          · cases hv
        · cases hv
      · rename_i m e hd
        have hu := (hT t ti ht).under
        rw [hd] at hu
        simp only at hu
        split at hv
        · rename_i te hte
          obtain ⟨ie, ze, hie, hse, _, _, _⟩ := (hT e te hte).info'
          split at hv
          · rename_i id off hex
            rw [hex] at hx
            cases hv
            unfold RelV at hx
            obtain ⟨_, b, c', hg, hu'⟩ := hx
            refine ⟨rfl, .pointer (some ⟨b, off + n.toNat * te.size, none⟩), ?_, ?_⟩
            · simp [Instr.indexAt, run_underlying hu, asIntOf, hu', hc, Instr.sureAddr, sizeOf, typeInfo, hie, hse, Addr.add_lit]
            · unfold RelV
              exact ⟨rfl, b, c', hg, rfl⟩
          · rename_i id i' off hex
            rw [hex] at hx
            cases hv
            unfold RelV at hx
            obtain ⟨_, b, c', e', sz', xs', fl', hg, hf, hu'⟩ := hx
            refine ⟨rfl, .pointer (some ⟨b, i' * sz' + off + n.toNat * te.size, none⟩), ?_, ?_⟩
            · simp [Instr.indexAt, run_underlying hu, asIntOf, hu', hc, Instr.sureAddr, sizeOf, typeInfo, hie, hse, Addr.add_lit]
            · unfold RelV
              exact ⟨rfl, b, c', e', sz', xs', fl', hg, hf, by rw [Nat.add_assoc]⟩
          · rename_i xs hex
            rw [hex] at hx
            cases hv
            unfold RelV at hx
            obtain ⟨_, b, o, us, hu', hall⟩ := hx
            refine ⟨rfl, .pointer (some ⟨b, o + n.toNat * te.size, none⟩), ?_, ?_⟩
            · simp [Instr.indexAt, run_underlying hu, asIntOf, hu', hc, Instr.sureAddr, sizeOf, typeInfo, hie, hse, Addr.add_lit]
            · unfold RelV
              refine ⟨rfl, b, o + n.toNat * te.size, fun j => us (n.toNat * te.size + j), rfl, fun j d hd => ?_⟩
              rw [List.getElem?_drop] at hd
              have := hall (n.toNat * te.size + j) d hd
              rw [Nat.add_assoc]
              exact this
          · cases hv
        · cases hv
      · cases hv
    · cases hv
  · cases hv

theorem index_sound {P : Program} {T : Tab} (hT : TabOk P T) (h : Rel S w0 N g st a w) (t : Nat) (x i : Operand) {c : Prop} {v : AV} {rs : List (Nat × ARow)}
    (hv : indexF T t (st.ev x) (st.ev i) = .ok c v rs) (hc : c) :
    rs = [] ∧ ∃ u, (Instr.index t (a.eval x) (a.eval i)).run P w = .ok u w ∧ RelV (Sf w0.heap.size S st.rows g) w st.rows g u v := by
  have hx := h.ev x
  have hi := h.ev i
  unfold indexF at hv
  split at hv
  · rename_i s k n hex hei
    rw [hex] at hx
    rw [hei] at hi
    unfold RelV at hx hi
    obtain ⟨_, hx⟩ := hx
    obtain ⟨_, hi⟩ := hi
    cases hi' : a.eval i <;> rw [hi'] at hi <;> cases hi
    cases hx' : a.eval x <;> rw [hx'] at hx <;> cases hx
    split at hv
    · rename_i ti ht
      split at hv
      · rename_i hd
        have hu := (hT t ti ht).under
        rw [hd] at hu
        simp only at hu
        split at hv
        · rename_i b hb
          cases hv
          have hlt : n.toNat < s.size := by
            have := (List.getElem?_eq_some_iff.1 hb).1
            simpa using this
          have hbb : s[n.toNat] = b := by
            have := (List.getElem?_eq_some_iff.1 hb).2
            rw [← this]; rfl
          refine ⟨rfl, .int .u8 b.toNat, ?_, ?_⟩
          · rw [run_index_string (w := w) t s k n hu]
            rw [dif_pos ⟨hc, by omega⟩, hbb]
          · unfold sint RelV
            exact ⟨rfl, .sc _ rfl⟩
        · cases hv
      · cases hv
    · cases hv
  · rename_i xs k n hex hei
    rw [hex] at hx
    rw [hei] at hi
    unfold RelV at hx hi
    obtain ⟨cs, hu, hall⟩ := hx
    obtain ⟨_, hi⟩ := hi
    cases hi' : a.eval i <;> rw [hi'] at hi <;> cases hi
    split at hv
    · rename_i ti ht
      split at hv
      · rename_i m e hd
        have hun := (hT t ti ht).under
        rw [hd] at hun
        simp only at hun
        split at hv
        · rename_i te hte
          obtain ⟨ie, ze, hie, hse, _⟩ := (hT e te hte).info'
          obtain ⟨d, hq⟩ := (hT e te hte).isSome
          have hagg := (hT e te hte).agg
          split at hv
          · rename_i v' hv'
            cases hv
            refine ⟨rfl, ?_⟩
            have hc' : 0 ≤ n ∧ n < (m : Int) := hc
            unfold takeAV at hv'
            cases ag : te.agg with
            | true =>
              rw [ag] at hv' hagg
              simp only at hv'
              split at hv'
              · cases hv'
                refine ⟨.agg (cs.extract (n.toNat * te.size) (n.toNat * te.size + te.size)), ?_, ?_⟩
                · simp [Instr.index, run_underlying hun, hu, asIntOf, part, run_isAgg hq w, hagg, sizeOf, typeInfo, hie, hse, hc']
                · unfold RelV
                  refine ⟨_, rfl, ?_⟩
                  have := (hall.drop (n.toNat * te.size)).take te.size
                  simpa [List.extract_eq_take_drop] using this
              · cases hv'
            | false =>
              rw [ag] at hv' hagg
              simp only at hv'
              split at hv'
              · rename_i y hy
                cases hv'
                obtain ⟨u, hu1, hu2, hu3⟩ := hall.get hy
                have hcu : cs[n.toNat * te.size]? = some u := by simpa using hu1
                refine ⟨u, ?_, by unfold RelV; exact ⟨hu2, hu3⟩⟩
                simp [Instr.index, run_underlying hun, hu, asIntOf, part, run_isAgg hq w, hagg, sizeOf, typeInfo, hie, hse, hc', hcu]
              · cases hv'
          · cases hv
        · cases hv
      · cases hv
    · cases hv
  · cases hv

theorem rel_sint (F : Nat → Nat → Prop) (w : World) (rows : List (Nat × ARow)) (g : Gh) (k : IntKind) (n : Int) : RelV F w rows g (.int k n) (sint k n) := by
  unfold sint RelV; exact ⟨rfl, .sc _ rfl⟩
theorem rel_sbool (F : Nat → Nat → Prop) (w : World) (rows : List (Nat × ARow)) (g : Gh) (b : Bool) : RelV F w rows g (.bool b) (sbool b) := by
  unfold sbool RelV; exact ⟨rfl, .sc _ rfl⟩
theorem rel_sstr (F : Nat → Nat → Prop) (w : World) (rows : List (Nat × ARow)) (g : Gh) (s : ByteArray) : RelV F w rows g (.string s) (sstr s) := by
  unfold sstr RelV; exact ⟨rfl, .sc _ rfl⟩

/-- A scalar cell stands for itself. -/
theorem relV_sc {F : Nat → Nat → Prop} {w : World} {rows : List (Nat × ARow)} {g : Gh} {u v : Value} (h : RelV F w rows g u (.c (.d (.sc v)))) : u = v := by
  unfold RelV at h
  obtain ⟨_, h⟩ := h
  cases h; rfl

theorem eqFields_ints {P : Program} {w : World} {l : List (IntKind × Int × Int)} : ∀ (fs : List Field) (k : Nat), (∀ i f, fs[i]? = some f → f.offset = k + i ∧ f.name ≠ "_" ∧ intB P f.type = true) → fs.length + k = l.length →
    (Op.eqFields 9999 (l.map fun p => Value.int p.1 p.2.1).toArray (l.map fun p => Value.int p.1 p.2.2).toArray fs).run P w = .ok ((l.drop k).all fun p => decide (p.2.1 = p.2.2)) w
  | [], k, _, hl => by
    rw [List.drop_of_length_le (by simp at hl; omega)]
    simp [Op.eqFields]
  | f :: fs, k, h, hl => by
    obtain ⟨h1, h2, h3⟩ := h 0 f rfl
    have hk : k < l.length := by simp at hl; omega
    have hu : ∃ kk, P.underlying f.type = some (.int kk) := by
      unfold intB at h3
      split at h3
      · rename_i kk hkk; exact ⟨kk, hkk⟩
      · cases h3
    obtain ⟨kk, hu⟩ := hu
    have hp : ∀ (vs : Array Value) (v : Value), vs[f.offset]? = some v → (part f.type vs f.offset).run P w = .ok v w := by
      intro vs v hv
      simp [part, isAgg, run_underlying hu, hv]
    have ho : f.offset = k := by simpa using h1
    have hx : (part f.type (l.map fun p => Value.int p.1 p.2.1).toArray f.offset).run P w = .ok (.int (l[k]).1 (l[k]).2.1) w := hp _ _ (by rw [ho]; simp [hk])
    have hy : (part f.type (l.map fun p => Value.int p.1 p.2.2).toArray f.offset).run P w = .ok (.int (l[k]).1 (l[k]).2.2) w := hp _ _ (by rw [ho]; simp [hk])
    have ih := eqFields_ints (P := P) (w := w) (l := l) fs (k + 1) (fun i g hg => by
      have := h (i + 1) g (by simpa using hg)
      exact ⟨by omega, this.2⟩) (by simp at hl ⊢; omega)
    have hd : l.drop k = l[k] :: l.drop (k + 1) := List.drop_eq_getElem_cons hk
    simp only [Op.eqFields, h2, ne_eq, not_false_eq_true, if_true, Sem.run_bind, hx, hy, Result.andThen_ok, run_equalIn_int w 9998 f.type _ kk _ _ hu, hd, List.all_cons]
    by_cases he : (l[k]).2.1 = (l[k]).2.2
    · simp [he, ih]
    · simp [he]

theorem eqItems_ints {P : Program} {w : World} {l : List (IntKind × Int × Int)} {e : TypeId} {kk : IntKind} (hu : P.underlying e = some (.int kk)) : ∀ (n k : Nat), n + k = l.length →
    (Op.eqItems 9999 e 1 (l.map fun p => Value.int p.1 p.2.1).toArray (l.map fun p => Value.int p.1 p.2.2).toArray (List.range' k n)).run P w = .ok ((l.drop k).all fun p => decide (p.2.1 = p.2.2)) w
  | 0, k, hl => by
    rw [List.drop_of_length_le (by omega)]
    simp [Op.eqItems]
  | n + 1, k, hl => by
    have hk : k < l.length := by omega
    have hp : ∀ (vs : Array Value) (v : Value), vs[k * 1]? = some v → (part e vs (k * 1)).run P w = .ok v w := by
      intro vs v hv
      rw [Nat.mul_one] at hv
      simp [part, isAgg, run_underlying hu, hv]
    have hx : (part e (l.map fun p => Value.int p.1 p.2.1).toArray (k * 1)).run P w = .ok (.int (l[k]).1 (l[k]).2.1) w := hp _ _ (by simp [hk])
    have hy : (part e (l.map fun p => Value.int p.1 p.2.2).toArray (k * 1)).run P w = .ok (.int (l[k]).1 (l[k]).2.2) w := hp _ _ (by simp [hk])
    have ih := eqItems_ints (P := P) (w := w) (l := l) hu n (k + 1) (by omega)
    have hd : l.drop k = l[k] :: l.drop (k + 1) := List.drop_eq_getElem_cons hk
    rw [List.range'_succ]
    simp only [Op.eqItems, Sem.run_bind, hx, hy, Result.andThen_ok, run_equalIn_int w 9998 e _ kk _ _ hu, hd, List.all_cons]
    by_cases he : (l[k]).2.1 = (l[k]).2.2
    · simp [he, ih]
    · simp [he]

theorem eqOk_of {P : Program} {t n : Nat} (h : eqB P t n = true) : EqOk P t n := by
  unfold eqB at h
  split at h
  · rename_i fs hu
    simp only [Bool.and_eq_true, Bool.not_eq_true', List.all_eq_true, List.mem_range, beq_iff_eq] at h
    obtain ⟨⟨⟨h1, h2⟩, h3⟩, h4⟩ := h
    refine ⟨h4, fun w l hl => ?_⟩
    have hf : P.fieldsOf t = fs := by simp [Program.fieldsOf, hu]
    rw [run_equalIn_struct w 9999 t _ _ (by rw [hf]; exact hu) h3, hf]
    have := eqFields_ints (P := P) (w := w) (l := l) fs.toList 0 (fun i f hi => ?_) (by simp; omega)
    · simpa using this
    · have hlt : i < fs.size := by
        have := (List.getElem?_eq_some_iff.1 hi).1
        simpa using this
      have h5 := h2 i (by omega)
      have hi' : fs[i]? = some f := by simpa using hi
      rw [hi'] at h5
      simp only [Bool.and_eq_true, beq_iff_eq, bne_iff_ne, ne_eq] at h5
      exact ⟨by omega, h5.1.2, h5.2⟩
  · rename_i m e hu
    simp only [Bool.and_eq_true, Bool.not_eq_true', beq_iff_eq] at h
    obtain ⟨⟨⟨h1, h2⟩, h3⟩, h4⟩ := h
    refine ⟨h4, fun w l hl => ?_⟩
    have hue : ∃ kk, P.underlying e = some (.int kk) := by
      unfold intB at h2
      split at h2
      · rename_i kk hkk; exact ⟨kk, hkk⟩
      · cases h2
    obtain ⟨kk, hue⟩ := hue
    split at h3
    · rename_i i hi
      have hc : P.cellsOf e = 1 := by
        unfold Program.cellsOf
        rw [hi]
        simpa using h3
      rw [run_equalIn_array w 9999 _ _ hu hi, hc, h1, List.range_eq_range']
      have := eqItems_ints (P := P) (w := w) (l := l) hue n 0 (by omega)
      simpa using this
    · cases h3
  · cases h

theorem aggEq_sound {F : Nat → Nat → Prop} {w : World} {rows : List (Nat × ARow)} {g : Gh} : ∀ {xs ys : List AC} {us vs : List Value} {r : Bool}, aggEq xs ys = some r →
    All2 (fun u x => u.oneCell' = true ∧ RelAC F w rows g u x) us xs → All2 (fun u x => u.oneCell' = true ∧ RelAC F w rows g u x) vs ys →
    ∃ l : List (IntKind × Int × Int), l.length = xs.length ∧ us = l.map (fun p => .int p.1 p.2.1) ∧ vs = l.map (fun p => .int p.1 p.2.2) ∧ r = l.all fun p => decide (p.2.1 = p.2.2) := by
  intro xs
  induction xs with
  | nil =>
    intro ys us vs r h hx hy
    cases ys with
    | nil => cases hx; cases hy; simp only [aggEq] at h; cases h; exact ⟨[], rfl, rfl, rfl, rfl⟩
    | cons y ys => simp [aggEq] at h
  | cons x xs ih =>
    intro ys us vs r h hx hy
    unfold aggEq at h
    split at h
    · rename_i hh; cases hh
    · rename_i k a xs' k' b ys' he
      cases he
      cases hr : aggEq xs ys' with
      | none => rw [hr] at h; cases h
      | some r' =>
        rw [hr] at h
        simp only at h
        split at h
        · rename_i hk
          subst hk
          cases h
          cases hx with
          | cons hx1 hx2 =>
            cases hy with
            | cons hy1 hy2 =>
              obtain ⟨l, h1, h2, h3, h4⟩ := ih hr hx2 hy2
              refine ⟨(k, a, b) :: l, by simp [h1], ?_, ?_, by simp [h4]⟩
              · have := hx1.2
                cases this
                simp [h2]
              · have := hy1.2
                cases this
                simp [h3]
        · cases h
    · cases h

theorem nil_bin {P : Program} {T : Tab} (hT : TabOk P T) {op : BinOp} {t : Nat} {x y : Operand} {ad : Option Addr} {n cp : Nat} {c0 c : Prop} {v : AV} {rs : List (Nat × ARow)} {b : Bool}
    (hsl : isSl T t = true) (hx : a.eval x = .slice ad n cp) (hy : a.eval y = .slice none 0 0) (hv : nilF op c0 b = .ok c v rs) (hb : b = ad.isNone) :
    rs = [] ∧ ∃ u, (do eqGuard op t x y (a.eval x) (a.eval y); binOp op t (a.eval x) (a.eval y) : Sem Value).run P w = .ok u w ∧ RelV (Sf w0.heap.size S st.rows g) w st.rows g u v := by
  rw [hx, hy]
  unfold isSl at hsl
  split at hsl
  · rename_i ti ht
    split at hsl
    · rename_i e hd
      have hu := (hT t ti ht).under
      rw [hd] at hu
      simp only at hu
      have hg : (eqGuard op t x y (.slice ad n cp) (.slice none 0 0)).run P w = .ok () w := by cases op <;> simp [eqGuard]
      have heq : ∀ d, (Op.equalIn (d + 1) t (.slice ad n cp) (.slice none 0 0)).run P w = .ok ad.isNone w := by
        intro d
        cases ad <;> simp [Op.equalIn, run_underlying hu]
      have key : ∃ u, v = .c (.d (.sc u)) ∧ u.oneCell' = true ∧ rs = [] ∧ (do eqGuard op t x y (.slice ad n cp) (.slice none 0 0); binOp op t (.slice ad n cp) (.slice none 0 0) : Sem Value).run P w = .ok u w := by
        rw [Sem.run_bind, hg]
        unfold nilF at hv
        subst hb
        cases op <;> simp only at hv <;> cases hv
        all_goals refine ⟨_, rfl, rfl, rfl, ?_⟩
        all_goals (simp only [Result.andThen_ok, binOp]; simp [Op.equal, Op.maxDepth, heq 9999])
      obtain ⟨u, rfl, h1, h2, h3⟩ := key
      exact ⟨h2, u, h3, by unfold RelV; exact ⟨h1, .sc _ h1⟩⟩
    · cases hsl
  · cases hsl

theorem bin_sound {P : Program} {T : Tab} (hT : TabOk P T) (h : Rel S w0 N g st a w) (op : BinOp) (t : Nat) (x y : Operand) {c : Prop} {v : AV} {rs : List (Nat × ARow)}
    (hv : binF T op t (st.ev x) (st.ev y) = .ok c v rs) (hc : c) :
    rs = [] ∧ ∃ u, (do eqGuard op t x y (a.eval x) (a.eval y); binOp op t (a.eval x) (a.eval y) : Sem Value).run P w = .ok u w ∧ RelV (Sf w0.heap.size S st.rows g) w st.rows g u v := by
  have hx := h.ev x
  have hy := h.ev y
  unfold binF at hv
  split at hv
  · rename_i k a1 k' b1 hex hey
    rw [hex] at hx
    rw [hey] at hy
    rw [relV_sc hx, relV_sc hy]
    have hg : (eqGuard op t x y (.int k a1) (.int k' b1)).run P w = .ok () w := by cases op <;> simp [eqGuard]
    split at hv
    · rename_i hsh
      have key : ∃ u, v = .c (.d (.sc u)) ∧ u.oneCell' = true ∧ rs = [] ∧ (do eqGuard op t x y (.int k a1) (.int k' b1); binOp op t (.int k a1) (.int k' b1) : Sem Value).run P w = .ok u w := by
        rw [Sem.run_bind, hg]
        unfold shF at hv
        cases op <;> simp only at hv <;> cases hv
        all_goals refine ⟨_, rfl, rfl, rfl, ?_⟩
        all_goals (have hc' : ¬ b1 < 0 := by omega)
        all_goals first
          | (simp [binOp, Op.shift, hc']; done)
          | (simp [binOp, Op.shift, hc']; rfl)
      obtain ⟨u, rfl, h1, h2, h3⟩ := key
      exact ⟨h2, u, h3, by unfold RelV; exact ⟨h1, .sc _ h1⟩⟩
    · rename_i hsh
      split at hv
      · rename_i hk
        subst hk
        have key : ∃ u, v = .c (.d (.sc u)) ∧ u.oneCell' = true ∧ rs = [] ∧ (do eqGuard op t x y (.int k a1) (.int k b1); binOp op t (.int k a1) (.int k b1) : Sem Value).run P w = .ok u w := by
          rw [Sem.run_bind, hg]
          unfold intF at hv
          cases op <;> simp only at hv <;> cases hv
          all_goals refine ⟨_, rfl, rfl, rfl, ?_⟩
          all_goals first
            | (simp [binOp, Op.intArith, Op.intCmp, Op.intDiv, Op.intBits, hc]; done)
            | (simp [binOp, Op.intArith, Op.intCmp, Op.intDiv, hc, bne]; done)
            | (simp [binOp, Op.intArith, Op.intCmp, Op.intDiv, Op.intBits, hc]; rfl)
            | (simp only [binOp, Op.intBits, Result.andThen_ok, ne_eq, not_true_eq_false, if_false]; rfl)
        obtain ⟨u, rfl, h1, h2, h3⟩ := key
        exact ⟨h2, u, h3, by unfold RelV; exact ⟨h1, .sc _ h1⟩⟩
      · cases hv
  · rename_i a1 b1 hex hey
    rw [hex] at hx
    rw [hey] at hy
    rw [relV_sc hx, relV_sc hy]
    cases ht : T t with
    | none => rw [ht] at hv; cases hv
    | some ti =>
      rw [ht] at hv
      simp only at hv
      split at hv
      · rename_i hb
        have hu : P.underlying t = some .bool := by
          have := (hT t ti ht).under
          rw [hb] at this
          exact this
        have hg : (eqGuard op t x y (.bool a1) (.bool b1)).run P w = .ok () w := by cases op <;> simp [eqGuard]
        have key : ∃ u, v = .c (.d (.sc u)) ∧ u.oneCell' = true ∧ rs = [] ∧ (do eqGuard op t x y (.bool a1) (.bool b1); binOp op t (.bool a1) (.bool b1) : Sem Value).run P w = .ok u w := by
          rw [Sem.run_bind, hg]
          unfold boolF at hv
          cases op <;> simp only at hv <;> cases hv
          all_goals refine ⟨_, rfl, rfl, rfl, ?_⟩
          all_goals (simp [binOp, Op.equal, Op.maxDepth, run_equalIn_bool w 9999 t a1 b1 hu])
        obtain ⟨u, rfl, h1, h2, h3⟩ := key
        exact ⟨h2, u, h3, by unfold RelV; exact ⟨h1, .sc _ h1⟩⟩
      · cases hv
  · rename_i xs ys hex hey
    rw [hex] at hx
    rw [hey] at hy
    split at hv
    · rename_i ti r ht hr
      split at hv
      · rename_i hq
        have heq : EqOk P t ti.size := eqOk_of (by
          have := (hT t ti ht).eqs
          rw [hq.1] at this
          simpa using this)
        unfold RelV at hx hy
        obtain ⟨cs, hcx, hx2⟩ := hx
        obtain ⟨ds, hcy, hy2⟩ := hy
        obtain ⟨l, l1, l2, l3, l4⟩ := aggEq_sound hr hx2 hy2
        have hrun := heq.2 w l (by rw [l1]; exact hq.2)
        have e1 : cs = (l.map fun p => Value.int p.1 p.2.1).toArray := by rw [← l2]
        have e2 : ds = (l.map fun p => Value.int p.1 p.2.2).toArray := by rw [← l3]
        rw [hcx, hcy, e1, e2]
        have hg : (eqGuard op t x y (.agg (l.map fun p => Value.int p.1 p.2.1).toArray) (.agg (l.map fun p => Value.int p.1 p.2.2).toArray)).run P w = .ok () w := run_eqGuard_agg w op t x y _ _ heq.1
        have key : ∃ u, v = .c (.d (.sc u)) ∧ u.oneCell' = true ∧ rs = [] ∧ (do eqGuard op t x y (.agg (l.map fun p => Value.int p.1 p.2.1).toArray) (.agg (l.map fun p => Value.int p.1 p.2.2).toArray); binOp op t (.agg (l.map fun p => Value.int p.1 p.2.1).toArray) (.agg (l.map fun p => Value.int p.1 p.2.2).toArray) : Sem Value).run P w = .ok u w := by
          rw [Sem.run_bind, hg]
          unfold eqF at hv
          cases op <;> simp only at hv <;> cases hv
          all_goals refine ⟨_, rfl, rfl, rfl, ?_⟩
          · rw [Result.andThen_ok, run_eql_struct, hrun, l4]; rfl
          · rw [Result.andThen_ok, run_neq_struct, hrun, l4]; rfl
        obtain ⟨u, rfl, h1, h2, h3⟩ := key
        exact ⟨h2, u, h3, by unfold RelV; exact ⟨h1, .sc _ h1⟩⟩
      · cases hv
    · cases hv
  · rename_i a1 b1 hex hey
    rw [hex] at hx
    rw [hey] at hy
    rw [relV_sc hx, relV_sc hy]
    have hg : (eqGuard op t x y (.string a1) (.string b1)).run P w = .ok () w := by cases op <;> simp [eqGuard]
    have key : ∃ u, v = .c (.d (.sc u)) ∧ u.oneCell' = true ∧ rs = [] ∧ (do eqGuard op t x y (.string a1) (.string b1); binOp op t (.string a1) (.string b1) : Sem Value).run P w = .ok u w := by
      rw [Sem.run_bind, hg]
      unfold strF at hv
      cases op <;> simp only at hv <;> cases hv
      all_goals refine ⟨_, rfl, rfl, rfl, ?_⟩
      · have : ¬ ((a1.size + b1.size : Nat) : Int) > IntKind.i64.max := by
          unfold maxLen at hc
          have : IntKind.i64.max = 9223372036854775807 := rfl
          omega
        simp only [Result.andThen_ok, binOp, Op.stringOp, this, if_false]
        rfl
      · simp [binOp, Op.stringOp]
      · simp [binOp, Op.stringOp]
    obtain ⟨u, rfl, h1, h2, h3⟩ := key
    exact ⟨h2, u, h3, by unfold RelV; exact ⟨h1, .sc _ h1⟩⟩
  · rename_i xs hex hey
    rw [hex] at hx
    rw [hey] at hy
    split at hv
    · rename_i hsl
      unfold RelV at hx hy
      have hy' : a.eval y = .slice none 0 0 := hy.2
      have hx' : c → ∃ ad n cp, a.eval x = .slice (some ad) n cp := by
        intro hcc
        have hnn : xs ≠ [] := by
          unfold nilF at hv
          cases op <;> simp only at hv <;> cases hv <;> exact hcc
        have h2 := hx.2
        generalize a.eval x = u at h2
        cases h2 with
        | emp => exact absurd rfl hnn
        | sl b o cp sz xs us h1 h2 h3 h4 h5 => exact ⟨_, _, _, rfl⟩
      obtain ⟨ad, n, cp, hxe⟩ := hx' hc
      exact nil_bin hT hsl hxe hy' hv rfl
    · cases hv
  · rename_i ad n cp hex hey
    rw [hex] at hx
    rw [hey] at hy
    split at hv
    · rename_i hsl
      unfold RelV at hy
      have hy' : a.eval y = .slice none 0 0 := hy.2
      exact nil_bin hT hsl (relV_sc hx) hy' hv rfl
    · cases hv
  · cases hv

theorem un_sound {P : Program} (h : Rel S w0 N g st a w) (op : UnOp) (x : Operand) {c : Prop} {v : AV} {rs : List (Nat × ARow)}
    (hv : unF op (st.ev x) = .ok c v rs) (_hc : c) :
    rs = [] ∧ ∃ u, (Op.unary op (a.eval x)).run P w = .ok u w ∧ RelV (Sf w0.heap.size S st.rows g) w st.rows g u v := by
  have hx := h.ev x
  unfold unF at hv
  split at hv
  · rename_i k a1 hex
    rw [hex] at hx
    rw [relV_sc hx]
    split at hv
    · cases hv
      exact ⟨rfl, _, by simp [Op.unary, Op.intArith]; first | done | rfl, rel_sint _ _ _ _ _ _⟩
    · cases hv
  · rename_i b hex
    rw [hex] at hx
    rw [relV_sc hx]
    split at hv
    · cases hv
      exact ⟨rfl, _, by simp [Op.unary]; first | done | rfl, rel_sbool _ _ _ _ _⟩
    · cases hv
  · cases hv

theorem conv_sound {P : Program} {T : Tab} (hT : TabOk P T) (h : Rel S w0 N g st a w) (src dst : Nat) (x : Operand) {c : Prop} {v : AV} {rs : List (Nat × ARow)}
    (hv : convF T src dst (st.ev x) = .ok c v rs) (_hc : c) :
    rs = [] ∧ ∃ u, (convert src dst (a.eval x)).run P w = .ok u w ∧ RelV (Sf w0.heap.size S st.rows g) w st.rows g u v := by
  have hx := h.ev x
  unfold convF at hv
  split at hv
  · rename_i k n hex
    rw [hex] at hx
    rw [relV_sc hx]
    split at hv
    · rename_i ts ti hs ht
      split at hv
      · rename_i k' hd
        cases hv
        have hu := (hT dst ti ht).under
        rw [hd] at hu
        simp only at hu
        obtain ⟨ds, hds⟩ := (hT src ts hs).isSome
        exact ⟨rfl, _, by simp [convert, run_underlying hds, run_underlying hu, Conv.intToInt]; first | done | rfl, rel_sint _ _ _ _ _ _⟩
      · cases hv
    · cases hv
  · rename_i s hex
    rw [hex] at hx
    rw [relV_sc hx]
    split at hv
    · rename_i ts ti hs ht
      split at hv
      · rename_i hd
        cases hv
        have hu := (hT dst ti ht).under
        rw [hd] at hu
        simp only at hu
        obtain ⟨ds, hds⟩ := (hT src ts hs).isSome
        exact ⟨rfl, _, by simp [convert, run_underlying hds, run_underlying hu]; first | done | rfl, rel_sstr _ _ _ _ _⟩
      · cases hv
    · cases hv
  · cases hv

theorem lenS_sound {P : Program} {T : Tab} (hT : TabOk P T) (h : Rel S w0 N g st a w) (t ty : Nat) {ti : TI} (ht : T t = some ti) (hd : ti.desc = .string) (x : Operand)
    {c : Prop} {v : AV} {rs : List (Nat × ARow)} (hv : lenS (st.ev x) = .ok c v rs) (_hc : c) :
    rs = [] ∧ ∃ u, (Builtin.len_ #[t] ty #[a.eval x]).run P w = .ok u w ∧ RelV (Sf w0.heap.size S st.rows g) w st.rows g u v := by
  have hx := h.ev x
  have hu := (hT t ti ht).under
  unfold lenS at hv
  split at hv
  · rename_i s hex
    rw [hex] at hx
    rw [relV_sc hx]
    cases hv
    rw [hd] at hu
    simp only at hu
    exact ⟨rfl, .int .i64 s.size, by simp [Builtin.len_, run_underlying hu, goInt], rel_sint _ _ _ _ _ _⟩
  · cases hv

theorem len_sound {P : Program} {T : Tab} (hT : TabOk P T) (h : Rel S w0 N g st a w) (t ty : Nat) {ti : TI} (ht : T t = some ti) {e : Nat} (he : ti.desc = .slice e) (x : Operand)
    {c : Prop} {v : AV} {rs : List (Nat × ARow)} (hv : lenF (st.ev x) st.rows = .ok c v rs) (_hc : c) :
    rs = [] ∧ ∃ u, (Builtin.len_ #[t] ty #[a.eval x]).run P w = .ok u w ∧ RelV (Sf w0.heap.size S st.rows g) w st.rows g u v := by
  have hx := h.ev x
  have hu := (hT t ti ht).under
  rw [he] at hu
  simp only at hu
  unfold lenF at hv
  split at hv
  · rename_i xs hex
    rw [hex] at hx
    cases hv
    unfold RelV at hx
    obtain ⟨_, hx⟩ := hx
    refine ⟨rfl, .int .i64 xs.length, ?_, rel_sint _ _ _ _ _ _⟩
    generalize a.eval x = u at hx
    cases hx <;> simp [Builtin.len_, run_underlying hu, goInt]
  · rename_i hex
    rw [hex] at hx
    cases hv
    unfold RelV at hx
    obtain ⟨_, hx⟩ := hx
    have hx' : a.eval x = .slice none 0 0 := hx
    rw [hx']
    exact ⟨rfl, .int .i64 0, by simp [Builtin.len_, run_underlying hu, goInt], rel_sint _ _ _ _ _ _⟩
  · rename_i id hex
    rw [hex] at hx
    unfold RelV at hx
    obtain ⟨_, e', sz', xs', fl', hf', hu'⟩ := hx
    split at hv
    · rename_i e2 sz xs fl hf
      rw [hf] at hf'
      cases hf'
      cases hv
      rw [hu']
      refine ⟨rfl, _, ?_, rel_sint _ _ _ _ _ _⟩
      unfold gsl
      obtain ⟨_, hrow⟩ := h.rows id _ hf
      rcases hrow with ⟨hg, hnil⟩ | ⟨b, cap, cur, hg, _⟩
      · rw [hg]; simp [Builtin.len_, run_underlying hu, goInt, hnil]
      · rw [hg]; simp [Builtin.len_, run_underlying hu, goInt]
    · cases hv
  · cases hv

end
end Go.Abs
