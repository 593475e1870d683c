/-
  One operation, whatever it is; a region in the order of the text.
-/
import Derived.Test.YtncglcfhbhbaoaaAbsK
import Derived.TacticsIn
import Derived.OrdersIn
set_option linter.unusedSimpArgs false
set_option linter.unusedVariables false
namespace Go.Abs
open Go.RowKit

section
variable {S : Nat → Nat → Prop} {w0 : World} {N : Fm} {g : Gh} {st : ASt} {a : Act} {w : World}

theorem src_sound (P : Program) (h : Rel S w0 N g st a w) (y : Operand) {ys : List (List DC)} (hs : srcOf st (st.ev y) = some ys) {sz : Nat} (hsz : 0 < sz) (hl : ∀ z, z ∈ ys → z.length = sz) :
    ∃ news, Src P sz ys.length w (a.eval y) news ∧ Elems (Sf w0.heap.size S st.rows g) w sz news ys := by
  have hy := h.ev y
  unfold srcOf at hs
  split at hs
  · rename_i zs he
    rw [he] at hy
    cases hs
    unfold RelV at hy
    exact src_sl P hy.2 hsz hl
  · rename_i he
    rw [he] at hy
    cases hs
    unfold RelV at hy
    have : a.eval y = .slice none 0 0 := hy.2
    rw [this]
    exact ⟨[], src_nil P sz w none 0, fun i j x d hx => by simp at hx⟩
  · rename_i ad cp he
    rw [he] at hy
    cases hs
    have : a.eval y = .slice ad 0 cp := relV_sc hy
    rw [this]
    exact ⟨[], src_nil P sz w ad cp, fun i j x d hx => by simp at hx⟩
  · rename_i id he
    rw [he] at hy
    split at hs
    · rename_i e' sz' zs fl hf
      cases hs
      unfold RelV at hy
      obtain ⟨_, e2, sz2, zs2, fl2, hf2, hu⟩ := hy
      rw [hf] at hf2
      cases hf2
      rw [hu]
      obtain ⟨hlx, _⟩ := h.rows id _ hf
      by_cases hz : ys = []
      · subst hz
        unfold gsl
        cases g id with
        | none => exact ⟨[], src_nil P sz w none 0, fun i j x d hx => by simp at hx⟩
        | some p => exact ⟨[], src_nil P sz w _ _, fun i j x d hx => by simp at hx⟩
      · obtain ⟨z, zs, rfl⟩ := List.exists_cons_of_ne_nil hz
        have e1 : sz' = sz := by rw [← hlx 0 z (by simp)]; exact hl z (by simp)
        subst e1
        exact src_row P h hf hsz
    · cases hs
  · cases hs

theorem srcT_sound (P : Program) {T : Tab} (hT : TabOk P T) (h : Rel S w0 N g st a w) {tx : Nat} {tix : TI} (htx : T tx = some tix) (y : Operand) {ys : List (List DC)} (hs : srcT tix.desc st (st.ev y) = some ys) :
    ∃ dx, P.underlying tx = some dx ∧ ((∃ e2, dx = .slice e2) ∨ dx = .string) ∧ ∀ {sz : Nat}, 0 < sz → (∀ z, z ∈ ys → z.length = sz) → ∃ news, Src P sz ys.length w (a.eval y) news ∧ Elems (Sf w0.heap.size S st.rows g) w sz news ys := by
  have hux := (hT tx tix htx).under
  unfold srcT at hs
  split at hs
  · rename_i e2 hd
    rw [hd] at hux
    exact ⟨_, hux, .inl ⟨e2, rfl⟩, fun h0 hl => src_sound P h y hs h0 hl⟩
  · rename_i hd
    rw [hd] at hux
    refine ⟨_, hux, .inr rfl, fun {sz} h0 hl => ?_⟩
    unfold srcStr at hs
    split at hs
    · rename_i s he
      cases hs
      have hy := h.ev y
      rw [he] at hy
      have hy' := relV_sc hy
      have hlen : (bytesD s.data.toList).length = s.size := by simp [bytesD]
      refine ⟨s.data.toList.map fun b => Value.int .u8 b.toNat, ⟨?_, fun w' _ => ?_, ?_, ?_⟩, ?_⟩
      · rw [hlen, hy']; rfl
      · rw [hlen, hy']
        simp only [Builtin.firstCells, Sem.run_pure]
        congr 1
        have : (s.extract 0 s.size).data = s.data := by rw [show s.extract 0 s.size = s from ByteArray.extract_zero_size]
        rw [this]
        apply Array.ext'
        simp
      · rw [hlen]
        by_cases hz : s.data.toList = []
        · have : s.size = 0 := by rw [← hlen, hz]; rfl
          simp [hz, this]
        · obtain ⟨c, l, hc⟩ := List.exists_cons_of_ne_nil hz
          have : sz = 1 := by
            have := hl [.sc (.int .u8 c.toNat)] (by simp [bytesD, hc])
            simpa using this.symm
          subst this
          simp
      · intro u hu
        obtain ⟨c, _, rfl⟩ := List.mem_map.1 hu
        rfl
      · intro i j x d hx hd
        simp only [bytesD, List.getElem?_map] at hx
        obtain ⟨c, hc, rfl⟩ := Option.map_eq_some_iff.1 hx
        cases j with
        | zero =>
          simp at hd
          subst hd
          have : sz = 1 := by
            have := hl [.sc (.int .u8 c.toNat)] (List.mem_map.2 ⟨c, List.mem_of_getElem? hc, rfl⟩)
            simpa using this.symm
          subst this
          exact ⟨.int .u8 c.toNat, by simp [hc], .sc _ rfl⟩
        | succ j => simp at hd
    · cases hs
  · cases hs

theorem app_sound {P : Program} {T : Tab} (hT : TabOk P T) (h : Rel S w0 N g st a w) (d t tx ty : Nat) (x y : Operand) {c : Prop} {v : AV} {st' : ASt} (hv : appF T d t tx st (st.ev y) (st.ev x) = some (c, v, st')) (hc : c) :
    ∃ u w' g', (Builtin.append_ #[t, tx] ty #[a.eval x, a.eval y]).run P w = .ok u w' ∧ Rel S w0 N g' st' a w' ∧ RelV (Sf w0.heap.size S st'.rows g') w' st'.rows g' u v := by
  have hx := h.ev x
  unfold appF at hv
  split at hv
  · rename_i ti tix ht htx
    split at hv
    · rename_i e hd
      have hu := (hT t ti ht).under
      rw [hd] at hu
      simp only at hu
      split at hv
      · rename_i te hte
        obtain ⟨i, z, hi, hs, hb, hz, hzc⟩ := (hT e te hte).info'
        have hzl : z.cells.size = te.size := by rw [← Array.length_toList, hzc, (hT e te hte).len]
        split at hv
        · rename_i ys hys
          obtain ⟨dx, hux, hdx, hsrcs⟩ := srcT_sound P hT h htx y hys
          split at hv
          · rename_i he
            rw [he] at hx
            cases hv
            obtain ⟨h1, h2, h3, h4, h5⟩ := hc
            obtain ⟨news, hsrc, hel⟩ := hsrcs h4 h5
            unfold RelV at hx
            have hxn : a.eval x = .slice none 0 0 := hx.2
            have hm : st.nomen d := ⟨fun i x hx => find_free_tmp h1 hx, fun i r hr => (find_free_row h1 hr).2⟩
            obtain ⟨v', w', g', h6, h7, h8⟩ := h.app (P := P) (ty := ty) (fl := false) (v := a.eval x) (xs := []) hm hu hux hdx hi hz hs hzl h4 (.inl ⟨hxn, rfl⟩) hsrc hel h5 (by simpa using h2) (by rw [hb]; exact h3)
            refine ⟨v', w', g', h6, h8, ?_⟩
            unfold RelV
            refine ⟨?_, e, te.size, ys, false, find_set_eq, by simpa using h7⟩
            rw [h7]; unfold gsl; split <;> rfl
          · rename_i id he
            rw [he] at hx
            split at hv
            · rename_i e' sz xs fl hf
              cases hv
              obtain ⟨h1, h2, h3, h4, h5, h6⟩ := hc
              subst h1; subst h2
              obtain ⟨news, hsrc, hel⟩ := hsrcs h5 h6
              have hk := h.kill id
              have hfk : find (st.kill id).rows id = some (.arr e' te.size xs fl) := by simp [ASt.kill, find_mapV, hf, ARow.kill]
              unfold RelV at hx
              obtain ⟨_, e3, sz3, xs3, fl3, hf3, hu3⟩ := hx
              rw [hf] at hf3
              cases hf3
              have hsafe : ∀ b o, Sf w0.heap.size S st.rows g b o → Sf w0.heap.size S (st.kill id).rows g b o := by
                intro b o hso
                rcases hso with hso | ⟨q1, q2⟩
                · exact .inl hso
                · refine .inr ⟨q1, fun i r c hr hg => ?_⟩
                  simp only [ASt.kill, find_mapV] at hr
                  obtain ⟨r0, hr0, rfl⟩ := Option.map_eq_some_iff.1 hr
                  have := q2 i r0 c hr0 hg
                  cases r0 <;> exact this
              have helk : Elems (Sf w0.heap.size S (st.kill id).rows g) w te.size news ys := fun i j x d hx hd => by
                obtain ⟨u, hu, hr⟩ := hel i j x d hx hd
                exact ⟨u, hu, hr.sub hsafe⟩
              have hvv : (a.eval x = .slice none 0 0 ∧ xs = []) ∨ ∃ b cap, a.eval x = .slice (some ⟨b, 0, none⟩) xs.length cap ∧ g id = some (b, cap) ∧ find (st.kill id).rows id = some (.arr e' te.size xs fl) := by
                obtain ⟨_, hrow⟩ := h.rows id _ hf
                rcases hrow with ⟨q1, q2⟩ | ⟨b, cap, cur, q1, _⟩
                · left; rw [hu3, q1]; exact ⟨by simp [gsl, q2], q2⟩
                · right; exact ⟨b, cap, by rw [hu3, q1]; simp [gsl], q1, hfk⟩
              obtain ⟨v', w', g', h7, h8, h9⟩ := hk.app (P := P) (ty := ty) (kill_nomen st id) hu hux hdx hi hz hs hzl h5 hvv hsrc helk h6 h3 (by rw [hb]; exact h4)
              refine ⟨v', w', g', h7, h9, ?_⟩
              unfold RelV
              refine ⟨?_, e', te.size, _, fl, find_set_eq, h8⟩
              rw [h8]; unfold gsl; split <;> rfl
            · cases hv
          · cases hv
        · cases hv
      · cases hv
    · cases hv
  · cases hv

theorem nodupK_uniq : ∀ {l : List (Nat × ARow)}, nodupK l = true → ∀ id r, (id, r) ∈ l → find l id = some r
  | [], _, id, r, hm => by simp at hm
  | (k, v) :: l, h, id, r, hm => by
    simp only [nodupK, Bool.and_eq_true] at h
    simp only [List.mem_cons, Prod.mk.injEq] at hm
    rcases hm with ⟨rfl, rfl⟩ | hm
    · exact find_set_eq
    · have := nodupK_uniq h.2 id r hm
      by_cases hk : id = k
      · subst hk
        rw [this] at h; simp at h
      · rw [find_set_ne hk]; exact this

theorem find_okIds {l : List (Nat × ARow)} (h : l.all (fun p => st.free p.1) = true) {id : Nat} {r : ARow} (hf : find l id = some r) : st.free id = true :=
  List.all_eq_true.1 h _ (find_mem hf)

/-- A fence that lets everything in, for an activation of a function or for a round. -/
def Fr (ro : Option Nat) : Fence := { fn := fun _ => True, depth := none, alive := false, round := ro }
theorem callsIn_fr {ro : Option Nat} {n : Nat} {P : Program} {f : FuncId} {args : Array Value} {w : World} {R : Ending → World → Prop} (h : Calls P f args w R) : CallsIn (Fr ro) n P f args w R :=
  (callsIn_wide (n := n)).2 h
theorem wpIn_op {ro : Option Nat} {P : Program} {o : Oper} {a : Act} {w : World} {next : Act → World → Prop} {Q : Exit → Act → World → Prop} (hd : ∀ c, o.op ≠ .defer c) {r : Result Next} (hr : (execOp a.eval o).run P w = r)
    (h : o.uponIn (Fr ro) 0 P a next Q r) : o.wpIn (Fr ro) 0 P a w next Q := by
  refine ⟨fun _ _ => trivial, ?_⟩
  rw [Oper.semAt_eq _ _ _ hd, hr]
  exact h

/-- What a call of a function value hands over. -/
theorem call_args (h : Rel S w0 N g st a w) (o : Oper) {f : Nat} {xs : List AV} (hcall : callOf st o.op = some (f, xs)) :
    (∀ c, o.op ≠ .defer c) ∧ ∃ args : List Value, execOp a.eval o = callFunc f args.toArray ∧ All2 (RelV (Sf w0.heap.size S st.rows g) w st.rows g) args xs := by
  unfold callOf at hcall
  split at hcall
  · rename_i c' hop
    split at hcall
    · rename_i x hcal
      refine ⟨by simp [hop], ?_⟩
      have hevs : ∀ (l : List Operand), All2 (RelV (Sf w0.heap.size S st.rows g) w st.rows g) (l.map a.eval) (l.map st.ev) := by
        intro l
        induction l with
        | nil => exact .nil
        | cons x l ih => exact .cons (h.ev x) ih
      split at hcall
      · rename_i f' first cap hx
        split at hcall
        · rename_i hone
          cases hcall
          have hxv := h.ev x
          rw [hx] at hxv
          have hxe := relV_sc hxv
          have hscs : ∀ (l : List Value), (∀ v ∈ l, v.oneCell' = true) → All2 (RelV (Sf w0.heap.size S st.rows g) w st.rows g) l (l.map scAV) := by
            intro l hl
            refine All2.map_r ?_
            induction l with
            | nil => exact .nil
            | cons v l ih => exact .cons (by unfold scAV RelV; exact ⟨hl v (by simp), .sc _ (hl v (by simp))⟩) (ih fun u hu => hl u (List.mem_cons_of_mem _ hu))
          rw [List.all_append, Bool.and_eq_true, List.all_eq_true, List.all_eq_true] at hone
          refine ⟨first.toList ++ c'.args.toList.map a.eval ++ cap.toList, ?_, ((hscs _ hone.1).app (hevs c'.args.toList)).app (hscs _ hone.2)⟩
          have harr : (first.toList ++ c'.args.toList.map a.eval ++ cap.toList).toArray = (first ++ c'.args.map a.eval) ++ cap := by
            apply Array.ext'; simp
          rw [harr]
          simp [execOp, hop, resolve, hcal, hxe, Deferred.ofValue, invoke]
        · cases hcall
      · rename_i f' xs' hx
        cases hcall
        have hxv := h.ev x
        rw [hx] at hxv
        unfold RelV at hxv
        obtain ⟨cs, hcs, hall⟩ := clo_inv (rows := st.rows) (g := g) hxv.2
        refine ⟨c'.args.toList.map a.eval ++ cs, ?_, (hevs c'.args.toList).app (All2.map_r (hall.mono fun v y hv => by unfold RelV; exact hv))⟩
        have harr : (c'.args.toList.map a.eval ++ cs).toArray = (#[] ++ c'.args.map a.eval) ++ cs.toArray := by
          apply Array.ext'; simp
        rw [harr]
        simp [execOp, hop, resolve, hcal, hcs, Deferred.ofValue, invoke]
      · rename_i f' hx
        cases hcall
        have hxv := h.ev x
        rw [hx] at hxv
        unfold RelV at hxv
        generalize hu : a.eval x = u at hxv
        obtain ⟨_, hxv⟩ := hxv
        cases hxv with
        | rc _ b o hS hc =>
          refine ⟨c'.args.toList.map a.eval ++ [.pointer (some ⟨b, o, none⟩)], ?_, (hevs c'.args.toList).app (.cons ?_ .nil)⟩
          · have harr : (c'.args.toList.map a.eval ++ [Value.pointer (some ⟨b, o, none⟩)]).toArray = (#[] ++ c'.args.map a.eval) ++ #[Value.pointer (some ⟨b, o, none⟩)] := by
              apply Array.ext'; simp
            rw [harr]
            simp [execOp, hop, resolve, hcal, hu, Deferred.ofValue, invoke]
          · unfold RelV
            refine ⟨rfl, b, o, fun _ => .func (.func f) #[] #[.pointer (some ⟨b, o, none⟩)], rfl, fun j d hd => ?_⟩
            cases j with
            | zero => simp at hd; subst hd; exact ⟨hS, hc, .rc f b o hS hc⟩
            | succ j => simp at hd
      · rename_i f' pre id post hx
        cases hcall
        have hxv := h.ev x
        rw [hx] at hxv
        unfold RelV at hxv
        obtain ⟨_, b, c2, vs, ws, hg, hcs, h3, h4⟩ := hxv
        have hp : ∀ {vs : List Value} {pre : List (List DC)}, All2 (DPtr (Sf w0.heap.size S st.rows g) w) vs pre → All2 (RelV (Sf w0.heap.size S st.rows g) w st.rows g) vs (pre.map fun x => .c (.dptr x)) := by
          intro vs pre h
          exact All2.map_r (h.mono fun v y hv => by
            unfold RelV
            refine ⟨?_, hv⟩
            obtain ⟨b, o, us, h1, _⟩ := hv
            rw [h1]; rfl)
        refine ⟨c'.args.toList.map a.eval ++ (vs ++ .pointer (some ⟨b, 0, none⟩) :: ws), ?_, (hevs c'.args.toList).app ((hp h3).app (.cons (by unfold RelV; exact ⟨rfl, b, c2, hg, rfl⟩) (hp h4)))⟩
        have harr : (c'.args.toList.map a.eval ++ (vs ++ Value.pointer (some ⟨b, 0, none⟩) :: ws)).toArray = (#[] ++ c'.args.map a.eval) ++ (vs ++ Value.pointer (some ⟨b, 0, none⟩) :: ws).toArray := by
          apply Array.ext'; simp
        rw [harr]
        simp [execOp, hop, resolve, hcal, hcs, Deferred.ofValue, invoke]
      · cases hcall
    · cases hcall
  · cases hcall

theorem step_sound {m : Bool} (hm : m = true → N.calm = true) {ro : Option Nat} {P : Program} {T : Tab} (hT : TabOk P T) (h : Rel S w0 N g st a w) (o : Oper) (hd : ∀ i, o.dst = some i → i < N.n) {K : ASt → Prop} (hK : stepA m P T o K st) {Q : Exit → Act → World → Prop} :
    o.wpIn (Fr ro) 0 P a w (fun a' w' => ∃ g' st', Rel S w0 N g' st' a' w' ∧ K st') Q := by
  unfold stepA at hK
  split at hK
  · rename_i c v s' hw
    obtain ⟨hc, hK⟩ := hK
    unfold wF at hw
    split at hw
    · rename_i t x y hop
      split at hw
      · rename_i c' s2 hst
        cases hw
        obtain ⟨w', h1, h2⟩ := store_sound (P := P) hT h t x y hst hc
        have hrun : (execOp a.eval o).run P w = .ok .skip w' := by
          simp [execOp, hop, h1]
        refine wpIn_op (by simp [hop]) hrun ?_
        rw [Oper.uponIn_skip]
        refine ⟨g, _, h2.put' hd ?_, hK⟩
        unfold RelV
        exact ⟨#[], rfl, by unfold RelVL; trivial⟩
      · cases hw
    · rename_i t x hop
      split at hw
      · rename_i ti str ht hx
        split at hw
        · rename_i hdesc
          cases hw
          have hu := (hT t ti ht).under
          rw [hdesc] at hu
          simp only at hu
          have hxe : a.eval x = .string str := by have := h.ev x; rw [hx] at this; exact relV_sc this
          have hrun : (execOp a.eval o).run P w = .ok (.value (.pointer (some ⟨w.heap.size, 0, none⟩))) (w.alloc (.stringIter str 0)) := by
            have h1 : (Instr.range t (.string str)).run P w = .ok (.pointer (some ⟨w.heap.size, 0, none⟩)) (w.alloc (.stringIter str 0)) := by
              simp only [Instr.range, Sem.run_bind]
              simp [underlying, hu]
            simp [execOp, hop, hxe, h1]
          refine wpIn_op (by simp [hop]) hrun ?_
          rw [Oper.uponIn_value]
          obtain ⟨d, hdd⟩ : ∃ d, d = o.dst.getD 0 := ⟨_, rfl⟩
          rw [← hdd] at hc hK
          have hnews := (h.news (w' := w.alloc (.stringIter str 0)) (Below.alloc (Below.refl _ _) (Nat.le_refl _) _) (ns := [(d, .iter str 0)]) (gN := fun _ => some (w.heap.size, 0)) (g' := updG g d (some (w.heap.size, 0)))
            (fun id => by by_cases hid : id = d <;> simp [find, updG, hid]) (fun id r hf => by simp only [find] at hf; split at hf; (rename_i e; subst e; exact hc); cases hf)
            (fun id r b c hf hg => by cases hg; exact ⟨Nat.le_refl _, by simp⟩)
            (fun id id' r r' b c c' hf hf' _ _ => by simp only [find] at hf hf'; split at hf; (split at hf'; (rename_i e e'; rw [e, e']); cases hf'); cases hf)
            (fun id r hf => by
              simp only [find] at hf
              split at hf
              · rename_i e; cases hf; subst e
                exact ⟨_, _, updG_eq _ _ _, heap_alloc_new w _⟩
              · cases hf)).2
          refine ⟨_, _, hnews.put' hd ?_, hK⟩
          unfold RelV
          exact ⟨rfl, _, _, updG_eq _ _ _, rfl⟩
        · cases hw
      · cases hw
    · rename_i x hop
      split at hw
      · rename_i id hx
        split at hw
        · rename_i str pos hf
          have hxv := h.ev x
          rw [hx] at hxv
          unfold RelV at hxv
          obtain ⟨_, b, cp, hgid, hxe⟩ := hxv
          obtain ⟨b', c', hg', hh⟩ := h.rows id _ hf
          rw [hgid] at hg'; cases hg'
          have hlt := (Array.getElem?_eq_some_iff.1 hh).1
          split at hw
          · rename_i hps
            cases hw
            have hrun : (execOp a.eval o).run P w = .ok (.value (.tuple #[.bool true, .int .i64 pos, .int .i32 (Utf8.decode str pos).1])) (w.putObj b (.stringIter str (pos + (Utf8.decode str pos).2))) := by
              have h1 : ∀ ty, (Instr.next (.pointer (some ⟨b, 0, none⟩)) true ty).run P w = .ok (.tuple #[.bool true, .int .i64 pos, .int .i32 (Utf8.decode str pos).1]) (w.putObj b (.stringIter str (pos + (Utf8.decode str pos).2))) := fun ty => by
                simp only [Instr.next, getObj, setObj, Sem.run_bind, Sem.run, hh, Result.andThen, hps, if_true]
                simp [goInt, Sem.run, hh, World.putObj]
              simp [execOp, hop, hxe, h1]
            refine wpIn_op (by simp [hop]) hrun ?_
            rw [Oper.uponIn_value]
            refine ⟨g, _, (h.goOn (pos' := pos + (Utf8.decode str pos).2) hf hgid).put' hd ?_, hK⟩
            unfold RelV
            refine ⟨_, rfl, ?_⟩
            refine ⟨?_, ?_, ?_, trivial⟩ <;> unfold RelV <;> exact ⟨rfl, .sc _ rfl⟩
          · rename_i hps
            cases hw
            have hrun : (execOp a.eval o).run P w = .ok (.value (.tuple #[.bool false])) w := by
              have h1 : ∀ ty, (Instr.next (.pointer (some ⟨b, 0, none⟩)) true ty).run P w = .ok (.tuple #[.bool false]) w := fun ty => by
                simp [Instr.next, getObj, Sem.run, hh, hps]
              simp [execOp, hop, hxe, h1]
            refine wpIn_op (by simp [hop]) hrun ?_
            rw [Oper.uponIn_value]
            refine ⟨g, _, h.put' hd ?_, hK⟩
            unfold RelV
            refine ⟨_, rfl, ?_⟩
            refine ⟨?_, trivial⟩
            unfold RelV; exact ⟨rfl, .sc _ rfl⟩
        · cases hw
      · cases hw
    · rename_i c' hop
      split at hw
      · rename_i hcal
        split at hw
        · rename_i x y t tx hargs htys
          have hA : c'.args = #[x, y] := by apply Array.ext'; simpa using hargs
          have hTy : c'.argTypes = #[t, tx] := by apply Array.ext'; simpa using htys
          obtain ⟨u, w', g', h1, h2, h3⟩ := app_sound (P := P) hT h (o.dst.getD 0) t tx o.type x y hw hc
          have hrun : (execOp a.eval o).run P w = .ok (.value u) w' := by
            simp [execOp, hop, resolve, hcal, hA, hTy, invoke, builtin, h1]
          refine wpIn_op (by simp [hop]) hrun ?_
          rw [Oper.uponIn_value]
          exact ⟨g', _, h2.put' hd h3, hK⟩
        · cases hw
      · cases hw
    · cases hw
  · split at hK
    · rename_i f xs hcall
      obtain ⟨hnd0, args, hexec, hall⟩ := call_args h o hcall
      split at hK
      · rename_i dvs hdvs
        obtain ⟨r, hpure, hcall2⟩ := hK
        obtain ⟨hlent, ⟨hfree, hnd⟩, hK⟩ := hcall2
        have hdv := dvs_sound' (lent := true) h hall hdvs
        -- the safe places that the call is told of
        have key : ∃ F0 : Nat → Nat → Prop, TabGood F0 w ∧ All2 (RelDV F0 w) args dvs ∧ (r.flat = true ∨ ∀ b o, F0 b o → Sf w0.heap.size S st.rows g b o) := by
          rcases hlent with hl | hl
          · obtain ⟨dvs', hdvs'⟩ := Option.isSome_iff_exists.1 hl
            have := dvsOf_lent hdvs'
            rw [hdvs] at this
            cases this
            exact ⟨_, h.goodW.sub fun _ _ hb => .inr hb, dvs_sound' (lent := false) h hall hdvs', .inr fun b o hb => by simpa using hb⟩
          · exact ⟨_, h.goodW.sub fun _ _ hb => .inr hb, hdv, .inl hl⟩
        obtain ⟨F0, hgood, hdv0, hF0⟩ := key
        have hcf := hpure F0 w _ hgood hdv0
        have fin : ∀ e w', Post F0 w r e w' → ∃ v, e = .returned v ∧ ∃ g' st', Rel S w0 N g' st' (a.put o.dst v) w' ∧ K st' := by
          intro e w' hpost
          obtain ⟨v, fb, rfl, hb, hblk, hinj, hrr⟩ := hpost
          obtain ⟨g', h1, h2⟩ := h.call hF0 hb hblk hinj hrr (fun id r' hf => find_okIds hfree hf) (fun id r' hm => nodupK_uniq hnd id r' hm)
          exact ⟨v, rfl, g', _, h1.put' hd h2, hK⟩
        rcases hcf with ⟨hrun, hcalls⟩ | ⟨v, w', hrun, hpost⟩
        · refine wpIn_op hnd0 (hexec ▸ hrun) ?_
          rw [Oper.uponIn_enter]
          refine ⟨fun hx => by simp [Fr] at hx, callsIn_fr (hcalls.mono fun e w' hpost => ?_)⟩
          obtain ⟨v, rfl, hfin⟩ := fin e w' hpost
          exact hfin
        · refine wpIn_op hnd0 (hexec ▸ hrun) ?_
          rw [Oper.uponIn_value]
          obtain ⟨v', he, hfin⟩ := fin _ w' hpost
          cases he
          exact hfin
      · split at hK
        · obtain ⟨s', v, hmeth, hK⟩ := hK
          rcases hmeth S w0 N g a w (hm rfl) h args hall with ⟨hrun, hcalls⟩ | ⟨u, w', hrun, u', g', he, h1, h2⟩
          · refine wpIn_op hnd0 (hexec ▸ hrun) ?_
            rw [Oper.uponIn_enter]
            refine ⟨fun hx => by simp [Fr] at hx, callsIn_fr (hcalls.mono fun e w' hpost => ?_)⟩
            obtain ⟨u, g', rfl, h1, h2⟩ := hpost
            exact ⟨g', _, h1.put' hd h2, hK⟩
          · cases he
            refine wpIn_op hnd0 (hexec ▸ hrun) ?_
            rw [Oper.uponIn_value]
            exact ⟨g', _, h1.put' hd h2, hK⟩
        · exact hK.elim
    · split at hK
      · rename_i c v rows he
        obtain ⟨hc, hK⟩ := hK
        obtain ⟨u, w', g', h1, h2, h3⟩ := eff_sound (P := P) hT h o he hc
        refine wpIn_op (fun c' hc' => ?_) h1 ?_
        · rw [hc'] at he; simp [effF] at he
        · rw [Oper.uponIn_value]
          exact ⟨g', _, h2.put' hd h3, hK⟩
      · exact hK.elim

end
end Go.Abs
