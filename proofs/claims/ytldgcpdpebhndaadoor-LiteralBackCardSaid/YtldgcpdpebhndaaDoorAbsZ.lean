/-
  A method that writes on a builder, walked in place once for whatever the caller holds.
-/
import Derived.Test.YtldgcpdpebhndaaDoorAbsY
set_option linter.unusedSimpArgs false
set_option linter.unusedVariables false
namespace Go.Abs
open Go.RowKit

section
variable {S : Nat → Nat → Prop} {w0 : World} {N : Fm} {g : Gh} {st : ASt} {a : Act} {w : World} {P : Program} {T : Tab} {ro : Option Nat}

/-- Back in the caller's frame: by what is found. -/
theorem Rel.backF {β : Nat} {E : Nat → Value} {N2 : Fm} {s2 s0 s' : ASt} {a2 : Act} {v : AV} (h : Rel S w0 N2 g s2 a2 w) (hdom : ∀ i x, find s'.tmps i = some x → ∃ y, find s0.tmps i = some y)
    (hT : ∀ i x, find s'.tmps i = some x → find s2.rows (β + i) = some (.ghost (E i) x)) (hR : ∀ i r, find s'.rows i = some r → find s2.rows i = some r)
    (hN : ∀ i e sz xs fl, find s2.rows i = some (.arr e sz xs fl) → find s'.rows i = some (.arr e sz xs fl) ∨ (s'.nomen i ∧ v.ment i = false))
    (hE : ∀ i x, find s0.tmps i = some x → a.tmps[i]? = some (E i)) (hs : a.tmps.size = N.n) (hd : a.defers = []) :
    Rel S w0 N g s' a w ∧ ∀ u, RelV (Sf w0.heap.size S s2.rows g) w s2.rows g u v → RelV (Sf w0.heap.size S s'.rows g) w s'.rows g u v := by
  have hle : (ASt.mk [] s'.rows).le s2 := ⟨fun i x hx => by simp [find] at hx, hR, fun i e sz xs fl hf => (hN i e sz xs fl hf).imp (fun h => h) fun h => ⟨fun j x hx => by simp [find] at hx, h.1.2⟩⟩
  have h1 := h.weaken hle
  have hF : ∀ b o, Sf w0.heap.size S s2.rows g b o → Sf w0.heap.size S s'.rows g b o := by
    intro b o hs
    rcases hs with hs | ⟨q1, q2⟩
    · exact .inl hs
    · exact .inr ⟨q1, fun id r c hf hg => q2 id r c (hR id r hf) hg⟩
  have hx : ∀ {u : Value} {x : AV}, (x = v ∨ ∃ i, find s'.tmps i = some x) → RelV (Sf w0.heap.size S s2.rows g) w s2.rows g u x → RelV (Sf w0.heap.size S s'.rows g) w s'.rows g u x := by
    intro u x hx h2
    refine h2.carry (fun b o hs _ => ⟨hF b o hs, rfl⟩) fun id2 hm => ⟨rfl, fun e sz xs fl hf2 => ?_⟩
    rcases hN id2 e sz xs fl hf2 with h4 | h4
    · exact ⟨xs, fl, h4, rfl⟩
    · rcases hx with rfl | ⟨i, hi⟩
      · rw [h4.2] at hm; cases hm
      · rw [h4.1.1 i x hi] at hm; cases hm
  refine ⟨⟨h1.below, hs, fun _ => hd, h1.good, by rw [hd]; exact DefOk.nil _ _, h1.blk, h1.inj, h1.rows, fun i x hi => ⟨E i, ?_, ?_⟩⟩, fun u hu => hx (.inl rfl) hu⟩
  · obtain ⟨y, hy⟩ := hdom i x hi
    exact hE i y hy
  · exact hx (.inr ⟨i, hi⟩) (h.rows _ _ (hT i x hi)).2

theorem find_ghB_some {β : Nat} {E : Nat → Value} : ∀ {l : List (Nat × AV)} {i : Nat} {x : AV}, find l i = some x → find (ghB β E l) (β + i) = some (.ghost (E i) x)
  | [], i, x, h => by simp [find] at h
  | (k, y) :: l, i, x, h => by
    simp only [ghB, List.map_cons, find] at h ⊢
    split at h
    · rename_i e; cases h; subst e; simp
    · rename_i e
      rw [if_neg (by omega)]
      exact find_ghB_some (l := l) h

/-- The caller's state behind a method that has written on its builder. -/
def ASt.wrote (s : ASt) (b k Ty e : Nat) (ys : List (List DC)) : ASt := ⟨mapV (AV.kill k) s.tmps, (b, .box Ty [.ptr b 0, .row k]) :: (k, .arr e 1 ys false) :: mapV (ARow.kill k) s.rows⟩

def freeR (R : List (Nat × ARow)) (d : Nat) : Prop := (R.all fun p => !decide (p.1 = d) && !p.2.ment d) = true

/-- The end of such a method's body. -/
def wrQ (T : Tab) (results : List ResultVar) (b k Ty e : Nat) (ys : List (List DC)) (v : AV) (ex : List Nat) (R : List (Nat × ARow)) : Exit → ASt → Prop
  | .normal, s | .ret, s => match retAVs T s results with
    | some vs => v = mval vs ∧ ∃ X, s.rows = (b, .box Ty [.ptr b 0, .row k]) :: (k, .arr e 1 ys false) :: (X ++ mapV (ARow.kill k) R) ∧ (X.all fun p => p.1 == b || p.1 == k || ex.contains p.1) = true
    | none => False
  | _, _ => False

theorem Meth.writer (β : Nat) (ex : List Nat) (hT : TabOk P T) {f : FuncId} {fn : Func} {c : Code} (hf : P.funcs[f]? = some fn) (hname : (fn.name == "runtime.NumGoroutine") = false) (hb : fn.body = some c) {s : ASt} {b k Ty e : Nat} {x0 : AC} {xs0 ys : List (List DC)}
    {xs : List AV} {v : AV} (hlen : xs.length ≤ fn.ntmps) (hrb : find s.rows b = some (.box Ty [x0, .row k])) (hrk : find s.rows k = some (.arr e 1 xs0 false)) (hv : ∀ id, v.ment id = false)
    (hok : okI β s xs) (hex : (ex.all fun d => s.free d && s.tmps.all fun p => !decide (β + p.1 = d)) = true)
    (hwalk : ∀ R : List (Nat × ARow), (∀ d, d ∈ ex → freeR R d) → (∀ id r, find s.rows id = some r → find R id = some r) → wpL none P ⟨fn.ntmps, true⟩ (flat c) (wrQ T fn.results.toList b k Ty e ys v ex R) ⟨argAVs 0 xs, (b, .box Ty [x0, .row k]) :: (k, .arr e 1 xs0 false) :: R⟩) :
    Meth P f s xs (s.wrote b k Ty e ys) v := by
  intro S w0 N g a w hcalm h vs hvs
  left
  have hbody : ¬ fn.body = none := by simp [hb]
  have hnm : ¬ fn.name = "runtime.NumGoroutine" := by simpa using hname
  refine ⟨by simp [callFunc, hf, hnm, hbody], (callsIn_wide (n := 0)).1 (callsIn_of_wp_marks hf hb trivial ?_)⟩
  obtain ⟨g2, h2⟩ := h.enter hok hvs hlen
  have hbk : b ≠ k := fun e => by subst e; rw [hrb] at hrk; cases hrk
  obtain ⟨E, hEdef⟩ : ∃ E : Nat → Value, E = fun i => a.tmps[i]?.getD undef := ⟨_, rfl⟩
  rw [← hEdef] at h2
  have hgf : ∀ i x, find s.tmps i = some x → s.free (β + i) = true := fun i x hx => by
    have := List.all_eq_true.1 hok _ (find_mem hx)
    simp only [Bool.and_eq_true] at this
    exact this.1
  have hnog : ∀ id r, find s.rows id = some r → find (ghB β E s.tmps) id = none := by
    intro id r hr
    cases hn : find (ghB β E s.tmps) id with
    | none => rfl
    | some r2 =>
      obtain ⟨i, x, rfl, _, h3⟩ := find_ghB hn
      exact absurd rfl (find_free_row (hgf i x h3) hr).1
  have hRf : ∀ id, find ((b, .box Ty [x0, .row k]) :: (k, .arr e 1 xs0 false) :: (ghB β E s.tmps ++ s.rows)) id = find (ghB β E s.tmps ++ s.rows) id := by
    intro id
    simp only [find]
    split
    · rename_i e1; subst e1; rw [find_append, hnog _ _ hrb]; exact hrb.symm
    · split
      · rename_i e1; subst e1; rw [find_append, hnog _ _ hrk]; exact hrk.symm
      · rfl
  have h2' := h2.congr (s' := ⟨argAVs 0 xs, (b, .box Ty [x0, .row k]) :: (k, .arr e 1 xs0 false) :: (ghB β E s.tmps ++ s.rows)⟩) (fun _ => rfl) hRf
  have hfreeR : ∀ d, d ∈ ex → freeR (ghB β E s.tmps ++ s.rows) d := by
    intro d hd
    have hall := List.all_eq_true.1 hex d hd
    simp only [Bool.and_eq_true] at hall
    obtain ⟨hf1, hf2⟩ := hall
    unfold ASt.free at hf1
    simp only [Bool.and_eq_true] at hf1
    unfold freeR
    rw [List.all_append, Bool.and_eq_true]
    refine ⟨List.all_eq_true.2 fun p hp => ?_, List.all_eq_true.2 fun p hp => ?_⟩
    · unfold ghB at hp
      obtain ⟨q, hq, rfl⟩ := List.mem_map.1 hp
      have h5 := List.all_eq_true.1 hf1.1 q hq
      have h6 := List.all_eq_true.1 hf2 q hq
      simp only [Bool.and_eq_true]
      exact ⟨h6, by unfold ARow.ment; exact h5⟩
    · have h5 := List.all_eq_true.1 hf1.2 p hp
      simp only [Bool.and_eq_true] at h5 ⊢
      refine ⟨?_, h5.2⟩
      have := h5.1
      simpa using this
  have := AWp_flat c (hwalk _ hfreeR fun id r hr => by rw [find_append, hnog id r hr]; exact hr) S w0 g2 _ w h2'
  refine wpIn_mono this fun ee a3 w3 ⟨g3, s3, h3, hq⟩ => ?_
  have hd3 : a3.defers = [] := h3.calm rfl
  have hd : a.defers = [] := h.calm hcalm
  have hmapE : ∀ (l : List (Nat × ARow)) id, find (mapV (ARow.kill k) l) id = (find l id).map (ARow.kill k) := find_mapV _
  have fin : ∀ vs, retAVs T s3 fn.results.toList = some vs → (v = mval vs ∧ ∃ X, s3.rows = (b, .box Ty [.ptr b 0, .row k]) :: (k, .arr e 1 ys false) :: (X ++ mapV (ARow.kill k) (ghB β E s.tmps ++ s.rows)) ∧ (X.all fun p => p.1 == b || p.1 == k || ex.contains p.1) = true) →
      LeavesInM Fence.wide 0 P fn a3.tmps (fun e' w' => ∃ u g', e' = .returned u ∧ Rel S w0 N g' (s.wrote b k Ty e ys) a w' ∧ RelV (Sf w0.heap.size S (s.wrote b k Ty e ys).rows g') w' (s.wrote b k Ty e ys).rows g' u v) a3.defers .returning w3 := by
    intro vs hvs ⟨hv', X, hrows, hX⟩
    rw [hd3]
    obtain ⟨us, hall, hrun⟩ := results_sound (P := P) hT h3 hvs
    have hfX : ∀ id, id ≠ b → id ≠ k → id ∉ ex → find s3.rows id = (find (ghB β E s.tmps ++ s.rows) id).map (ARow.kill k) := by
      intro id h1 h2 h3'
      rw [hrows]
      simp only [find, if_neg h1, if_neg h2]
      rw [find_append]
      have : find X id = none := by
        cases hx : find X id with
        | none => rfl
        | some r =>
          have := List.all_eq_true.1 hX _ (find_mem hx)
          simp [h1, h2, h3'] at this
      rw [this]
      exact hmapE _ _
    have hfb : find s3.rows b = some (.box Ty [.ptr b 0, .row k]) := by rw [hrows]; simp [find]
    have hfk : find s3.rows k = some (.arr e 1 ys false) := by rw [hrows]; simp [find, Ne.symm hbk]
    have hexf : ∀ d, d ∈ ex → s.free d = true ∧ ∀ i x, find s.tmps i = some x → β + i ≠ d := by
      intro d hd
      have hall := List.all_eq_true.1 hex d hd
      simp only [Bool.and_eq_true] at hall
      refine ⟨hall.1, fun i x hx => ?_⟩
      have := List.all_eq_true.1 hall.2 _ (find_mem hx)
      simpa using this
    obtain ⟨hb1, hb2⟩ := Rel.backF (β := β) (E := E) (s0 := s) (s' := s.wrote b k Ty e ys) (v := v) (N := N) (a := a) h3
      (fun i x hx => by
        simp only [ASt.wrote, find_mapV] at hx
        obtain ⟨y, hy, _⟩ := Option.map_eq_some_iff.1 hx
        exact ⟨y, hy⟩)
      (fun i x hx => by
        simp only [ASt.wrote, find_mapV] at hx
        obtain ⟨y, hy, rfl⟩ := Option.map_eq_some_iff.1 hx
        have hfr := hgf i y hy
        rw [hfX (β + i) (fun e => (find_free_row hfr hrb).1 e.symm) (fun e => (find_free_row hfr hrk).1 e.symm) (fun hm => (hexf _ hm).2 i y hy rfl), find_append, find_ghB_some hy]
        rfl)
      (fun i r hr => by
        simp only [ASt.wrote, find] at hr
        split at hr
        · rename_i e1; subst e1; cases hr; exact hfb
        · rename_i e1
          split at hr
          · rename_i e2; subst e2; cases hr; exact hfk
          · rename_i e2
            rw [hmapE] at hr
            obtain ⟨r0, hr0, rfl⟩ := Option.map_eq_some_iff.1 hr
            rw [hfX i e1 e2 (fun hm => (find_free_row (hexf _ hm).1 hr0).1 rfl), find_append, hnog _ _ hr0]
            simp [hr0])
      (fun i e' sz xs fl hf => by
        by_cases e1 : i = b
        · subst e1; rw [hfb] at hf; cases hf
        · by_cases e2 : i = k
          · subst e2; rw [hfk] at hf; cases hf
            left; simp [ASt.wrote, find, e1]
          · by_cases e3 : i ∈ ex
            · right
              have hfr := (hexf i e3).1
              refine ⟨⟨fun j x hx => ?_, fun j r hr => ?_⟩, hv i⟩
              · simp only [ASt.wrote, find_mapV] at hx
                obtain ⟨y, hy, rfl⟩ := Option.map_eq_some_iff.1 hx
                have := find_free_tmp hfr hy
                cases hkk : (AV.kill k y).ment i with
                | false => rfl
                | true =>
                  exfalso
                  -- what kill leaves mentions no more
                  cases y with
                  | c y =>
                    simp only [AV.kill, AC.kill] at hkk
                    unfold AV.ment at hkk this
                    split at hkk
                    · simp [ment_dead] at hkk
                    · rw [this] at hkk; cases hkk
                  | agg ys =>
                    unfold AV.ment at this
                    rw [List.any_eq_false] at this
                    simp only [AV.kill] at hkk
                    unfold AV.ment at hkk
                    obtain ⟨z, hz, hz2⟩ := List.any_eq_true.1 hkk
                    obtain ⟨y, hy, rfl⟩ := List.mem_map.1 hz
                    unfold AC.kill at hz2
                    split at hz2
                    · simp [ment_dead] at hz2
                    · exact this y hy hz2
                  | tup ys =>
                    unfold AV.ment at this
                    simp only [AV.kill] at hkk
                    split at hkk
                    · unfold AV.ment at hkk; cases hkk
                    · unfold AV.ment at hkk; rw [this] at hkk; cases hkk
                  | any => simp only [AV.kill] at hkk; rw [this] at hkk; cases hkk
                  | emp => simp only [AV.kill] at hkk; rw [this] at hkk; cases hkk
              · simp only [ASt.wrote, find] at hr
                split at hr
                · cases hr
                  unfold ARow.ment
                  simp [ment_ptr, ment_row, Ne.symm e1, Ne.symm e2]
                · split at hr
                  · cases hr; rfl
                  · rw [hmapE] at hr
                    obtain ⟨r0, hr0, rfl⟩ := Option.map_eq_some_iff.1 hr
                    have := (find_free_row hfr hr0).2
                    cases r0 with
                    | box T' cs =>
                      simp only [ARow.kill]
                      unfold ARow.ment at this ⊢
                      rw [List.any_eq_false] at this ⊢
                      intro z hz
                      obtain ⟨y, hy, rfl⟩ := List.mem_map.1 hz
                      unfold AC.kill
                      split
                      · simp [ment_dead]
                      · exact this y hy
                    | ghost u x =>
                      simp only [ARow.kill]
                      unfold ARow.ment at this ⊢
                      cases x with
                      | c y =>
                        unfold AV.ment at this ⊢
                        simp only [AV.kill, AC.kill]
                        split
                        · rfl
                        · exact this
                      | agg ys =>
                        unfold AV.ment at this
                        rw [List.any_eq_false] at this
                        simp only [AV.kill]
                        unfold AV.ment
                        rw [List.any_eq_false]
                        intro z hz
                        obtain ⟨y, hy, rfl⟩ := List.mem_map.1 hz
                        unfold AC.kill
                        split
                        · simp [ment_dead]
                        · exact this y hy
                      | tup ys =>
                        simp only [AV.kill]
                        split
                        · unfold AV.ment; rfl
                        · exact this
                      | any => simp only [AV.kill]; exact this
                      | emp => simp only [AV.kill]; exact this
                    | _ => exact this
            · left
              rw [hfX i e1 e2 e3] at hf
              obtain ⟨r0, hr0, hr1⟩ := Option.map_eq_some_iff.1 hf
              rw [find_append] at hr0
              cases hgi : find (ghB β E s.tmps) i with
              | some r2 =>
                rw [hgi] at hr0
                simp only at hr0
                cases hr0
                obtain ⟨j, y, _, rfl, _⟩ := find_ghB hgi
                simp [ARow.kill] at hr1
              | none =>
                rw [hgi] at hr0
                simp only at hr0
                simp only [ASt.wrote, find, if_neg e1, if_neg e2]
                rw [hmapE, hr0, ← hr1]
                rfl)
      (fun i x hi => by obtain ⟨u, hu, _⟩ := h.tmps i x hi; rw [hEdef]; simp [hu]) h.size hd
    refine ⟨_, hrun, _, _, rfl, hb1, hb2 _ ?_⟩
    rw [hv']
    have tupR : ∀ {us : List Value} {vs : List AV}, All2 (RelV (Sf w0.heap.size S s3.rows g3) w3 s3.rows g3) us vs → RelVL (Sf w0.heap.size S s3.rows g3) w3 s3.rows g3 us vs := by
      intro us vs hall
      induction hall with
      | nil => unfold RelVL; trivial
      | cons h _ ih => unfold RelVL; exact ⟨h, ih⟩
    cases hall with
    | nil => unfold mval RelV; exact ⟨_, rfl, by unfold RelVL; trivial⟩
    | cons h1 ht =>
      cases ht with
      | nil => exact h1
      | cons h4 ht => unfold mval RelV; exact ⟨_, rfl, tupR (.cons h1 (.cons h4 ht))⟩
  cases ee with
  | normal =>
    simp only [wrQ] at hq
    split at hq
    · exact fin _ (by assumption) hq
    · exact hq.elim
  | ret =>
    simp only [wrQ] at hq
    split at hq
    · exact fin _ (by assumption) hq
    · exact hq.elim
  | _ => exact hq.elim

/-- A region in two parts, the second one kept out of the walk of the first. -/
theorem wpL_splitK (hT : TabOk P T) (k : Nat) {id : Nat} {ops : Array Oper} {l : List Code} {Q : Exit → ASt → Prop} (hl : dstOk N.n ops.toList = true)
    (h : ∀ K : ASt → Prop, (∀ s s', Ghost s s' → aOps N.calm P T ops (ops.toList.drop k) (wpL ro P N l Q) s' → K s) → aOps N.calm P T ops (ops.toList.take k) K st) : wpL ro P N (.region id ops false :: l) Q st :=
  wpL_split hT k hl (h _ fun s s' h1 h2 => ⟨s', h1, h2⟩)

theorem ghost_trans {s s' s'' : ASt} (h : Ghost s s') (h' : Ghost s' s'') : Ghost s s'' := fun S w0 N g a w hr => by
  obtain ⟨g', h1⟩ := h S w0 N g a w hr
  exact h' S w0 N g' a w h1
theorem ghost_weaken {s s' : ASt} (h : s'.le s) : Ghost s s' := fun S w0 N g a w hr => ⟨g, hr.weaken h⟩
theorem ghost_refl {s : ASt} : Ghost s s := fun S w0 N g a w hr => ⟨g, hr⟩

theorem bytes_loop (bs : ByteArray) : ∀ (k i : Nat) (r : List UInt8), bs.size - i = k → ByteArray.toList.loop bs i r = r.reverse ++ bs.data.toList.drop i := by
  intro k
  induction k with
  | zero =>
    intro i r h
    unfold ByteArray.toList.loop
    rw [if_neg (by omega)]
    have : bs.data.toList.length ≤ i := by simp; omega
    rw [List.drop_of_length_le this]; simp
  | succ k ih =>
    intro i r h
    unfold ByteArray.toList.loop
    have hi : i < bs.size := by omega
    rw [if_pos hi, ih (i + 1) _ (by omega)]
    have hg : bs.get! i = bs.data.toList[i]'(by simpa using hi) := by
      simp [ByteArray.get!]
      rw [getElem!_pos bs.data i hi]
    rw [List.drop_eq_getElem_cons (show i < bs.data.toList.length by simpa using hi), hg]
    simp
theorem bytes_toList (bs : ByteArray) : bs.toList = bs.data.toList := by
  unfold ByteArray.toList
  rw [bytes_loop bs _ 0 [] rfl]; simp

attribute [go_sem] ASt.wrote

end
end Go.Abs
