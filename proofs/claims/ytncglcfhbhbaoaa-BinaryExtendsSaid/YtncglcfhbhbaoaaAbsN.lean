/-
  Functions: from a walk of the body to what the function gives.
-/
import Derived.Test.YtncglcfhbhbaoaaAbsM
import Derived.RangeFuncRecord
import Derived.RangeFuncLeaves
set_option linter.unusedSimpArgs false
set_option linter.unusedVariables false
namespace Go.Abs
open Go.RowKit

def dvAV : DV → AV
  | .c x => .c (.d x)
  | .agg xs => .agg (xs.map .d)
  | .ptr xs => .c (.dptr xs)

def argSlots : Nat → List DV → List (Nat × AV)
  | _, [] => []
  | i, x :: xs => (i, dvAV x) :: argSlots (i + 1) xs

/-- A state entry by entry below another. -/
def leT : List (Nat × AV) → ASt → Prop
  | [], _ => True
  | (i, x) :: l, s => find s.tmps i = some x ∧ leT l s
def leR : List (Nat × ARow) → ASt → Prop
  | [], _ => True
  | (i, x) :: l, s => find s.rows i = some x ∧ leR l s
def ASt.nomenB (s : ASt) (id : Nat) : Bool := s.tmps.all (fun p => !p.2.ment id) && s.rows.all (fun p => !p.2.ment id)
def leN : List (Nat × ARow) → ASt → Prop
  | [], _ => True
  | (i, .box _ _) :: l, s' => leN l s'
  | (i, .ghost _ _) :: l, s' => leN l s'
  | (i, .held _) :: l, s' => leN l s'
  | (i, .gone) :: l, s' => leN l s'
  | (i, .iter _ _) :: l, s' => leN l s'
  | (i, .arr _ _ _ _) :: l, s' => ((find s'.rows i).isSome = true ∨ s'.nomenB i = true) ∧ leN l s'

theorem leT_find : ∀ {l : List (Nat × AV)} {s : ASt}, leT l s → ∀ i x, find l i = some x → find s.tmps i = some x
  | [], s, _, i, x, hf => by simp [find] at hf
  | (k, y) :: l, s, h, i, x, hf => by
    simp only [find] at hf
    split at hf
    · rename_i e; cases hf; subst e; exact h.1
    · exact leT_find h.2 i x hf
theorem leR_find : ∀ {l : List (Nat × ARow)} {s : ASt}, leR l s → ∀ i x, find l i = some x → find s.rows i = some x
  | [], s, _, i, x, hf => by simp [find] at hf
  | (k, y) :: l, s, h, i, x, hf => by
    simp only [find] at hf
    split at hf
    · rename_i e; cases hf; subst e; exact h.1
    · exact leR_find h.2 i x hf
theorem leN_find : ∀ {l : List (Nat × ARow)} {s' : ASt}, leN l s' → ∀ i e sz xs fl, (i, ARow.arr e sz xs fl) ∈ l → (find s'.rows i).isSome = true ∨ s'.nomenB i = true
  | [], s', _, i, e, sz, xs, fl, hm => by simp at hm
  | (k, .box _ _) :: l, s', h, i, e, sz, xs, fl, hm => by
    simp at hm
    exact leN_find (l := l) h i e sz xs fl hm
  | (k, .ghost _ _) :: l, s', h, i, e, sz, xs, fl, hm => by
    simp at hm
    exact leN_find (l := l) h i e sz xs fl hm
  | (k, .held _) :: l, s', h, i, e, sz, xs, fl, hm => by
    simp at hm
    exact leN_find (l := l) h i e sz xs fl hm
  | (k, .gone) :: l, s', h, i, e, sz, xs, fl, hm => by
    simp at hm
    exact leN_find (l := l) h i e sz xs fl hm
  | (k, .iter _ _) :: l, s', h, i, e, sz, xs, fl, hm => by
    simp at hm
    exact leN_find (l := l) h i e sz xs fl hm
  | (k, .arr _ _ _ _) :: l, s', h, i, e, sz, xs, fl, hm => by
    simp only [List.mem_cons, Prod.mk.injEq] at hm
    rcases hm with ⟨rfl, _⟩ | hm
    · exact h.1
    · exact leN_find h.2 i e sz xs fl hm

theorem nomen_of {s : ASt} {id : Nat} (h : s.nomenB id = true) : s.nomen id := by
  unfold ASt.nomenB at h
  rw [Bool.and_eq_true, List.all_eq_true, List.all_eq_true] at h
  exact ⟨fun i x hx => by simpa using h.1 _ (find_mem hx), fun i r hr => by simpa using h.2 _ (find_mem hr)⟩

theorem le_mk {s' s : ASt} (h1 : leT s'.tmps s) (h2 : leR s'.rows s) (h3 : leN s.rows s') : s'.le s := by
  refine ⟨leT_find h1, leR_find h2, fun i e sz xs fl hf => ?_⟩
  rcases leN_find h3 i e sz xs fl (find_mem hf) with h | h
  · obtain ⟨r, hr⟩ := Option.isSome_iff_exists.1 h
    have := leR_find h2 i r hr
    rw [hf] at this
    cases this
    exact .inl hr
  · exact .inr (nomen_of h)

/- What a function hands back. -/
def retAV (T : Tab) (s : ASt) : ResultVar → Option AV
  | .tmp t => find s.tmps t
  | .cell t ty => match find s.tmps t with
    | some x => loadF T ty s.rows x
    | none => none

def retAVs (T : Tab) (s : ASt) : List ResultVar → Option (List AV)
  | [] => some []
  | x :: xs => match retAV T s x, retAVs T s xs with
    | some v, some vs => some (v :: vs)
    | _, _ => none

def retC (rows : List (Nat × ARow)) (x : AC) : RC → Prop
  | .d y => dcOf true rows x = some y
  | .fresh e sz xs => match x with
    | .row id => find rows id = some (.arr e sz xs false)
    | _ => False
def retCs (rows : List (Nat × ARow)) : List AC → List RC → Prop
  | [], [] => True
  | x :: xs, y :: ys => retC rows x y ∧ retCs rows xs ys
  | _, _ => False
def retV (rows : List (Nat × ARow)) : AV → RV → Prop
  | .c x, .c y => retC rows x y
  | .agg xs, .agg ys => retCs rows xs ys
  | _, _ => False
def retVs (rows : List (Nat × ARow)) : List AV → List RV → Prop
  | [], [] => True
  | x :: xs, y :: ys => retV rows x y ∧ retVs rows xs ys
  | _, _ => False

/- The rows that are handed back as fresh, each with its place. -/
def frC (p : Nat) : AC → RC → List (Nat × Nat)
  | .row id, .fresh _ _ _ => [(p, id)]
  | _, _ => []
def frCs : Nat → List AC → List RC → List (Nat × Nat)
  | p, x :: xs, y :: ys => frC p x y ++ frCs (p + 1) xs ys
  | _, _, _ => []
def frV (p : Nat) : AV → RV → List (Nat × Nat)
  | .c x, .c y => frC p x y
  | .agg xs, .agg ys => frCs p xs ys
  | _, _ => []
def frVs : Nat → List AV → List RV → List (Nat × Nat)
  | p, x :: xs, y :: ys => frV p x y ++ frVs (p + 50) xs ys
  | _, _, _ => []
/- The rows that are handed back as data. -/
def daC : AC → RC → List Nat
  | .row id, .d _ => [id]
  | _, _ => []
def daCs : List AC → List RC → List Nat
  | x :: xs, y :: ys => daC x y ++ daCs xs ys
  | _, _ => []
def daV : AV → RV → List Nat
  | .c x, .c y => daC x y
  | .agg xs, .agg ys => daCs xs ys
  | _, _ => []
def daVs : List AV → List RV → List Nat
  | x :: xs, y :: ys => daV x y ++ daVs xs ys
  | _, _ => []

def nodupF : List (Nat × Nat) → Bool
  | [] => true
  | (p, id) :: l => l.all (fun q => q.1 != p && q.2 != id) && nodupF l

def apartF (fr : List (Nat × Nat)) (da : List Nat) : Bool := da.all fun i => fr.all fun q => q.2 != i

def RetOk (rows : List (Nat × ARow)) (vs : List AV) : Res → Prop
  | .one y => match vs with
    | [x] => retV rows x y ∧ nodupF (frV 0 x y) = true ∧ apartF (frV 0 x y) (daV x y) = true
    | _ => False
  | .tup ys => vs.length ≠ 1 ∧ retVs rows vs ys ∧ nodupF (frVs 0 vs ys) = true ∧ apartF (frVs 0 vs ys) (daVs vs ys) = true

/-- No foreign blocks are held: so it is in a function's own frame. -/
def noHeld (rows : List (Nat × ARow)) : Bool := rows.all fun p => match p.2 with | .held _ => false | _ => true
theorem noHeld_find {rows : List (Nat × ARow)} (h : noHeld rows = true) (id : Nat) (l : List (Nat × Obj)) : find rows id ≠ some (.held l) := fun hf => by
  have := List.all_eq_true.1 h _ (find_mem hf)
  simp at this

def retQ (T : Tab) (results : List ResultVar) (r : Res) : Exit → ASt → Prop
  | .normal, s | .ret, s => match retAVs T s results with
    | some vs => noHeld s.rows = true ∧ RetOk s.rows vs r
    | none => False
  | _, _ => False

section
variable {S : Nat → Nat → Prop} {w0 : World} {N : Fm} {g : Gh} {st : ASt} {a : Act} {w : World} {P : Program} {T : Tab}

def rvF (a : Act) : ResultVar → Sem Value
  | .tmp t => pure (a.tmps.getD t undef)
  | .cell p t => do loadVar t (← asAddr (a.tmps.getD p undef))

theorem retAVs_sound (hT : TabOk P T) (h : Rel S w0 N g st a w) : ∀ {l : List ResultVar} {vs : List AV}, retAVs T st l = some vs →
    ∃ us : List Value, (l.mapM (rvF a)).run P w = .ok us w ∧ All2 (RelV (Sf w0.heap.size S st.rows g) w st.rows g) us vs
  | [], vs, hv => by
    simp [retAVs] at hv
    subst hv
    exact ⟨[], by simp, .nil⟩
  | x :: l, vs, hv => by
    simp only [retAVs] at hv
    split at hv
    · rename_i v vs' h1 h2
      cases hv
      obtain ⟨us, h3, h4⟩ := retAVs_sound hT h h2
      cases x with
      | tmp t =>
        simp only [retAV] at h1
        obtain ⟨u, hu, hr⟩ := h.tmps t _ h1
        refine ⟨u :: us, ?_, .cons hr h4⟩
        have e : a.tmps.getD t undef = u := by simp [hu]
        simp only [List.mapM_cons, rvF, Sem.run_bind, e, Sem.run_pure, Result.andThen_ok, h3]
      | cell t ty =>
        simp only [retAV] at h1
        split at h1
        · rename_i y hy
          have hev : st.ev (.tmp t) = y := by simp [ASt.ev, hy]
          rw [← hev] at h1
          obtain ⟨u, hu, hr⟩ := load_sound (P := P) hT h ty (.tmp t) h1
          refine ⟨u :: us, ?_, .cons hr h4⟩
          have e : a.eval (.tmp t) = a.tmps.getD t undef := rfl
          rw [e] at hu
          have hld : (do loadVar ty (← asAddr (a.tmps.getD t undef)) : Sem Value).run P w = .ok u w := by
            unfold Instr.loadAt at hu
            cases hp : a.tmps.getD t undef with
            | pointer ad =>
              cases ad with
              | some ad => rw [hp] at hu; simpa [Instr.sureAddr, asAddr] using hu
              | none => rw [hp] at hu; simp [Instr.sureAddr] at hu
            | _ => rw [hp] at hu; simp [Instr.sureAddr] at hu
          have hld' : (rvF a (.cell t ty)).run P w = .ok u w := hld
          simp only [List.mapM_cons, Sem.run_bind, Sem.run_pure, hld', Result.andThen_ok, h3]
        · cases h1
    · cases hv

theorem results_sound (hT : TabOk P T) (h : Rel S w0 N g st a w) {fn : Func} {vs : List AV} (hv : retAVs T st fn.results.toList = some vs) :
    ∃ us : List Value, All2 (RelV (Sf w0.heap.size S st.rows g) w st.rows g) us vs ∧ (results fn a.tmps).run P w = .ok (match us with | [u] => u | us => .tuple us.toArray) w := by
  obtain ⟨us, h1, h2⟩ := retAVs_sound (P := P) hT h hv
  refine ⟨us, h2, ?_⟩
  have e : results fn a.tmps = (do let vs ← fn.results.mapM (rvF a); pure (if h : vs.size = 1 then vs[0] else .tuple vs)) := by
    unfold results
    congr 1
  rw [e, Array.mapM_eq_mapM_toList]
  simp only [Sem.run_bind, Sem.run_map, h1, Result.andThen_ok, Sem.run_pure]
  match us with
  | [] => rfl
  | [u] => rfl
  | u :: v :: us => simp

/-- A fresh row's ghost. -/
def fbOf (g : Gh) (fr : List (Nat × Nat)) : Gh := fun p => match find fr p with | some id => g id | none => none

theorem nodupF_inj : ∀ {l : List (Nat × Nat)}, nodupF l = true → ∀ p p' id, find l p = some id → find l p' = some id → p = p'
  | [], _, p, p', id, h, _ => by simp [find] at h
  | (k, i) :: l, hn, p, p', id, h, h' => by
    simp only [nodupF, Bool.and_eq_true, List.all_eq_true] at hn
    simp only [find] at h h'
    split at h
    · rename_i e1
      cases h
      split at h'
      · rename_i e2; omega
      · have := hn.1 _ (find_mem h'); simp at this
    · split at h'
      · cases h'; have := hn.1 _ (find_mem h); simp at this
      · exact nodupF_inj hn.2 p p' id h h'

theorem nodupF_find : ∀ {l : List (Nat × Nat)}, nodupF l = true → ∀ p id, (p, id) ∈ l → find l p = some id
  | [], _, p, id, h => by simp at h
  | (k, i) :: l, hn, p, id, h => by
    simp only [nodupF, Bool.and_eq_true, List.all_eq_true] at hn
    simp only [List.mem_cons, Prod.mk.injEq] at h
    rcases h with ⟨rfl, rfl⟩ | h
    · exact find_set_eq
    · have hne : p ≠ k := by have := hn.1 _ h; simp at this; exact this.1
      rw [find_set_ne hne]
      exact nodupF_find hn.2 p id h

section
variable {fr : List (Nat × Nat)} {da : List Nat}
theorem ret_RC (h : Rel S w0 N g st a w) (hn : nodupF fr = true) (hap : apartF fr da = true) (hfr : ∀ p id, (p, id) ∈ fr → ∃ e sz xs, find st.rows id = some (.arr e sz xs false))
    {p : Nat} {u : Value} {x : AC} {y : RC} (hu : RelAC (Sf w0.heap.size S st.rows g) w st.rows g u x) (hr : retC st.rows x y) (hsub : ∀ q, q ∈ frC p x y → q ∈ fr) (hda : ∀ i, i ∈ daC x y → i ∈ da) :
    RelRC (Fp S w0.heap.size (fbOf g fr)) w (fbOf g fr) p u y := by
  have hFp : ∀ b o, Sf w0.heap.size S st.rows g b o → Fp S w0.heap.size (fbOf g fr) b o := by
    intro b o hs
    rcases hs with hs | ⟨h1, h2⟩
    · exact .inl hs
    · refine .inr ⟨h1, fun q c hq => ?_⟩
      unfold fbOf at hq
      split at hq
      · rename_i id hf
        obtain ⟨e, sz, xs, hrow⟩ := hfr q id (find_mem hf)
        have := h2 id _ c hrow hq
        simp [ARow.safe] at this
      · cases hq
  cases y with
  | d y =>
    simp only [retC] at hr
    unfold dcOf at hr
    split at hr
    · cases hr; exact RelC.sub hFp hu
    · cases hr
      have hu' : u = .slice none 0 0 := hu
      rw [hu']; exact .emp _ _
    · rename_i id
      obtain ⟨e, sz, xs, fl, hf, hu'⟩ := hu
      rw [hf] at hr
      simp only [Bool.or_true, if_true] at hr
      cases hr
      rw [hu']
      refine row_data h hFp hf fun b c o hg ho => .inr ⟨(h.blk id _ b c hf hg).1, fun q c' hq => ?_⟩
      unfold fbOf at hq
      split at hq
      · rename_i id' hf'
        have hmem := find_mem hf'
        obtain ⟨e', sz', xs', hrow⟩ := hfr q id' hmem
        have hid := h.inj id' id _ _ b c' c hrow hf hq hg
        have hd := hda id (by simp [daC])
        have := List.all_eq_true.1 (List.all_eq_true.1 hap id hd) _ hmem
        simp [hid] at this
      · cases hq
    · cases hr
  | fresh e sz xs =>
    simp only [retC] at hr
    split at hr
    · rename_i id
      obtain ⟨e', sz', xs', fl', hf, hu'⟩ := hu
      rw [hr] at hf
      cases hf
      have hmem := hsub (p, id) (by simp [frC])
      have hfb : fbOf g fr p = g id := by simp [fbOf, nodupF_find hn p id hmem]
      refine ⟨by rw [hfb]; exact hu', relRow_arr hFp hfb (h.rows id _ hr)⟩
    · exact hr.elim

theorem fresh_C {p : Nat} {x : AC} {y : RC} (hr : retC st.rows x y) : ∀ q id, (q, id) ∈ frC p x y → ∃ e sz xs, find st.rows id = some (.arr e sz xs false) := by
  intro q id hm
  unfold frC at hm
  split at hm
  · simp at hm
    obtain ⟨rfl, rfl⟩ := hm
    exact ⟨_, _, _, hr⟩
  · simp at hm
theorem fresh_Cs : ∀ {p : Nat} {xs : List AC} {ys : List RC}, retCs st.rows xs ys → ∀ q id, (q, id) ∈ frCs p xs ys → ∃ e sz zs, find st.rows id = some (.arr e sz zs false)
  | p, [], [], _, q, id, hm => by simp [frCs] at hm
  | p, x :: xs, y :: ys, hr, q, id, hm => by
    simp only [frCs, List.mem_append] at hm
    rcases hm with hm | hm
    · exact fresh_C hr.1 q id hm
    · exact fresh_Cs hr.2 q id hm
  | p, [], _ :: _, hr, _, _, _ => hr.elim
  | p, _ :: _, [], hr, _, _, _ => hr.elim
theorem fresh_V {p : Nat} {x : AV} {y : RV} (hr : retV st.rows x y) : ∀ q id, (q, id) ∈ frV p x y → ∃ e sz xs, find st.rows id = some (.arr e sz xs false) := by
  unfold retV at hr
  split at hr
  · exact fresh_C hr
  · exact fresh_Cs hr
  · exact hr.elim
theorem fresh_Vs : ∀ {p : Nat} {xs : List AV} {ys : List RV}, retVs st.rows xs ys → ∀ q id, (q, id) ∈ frVs p xs ys → ∃ e sz zs, find st.rows id = some (.arr e sz zs false)
  | p, [], [], _, q, id, hm => by simp [frVs] at hm
  | p, x :: xs, y :: ys, hr, q, id, hm => by
    simp only [frVs, List.mem_append] at hm
    rcases hm with hm | hm
    · exact fresh_V hr.1 q id hm
    · exact fresh_Vs hr.2 q id hm
  | p, [], _ :: _, hr, _, _, _ => hr.elim
  | p, _ :: _, [], hr, _, _, _ => hr.elim

theorem ret_RCs (h : Rel S w0 N g st a w) (hn : nodupF fr = true) (hap : apartF fr da = true) (hfr : ∀ p id, (p, id) ∈ fr → ∃ e sz xs, find st.rows id = some (.arr e sz xs false)) :
    ∀ {p : Nat} {us : List Value} {xs : List AC} {ys : List RC}, All2 (fun u x => u.oneCell' = true ∧ RelAC (Sf w0.heap.size S st.rows g) w st.rows g u x) us xs → retCs st.rows xs ys →
      (∀ q, q ∈ frCs p xs ys → q ∈ fr) → (∀ i, i ∈ daCs xs ys → i ∈ da) → RelRCs (Fp S w0.heap.size (fbOf g fr)) w (fbOf g fr) p us ys
  | p, _, [], [], hu, _, _, _ => by cases hu; trivial
  | p, _, x :: xs, y :: ys, hu, hr, hsub, hda => by
    cases hu with
    | cons h1 h2 =>
      exact ⟨⟨h1.1, ret_RC h hn hap hfr h1.2 hr.1 (fun q hq => hsub q (by simp only [frCs, List.mem_append]; exact .inl hq)) (fun i hi => hda i (by simp only [daCs, List.mem_append]; exact .inl hi))⟩,
        ret_RCs h hn hap hfr h2 hr.2 (fun q hq => hsub q (by simp only [frCs, List.mem_append]; exact .inr hq)) (fun i hi => hda i (by simp only [daCs, List.mem_append]; exact .inr hi))⟩
  | p, _, [], _ :: _, _, hr, _, _ => hr.elim
  | p, _, _ :: _, [], _, hr, _, _ => hr.elim

theorem ret_RV (h : Rel S w0 N g st a w) (hn : nodupF fr = true) (hap : apartF fr da = true) (hfr : ∀ p id, (p, id) ∈ fr → ∃ e sz xs, find st.rows id = some (.arr e sz xs false))
    {p : Nat} {u : Value} {x : AV} {y : RV} (hu : RelV (Sf w0.heap.size S st.rows g) w st.rows g u x) (hr : retV st.rows x y) (hsub : ∀ q, q ∈ frV p x y → q ∈ fr) (hda : ∀ i, i ∈ daV x y → i ∈ da) :
    RelRV (Fp S w0.heap.size (fbOf g fr)) w (fbOf g fr) p u y := by
  unfold retV at hr
  split at hr
  · unfold RelV at hu
    exact ⟨hu.1, ret_RC h hn hap hfr hu.2 hr hsub hda⟩
  · unfold RelV at hu
    obtain ⟨cs, h1, h2⟩ := hu
    exact ⟨cs, h1, ret_RCs h hn hap hfr h2 hr hsub hda⟩
  · exact hr.elim

theorem ret_RVs (h : Rel S w0 N g st a w) (hn : nodupF fr = true) (hap : apartF fr da = true) (hfr : ∀ p id, (p, id) ∈ fr → ∃ e sz xs, find st.rows id = some (.arr e sz xs false)) :
    ∀ {p : Nat} {us : List Value} {xs : List AV} {ys : List RV}, All2 (RelV (Sf w0.heap.size S st.rows g) w st.rows g) us xs → retVs st.rows xs ys →
      (∀ q, q ∈ frVs p xs ys → q ∈ fr) → (∀ i, i ∈ daVs xs ys → i ∈ da) → RelRVs (Fp S w0.heap.size (fbOf g fr)) w (fbOf g fr) p us ys
  | p, _, [], [], hu, _, _, _ => by cases hu; trivial
  | p, _, x :: xs, y :: ys, hu, hr, hsub, hda => by
    cases hu with
    | cons h1 h2 =>
      exact ⟨ret_RV h hn hap hfr h1 hr.1 (fun q hq => hsub q (by simp only [frVs, List.mem_append]; exact .inl hq)) (fun i hi => hda i (by simp only [daVs, List.mem_append]; exact .inl hi)),
        ret_RVs h hn hap hfr h2 hr.2 (fun q hq => hsub q (by simp only [frVs, List.mem_append]; exact .inr hq)) (fun i hi => hda i (by simp only [daVs, List.mem_append]; exact .inr hi))⟩
  | p, _, [], _ :: _, _, hr, _, _ => hr.elim
  | p, _, _ :: _, [], _, hr, _, _ => hr.elim

end

/-- The marks among the deferred calls are come to, one by one. -/
theorem Rel.leaves (hT : TabOk P T) (hno : noHeld st.rows = true) {fn : Func} {R : Ending → World → Prop} (hR : ∀ g a w, Rel S w0 N g st a w → ∃ v, (results fn a.tmps).run P w = .ok v w ∧ R (.returned v) w) :
    ∀ (ds : List Deferred) (tmps : Array Value) (w : World), Rel S w0 N g st { tmps := tmps, defers := ds } w → LeavesInM Fence.wide 0 P fn tmps R ds .returning w
  | [], tmps, w, h => by
    obtain ⟨v, h1, h2⟩ := hR _ _ _ h
    exact ⟨v, h1, h2⟩
  | d :: ds, tmps, w, h => by
    obtain ⟨hnd, hall⟩ := h.defers
    obtain ⟨D, hd, hD, hw⟩ := hall d (by simp)
    refine ⟨by simp, .inl ⟨D, _, by rw [hd], run_takeDeferred hw, ?_⟩⟩
    have hlt := (Array.getElem?_eq_some_iff.1 hw).1
    have hcl : ∀ b o, cl (w.putObj D (.deferred none)) b o = cl w b o := by
      intro b o
      by_cases hb : b = D
      · subst hb
        unfold cl World.cell?
        rw [World.putObj_heap_same hlt, hw]
      · exact cl_of_block (World.putObj_heap_other hb) o
    have hcar : ∀ b o, Sf w0.heap.size S st.rows g b o → b < w.heap.size → Sf w0.heap.size S st.rows g b o ∧ cl (w.putObj D (.deferred none)) b o = cl w b o := fun b o hs _ => ⟨hs, hcl b o⟩
    refine Rel.leaves hT hno hR ds tmps _ ⟨⟨h.below.os, h.below.tape, h.below.output, by simpa using h.below.size, fun k hk => ?_⟩, h.size, fun hc => (by have := h.calm hc; cases this), h.good, ⟨(List.nodup_cons.1 hnd).2, fun d' hd' => ?_⟩, fun id r b c hf hg => ?_, h.inj, fun id r hf => ?_, fun i x hx => ?_⟩
    · rw [World.putObj_heap_other (by omega)]; exact h.below.block k hk
    · obtain ⟨D', h1, h2, h3⟩ := hall d' (List.mem_cons_of_mem _ hd')
      refine ⟨D', h1, h2, ?_⟩
      rw [World.putObj_heap_other (fun e => ?_)]
      · exact h3
      · subst e
        rw [← hd] at h1; subst h1
        exact (List.nodup_cons.1 hnd).1 hd'
    · have := h.blk id r b c hf hg
      exact ⟨this.1, by simpa using this.2⟩
    · have hnc : ∀ (r : ARow), (∀ l, r ≠ .held l) → RelRow (Sf w0.heap.size S st.rows g) w st.rows g id r → (∀ b c, g id = some (b, c) → (w.putObj D (.deferred none)).heap[b]? = w.heap[b]?) → RelRow (Sf w0.heap.size S st.rows g) (w.putObj D (.deferred none)) st.rows g id r := by
        intro r hnh hrr hbl
        have hx : ∀ id', g id' = g id' ∧ ∀ e sz xs fl, find st.rows id' = some (.arr e sz xs fl) → ∃ xs' fl', find st.rows id' = some (.arr e sz xs' fl') ∧ xs'.length = xs.length := fun id' => ⟨rfl, fun e sz xs fl hf2 => ⟨xs, fl, hf2, rfl⟩⟩
        cases r with
        | box T cs =>
          obtain ⟨b, c, cur, h1, h2, h3⟩ := hrr
          exact ⟨b, c, cur, h1, by rw [hbl b c h1]; exact h2, h3.mono fun u y hu => ⟨hu.1, hu.2.carry hcar fun id' _ => hx id'⟩⟩
        | arr e sz xs fl =>
          obtain ⟨h0, h⟩ := hrr
          refine ⟨h0, ?_⟩
          rcases h with h1 | ⟨b, cap, cur, h1, h2, h3, h4, h5, h6⟩
          · exact .inl h1
          · refine .inr ⟨b, cap, cur, h1, by rw [hbl b cap h1]; exact h2, h3, h4, h5, fun i j x d hx hd => ?_⟩
            obtain ⟨u, hu, hr⟩ := h6 i j x d hx hd
            exact ⟨u, hu, hr.mono hcar⟩
        | ghost v x => exact ⟨hrr.1, hrr.2.carry hcar fun id' _ => hx id'⟩
        | held l => exact absurd rfl (hnh l)
        | gone =>
          obtain ⟨b, c, cur, T', h1, h2⟩ := hrr
          exact ⟨b, c, cur, T', h1, by rw [hbl b c h1]; exact h2⟩
        | iter s pos =>
          obtain ⟨b, c, h1, h2⟩ := hrr
          exact ⟨b, c, h1, by rw [hbl b c h1]; exact h2⟩
      refine hnc r (fun l e => by subst e; exact noHeld_find hno id l hf) (h.rows id r hf) fun b c hg => ?_
      obtain ⟨o, ho, hc⟩ := h.row_obj hf hg
      refine World.putObj_heap_other (fun e => ?_)
      subst e
      rw [hw] at ho; cases ho
      rcases hc with hc | hc <;> cases hc
    · obtain ⟨v, hv, hr⟩ := h.tmps i x hx
      exact ⟨v, hv, hr.carry hcar fun id2 hm => ⟨rfl, fun e sz xs fl hf2 => ⟨xs, fl, hf2, rfl⟩⟩⟩

/-- The end of a body. -/
theorem post_sound (hT : TabOk P T) (h : Rel S w0 N g st a w) {fn : Func} {r : Res} {e : Exit} (hq : retQ T fn.results.toList r e st) : bodyPostM Fence.wide 0 P fn (Post S w0 r) e a w := by
  have fin : ∀ vs, retAVs T st fn.results.toList = some vs → noHeld st.rows = true ∧ RetOk st.rows vs r → LeavesInM Fence.wide 0 P fn a.tmps (Post S w0 r) a.defers .returning w := by
    intro vs hvs ⟨hno, hok⟩
    refine Rel.leaves (g := g) hT hno (fun g a w h => ?_) _ _ _ h
    obtain ⟨us, hall, hrun⟩ := results_sound (P := P) hT h hvs
    refine ⟨_, hrun, ?_⟩
    have hlen := hall.len
    have post : ∀ (fr : List (Nat × Nat)) (v : Value), nodupF fr = true → (∀ p id, (p, id) ∈ fr → ∃ e sz xs, find st.rows id = some (.arr e sz xs false)) → RelRes (Fp S w0.heap.size (fbOf g fr)) w (fbOf g fr) v r → Post S w0 r (.returned v) w := by
      intro fr v hn hfr hrel
      refine ⟨v, fbOf g fr, rfl, h.below, fun p b c hb => ?_, fun p p' b c c' hb hb' => ?_, hrel⟩
      · unfold fbOf at hb
        split at hb
        · rename_i id hf
          obtain ⟨e, sz, xs, hrow⟩ := hfr p id (find_mem hf)
          exact h.blk id _ b c hrow hb
        · cases hb
      · unfold fbOf at hb hb'
        split at hb
        · rename_i id hf
          split at hb'
          · rename_i id' hf'
            obtain ⟨e, sz, xs, hrow⟩ := hfr p id (find_mem hf)
            obtain ⟨e', sz', xs', hrow'⟩ := hfr p' id' (find_mem hf')
            have := h.inj id id' _ _ b c c' hrow hrow' hb hb'
            subst this
            exact nodupF_inj hn p p' id hf hf'
          · cases hb'
        · cases hb
    cases r with
    | one y =>
      simp only [RetOk] at hok
      split at hok
      · rename_i x
        obtain ⟨h1, h2, h3⟩ := hok
        cases hall with
        | cons hu ht =>
          cases ht
          exact post (frV 0 x y) _ h2 (fresh_V h1) (ret_RV h h2 h3 (fresh_V h1) hu h1 (fun _ hq => hq) (fun _ hi => hi))
      · exact hok.elim
    | tup ys =>
      simp only [RetOk] at hok
      obtain ⟨h0, h1, h2, h3⟩ := hok
      refine post (frVs 0 vs ys) _ h2 (fresh_Vs h1) ?_
      have hrv := ret_RVs h h2 h3 (fresh_Vs h1) (p := 0) hall h1 (fun _ hq => hq) (fun _ hi => hi)
      match us, hlen, hrv with
      | [], _, hrv => exact ⟨_, rfl, hrv⟩
      | [u], hl, _ => exact absurd hl.symm h0
      | u :: v :: us, _, hrv => exact ⟨_, rfl, hrv⟩
  cases e with
  | normal =>
    simp only [retQ] at hq
    split at hq
    · exact fin _ (by assumption) hq
    · exact hq.elim
  | ret =>
    simp only [retQ] at hq
    split at hq
    · exact fin _ (by assumption) hq
    · exact hq.elim
  | _ => exact hq.elim

theorem argSlots_find : ∀ {k : Nat} {l : List DV} {i : Nat} {x : AV}, find (argSlots k l) i = some x → ∃ j y, i = k + j ∧ l[j]? = some y ∧ x = dvAV y
  | k, [], i, x, h => by simp [argSlots, find] at h
  | k, y :: l, i, x, h => by
    simp only [argSlots, find] at h
    split at h
    · rename_i e; cases h; exact ⟨0, y, by omega, by simp, rfl⟩
    · obtain ⟨j, z, h1, h2, h3⟩ := argSlots_find h
      exact ⟨j + 1, z, by omega, by simpa using h2, h3⟩

theorem dv_rel {F F' : Nat → Nat → Prop} (hS : ∀ b o, F b o → b < w.heap.size → F' b o) {rows : List (Nat × ARow)} {v : Value} {x : DV} (h : RelDV F w v x) (hone : ∀ y, x = .c y → v.oneCell' = true) : RelV F' w rows g v (dvAV x) := by
  cases x with
  | c y =>
    unfold dvAV RelV
    exact ⟨hone y rfl, RelC.mono (fun b o hb hlt => ⟨hS b o hb hlt, rfl⟩) h⟩
  | agg xs =>
    unfold dvAV RelV
    obtain ⟨cs, h1, h2⟩ := h
    refine ⟨cs, h1, All2.map_r (h2.mono fun u y hu => ⟨hu.one, RelC.mono (fun b o hb hlt => ⟨hS b o hb hlt, rfl⟩) hu⟩)⟩
  | ptr xs =>
    unfold dvAV RelV
    obtain ⟨b, o, us, h1, h2⟩ := h
    refine ⟨by rw [h1]; rfl, b, o, us, h1, fun j d hd => ?_⟩
    obtain ⟨h3, h4, h5⟩ := h2 j d hd
    exact ⟨hS _ _ h3 (cl_lt h4), h4, RelC.mono (fun b o hb hlt => ⟨hS b o hb hlt, rfl⟩) h5⟩

/-- FROM A WALK OF THE BODY TO WHAT THE FUNCTION GIVES. -/
theorem Gives.intro (hT : TabOk P T) {f : FuncId} {fn : Func} {c : Code} (hf : P.funcs[f]? = some fn) (hname : (fn.name == "runtime.NumGoroutine") = false) (hb : fn.body = some c) {args : List DV} {r : Res} (hlen : args.length ≤ fn.ntmps)
    (h : wpL none P ⟨fn.ntmps, true⟩ (flat c) (retQ T fn.results.toList r) ⟨argSlots 0 args, []⟩) : Gives P f args r := by
  intro S w vs hgood hvs
  left
  have hbody : ¬ fn.body = none := by simp [hb]
  have hnm : ¬ fn.name = "runtime.NumGoroutine" := by simpa using hname
  refine ⟨by simp [callFunc, hf, hnm, hbody], (callsIn_wide (n := 0)).1 (callsIn_of_wp_marks hf hb trivial ?_)⟩
  have hl := hvs.len
  have hrel : Rel S w ⟨fn.ntmps, true⟩ (fun _ => none) ⟨argSlots 0 args, []⟩ { tmps := vs.toArray ++ Array.replicate (fn.ntmps - vs.toArray.size) undef, defers := [] } w := by
    refine ⟨Below.refl _ _, by simp; omega, fun _ => rfl, hgood, DefOk.nil _ _, fun id r b c hf => by simp [find] at hf, fun id id' r r' b c c' hf => by simp [find] at hf, fun id r hf => by simp [find] at hf, fun i x hx => ?_⟩
    obtain ⟨j, y, h1, h2, h3⟩ := argSlots_find hx
    obtain ⟨v, hv, hr⟩ := hvs.get h2
    refine ⟨v, ?_, ?_⟩
    · have : j < vs.length := (List.getElem?_eq_some_iff.1 hv).1
      rw [h1, Nat.zero_add, Array.getElem?_append_left (by simpa using this)]
      simpa using hv
    · rw [h3]
      refine dv_rel (F' := Sf w.heap.size S [] (fun _ => none)) (fun b o hb hlt => .inl ⟨hlt, hb⟩) hr fun y hy => ?_
      subst hy
      exact RelC.one hr
  have := AWp_flat c h S w _ _ w hrel
  exact wpIn_mono this fun e a' w' ⟨g', st', h1, h2⟩ => post_sound hT h1 h2

/-- The same for a function that ranges over functions. -/
theorem Gives.introR (hT : TabOk P T) {f : FuncId} {fn : Func} {c : Code} (hf : P.funcs[f]? = some fn) (hname : (fn.name == "runtime.NumGoroutine") = false) (hb : fn.body = some c) {args : List DV} {r : Res} (hlen : args.length ≤ fn.ntmps)
    (h : wpL none P ⟨fn.ntmps, false⟩ (flat c) (retQ T fn.results.toList r) ⟨argSlots 0 args, []⟩) : Gives P f args r := by
  intro S w vs hgood hvs
  left
  have hbody : ¬ fn.body = none := by simp [hb]
  have hnm : ¬ fn.name = "runtime.NumGoroutine" := by simpa using hname
  refine ⟨by simp [callFunc, hf, hnm, hbody], (callsIn_wide (n := 0)).1 (callsIn_of_wp_marks hf hb trivial ?_)⟩
  have hl := hvs.len
  have hrel : Rel S w ⟨fn.ntmps, false⟩ (fun _ => none) ⟨argSlots 0 args, []⟩ { tmps := vs.toArray ++ Array.replicate (fn.ntmps - vs.toArray.size) undef, defers := [] } w := by
    refine ⟨Below.refl _ _, by simp; omega, fun _ => rfl, hgood, DefOk.nil _ _, fun id r b c hf => by simp [find] at hf, fun id id' r r' b c c' hf => by simp [find] at hf, fun id r hf => by simp [find] at hf, fun i x hx => ?_⟩
    obtain ⟨j, y, h1, h2, h3⟩ := argSlots_find hx
    obtain ⟨v, hv, hr⟩ := hvs.get h2
    refine ⟨v, ?_, ?_⟩
    · have : j < vs.length := (List.getElem?_eq_some_iff.1 hv).1
      rw [h1, Nat.zero_add, Array.getElem?_append_left (by simpa using this)]
      simpa using hv
    · rw [h3]
      refine dv_rel (F' := Sf w.heap.size S [] (fun _ => none)) (fun b o hb hlt => .inl ⟨hlt, hb⟩) hr fun y hy => ?_
      subst hy
      exact RelC.one hr
  have := AWp_flat c h S w _ _ w hrel
  exact wpIn_mono this fun e a' w' ⟨g', st', h1, h2⟩ => post_sound hT h1 h2

end
/-- A table's rows, each held against the program. -/
def AllOk (P : Program) : List (Nat × TI) → Prop
  | [] => True
  | (t, ti) :: l => TIok P t ti ∧ AllOk P l
theorem allOk_mem {P : Program} : ∀ {l : List (Nat × TI)}, AllOk P l → ∀ t ti, (t, ti) ∈ l → TIok P t ti
  | [], _, t, ti, h => by simp at h
  | (k, i) :: l, h, t, ti, hm => by
    simp only [List.mem_cons, Prod.mk.injEq] at hm
    rcases hm with ⟨rfl, rfl⟩ | hm
    · exact h.1
    · exact allOk_mem h.2 t ti hm
theorem tabOk_of {P : Program} {l : List (Nat × TI)} (h : AllOk P l) : TabOk P (find l) := fun t ti hf => allOk_mem h t ti (find_mem hf)

/- How the walk reckons. -/
theorem ment_d (x : DC) (id : Nat) : (AC.d x).ment id = false := rfl
theorem ment_nil (id : Nat) : AC.nil.ment id = false := rfl
theorem ment_dead (id : Nat) : AC.dead.ment id = false := rfl
theorem ment_dptr (xs : List DC) (id : Nat) : (AC.dptr xs).ment id = false := rfl
theorem ment_row (i id : Nat) : (AC.row i).ment id = decide (i = id) := by rw [Bool.eq_iff_iff]; simp [AC.ment, AC.id?]
theorem ment_ptr (i o id : Nat) : (AC.ptr i o).ment id = decide (i = id) := by rw [Bool.eq_iff_iff]; simp [AC.ment, AC.id?]
theorem ment_pclo (f i id : Nat) (pre post : List (List DC)) : (AC.pclo f pre i post).ment id = decide (i = id) := by rw [Bool.eq_iff_iff]; simp [AC.ment, AC.id?]
theorem ment_eptr (i k o id : Nat) : (AC.eptr i k o).ment id = decide (i = id) := by rw [Bool.eq_iff_iff]; simp [AC.ment, AC.id?]
theorem ment_map (xs : List DC) (id : Nat) : ((xs.map AC.d).any fun x => x.ment id) = false := by
  rw [List.any_eq_false]; intro y hy; obtain ⟨d, _, rfl⟩ := List.mem_map.1 hy; simp [ment_d]
theorem noHeld_nil : noHeld [] = true := rfl
theorem noHeld_box (i T : Nat) (cs : List AC) (l : List (Nat × ARow)) : noHeld ((i, .box T cs) :: l) = noHeld l := rfl
theorem noHeld_arr (i e sz : Nat) (xs : List (List DC)) (fl : Bool) (l : List (Nat × ARow)) : noHeld ((i, .arr e sz xs fl) :: l) = noHeld l := rfl
theorem noHeld_gone (i : Nat) (l : List (Nat × ARow)) : noHeld ((i, .gone) :: l) = noHeld l := rfl
theorem noHeld_iter (i : Nat) (s : ByteArray) (p : Nat) (l : List (Nat × ARow)) : noHeld ((i, .iter s p) :: l) = noHeld l := rfl
theorem noHeld_ghost (i : Nat) (v : Value) (x : AV) (l : List (Nat × ARow)) : noHeld ((i, .ghost v x) :: l) = noHeld l := rfl
theorem noHeld_held (i : Nat) (v : List (Nat × Obj)) (l : List (Nat × ARow)) : noHeld ((i, .held v) :: l) = false := rfl
theorem free_mk (tmps : List (Nat × AV)) (rows : List (Nat × ARow)) (id : Nat) :
    (ASt.mk tmps rows).free id = (tmps.all (fun p => !p.2.ment id) && rows.all (fun p => !decide (p.1 = id) && !p.2.ment id)) := by
  unfold ASt.free
  congr 2
theorem dcsOf_map (l : Bool) (rows : List (Nat × ARow)) (xs : List DC) : dcsOf l rows (xs.map AC.d) = some xs := by
  induction xs with
  | nil => rfl
  | cons x xs ih => simp [dcsOf, dcOf, ih]

theorem aOps_nil {m : Bool} {P : Program} {T : Tab} {ops : Array Oper} {K : ASt → Prop} {s : ASt} : aOps m P T ops [] K s = K s := rfl
theorem aOps_cons {m : Bool} {P : Program} {T : Tab} {ops : Array Oper} {o : Oper} {l : List Oper} {K : ASt → Prop} {s : ASt} : aOps m P T ops (o :: l) K s = stepG m P T ops o (aOps m P T ops l K) s := rfl
attribute [go_sem] fastT_eq aOps_nil aOps_cons stepG stepA callK wF storeF appF srcOf srcT srcStr callOf effF ASt.ev cst find AV.cells ASt.put ASt.add loadF fieldAddrF fieldF indexAddrF indexF convF lenF lenS binF nilF isSl unF intF strF shF isSh boolF eqF aggEq sint sbool sstr scAV
  takeAV splice spliceD buildF arrFs buildSliceF dcOf dcsOf dvOf dvsOf optEv cutF sliceF scalars zac zdc gval flat argSlots dvAV ASt.nomenB ASt.kill AC.kill AV.kill ARow.kill mapV AV.ment mentL ARow.ment
  rowsRes rowsRV rowsRC rowsRCs rowsRVs avRes avRV acRC acRCs avRVs cid okIds nodupK Res.flat RV.flat RC.flat DC.flat retQ retAVs retAV RetOk retV retC retCs retVs frV frC frCs frVs daV daC daCs daVs nodupF apartF
  leT leR leN thenL blockQ TI.agg ment_d ment_nil ment_dead ment_dptr ment_row ment_ptr ment_eptr ment_pclo ment_map free_mk dcsOf_map dptrs capsOf noHeld_nil noHeld_box noHeld_arr noHeld_gone noHeld_iter noHeld_ghost noHeld_held
attribute [go_sem] Bool.true_eq_false false_implies List.getElem?_toArray Option.bind_some Option.bind_none Int.toNat_natCast Int.natCast_nonneg Bool.false_eq_true eq_self if_true if_false List.cons_append List.nil_append List.append_nil List.map_cons List.map_nil List.all_cons List.all_nil List.any_cons List.any_nil List.length_cons List.length_nil
  Option.getD_some Option.getD_none List.drop_succ_cons List.drop_zero List.take_succ_cons List.take_zero List.getElem?_cons_zero List.getElem?_cons_succ List.getElem?_nil Bool.and_true Bool.true_and Bool.and_false Bool.false_and
  Bool.not_false Bool.not_true Bool.or_true Bool.true_or Bool.or_false Bool.false_or and_true true_and Option.isSome_some Option.isSome_none ne_eq not_false_eq_true decide_true decide_false
  Option.some.injEq List.set_cons_zero List.set_cons_succ List.replicate_succ List.replicate_zero forall_const true_or or_true List.map_append List.append_assoc

end Go.Abs
