/-
  Regions in the order of the text, control, and functions.
-/
import Derived.Test.YtldgcpdpebhndaaDoorAbsL
import Derived.Sort.LoopGhostIn
import Derived.RangeFuncRecord
import Derived.RangeFuncLeaves
set_option linter.unusedSimpArgs false
set_option linter.unusedVariables false
namespace Go.Abs
open Go.RowKit

/-- What a guard's slot says: a Bool, or nothing (the operation that writes it was passed over). -/
def gval (ops : Array Oper) (s : ASt) (j : Nat) : Option (Option Bool) :=
  match (ops[j]?).bind (·.dst) with
  | some d => match find s.tmps d with
    | some (.c (.d (.sc (.bool b)))) => some (some b)
    | some (.tup []) => some none
    | _ => none
  | none => none

def stepG (m : Bool) (P : Program) (T : Tab) (ops : Array Oper) (o : Oper) (K : ASt → Prop) (s : ASt) : Prop :=
  match o.guard with
  | none => stepA m P T o K s
  | some (j, want) => match gval ops s j with
    | some (some b) => if b = want then stepA m P T o K s else K (s.put o.dst (.tup []))
    | some none => K (s.put o.dst (.tup []))
    | none => False

def aOps (m : Bool) (P : Program) (T : Tab) (ops : Array Oper) : List Oper → (ASt → Prop) → ASt → Prop
  | [], K, s => K s
  | o :: l, K, s => stepG m P T ops o (aOps m P T ops l K) s

def dstOk (N : Nat) (ops : List Oper) : Bool := ops.all fun o => match o.dst with | some i => decide (i < N) | none => true

def AWp (ro : Option Nat) (P : Program) (N : Fm) (c : Code) (Q : Exit → ASt → Prop) (st : ASt) : Prop :=
  ∀ S w0 g a w, Rel S w0 N g st a w → c.wpIn (Fr ro) 0 P (fun e a' w' => ∃ g' st', Rel S w0 N g' st' a' w' ∧ Q e st') a w

def thenL (K : ASt → Prop) (Q : Exit → ASt → Prop) : Exit → ASt → Prop
  | .normal, s => K s
  | e, s => Q e s

def wpL (ro : Option Nat) (P : Program) (N : Fm) : List Code → (Exit → ASt → Prop) → ASt → Prop
  | [], Q, s => Q .normal s
  | c :: l, Q, s => AWp ro P N c (thenL (wpL ro P N l Q) Q) s

def flat : Code → List Code
  | .seq a b => flat a ++ flat b
  | c => [c]

section
variable {S : Nat → Nat → Prop} {w0 : World} {N : Fm} {g : Gh} {st : ASt} {a : Act} {w : World} {P : Program} {T : Tab} {ro : Option Nat}

theorem gval_sound (h : Rel S w0 N g st a w) {ops : Array Oper} {j : Nat} {b : Option Bool} (hg : gval ops st j = some b) : yielded ops a.tmps j = b := by
  unfold gval at hg
  unfold yielded
  cases hd : (ops[j]?).bind (·.dst) with
  | none => rw [hd] at hg; cases hg
  | some d =>
    rw [hd] at hg
    simp only at hg
    simp only [Option.bind_some]
    split at hg
    · rename_i b' hf
      cases hg
      obtain ⟨v, hv, hr⟩ := h.tmps d _ hf
      rw [hv, relV_sc hr]
    · rename_i hf
      cases hg
      obtain ⟨v, hv, hr⟩ := h.tmps d _ hf
      unfold RelV at hr
      obtain ⟨vs, rfl, _⟩ := hr
      rw [hv]
    · cases hg

theorem rel_undef (h : Rel S w0 N g st a w) {d : Option Nat} (hd : ∀ i, d = some i → i < N.n) : Rel S w0 N g (st.put d (.tup [])) (a.put d undef) w := by
  refine h.put' hd ?_
  unfold RelV
  exact ⟨#[], rfl, by unfold RelVL; trivial⟩

theorem stepG_sound {m : Bool} (hm : m = true → N.calm = true) (hT : TabOk P T) (h : Rel S w0 N g st a w) {ops : Array Oper} (o : Oper) (hd : ∀ i, o.dst = some i → i < N.n) {K : ASt → Prop} (hK : stepG m P T ops o K st) {Q : Exit → Act → World → Prop} {K' : Act → World → Prop}
    (hK' : ∀ g' st' a' w', Rel S w0 N g' st' a' w' → K st' → K' a' w') :
    if Region.wanted o (yielded ops a.tmps) then o.wpIn (Fr ro) 0 P a w K' Q else (∀ f, o.about P w a.eval = some f → (Fr ro).fn f) ∧ K' (a.put o.dst undef) w := by
  unfold stepG at hK
  split at hK
  · rename_i hg
    rw [if_pos (by simp [Region.wanted, hg])]
    exact Oper.wpIn_mono (fun a' w' ⟨g', st', h1, h2⟩ => hK' g' st' a' w' h1 h2) (step_sound hm hT h o hd hK)
  · rename_i j want hg
    split at hK
    · rename_i b hgv
      have hy := gval_sound h hgv
      by_cases hb : b = want
      · rw [if_pos hb] at hK
        subst hb
        rw [if_pos (by simp [Region.wanted, hg, hy])]
        exact Oper.wpIn_mono (fun a' w' ⟨g', st', h1, h2⟩ => hK' g' st' a' w' h1 h2) (step_sound hm hT h o hd hK)
      · rw [if_neg hb] at hK
        rw [if_neg (by simp [Region.wanted, hg, hy]; exact hb)]
        exact ⟨fun _ _ => trivial, hK' _ _ _ _ (rel_undef h hd) hK⟩
    · rename_i hgv
      have hy := gval_sound h hgv
      rw [if_neg (by simp [Region.wanted, hg, hy])]
      exact ⟨fun _ _ => trivial, hK' _ _ _ _ (rel_undef h hd) hK⟩
    · exact hK.elim

theorem aOps_sound {m : Bool} (hm : m = true → N.calm = true) (hT : TabOk P T) {ops : Array Oper} {K : ASt → Prop} {Q : Exit → Act → World → Prop} (hQ : ∀ g' st' a' w', Rel S w0 N g' st' a' w' → K st' → Q .normal a' w') :
    ∀ (l : List Oper), dstOk N.n l = true → ∀ {g : Gh} {st : ASt} {a : Act} {w : World}, Rel S w0 N g st a w → aOps m P T ops l K st → wpListIn (Fr ro) 0 P ops Q l a w
  | [], _, _, _, _, _, h, hK => hQ _ _ _ _ h hK
  | o :: l, hl, g, st, a, w, h, hK => by
    simp only [dstOk, List.all_cons, Bool.and_eq_true] at hl
    have hd : ∀ i, o.dst = some i → i < N.n := by
      intro i hi
      have := hl.1
      rw [hi] at this
      simpa using this
    refine wpListIn_step fun K' hK' => ?_
    exact stepG_sound hm hT h o hd hK fun g' st' a' w' h1 h2 => hK' _ _ (aOps_sound hm hT hQ l hl.2 h1 h2)

theorem AWp_region (hT : TabOk P T) {id : Nat} {ops : Array Oper} {Q : Exit → ASt → Prop} (hl : dstOk N.n ops.toList = true) (h : aOps N.calm P T ops ops.toList (Q .normal) st) : AWp ro P N (.region id ops false) Q st := by
  intro S w0 g a w hr
  exact wpIn_region_list (aOps_sound (m := N.calm) (fun hm => hm) hT (fun g' st' a' w' h1 h2 => ⟨g', st', h1, h2⟩) _ hl hr h)

theorem AWp_mono {c : Code} {Q Q' : Exit → ASt → Prop} (hq : ∀ e s, Q e s → Q' e s) (h : AWp ro P N c Q st) : AWp ro P N c Q' st :=
  fun S w0 g a w hr => wpIn_mono (h S w0 g a w hr) fun e a' w' ⟨g', st', h1, h2⟩ => ⟨g', st', h1, hq _ _ h2⟩

theorem AWp_seq {x y : Code} {Q : Exit → ASt → Prop} (h : AWp ro P N x (thenL (AWp ro P N y Q) Q) st) : AWp ro P N (.seq x y) Q st := by
  intro S w0 g a w hr
  refine wpIn_seq (wpIn_mono (h S w0 g a w hr) fun e a' w' ⟨g', st', h1, h2⟩ => ?_)
  cases e with
  | normal => exact h2 S w0 g' a' w' h1
  | _ => exact ⟨g', st', h1, h2⟩

theorem thenL_mono {K K' : ASt → Prop} {Q Q' : Exit → ASt → Prop} (hK : ∀ s, K s → K' s) (hQ : ∀ e s, Q e s → Q' e s) (e : Exit) (s : ASt) (h : thenL K Q e s) : thenL K' Q' e s := by
  cases e with
  | normal => exact hK s h
  | _ => exact hQ _ s h

theorem wpL_append : ∀ (l m : List Code) (Q : Exit → ASt → Prop) (st : ASt), wpL ro P N (l ++ m) Q st → wpL ro P N l (thenL (wpL ro P N m Q) Q) st
  | [], m, Q, st, h => h
  | c :: l, m, Q, st, h => by
    refine AWp_mono (fun e s hs => ?_) h
    cases e with
    | normal => exact wpL_append l m Q s hs
    | _ => exact hs

theorem AWp_flat : ∀ (c : Code) {Q : Exit → ASt → Prop} {st : ASt}, wpL ro P N (flat c) Q st → AWp ro P N c Q st := by
  intro c
  induction c with
  | seq x y ihx ihy =>
    intro Q st h
    refine AWp_seq (ihx ?_)
    have := wpL_append (flat x) (flat y) Q st h
    have mono : ∀ (l : List Code) (Q Q' : Exit → ASt → Prop) (st : ASt), (∀ e s, Q e s → Q' e s) → wpL ro P N l Q st → wpL ro P N l Q' st := by
      intro l
      induction l with
      | nil => intro Q Q' st hq h; exact hq _ _ h
      | cons c l ih => intro Q Q' st hq h; exact AWp_mono (thenL_mono (fun s hs => ih Q Q' s hq hs) hq) h
    exact mono _ _ _ _ (thenL_mono (fun s hs => ihy hs) fun _ _ h => h) this
  | _ =>
    intro Q st h
    exact AWp_mono (fun e s hs => by cases e <;> exact hs) h

theorem wpL_mono : ∀ (l : List Code) {Q Q' : Exit → ASt → Prop} {st : ASt}, (∀ e s, Q e s → Q' e s) → wpL ro P N l Q st → wpL ro P N l Q' st
  | [], _, _, _, hq, h => hq _ _ h
  | c :: l, _, _, _, hq, h => AWp_mono (thenL_mono (fun s hs => wpL_mono l hq hs) hq) h

/-- A code at the head of a list, taken apart. -/
theorem wpL_flat {c : Code} {l : List Code} {Q : Exit → ASt → Prop} (h : wpL ro P N (flat c ++ l) Q st) : wpL ro P N (c :: l) Q st :=
  AWp_flat c (wpL_append _ _ _ _ h)

theorem wpL_region (hT : TabOk P T) {id : Nat} {ops : Array Oper} {l : List Code} {Q : Exit → ASt → Prop} (hl : dstOk N.n ops.toList = true) (h : aOps N.calm P T ops ops.toList (wpL ro P N l Q) st) : wpL ro P N (.region id ops false :: l) Q st :=
  AWp_region hT hl h

theorem wpL_ret {l : List Code} {Q : Exit → ASt → Prop} (h : Q .ret st) : wpL ro P N (.ret :: l) Q st :=
  fun S w0 g a w hr => wpIn_ret ⟨g, st, hr, h⟩
theorem wpL_skip {l : List Code} {Q : Exit → ASt → Prop} (h : wpL ro P N l Q st) : wpL ro P N (.skip :: l) Q st :=
  fun S w0 g a w hr => wpIn_skip ⟨g, st, hr, h⟩
theorem wpL_label {l : List Code} {Q : Exit → ASt → Prop} {k : Nat} (h : wpL ro P N l Q st) : wpL ro P N (.label k :: l) Q st :=
  fun S w0 g a w hr => wpIn_label ⟨g, st, hr, h⟩
theorem wpL_exit {l : List Code} {Q : Exit → ASt → Prop} {id : Nat} (h : Q (.exit id) st) : wpL ro P N (.exit id :: l) Q st :=
  fun S w0 g a w hr => wpIn_exit ⟨g, st, hr, h⟩

theorem wpL_cond {c : Operand} {x y : Code} {l : List Code} {Q : Exit → ASt → Prop} {t : Bool} (hc : st.ev c = .c (.d (.sc (.bool t)))) (h1 : t = true → wpL ro P N (flat x ++ l) Q st) (h2 : t = false → wpL ro P N (flat y ++ l) Q st) :
    wpL ro P N (.cond c x y :: l) Q st := by
  intro S w0 g a w hr
  have hv := hr.ev c
  rw [hc] at hv
  cases t with
  | true => exact wpIn_cond (t := true) (relV_sc hv) (wpL_flat (h1 rfl) S w0 g a w hr)
  | false => exact wpIn_cond (t := false) (relV_sc hv) (wpL_flat (h2 rfl) S w0 g a w hr)

def blockQ (id : Nat) (K : ASt → Prop) (Q : Exit → ASt → Prop) : Exit → ASt → Prop
  | .normal, s => K s
  | .exit id', s => if id' = id then K s else Q (.exit id') s
  | e, s => Q e s

theorem wpL_block {id : Nat} {c : Code} {l : List Code} {Q : Exit → ASt → Prop} (h : wpL ro P N (flat c) (blockQ id (wpL ro P N l Q) Q) st) : wpL ro P N (.block id c :: l) Q st := by
  intro S w0 g a w hr
  refine wpIn_block (wpIn_mono (AWp_flat c h S w0 g a w hr) fun e a' w' ⟨g', st', h1, h2⟩ => ?_)
  cases e with
  | exit id' =>
    simp only [blockQ] at h2
    simp only [Exit.inBlock]
    split
    · rename_i e; rw [if_pos e] at h2; exact ⟨g', st', h1, h2⟩
    · rename_i e; rw [if_neg e] at h2; exact ⟨g', st', h1, h2⟩
  | _ => exact ⟨g', st', h1, h2⟩

/-- What s' says s says, too. -/
def ASt.le (s' s : ASt) : Prop := (∀ i x, find s'.tmps i = some x → find s.tmps i = some x) ∧ (∀ i r, find s'.rows i = some r → find s.rows i = some r) ∧
  ∀ i e sz xs fl, find s.rows i = some (.arr e sz xs fl) → find s'.rows i = some (.arr e sz xs fl) ∨ s'.nomen i

theorem RelAC.drop {F F' : Nat → Nat → Prop} {rows rows' : List (Nat × ARow)} (hF : ∀ b o, F b o → F' b o) {u : Value} {x : AC}
    (hx : ∀ id, x.id? = some id → ∀ e sz xs fl, find rows id = some (.arr e sz xs fl) → find rows' id = some (.arr e sz xs fl)) (h : RelAC F w rows g u x) : RelAC F' w rows' g u x :=
  h.carry (fun b o hb _ => ⟨hF b o hb, rfl⟩) fun id hid => ⟨rfl, fun e sz xs fl hf => ⟨xs, fl, hx id hid e sz xs fl hf, rfl⟩⟩

theorem Rel.weaken {s' : ASt} (hle : s'.le st) (h : Rel S w0 N g st a w) : Rel S w0 N g s' a w := by
  obtain ⟨h1, h2, h3⟩ := hle
  have hF : ∀ b o, Sf w0.heap.size S st.rows g b o → Sf w0.heap.size S s'.rows g b o := by
    intro b o hs
    rcases hs with hs | ⟨q1, q2⟩
    · exact .inl hs
    · exact .inr ⟨q1, fun id r c hf hg => q2 id r c (h2 id r hf) hg⟩
  have hc : ∀ b o, Sf w0.heap.size S st.rows g b o → b < w.heap.size → Sf w0.heap.size S s'.rows g b o ∧ cl w b o = cl w b o := fun b o hs _ => ⟨hF b o hs, rfl⟩
  refine ⟨h.below, h.size, h.calm, h.good, h.defers, fun id r b c hf hg => h.blk id r b c (h2 id r hf) hg, fun id id' r r' b c c' hf hf' hg hg' => h.inj id id' r r' b c c' (h2 _ _ hf) (h2 _ _ hf') hg hg', fun id r hf => ?_, fun i x hx => ?_⟩
  · refine (h.rows id r (h2 id r hf)).carry hc rfl (fun _ _ _ => rfl) (NonC.refl _) fun id2 hm => ⟨rfl, fun e sz xs fl hf2 => ?_⟩
    rcases h3 id2 e sz xs fl hf2 with h4 | h4
    · exact ⟨xs, fl, h4, rfl⟩
    · have := h4.2 id r hf; rw [this] at hm; cases hm
  · obtain ⟨v, hv, hr⟩ := h.tmps i x (h1 i x hx)
    refine ⟨v, hv, hr.carry hc fun id2 hm => ⟨rfl, fun e sz xs fl hf2 => ?_⟩⟩
    rcases h3 id2 e sz xs fl hf2 with h4 | h4
    · exact ⟨xs, fl, h4, rfl⟩
    · have := h4.1 i x hx; rw [this] at hm; cases hm

theorem AWp_weaken {s' : ASt} {c : Code} {Q : Exit → ASt → Prop} (hle : s'.le st) (h : AWp ro P N c Q s') : AWp ro P N c Q st :=
  fun S w0 g a w hr => h S w0 g a w (hr.weaken hle)

theorem wpL_weaken {s' : ASt} {c : Code} {l : List Code} {Q : Exit → ASt → Prop} (hle : s'.le st) (h : wpL ro P N (c :: l) Q s') : wpL ro P N (c :: l) Q st := AWp_weaken hle h

/-- A loop. I n: what holds at a round's head when at most n rounds are to come. -/
theorem wpL_loop (I : Nat → ASt → Prop) {c : Code} {l : List Code} {Q : Exit → ASt → Prop} (h0 : ∃ n s', I n s' ∧ s'.le st)
    (round : ∀ n s, I n s → wpL ro P N (flat c) (thenL (fun s2 => ∃ m s', m < n ∧ I m s' ∧ s'.le s2) (thenL (wpL ro P N l Q) Q)) s) : wpL ro P N (.loop c :: l) Q st := by
  intro S w0 g a w hr
  obtain ⟨n0, s0, hI, hle⟩ := h0
  refine wpIn_loop_ghost (fun n a w => ∃ g s, Rel S w0 N g s a w ∧ I n s) n0 ⟨g, s0, hr.weaken hle, hI⟩ fun n a w ⟨g, s, hs, hIs⟩ => ?_
  refine wpIn_mono (AWp_flat c (round n s hIs) S w0 g a w hs) fun e a' w' ⟨g', s2, h1, h2⟩ => ?_
  cases e with
  | normal =>
    obtain ⟨m, s', hm, hIm, hle'⟩ := h2
    exact ⟨m, hm, g', s', h1.weaken hle', hIm⟩
  | _ => exact ⟨g', s2, h1, h2⟩

end
end Go.Abs

set_option linter.unusedSimpArgs false
set_option linter.unusedVariables false
namespace Go.Abs
open Go.RowKit

def dvAV : DV → AV
  | .c x => .c (.d x)
  | .agg xs => .agg (xs.map .d)
  | .ptr xs => .c (.dptr xs)

def argSlots : Nat → List DV → List (Nat × AV)
  | _, [] => []
  | i, x :: xs => (i, dvAV x) :: argSlots (i + 1) xs

/-- A state entry by entry below another. -/
def leT : List (Nat × AV) → ASt → Prop
  | [], _ => True
  | (i, x) :: l, s => find s.tmps i = some x ∧ leT l s
def leR : List (Nat × ARow) → ASt → Prop
  | [], _ => True
  | (i, x) :: l, s => find s.rows i = some x ∧ leR l s
def ASt.nomenB (s : ASt) (id : Nat) : Bool := s.tmps.all (fun p => !p.2.ment id) && s.rows.all (fun p => !p.2.ment id)
def leN : List (Nat × ARow) → ASt → Prop
  | [], _ => True
  | (i, .box _ _) :: l, s' => leN l s'
  | (i, .ghost _ _) :: l, s' => leN l s'
  | (i, .held _) :: l, s' => leN l s'
  | (i, .gone) :: l, s' => leN l s'
  | (i, .iter _ _) :: l, s' => leN l s'
  | (i, .arr _ _ _ _) :: l, s' => ((find s'.rows i).isSome = true ∨ s'.nomenB i = true) ∧ leN l s'

theorem leT_find : ∀ {l : List (Nat × AV)} {s : ASt}, leT l s → ∀ i x, find l i = some x → find s.tmps i = some x
  | [], s, _, i, x, hf => by simp [find] at hf
  | (k, y) :: l, s, h, i, x, hf => by
    simp only [find] at hf
    split at hf
    · rename_i e; cases hf; subst e; exact h.1
    · exact leT_find h.2 i x hf
theorem leR_find : ∀ {l : List (Nat × ARow)} {s : ASt}, leR l s → ∀ i x, find l i = some x → find s.rows i = some x
  | [], s, _, i, x, hf => by simp [find] at hf
  | (k, y) :: l, s, h, i, x, hf => by
    simp only [find] at hf
    split at hf
    · rename_i e; cases hf; subst e; exact h.1
    · exact leR_find h.2 i x hf
theorem leN_find : ∀ {l : List (Nat × ARow)} {s' : ASt}, leN l s' → ∀ i e sz xs fl, (i, ARow.arr e sz xs fl) ∈ l → (find s'.rows i).isSome = true ∨ s'.nomenB i = true
  | [], s', _, i, e, sz, xs, fl, hm => by simp at hm
  | (k, .box _ _) :: l, s', h, i, e, sz, xs, fl, hm => by
    simp at hm
    exact leN_find (l := l) h i e sz xs fl hm
  | (k, .ghost _ _) :: l, s', h, i, e, sz, xs, fl, hm => by
    simp at hm
    exact leN_find (l := l) h i e sz xs fl hm
  | (k, .held _) :: l, s', h, i, e, sz, xs, fl, hm => by
    simp at hm
    exact leN_find (l := l) h i e sz xs fl hm
  | (k, .gone) :: l, s', h, i, e, sz, xs, fl, hm => by
    simp at hm
    exact leN_find (l := l) h i e sz xs fl hm
  | (k, .iter _ _) :: l, s', h, i, e, sz, xs, fl, hm => by
    simp at hm
    exact leN_find (l := l) h i e sz xs fl hm
  | (k, .arr _ _ _ _) :: l, s', h, i, e, sz, xs, fl, hm => by
    simp only [List.mem_cons, Prod.mk.injEq] at hm
    rcases hm with ⟨rfl, _⟩ | hm
    · exact h.1
    · exact leN_find h.2 i e sz xs fl hm

theorem nomen_of {s : ASt} {id : Nat} (h : s.nomenB id = true) : s.nomen id := by
  unfold ASt.nomenB at h
  rw [Bool.and_eq_true, List.all_eq_true, List.all_eq_true] at h
  exact ⟨fun i x hx => by simpa using h.1 _ (find_mem hx), fun i r hr => by simpa using h.2 _ (find_mem hr)⟩

theorem le_mk {s' s : ASt} (h1 : leT s'.tmps s) (h2 : leR s'.rows s) (h3 : leN s.rows s') : s'.le s := by
  refine ⟨leT_find h1, leR_find h2, fun i e sz xs fl hf => ?_⟩
  rcases leN_find h3 i e sz xs fl (find_mem hf) with h | h
  · obtain ⟨r, hr⟩ := Option.isSome_iff_exists.1 h
    have := leR_find h2 i r hr
    rw [hf] at this
    cases this
    exact .inl hr
  · exact .inr (nomen_of h)

/- What a function hands back. -/
def retAV (T : Tab) (s : ASt) : ResultVar → Option AV
  | .tmp t => find s.tmps t
  | .cell t ty => match find s.tmps t with
    | some x => loadF T ty s.rows x
    | none => none

def retAVs (T : Tab) (s : ASt) : List ResultVar → Option (List AV)
  | [] => some []
  | x :: xs => match retAV T s x, retAVs T s xs with
    | some v, some vs => some (v :: vs)
    | _, _ => none

def retC (rows : List (Nat × ARow)) (x : AC) : RC → Prop
  | .d y => dcOf true rows x = some y
  | .fresh e sz xs => match x with
    | .row id => find rows id = some (.arr e sz xs false)
    | _ => False
def retCs (rows : List (Nat × ARow)) : List AC → List RC → Prop
  | [], [] => True
  | x :: xs, y :: ys => retC rows x y ∧ retCs rows xs ys
  | _, _ => False
def retV (rows : List (Nat × ARow)) : AV → RV → Prop
  | .c x, .c y => retC rows x y
  | .agg xs, .agg ys => retCs rows xs ys
  | _, _ => False
def retVs (rows : List (Nat × ARow)) : List AV → List RV → Prop
  | [], [] => True
  | x :: xs, y :: ys => retV rows x y ∧ retVs rows xs ys
  | _, _ => False

/- The rows that are handed back as fresh, each with its place. -/
def frC (p : Nat) : AC → RC → List (Nat × Nat)
  | .row id, .fresh _ _ _ => [(p, id)]
  | _, _ => []
def frCs : Nat → List AC → List RC → List (Nat × Nat)
  | p, x :: xs, y :: ys => frC p x y ++ frCs (p + 1) xs ys
  | _, _, _ => []
def frV (p : Nat) : AV → RV → List (Nat × Nat)
  | .c x, .c y => frC p x y
  | .agg xs, .agg ys => frCs p xs ys
  | _, _ => []
def frVs : Nat → List AV → List RV → List (Nat × Nat)
  | p, x :: xs, y :: ys => frV p x y ++ frVs (p + 50) xs ys
  | _, _, _ => []
/- The rows that are handed back as data. -/
def daC : AC → RC → List Nat
  | .row id, .d _ => [id]
  | _, _ => []
def daCs : List AC → List RC → List Nat
  | x :: xs, y :: ys => daC x y ++ daCs xs ys
  | _, _ => []
def daV : AV → RV → List Nat
  | .c x, .c y => daC x y
  | .agg xs, .agg ys => daCs xs ys
  | _, _ => []
def daVs : List AV → List RV → List Nat
  | x :: xs, y :: ys => daV x y ++ daVs xs ys
  | _, _ => []

def nodupF : List (Nat × Nat) → Bool
  | [] => true
  | (p, id) :: l => l.all (fun q => q.1 != p && q.2 != id) && nodupF l

def apartF (fr : List (Nat × Nat)) (da : List Nat) : Bool := da.all fun i => fr.all fun q => q.2 != i

def RetOk (rows : List (Nat × ARow)) (vs : List AV) : Res → Prop
  | .one y => match vs with
    | [x] => retV rows x y ∧ nodupF (frV 0 x y) = true ∧ apartF (frV 0 x y) (daV x y) = true
    | _ => False
  | .tup ys => vs.length ≠ 1 ∧ retVs rows vs ys ∧ nodupF (frVs 0 vs ys) = true ∧ apartF (frVs 0 vs ys) (daVs vs ys) = true

/-- No foreign blocks are held: so it is in a function's own frame. -/
def noHeld (rows : List (Nat × ARow)) : Bool := rows.all fun p => match p.2 with | .held _ => false | _ => true
theorem noHeld_find {rows : List (Nat × ARow)} (h : noHeld rows = true) (id : Nat) (l : List (Nat × Obj)) : find rows id ≠ some (.held l) := fun hf => by
  have := List.all_eq_true.1 h _ (find_mem hf)
  simp at this

def retQ (T : Tab) (results : List ResultVar) (r : Res) : Exit → ASt → Prop
  | .normal, s | .ret, s => match retAVs T s results with
    | some vs => noHeld s.rows = true ∧ RetOk s.rows vs r
    | none => False
  | _, _ => False

section
variable {S : Nat → Nat → Prop} {w0 : World} {N : Fm} {g : Gh} {st : ASt} {a : Act} {w : World} {P : Program} {T : Tab}

def rvF (a : Act) : ResultVar → Sem Value
  | .tmp t => pure (a.tmps.getD t undef)
  | .cell p t => do loadVar t (← asAddr (a.tmps.getD p undef))

theorem retAVs_sound (hT : TabOk P T) (h : Rel S w0 N g st a w) : ∀ {l : List ResultVar} {vs : List AV}, retAVs T st l = some vs →
    ∃ us : List Value, (l.mapM (rvF a)).run P w = .ok us w ∧ All2 (RelV (Sf w0.heap.size S st.rows g) w st.rows g) us vs
  | [], vs, hv => by
    simp [retAVs] at hv
    subst hv
    exact ⟨[], by simp, .nil⟩
  | x :: l, vs, hv => by
    simp only [retAVs] at hv
    split at hv
    · rename_i v vs' h1 h2
      cases hv
      obtain ⟨us, h3, h4⟩ := retAVs_sound hT h h2
      cases x with
      | tmp t =>
        simp only [retAV] at h1
        obtain ⟨u, hu, hr⟩ := h.tmps t _ h1
        refine ⟨u :: us, ?_, .cons hr h4⟩
        have e : a.tmps.getD t undef = u := by simp [hu]
        simp only [List.mapM_cons, rvF, Sem.run_bind, e, Sem.run_pure, Result.andThen_ok, h3]
      | cell t ty =>
        simp only [retAV] at h1
        split at h1
        · rename_i y hy
          have hev : st.ev (.tmp t) = y := by simp [ASt.ev, hy]
          rw [← hev] at h1
          obtain ⟨u, hu, hr⟩ := load_sound (P := P) hT h ty (.tmp t) h1
          refine ⟨u :: us, ?_, .cons hr h4⟩
          have e : a.eval (.tmp t) = a.tmps.getD t undef := rfl
          rw [e] at hu
          have hld : (do loadVar ty (← asAddr (a.tmps.getD t undef)) : Sem Value).run P w = .ok u w := by
            unfold Instr.loadAt at hu
            cases hp : a.tmps.getD t undef with
            | pointer ad =>
              cases ad with
              | some ad => rw [hp] at hu; simpa [Instr.sureAddr, asAddr] using hu
              | none => rw [hp] at hu; simp [Instr.sureAddr] at hu
            | _ => rw [hp] at hu; simp [Instr.sureAddr] at hu
          have hld' : (rvF a (.cell t ty)).run P w = .ok u w := hld
          simp only [List.mapM_cons, Sem.run_bind, Sem.run_pure, hld', Result.andThen_ok, h3]
        · cases h1
    · cases hv

theorem results_sound (hT : TabOk P T) (h : Rel S w0 N g st a w) {fn : Func} {vs : List AV} (hv : retAVs T st fn.results.toList = some vs) :
    ∃ us : List Value, All2 (RelV (Sf w0.heap.size S st.rows g) w st.rows g) us vs ∧ (results fn a.tmps).run P w = .ok (match us with | [u] => u | us => .tuple us.toArray) w := by
  obtain ⟨us, h1, h2⟩ := retAVs_sound (P := P) hT h hv
  refine ⟨us, h2, ?_⟩
  have e : results fn a.tmps = (do let vs ← fn.results.mapM (rvF a); pure (if h : vs.size = 1 then vs[0] else .tuple vs)) := by
    unfold results
    congr 1
  rw [e, Array.mapM_eq_mapM_toList]
  simp only [Sem.run_bind, Sem.run_map, h1, Result.andThen_ok, Sem.run_pure]
  match us with
  | [] => rfl
  | [u] => rfl
  | u :: v :: us => simp

/-- A fresh row's ghost. -/
def fbOf (g : Gh) (fr : List (Nat × Nat)) : Gh := fun p => match find fr p with | some id => g id | none => none

theorem nodupF_inj : ∀ {l : List (Nat × Nat)}, nodupF l = true → ∀ p p' id, find l p = some id → find l p' = some id → p = p'
  | [], _, p, p', id, h, _ => by simp [find] at h
  | (k, i) :: l, hn, p, p', id, h, h' => by
    simp only [nodupF, Bool.and_eq_true, List.all_eq_true] at hn
    simp only [find] at h h'
    split at h
    · rename_i e1
      cases h
      split at h'
      · rename_i e2; omega
      · have := hn.1 _ (find_mem h'); simp at this
    · split at h'
      · cases h'; have := hn.1 _ (find_mem h); simp at this
      · exact nodupF_inj hn.2 p p' id h h'

theorem nodupF_find : ∀ {l : List (Nat × Nat)}, nodupF l = true → ∀ p id, (p, id) ∈ l → find l p = some id
  | [], _, p, id, h => by simp at h
  | (k, i) :: l, hn, p, id, h => by
    simp only [nodupF, Bool.and_eq_true, List.all_eq_true] at hn
    simp only [List.mem_cons, Prod.mk.injEq] at h
    rcases h with ⟨rfl, rfl⟩ | h
    · exact find_set_eq
    · have hne : p ≠ k := by have := hn.1 _ h; simp at this; exact this.1
      rw [find_set_ne hne]
      exact nodupF_find hn.2 p id h

section
variable {fr : List (Nat × Nat)} {da : List Nat}
theorem ret_RC (h : Rel S w0 N g st a w) (hn : nodupF fr = true) (hap : apartF fr da = true) (hfr : ∀ p id, (p, id) ∈ fr → ∃ e sz xs, find st.rows id = some (.arr e sz xs false))
    {p : Nat} {u : Value} {x : AC} {y : RC} (hu : RelAC (Sf w0.heap.size S st.rows g) w st.rows g u x) (hr : retC st.rows x y) (hsub : ∀ q, q ∈ frC p x y → q ∈ fr) (hda : ∀ i, i ∈ daC x y → i ∈ da) :
    RelRC (Fp S w0.heap.size (fbOf g fr)) w (fbOf g fr) p u y := by
  have hFp : ∀ b o, Sf w0.heap.size S st.rows g b o → Fp S w0.heap.size (fbOf g fr) b o := by
    intro b o hs
    rcases hs with hs | ⟨h1, h2⟩
    · exact .inl hs
    · refine .inr ⟨h1, fun q c hq => ?_⟩
      unfold fbOf at hq
      split at hq
      · rename_i id hf
        obtain ⟨e, sz, xs, hrow⟩ := hfr q id (find_mem hf)
        have := h2 id _ c hrow hq
        simp [ARow.safe] at this
      · cases hq
  cases y with
  | d y =>
    simp only [retC] at hr
    unfold dcOf at hr
    split at hr
    · cases hr; exact RelC.sub hFp hu
    · cases hr
      have hu' : u = .slice none 0 0 := hu
      rw [hu']; exact .emp _ _
    · rename_i id
      obtain ⟨e, sz, xs, fl, hf, hu'⟩ := hu
      rw [hf] at hr
      simp only [Bool.or_true, if_true] at hr
      cases hr
      rw [hu']
      refine row_data h hFp hf fun b c o hg ho => .inr ⟨(h.blk id _ b c hf hg).1, fun q c' hq => ?_⟩
      unfold fbOf at hq
      split at hq
      · rename_i id' hf'
        have hmem := find_mem hf'
        obtain ⟨e', sz', xs', hrow⟩ := hfr q id' hmem
        have hid := h.inj id' id _ _ b c' c hrow hf hq hg
        have hd := hda id (by simp [daC])
        have := List.all_eq_true.1 (List.all_eq_true.1 hap id hd) _ hmem
        simp [hid] at this
      · cases hq
    · cases hr
  | fresh e sz xs =>
    simp only [retC] at hr
    split at hr
    · rename_i id
      obtain ⟨e', sz', xs', fl', hf, hu'⟩ := hu
      rw [hr] at hf
      cases hf
      have hmem := hsub (p, id) (by simp [frC])
      have hfb : fbOf g fr p = g id := by simp [fbOf, nodupF_find hn p id hmem]
      refine ⟨by rw [hfb]; exact hu', relRow_arr hFp hfb (h.rows id _ hr)⟩
    · exact hr.elim

theorem fresh_C {p : Nat} {x : AC} {y : RC} (hr : retC st.rows x y) : ∀ q id, (q, id) ∈ frC p x y → ∃ e sz xs, find st.rows id = some (.arr e sz xs false) := by
  intro q id hm
  unfold frC at hm
  split at hm
  · simp at hm
    obtain ⟨rfl, rfl⟩ := hm
    exact ⟨_, _, _, hr⟩
  · simp at hm
theorem fresh_Cs : ∀ {p : Nat} {xs : List AC} {ys : List RC}, retCs st.rows xs ys → ∀ q id, (q, id) ∈ frCs p xs ys → ∃ e sz zs, find st.rows id = some (.arr e sz zs false)
  | p, [], [], _, q, id, hm => by simp [frCs] at hm
  | p, x :: xs, y :: ys, hr, q, id, hm => by
    simp only [frCs, List.mem_append] at hm
    rcases hm with hm | hm
    · exact fresh_C hr.1 q id hm
    · exact fresh_Cs hr.2 q id hm
  | p, [], _ :: _, hr, _, _, _ => hr.elim
  | p, _ :: _, [], hr, _, _, _ => hr.elim
theorem fresh_V {p : Nat} {x : AV} {y : RV} (hr : retV st.rows x y) : ∀ q id, (q, id) ∈ frV p x y → ∃ e sz xs, find st.rows id = some (.arr e sz xs false) := by
  unfold retV at hr
  split at hr
  · exact fresh_C hr
  · exact fresh_Cs hr
  · exact hr.elim
theorem fresh_Vs : ∀ {p : Nat} {xs : List AV} {ys : List RV}, retVs st.rows xs ys → ∀ q id, (q, id) ∈ frVs p xs ys → ∃ e sz zs, find st.rows id = some (.arr e sz zs false)
  | p, [], [], _, q, id, hm => by simp [frVs] at hm
  | p, x :: xs, y :: ys, hr, q, id, hm => by
    simp only [frVs, List.mem_append] at hm
    rcases hm with hm | hm
    · exact fresh_V hr.1 q id hm
    · exact fresh_Vs hr.2 q id hm
  | p, [], _ :: _, hr, _, _, _ => hr.elim
  | p, _ :: _, [], hr, _, _, _ => hr.elim

theorem ret_RCs (h : Rel S w0 N g st a w) (hn : nodupF fr = true) (hap : apartF fr da = true) (hfr : ∀ p id, (p, id) ∈ fr → ∃ e sz xs, find st.rows id = some (.arr e sz xs false)) :
    ∀ {p : Nat} {us : List Value} {xs : List AC} {ys : List RC}, All2 (fun u x => u.oneCell' = true ∧ RelAC (Sf w0.heap.size S st.rows g) w st.rows g u x) us xs → retCs st.rows xs ys →
      (∀ q, q ∈ frCs p xs ys → q ∈ fr) → (∀ i, i ∈ daCs xs ys → i ∈ da) → RelRCs (Fp S w0.heap.size (fbOf g fr)) w (fbOf g fr) p us ys
  | p, _, [], [], hu, _, _, _ => by cases hu; trivial
  | p, _, x :: xs, y :: ys, hu, hr, hsub, hda => by
    cases hu with
    | cons h1 h2 =>
      exact ⟨⟨h1.1, ret_RC h hn hap hfr h1.2 hr.1 (fun q hq => hsub q (by simp only [frCs, List.mem_append]; exact .inl hq)) (fun i hi => hda i (by simp only [daCs, List.mem_append]; exact .inl hi))⟩,
        ret_RCs h hn hap hfr h2 hr.2 (fun q hq => hsub q (by simp only [frCs, List.mem_append]; exact .inr hq)) (fun i hi => hda i (by simp only [daCs, List.mem_append]; exact .inr hi))⟩
  | p, _, [], _ :: _, _, hr, _, _ => hr.elim
  | p, _, _ :: _, [], _, hr, _, _ => hr.elim

theorem ret_RV (h : Rel S w0 N g st a w) (hn : nodupF fr = true) (hap : apartF fr da = true) (hfr : ∀ p id, (p, id) ∈ fr → ∃ e sz xs, find st.rows id = some (.arr e sz xs false))
    {p : Nat} {u : Value} {x : AV} {y : RV} (hu : RelV (Sf w0.heap.size S st.rows g) w st.rows g u x) (hr : retV st.rows x y) (hsub : ∀ q, q ∈ frV p x y → q ∈ fr) (hda : ∀ i, i ∈ daV x y → i ∈ da) :
    RelRV (Fp S w0.heap.size (fbOf g fr)) w (fbOf g fr) p u y := by
  unfold retV at hr
  split at hr
  · unfold RelV at hu
    exact ⟨hu.1, ret_RC h hn hap hfr hu.2 hr hsub hda⟩
  · unfold RelV at hu
    obtain ⟨cs, h1, h2⟩ := hu
    exact ⟨cs, h1, ret_RCs h hn hap hfr h2 hr hsub hda⟩
  · exact hr.elim

theorem ret_RVs (h : Rel S w0 N g st a w) (hn : nodupF fr = true) (hap : apartF fr da = true) (hfr : ∀ p id, (p, id) ∈ fr → ∃ e sz xs, find st.rows id = some (.arr e sz xs false)) :
    ∀ {p : Nat} {us : List Value} {xs : List AV} {ys : List RV}, All2 (RelV (Sf w0.heap.size S st.rows g) w st.rows g) us xs → retVs st.rows xs ys →
      (∀ q, q ∈ frVs p xs ys → q ∈ fr) → (∀ i, i ∈ daVs xs ys → i ∈ da) → RelRVs (Fp S w0.heap.size (fbOf g fr)) w (fbOf g fr) p us ys
  | p, _, [], [], hu, _, _, _ => by cases hu; trivial
  | p, _, x :: xs, y :: ys, hu, hr, hsub, hda => by
    cases hu with
    | cons h1 h2 =>
      exact ⟨ret_RV h hn hap hfr h1 hr.1 (fun q hq => hsub q (by simp only [frVs, List.mem_append]; exact .inl hq)) (fun i hi => hda i (by simp only [daVs, List.mem_append]; exact .inl hi)),
        ret_RVs h hn hap hfr h2 hr.2 (fun q hq => hsub q (by simp only [frVs, List.mem_append]; exact .inr hq)) (fun i hi => hda i (by simp only [daVs, List.mem_append]; exact .inr hi))⟩
  | p, _, [], _ :: _, _, hr, _, _ => hr.elim
  | p, _, _ :: _, [], _, hr, _, _ => hr.elim

end

/-- The marks among the deferred calls are come to, one by one. -/
theorem Rel.leaves (hT : TabOk P T) (hno : noHeld st.rows = true) {fn : Func} {R : Ending → World → Prop} (hR : ∀ g a w, Rel S w0 N g st a w → ∃ v, (results fn a.tmps).run P w = .ok v w ∧ R (.returned v) w) :
    ∀ (ds : List Deferred) (tmps : Array Value) (w : World), Rel S w0 N g st { tmps := tmps, defers := ds } w → LeavesInM Fence.wide 0 P fn tmps R ds .returning w
  | [], tmps, w, h => by
    obtain ⟨v, h1, h2⟩ := hR _ _ _ h
    exact ⟨v, h1, h2⟩
  | d :: ds, tmps, w, h => by
    obtain ⟨hnd, hall⟩ := h.defers
    obtain ⟨D, hd, hD, hw⟩ := hall d (by simp)
    refine ⟨by simp, .inl ⟨D, _, by rw [hd], run_takeDeferred hw, ?_⟩⟩
    have hlt := (Array.getElem?_eq_some_iff.1 hw).1
    have hcl : ∀ b o, cl (w.putObj D (.deferred none)) b o = cl w b o := by
      intro b o
      by_cases hb : b = D
      · subst hb
        unfold cl World.cell?
        rw [World.putObj_heap_same hlt, hw]
      · exact cl_of_block (World.putObj_heap_other hb) o
    have hcar : ∀ b o, Sf w0.heap.size S st.rows g b o → b < w.heap.size → Sf w0.heap.size S st.rows g b o ∧ cl (w.putObj D (.deferred none)) b o = cl w b o := fun b o hs _ => ⟨hs, hcl b o⟩
    refine Rel.leaves hT hno hR ds tmps _ ⟨⟨h.below.os, h.below.tape, h.below.output, by simpa using h.below.size, fun k hk => ?_⟩, h.size, fun hc => (by have := h.calm hc; cases this), h.good, ⟨(List.nodup_cons.1 hnd).2, fun d' hd' => ?_⟩, fun id r b c hf hg => ?_, h.inj, fun id r hf => ?_, fun i x hx => ?_⟩
    · rw [World.putObj_heap_other (by omega)]; exact h.below.block k hk
    · obtain ⟨D', h1, h2, h3⟩ := hall d' (List.mem_cons_of_mem _ hd')
      refine ⟨D', h1, h2, ?_⟩
      rw [World.putObj_heap_other (fun e => ?_)]
      · exact h3
      · subst e
        rw [← hd] at h1; subst h1
        exact (List.nodup_cons.1 hnd).1 hd'
    · have := h.blk id r b c hf hg
      exact ⟨this.1, by simpa using this.2⟩
    · have hnc : ∀ (r : ARow), (∀ l, r ≠ .held l) → RelRow (Sf w0.heap.size S st.rows g) w st.rows g id r → (∀ b c, g id = some (b, c) → (w.putObj D (.deferred none)).heap[b]? = w.heap[b]?) → RelRow (Sf w0.heap.size S st.rows g) (w.putObj D (.deferred none)) st.rows g id r := by
        intro r hnh hrr hbl
        have hx : ∀ id', g id' = g id' ∧ ∀ e sz xs fl, find st.rows id' = some (.arr e sz xs fl) → ∃ xs' fl', find st.rows id' = some (.arr e sz xs' fl') ∧ xs'.length = xs.length := fun id' => ⟨rfl, fun e sz xs fl hf2 => ⟨xs, fl, hf2, rfl⟩⟩
        cases r with
        | box T cs =>
          obtain ⟨b, c, cur, h1, h2, h3⟩ := hrr
          exact ⟨b, c, cur, h1, by rw [hbl b c h1]; exact h2, h3.mono fun u y hu => ⟨hu.1, hu.2.carry hcar fun id' _ => hx id'⟩⟩
        | arr e sz xs fl =>
          obtain ⟨h0, h⟩ := hrr
          refine ⟨h0, ?_⟩
          rcases h with h1 | ⟨b, cap, cur, h1, h2, h3, h4, h5, h6⟩
          · exact .inl h1
          · refine .inr ⟨b, cap, cur, h1, by rw [hbl b cap h1]; exact h2, h3, h4, h5, fun i j x d hx hd => ?_⟩
            obtain ⟨u, hu, hr⟩ := h6 i j x d hx hd
            exact ⟨u, hu, hr.mono hcar⟩
        | ghost v x => exact ⟨hrr.1, hrr.2.carry hcar fun id' _ => hx id'⟩
        | held l => exact absurd rfl (hnh l)
        | gone =>
          obtain ⟨b, c, cur, T', h1, h2⟩ := hrr
          exact ⟨b, c, cur, T', h1, by rw [hbl b c h1]; exact h2⟩
        | iter s pos =>
          obtain ⟨b, c, h1, h2⟩ := hrr
          exact ⟨b, c, h1, by rw [hbl b c h1]; exact h2⟩
      refine hnc r (fun l e => by subst e; exact noHeld_find hno id l hf) (h.rows id r hf) fun b c hg => ?_
      obtain ⟨o, ho, hc⟩ := h.row_obj hf hg
      refine World.putObj_heap_other (fun e => ?_)
      subst e
      rw [hw] at ho; cases ho
      rcases hc with hc | hc <;> cases hc
    · obtain ⟨v, hv, hr⟩ := h.tmps i x hx
      exact ⟨v, hv, hr.carry hcar fun id2 hm => ⟨rfl, fun e sz xs fl hf2 => ⟨xs, fl, hf2, rfl⟩⟩⟩

/-- The end of a body. -/
theorem post_sound (hT : TabOk P T) (h : Rel S w0 N g st a w) {fn : Func} {r : Res} {e : Exit} (hq : retQ T fn.results.toList r e st) : bodyPostM Fence.wide 0 P fn (Post S w0 r) e a w := by
  have fin : ∀ vs, retAVs T st fn.results.toList = some vs → noHeld st.rows = true ∧ RetOk st.rows vs r → LeavesInM Fence.wide 0 P fn a.tmps (Post S w0 r) a.defers .returning w := by
    intro vs hvs ⟨hno, hok⟩
    refine Rel.leaves (g := g) hT hno (fun g a w h => ?_) _ _ _ h
    obtain ⟨us, hall, hrun⟩ := results_sound (P := P) hT h hvs
    refine ⟨_, hrun, ?_⟩
    have hlen := hall.len
    have post : ∀ (fr : List (Nat × Nat)) (v : Value), nodupF fr = true → (∀ p id, (p, id) ∈ fr → ∃ e sz xs, find st.rows id = some (.arr e sz xs false)) → RelRes (Fp S w0.heap.size (fbOf g fr)) w (fbOf g fr) v r → Post S w0 r (.returned v) w := by
      intro fr v hn hfr hrel
      refine ⟨v, fbOf g fr, rfl, h.below, fun p b c hb => ?_, fun p p' b c c' hb hb' => ?_, hrel⟩
      · unfold fbOf at hb
        split at hb
        · rename_i id hf
          obtain ⟨e, sz, xs, hrow⟩ := hfr p id (find_mem hf)
          exact h.blk id _ b c hrow hb
        · cases hb
      · unfold fbOf at hb hb'
        split at hb
        · rename_i id hf
          split at hb'
          · rename_i id' hf'
            obtain ⟨e, sz, xs, hrow⟩ := hfr p id (find_mem hf)
            obtain ⟨e', sz', xs', hrow'⟩ := hfr p' id' (find_mem hf')
            have := h.inj id id' _ _ b c c' hrow hrow' hb hb'
            subst this
            exact nodupF_inj hn p p' id hf hf'
          · cases hb'
        · cases hb
    cases r with
    | one y =>
      simp only [RetOk] at hok
      split at hok
      · rename_i x
        obtain ⟨h1, h2, h3⟩ := hok
        cases hall with
        | cons hu ht =>
          cases ht
          exact post (frV 0 x y) _ h2 (fresh_V h1) (ret_RV h h2 h3 (fresh_V h1) hu h1 (fun _ hq => hq) (fun _ hi => hi))
      · exact hok.elim
    | tup ys =>
      simp only [RetOk] at hok
      obtain ⟨h0, h1, h2, h3⟩ := hok
      refine post (frVs 0 vs ys) _ h2 (fresh_Vs h1) ?_
      have hrv := ret_RVs h h2 h3 (fresh_Vs h1) (p := 0) hall h1 (fun _ hq => hq) (fun _ hi => hi)
      match us, hlen, hrv with
      | [], _, hrv => exact ⟨_, rfl, hrv⟩
      | [u], hl, _ => exact absurd hl.symm h0
      | u :: v :: us, _, hrv => exact ⟨_, rfl, hrv⟩
  cases e with
  | normal =>
    simp only [retQ] at hq
    split at hq
    · exact fin _ (by assumption) hq
    · exact hq.elim
  | ret =>
    simp only [retQ] at hq
    split at hq
    · exact fin _ (by assumption) hq
    · exact hq.elim
  | _ => exact hq.elim

theorem argSlots_find : ∀ {k : Nat} {l : List DV} {i : Nat} {x : AV}, find (argSlots k l) i = some x → ∃ j y, i = k + j ∧ l[j]? = some y ∧ x = dvAV y
  | k, [], i, x, h => by simp [argSlots, find] at h
  | k, y :: l, i, x, h => by
    simp only [argSlots, find] at h
    split at h
    · rename_i e; cases h; exact ⟨0, y, by omega, by simp, rfl⟩
    · obtain ⟨j, z, h1, h2, h3⟩ := argSlots_find h
      exact ⟨j + 1, z, by omega, by simpa using h2, h3⟩

theorem dv_rel {F F' : Nat → Nat → Prop} (hS : ∀ b o, F b o → b < w.heap.size → F' b o) {rows : List (Nat × ARow)} {v : Value} {x : DV} (h : RelDV F w v x) (hone : ∀ y, x = .c y → v.oneCell' = true) : RelV F' w rows g v (dvAV x) := by
  cases x with
  | c y =>
    unfold dvAV RelV
    exact ⟨hone y rfl, RelC.mono (fun b o hb hlt => ⟨hS b o hb hlt, rfl⟩) h⟩
  | agg xs =>
    unfold dvAV RelV
    obtain ⟨cs, h1, h2⟩ := h
    refine ⟨cs, h1, All2.map_r (h2.mono fun u y hu => ⟨hu.one, RelC.mono (fun b o hb hlt => ⟨hS b o hb hlt, rfl⟩) hu⟩)⟩
  | ptr xs =>
    unfold dvAV RelV
    obtain ⟨b, o, us, h1, h2⟩ := h
    refine ⟨by rw [h1]; rfl, b, o, us, h1, fun j d hd => ?_⟩
    obtain ⟨h3, h4, h5⟩ := h2 j d hd
    exact ⟨hS _ _ h3 (cl_lt h4), h4, RelC.mono (fun b o hb hlt => ⟨hS b o hb hlt, rfl⟩) h5⟩

/-- FROM A WALK OF THE BODY TO WHAT THE FUNCTION GIVES. -/
theorem Gives.intro (hT : TabOk P T) {f : FuncId} {fn : Func} {c : Code} (hf : P.funcs[f]? = some fn) (hname : (fn.name == "runtime.NumGoroutine") = false) (hb : fn.body = some c) {args : List DV} {r : Res} (hlen : args.length ≤ fn.ntmps)
    (h : wpL none P ⟨fn.ntmps, true⟩ (flat c) (retQ T fn.results.toList r) ⟨argSlots 0 args, []⟩) : Gives P f args r := by
  intro S w vs hgood hvs
  left
  have hbody : ¬ fn.body = none := by simp [hb]
  have hnm : ¬ fn.name = "runtime.NumGoroutine" := by simpa using hname
  refine ⟨by simp [callFunc, hf, hnm, hbody], (callsIn_wide (n := 0)).1 (callsIn_of_wp_marks hf hb trivial ?_)⟩
  have hl := hvs.len
  have hrel : Rel S w ⟨fn.ntmps, true⟩ (fun _ => none) ⟨argSlots 0 args, []⟩ { tmps := vs.toArray ++ Array.replicate (fn.ntmps - vs.toArray.size) undef, defers := [] } w := by
    refine ⟨Below.refl _ _, by simp; omega, fun _ => rfl, hgood, DefOk.nil _ _, fun id r b c hf => by simp [find] at hf, fun id id' r r' b c c' hf => by simp [find] at hf, fun id r hf => by simp [find] at hf, fun i x hx => ?_⟩
    obtain ⟨j, y, h1, h2, h3⟩ := argSlots_find hx
    obtain ⟨v, hv, hr⟩ := hvs.get h2
    refine ⟨v, ?_, ?_⟩
    · have : j < vs.length := (List.getElem?_eq_some_iff.1 hv).1
      rw [h1, Nat.zero_add, Array.getElem?_append_left (by simpa using this)]
      simpa using hv
    · rw [h3]
      refine dv_rel (F' := Sf w.heap.size S [] (fun _ => none)) (fun b o hb hlt => .inl ⟨hlt, hb⟩) hr fun y hy => ?_
      subst hy
      exact RelC.one hr
  have := AWp_flat c h S w _ _ w hrel
  exact wpIn_mono this fun e a' w' ⟨g', st', h1, h2⟩ => post_sound hT h1 h2

/-- The same for a function that ranges over functions. -/
theorem Gives.introR (hT : TabOk P T) {f : FuncId} {fn : Func} {c : Code} (hf : P.funcs[f]? = some fn) (hname : (fn.name == "runtime.NumGoroutine") = false) (hb : fn.body = some c) {args : List DV} {r : Res} (hlen : args.length ≤ fn.ntmps)
    (h : wpL none P ⟨fn.ntmps, false⟩ (flat c) (retQ T fn.results.toList r) ⟨argSlots 0 args, []⟩) : Gives P f args r := by
  intro S w vs hgood hvs
  left
  have hbody : ¬ fn.body = none := by simp [hb]
  have hnm : ¬ fn.name = "runtime.NumGoroutine" := by simpa using hname
  refine ⟨by simp [callFunc, hf, hnm, hbody], (callsIn_wide (n := 0)).1 (callsIn_of_wp_marks hf hb trivial ?_)⟩
  have hl := hvs.len
  have hrel : Rel S w ⟨fn.ntmps, false⟩ (fun _ => none) ⟨argSlots 0 args, []⟩ { tmps := vs.toArray ++ Array.replicate (fn.ntmps - vs.toArray.size) undef, defers := [] } w := by
    refine ⟨Below.refl _ _, by simp; omega, fun _ => rfl, hgood, DefOk.nil _ _, fun id r b c hf => by simp [find] at hf, fun id id' r r' b c c' hf => by simp [find] at hf, fun id r hf => by simp [find] at hf, fun i x hx => ?_⟩
    obtain ⟨j, y, h1, h2, h3⟩ := argSlots_find hx
    obtain ⟨v, hv, hr⟩ := hvs.get h2
    refine ⟨v, ?_, ?_⟩
    · have : j < vs.length := (List.getElem?_eq_some_iff.1 hv).1
      rw [h1, Nat.zero_add, Array.getElem?_append_left (by simpa using this)]
      simpa using hv
    · rw [h3]
      refine dv_rel (F' := Sf w.heap.size S [] (fun _ => none)) (fun b o hb hlt => .inl ⟨hlt, hb⟩) hr fun y hy => ?_
      subst hy
      exact RelC.one hr
  have := AWp_flat c h S w _ _ w hrel
  exact wpIn_mono this fun e a' w' ⟨g', st', h1, h2⟩ => post_sound hT h1 h2

end
/-- A table's rows, each held against the program. -/
def AllOk (P : Program) : List (Nat × TI) → Prop
  | [] => True
  | (t, ti) :: l => TIok P t ti ∧ AllOk P l
theorem allOk_mem {P : Program} : ∀ {l : List (Nat × TI)}, AllOk P l → ∀ t ti, (t, ti) ∈ l → TIok P t ti
  | [], _, t, ti, h => by simp at h
  | (k, i) :: l, h, t, ti, hm => by
    simp only [List.mem_cons, Prod.mk.injEq] at hm
    rcases hm with ⟨rfl, rfl⟩ | hm
    · exact h.1
    · exact allOk_mem h.2 t ti hm
theorem tabOk_of {P : Program} {l : List (Nat × TI)} (h : AllOk P l) : TabOk P (find l) := fun t ti hf => allOk_mem h t ti (find_mem hf)

/- How the walk reckons. -/
theorem ment_d (x : DC) (id : Nat) : (AC.d x).ment id = false := rfl
theorem ment_nil (id : Nat) : AC.nil.ment id = false := rfl
theorem ment_dead (id : Nat) : AC.dead.ment id = false := rfl
theorem ment_dptr (xs : List DC) (id : Nat) : (AC.dptr xs).ment id = false := rfl
theorem ment_row (i id : Nat) : (AC.row i).ment id = decide (i = id) := by rw [Bool.eq_iff_iff]; simp [AC.ment, AC.id?]
theorem ment_ptr (i o id : Nat) : (AC.ptr i o).ment id = decide (i = id) := by rw [Bool.eq_iff_iff]; simp [AC.ment, AC.id?]
theorem ment_pclo (f i id : Nat) (pre post : List (List DC)) : (AC.pclo f pre i post).ment id = decide (i = id) := by rw [Bool.eq_iff_iff]; simp [AC.ment, AC.id?]
theorem ment_eptr (i k o id : Nat) : (AC.eptr i k o).ment id = decide (i = id) := by rw [Bool.eq_iff_iff]; simp [AC.ment, AC.id?]
theorem ment_map (xs : List DC) (id : Nat) : ((xs.map AC.d).any fun x => x.ment id) = false := by
  rw [List.any_eq_false]; intro y hy; obtain ⟨d, _, rfl⟩ := List.mem_map.1 hy; simp [ment_d]
theorem noHeld_nil : noHeld [] = true := rfl
theorem noHeld_box (i T : Nat) (cs : List AC) (l : List (Nat × ARow)) : noHeld ((i, .box T cs) :: l) = noHeld l := rfl
theorem noHeld_arr (i e sz : Nat) (xs : List (List DC)) (fl : Bool) (l : List (Nat × ARow)) : noHeld ((i, .arr e sz xs fl) :: l) = noHeld l := rfl
theorem noHeld_gone (i : Nat) (l : List (Nat × ARow)) : noHeld ((i, .gone) :: l) = noHeld l := rfl
theorem noHeld_iter (i : Nat) (s : ByteArray) (p : Nat) (l : List (Nat × ARow)) : noHeld ((i, .iter s p) :: l) = noHeld l := rfl
theorem noHeld_ghost (i : Nat) (v : Value) (x : AV) (l : List (Nat × ARow)) : noHeld ((i, .ghost v x) :: l) = noHeld l := rfl
theorem noHeld_held (i : Nat) (v : List (Nat × Obj)) (l : List (Nat × ARow)) : noHeld ((i, .held v) :: l) = false := rfl
theorem free_mk (tmps : List (Nat × AV)) (rows : List (Nat × ARow)) (id : Nat) :
    (ASt.mk tmps rows).free id = (tmps.all (fun p => !p.2.ment id) && rows.all (fun p => !decide (p.1 = id) && !p.2.ment id)) := by
  unfold ASt.free
  congr 2
theorem dcsOf_map (l : Bool) (rows : List (Nat × ARow)) (xs : List DC) : dcsOf l rows (xs.map AC.d) = some xs := by
  induction xs with
  | nil => rfl
  | cons x xs ih => simp [dcsOf, dcOf, ih]

theorem aOps_nil {m : Bool} {P : Program} {T : Tab} {ops : Array Oper} {K : ASt → Prop} {s : ASt} : aOps m P T ops [] K s = K s := rfl
theorem aOps_cons {m : Bool} {P : Program} {T : Tab} {ops : Array Oper} {o : Oper} {l : List Oper} {K : ASt → Prop} {s : ASt} : aOps m P T ops (o :: l) K s = stepG m P T ops o (aOps m P T ops l K) s := rfl
attribute [go_sem] bytesF rowOf isByte fastT_eq aOps_nil aOps_cons stepG stepA callK wF storeF appF copyF srcOf srcT srcStr callOf effF ASt.ev cst find AV.cells ASt.put ASt.add loadF fieldAddrF fieldF indexAddrF indexF convF lenF lenS binF nilF isSl unF intF strF shF isSh boolF eqF aggEq sint sbool sstr scAV
  takeAV splice spliceD buildF arrFs buildSliceF dcOf dcsOf dvOf dvsOf optEv cutF sliceF scalars zac zdc gval flat argSlots dvAV ASt.nomenB ASt.kill AC.kill AV.kill ARow.kill mapV AV.ment mentL ARow.ment
  rowsRes rowsRV rowsRC rowsRCs rowsRVs avRes avRV acRC acRCs avRVs cid okIds nodupK Res.flat RV.flat RC.flat DC.flat retQ retAVs retAV RetOk retV retC retCs retVs frV frC frCs frVs daV daC daCs daVs nodupF apartF
  leT leR leN thenL blockQ TI.agg ment_d ment_nil ment_dead ment_dptr ment_row ment_ptr ment_eptr ment_pclo ment_map free_mk dcsOf_map dptrs capsOf noHeld_nil noHeld_box noHeld_arr noHeld_gone noHeld_iter noHeld_ghost noHeld_held
attribute [go_sem] Bool.true_eq_false false_implies List.getElem?_toArray Option.bind_some Option.bind_none Int.toNat_natCast Int.natCast_nonneg Bool.false_eq_true eq_self if_true if_false List.cons_append List.nil_append List.append_nil List.map_cons List.map_nil List.all_cons List.all_nil List.any_cons List.any_nil List.length_cons List.length_nil
  Option.getD_some Option.getD_none List.drop_succ_cons List.drop_zero List.take_succ_cons List.take_zero List.getElem?_cons_zero List.getElem?_cons_succ List.getElem?_nil Bool.and_true Bool.true_and Bool.and_false Bool.false_and
  Bool.not_false Bool.not_true Bool.or_true Bool.true_or Bool.or_false Bool.false_or and_true true_and Option.isSome_some Option.isSome_none ne_eq not_false_eq_true decide_true decide_false
  Option.some.injEq List.set_cons_zero List.set_cons_succ List.replicate_succ List.replicate_zero forall_const true_or or_true List.map_append List.append_assoc

end Go.Abs

set_option linter.unusedSimpArgs false
set_option linter.unusedVariables false
namespace Go.Abs
open Go.RowKit

structure Eff where
  v : AV
  rows : List (Nat × ARow)

def isW : Op → Bool
  | .store _ _ _ => true
  | .range _ _ => true
  | .next _ true => true
  | .call c => match c.callee with
    | .builtin .append => match c.args.toList, c.argTypes.toList with
      | [.const (.slice none 0 0), _], [_, _] => false
      | _, _ => true
    | .builtin .copy => true
    | _ => false
  | _ => false

/-- An append (it may be onto an empty slice without room: then it writes nothing that stood before). -/
def isAp : Op → Bool
  | .call c => match c.callee with
    | .builtin .append => true
    | _ => false
  | _ => false

/-- A step that turns no row. -/
def stepD (P : Program) (T : Tab) (o : Oper) (K : ASt → Prop) (s : ASt) : Prop :=
  match wF T (o.dst.getD 0) s o.op with
  | some _ => False
  | none => match callOf s o.op with
    | some (f, xs) => match dvsOf true s.rows xs with
      | some dvs => CallA P f dvs s o.dst xs K (tie _)
      | none => False
    | none => match effF T (o.dst.getD 0) o.op s with
      | .ok c v rows => c ∧ K ((s.add rows).put o.dst v)
      | .no => False

def stepE (P : Program) (T : Tab) (o : Oper) (s : ASt) (e : Eff) : Prop :=
  match callOf s o.op with
  | some (f, xs) => match dvsOf true s.rows xs with
    | some dvs => ∃ r, Gives P f dvs r ∧ ((dvsOf false s.rows xs).isSome = true ∨ r.flat = true) ∧ okIds s (rowsRes (o.dst.getD 0) r) ∧ e = ⟨avRes (o.dst.getD 0) r, rowsRes (o.dst.getD 0) r⟩
    | none => False
  | none => match effF T (o.dst.getD 0) o.op s with
    | .ok c v rows => c ∧ e = ⟨v, rows⟩
    | .no => False

def ASt.ap (s : ASt) (d : Option Nat) (e : Eff) : ASt := (s.add e.rows).put d e.v

theorem wF_none {T : Tab} {d : Nat} {s : ASt} {op : Op} (h : isW op = false) : wF T d s op = none := by
  unfold wF
  split
  · simp [isW] at h
  · simp [isW] at h
  · simp [isW] at h
  · rename_i c
    split
    · rename_i hc
      simp only [isW, hc] at h
      split at h
      · rename_i h1 h2; rw [h1, h2]; rfl
      · cases h
    · rename_i hc; simp [isW, hc] at h
    · rfl
  · rfl

theorem wF_none_of {P : Program} {T : Tab} {o : Oper} {s : ASt} {e : Eff} (hw : isW o.op = false ∨ isAp o.op = true) (h : stepE P T o s e) : wF T (o.dst.getD 0) s o.op = none := by
  rcases hw with hw | hw
  · exact wF_none hw
  · unfold isAp at hw
    split at hw
    · rename_i c hop
      split at hw
      · rename_i hcal
        unfold stepE at h
        have hc : callOf s o.op = none := by rw [hop]; simp [callOf, hcal]
        rw [hc] at h
        simp only at h
        rw [hop] at h ⊢
        simp only [wF, effF, hcal] at h ⊢
        split at h
        · rename_i hok
          split at hok
          · rename_i hargs htys
            rw [hargs, htys]
            rfl
          · rename_i x y t tx _ hargs htys
            rw [hargs, htys]
            split at hok
            · rename_i he
              split
              · rfl
              · rename_i h1 h2
                cases h1; cases h2
                unfold appF
                rw [he]
                simp only
                repeat' split
                all_goals first | rfl | contradiction
              · rfl
            · cases hok
          · cases hok
        · exact h.elim
      · cases hw
    · cases hw

theorem stepD_A {P : Program} {T : Tab} {o : Oper} {K : ASt → Prop} {s : ASt} (h : stepD P T o K s) : wF T (o.dst.getD 0) s o.op = none ∧ stepA false P T o K s := by
  unfold stepD at h
  unfold stepA
  cases hw : wF T (o.dst.getD 0) s o.op with
  | some p => rw [hw] at h; exact h.elim
  | none =>
    rw [hw] at h
    refine ⟨rfl, ?_⟩
    simp only at h ⊢
    cases hc : callOf s o.op with
    | some p =>
      rw [hc] at h
      simp only at h ⊢
      cases hd : dvsOf true s.rows p.2 with
      | some dvs => rw [hd] at h; exact h
      | none => rw [hd] at h; exact h.elim
    | none => rw [hc] at h; exact h

theorem stepA_E {P : Program} {T : Tab} {o : Oper} {K : ASt → Prop} {s : ASt} (hw : wF T (o.dst.getD 0) s o.op = none) : stepA false P T o K s ↔ ∃ e, stepE P T o s e ∧ K (s.ap o.dst e) := by
  unfold stepA stepE
  rw [hw]
  simp only
  cases hc : callOf s o.op with
  | some p =>
    obtain ⟨f, xs⟩ := p
    simp only
    cases hd : dvsOf true s.rows xs with
    | some dvs =>
      simp only
      exact ⟨fun ⟨r, h1, h234⟩ => let ⟨h2, h3, h4⟩ := h234; ⟨_, ⟨r, h1, h2, h3, rfl⟩, h4⟩, fun ⟨e, ⟨r, h1, h2, h3, he⟩, hK⟩ => ⟨r, h1, ⟨h2, h3, by subst he; exact hK⟩⟩⟩
    | none => simp
  | none =>
    simp only
    cases he : effF T (o.dst.getD 0) o.op s with
    | ok c v rows =>
      simp only
      exact ⟨fun ⟨h1, h2⟩ => ⟨_, ⟨h1, rfl⟩, h2⟩, fun ⟨e, ⟨h1, he⟩, hK⟩ => ⟨h1, by subst he; exact hK⟩⟩
    | no => simp

/-- Two states that an operation cannot tell apart. -/
structure Agree (xs : List Operand) (s t : ASt) : Prop where
  ev : ∀ x, x ∈ xs → t.ev x = s.ev x
  row : ∀ x, x ∈ xs → ∀ id, (s.ev x).ment id = true → find t.rows id = find s.rows id

section
variable {s t : ASt} {T : Tab}

theorem ment_row_self (id : Nat) : (AV.c (AC.row id)).ment id = true := by unfold AV.ment; simp [ment_row]
theorem ment_ptr_self (id o : Nat) : (AV.c (AC.ptr id o)).ment id = true := by unfold AV.ment; simp [ment_ptr]
theorem ment_eptr_self (id i o : Nat) : (AV.c (AC.eptr id i o)).ment id = true := by unfold AV.ment; simp [ment_eptr]

theorem loadF_congr {ty : Nat} {rows rows' : List (Nat × ARow)} {v : AV} (h : ∀ id, v.ment id = true → find rows' id = find rows id) : loadF T ty rows' v = loadF T ty rows v := by
  unfold loadF
  split
  · rename_i id off; rw [h id (ment_ptr_self _ _)]
  · rename_i id i off; rw [h id (ment_eptr_self _ _ _)]
  · rfl
  · rfl
theorem dcOf_congr {l : Bool} {rows rows' : List (Nat × ARow)} {x : AC} (h : ∀ id, x.ment id = true → find rows' id = find rows id) : dcOf l rows' x = dcOf l rows x := by
  unfold dcOf
  split
  · rfl
  · rfl
  · rename_i id; rw [h id (by simp [ment_row])]
  · rfl
theorem dcsOf_congr {l : Bool} {rows rows' : List (Nat × ARow)} : ∀ {xs : List AC}, (∀ id, xs.any (·.ment id) = true → find rows' id = find rows id) → dcsOf l rows' xs = dcsOf l rows xs
  | [], _ => rfl
  | x :: xs, h => by
    simp only [dcsOf]
    rw [dcOf_congr fun id hid => h id (by simp [hid]), dcsOf_congr fun id hid => h id (by simp only [List.any_cons, hid, Bool.or_true])]
theorem dvOf_congr {l : Bool} {rows rows' : List (Nat × ARow)} {x : AV} (h : ∀ id, x.ment id = true → find rows' id = find rows id) : dvOf l rows' x = dvOf l rows x := by
  unfold dvOf
  split
  · rfl
  · rw [dcOf_congr fun id hid => h id (by unfold AV.ment; exact hid)]
  · rw [dcsOf_congr fun id hid => h id (by unfold AV.ment; exact hid)]
  · rfl
theorem dvsOf_congr {l : Bool} {rows rows' : List (Nat × ARow)} : ∀ {xs : List AV}, (∀ x, x ∈ xs → ∀ id, x.ment id = true → find rows' id = find rows id) → dvsOf l rows' xs = dvsOf l rows xs
  | [], _ => rfl
  | x :: xs, h => by
    simp only [dvsOf]
    rw [dvOf_congr (h x (by simp)), dvsOf_congr fun y hy => h y (List.mem_cons_of_mem _ hy)]
theorem indexAddrF_congr {ty : Nat} {rows rows' : List (Nat × ARow)} {v i : AV} (h : ∀ id, v.ment id = true → find rows' id = find rows id) : indexAddrF T ty rows' v i = indexAddrF T ty rows v i := by
  unfold indexAddrF
  split
  · split
    · split
      · split
        · split
          · rfl
          · rename_i id; rw [h id (ment_row_self _)]
          · rfl
        · rfl
      · rfl
      · rfl
    · rfl
  · rfl
theorem lenF_congr {rows rows' : List (Nat × ARow)} {v : AV} (h : ∀ id, v.ment id = true → find rows' id = find rows id) : lenF v rows' = lenF v rows := by
  unfold lenF
  split
  · rfl
  · rfl
  · rename_i id; rw [h id (ment_row_self _)]
  · rfl
theorem bytesF_congr {a b : Nat} {rows rows' : List (Nat × ARow)} {v : AV} (h : ∀ id, v.ment id = true → find rows' id = find rows id) : bytesF T a b rows' v = bytesF T a b rows v := by
  have : rowOf rows' v = rowOf rows v := by
    unfold rowOf
    split
    · rfl
    · rename_i id; rw [h id (ment_row_self _)]
    · rfl
  unfold bytesF
  rw [this]
theorem sliceF_congr {ty : Nat} {rows rows' : List (Nat × ARow)} {lo hi mx : Option Int} {v : AV} (h : ∀ id, v.ment id = true → find rows' id = find rows id) : sliceF T ty rows' lo hi mx v = sliceF T ty rows lo hi mx v := by
  unfold sliceF
  split
  · rfl
  · rfl
  · rename_i x _
    rw [dcOf_congr fun id hid => h id (by unfold AV.ment; exact hid)]
  · rfl
theorem optEv_congr {x : Option Operand} (h : ∀ y, x = some y → t.ev y = s.ev y) : optEv t x = optEv s x := by
  cases x with
  | none => rfl
  | some y => simp only [optEv, h y rfl]
theorem scalars_congr : ∀ {l : List Operand}, (∀ x, x ∈ l → t.ev x = s.ev x) → scalars t l = scalars s l
  | [], _ => rfl
  | x :: l, h => by
    simp only [scalars]
    rw [h x (by simp), scalars_congr fun y hy => h y (List.mem_cons_of_mem _ hy)]
theorem dptrs_congr : ∀ {l : List Operand}, (∀ x, x ∈ l → t.ev x = s.ev x) → dptrs t l = dptrs s l
  | [], _ => rfl
  | x :: l, h => by
    simp only [dptrs]
    rw [h x (by simp), dptrs_congr fun y hy => h y (List.mem_cons_of_mem _ hy)]
theorem capsOf_congr : ∀ {l : List Operand}, (∀ x, x ∈ l → t.ev x = s.ev x) → capsOf t l = capsOf s l
  | [], _ => rfl
  | x :: l, h => by
    simp only [capsOf]
    rw [h x (by simp), capsOf_congr fun y hy => h y (List.mem_cons_of_mem _ hy), dptrs_congr fun y hy => h y (List.mem_cons_of_mem _ hy)]
theorem buildF_congr {fs : List (Nat × Nat × Bool)} : ∀ {l : List (Nat × Operand)} {cs : List AC}, (∀ p, p ∈ l → t.ev p.2 = s.ev p.2) → buildF fs t cs l = buildF fs s cs l
  | [], cs, _ => rfl
  | (i, x) :: l, cs, h => by
    have ih : ∀ cs, buildF fs t cs l = buildF fs s cs l := fun cs => buildF_congr fun p hp => h p (List.mem_cons_of_mem _ hp)
    have hx : t.ev x = s.ev x := h (i, x) (by simp)
    simp only [buildF, hx, ih]
theorem cells_ment {v : AV} {cs : List AC} (h : v.cells = some cs) {id : Nat} (hm : cs.any (·.ment id) = true) : v.ment id = true := by
  cases v with
  | c x => cases h; unfold AV.ment; simpa using hm
  | agg xs => cases h; unfold AV.ment; exact hm
  | tup _ => cases h
  | any => cases h
  | emp => cases h
theorem buildSliceF_congr {sz : Nat} : ∀ {l : List (Nat × Operand)} {xs : List (List DC)}, (∀ p, p ∈ l → t.ev p.2 = s.ev p.2) → (∀ p, p ∈ l → ∀ id, (s.ev p.2).ment id = true → find t.rows id = find s.rows id) →
    buildSliceF sz t xs l = buildSliceF sz s xs l
  | [], xs, _, _ => rfl
  | (i, x) :: l, xs, h, h2 => by
    have ih : ∀ xs, buildSliceF sz t xs l = buildSliceF sz s xs l := fun xs => buildSliceF_congr (fun p hp => h p (List.mem_cons_of_mem _ hp)) (fun p hp => h2 p (List.mem_cons_of_mem _ hp))
    have hx : t.ev x = s.ev x := h (i, x) (by simp)
    simp only [buildSliceF, hx, ih]
    cases hc : (s.ev x).cells with
    | none => rfl
    | some cs =>
      simp only
      rw [dcsOf_congr fun id hid => h2 (i, x) (by simp) id (cells_ment hc hid)]

theorem callOf_congr {op : Op} (hA : Agree op.operands.toList s t) : callOf t op = callOf s op := by
  unfold callOf
  split
  · rename_i c
    split
    · rename_i x hc
      have hx : x ∈ (Op.call c).operands.toList := by simp [Op.operands, Call.operands, hc]
      have hargs : c.args.toList.map t.ev = c.args.toList.map s.ev := List.map_congr_left fun y hy => hA.ev y (by simp [Op.operands, Call.operands, hc]; exact .inr (by simpa using hy))
      rw [hA.ev x hx, hargs]
    · rfl
  · rfl

theorem callOf_ment {op : Op} {f : Nat} {xs : List AV} (h : callOf s op = some (f, xs)) : ∀ x, x ∈ xs → ∀ id, x.ment id = true → ∃ y, y ∈ op.operands.toList ∧ (s.ev y).ment id = true := by
  unfold callOf at h
  split at h
  · rename_i c
    split at h
    · rename_i z hc
      split at h
      · split at h
        · cases h
          intro x hx id hid
          simp only [List.mem_append, List.mem_map] at hx
          rcases hx with (⟨v, _, rfl⟩ | ⟨y, hy, rfl⟩) | ⟨v, _, rfl⟩
          · unfold scAV AV.ment at hid; simp [ment_d] at hid
          · exact ⟨y, by simp [Op.operands, Call.operands, hc]; exact .inr (by simpa using hy), hid⟩
          · unfold scAV AV.ment at hid; simp [ment_d] at hid
        · cases h
      · cases h
        intro x hx id hid
        simp only [List.mem_append, List.mem_map] at hx
        rcases hx with ⟨y, hy, rfl⟩ | ⟨v, _, rfl⟩
        · exact ⟨y, by simp [Op.operands, Call.operands, hc]; exact .inr (by simpa using hy), hid⟩
        · unfold AV.ment at hid; simp [ment_dptr] at hid
      · cases h
        intro x hx id hid
        simp only [List.mem_append, List.mem_map, List.mem_singleton] at hx
        rcases hx with ⟨y, hy, rfl⟩ | rfl
        · exact ⟨y, by simp [Op.operands, Call.operands, hc]; exact .inr (by simpa using hy), hid⟩
        · unfold AV.ment at hid; simp [ment_dptr] at hid
      · rename_i f' pre i' post he
        cases h
        intro x hx id hid
        simp only [List.mem_append, List.mem_map, List.mem_cons] at hx
        rcases hx with ⟨y, hy, rfl⟩ | ⟨v, _, rfl⟩ | rfl | ⟨v, _, rfl⟩
        · exact ⟨y, by simp [Op.operands, Call.operands, hc]; exact .inr (by simpa using hy), hid⟩
        · unfold AV.ment at hid; simp [ment_dptr] at hid
        · refine ⟨z, by simp [Op.operands, Call.operands, hc], ?_⟩
          rw [he]
          unfold AV.ment at hid ⊢
          rw [ment_ptr] at hid
          rw [ment_pclo]; exact hid
        · unfold AV.ment at hid; simp [ment_dptr] at hid
      · cases h
    · cases h
  · cases h

/-- The same result in a state that cannot be told apart, but for the side condition that the ids be free. -/
theorem effF_congr {d : Nat} {op : Op} {c : Prop} {v : AV} {rows : List (Nat × ARow)} (hA : Agree op.operands.toList s t) (h : effF T d op s = .ok c v rows) :
    ∃ c', effF T d op t = .ok c' v rows ∧ (c → (∀ id r, (id, r) ∈ rows → t.free id = true) → c') := by
  have same : effF T d op t = effF T d op s → ∃ c', effF T d op t = .ok c' v rows ∧ (c → (∀ id r, (id, r) ∈ rows → t.free id = true) → c') := fun e => ⟨c, by rw [e, h], fun hc _ => hc⟩
  cases op with
  | move x => exact same (by simp only [effF]; rw [hA.ev x (by simp [Op.operands])])
  | assign x => exact same (by simp only [effF]; rw [hA.ev x (by simp [Op.operands])])
  | pick a b e => exact same (by simp only [effF]; rw [hA.ev a (by simp [Op.operands]), hA.ev b (by simp [Op.operands]), hA.ev e (by simp [Op.operands])])
  | alloc ty =>
    simp only [effF] at h ⊢
    split at h
    · cases h; exact ⟨_, rfl, fun _ hf => hf d _ (List.mem_singleton.2 rfl)⟩
    · cases h
  | box ty x =>
    simp only [effF] at h ⊢
    rw [hA.ev x (by simp [Op.operands])]
    split at h
    · cases h; exact ⟨_, rfl, fun hc hf => ⟨hc.1, hf d _ (List.mem_singleton.2 rfl)⟩⟩
    · cases h
  | build ty parts =>
    refine same ?_
    simp only [effF]
    split
    · split
      · rw [buildF_congr fun p hp => hA.ev p.2 (by simp only [Op.operands, List.toList_toArray]; exact List.mem_map_of_mem hp)]
      · split
        · rw [buildF_congr fun p hp => hA.ev p.2 (by simp only [Op.operands, List.toList_toArray]; exact List.mem_map_of_mem hp)]
        · rfl
      · rfl
    · rfl
  | buildSlice ty n parts =>
    simp only [effF] at h ⊢
    have heq : ∀ (sz : Nat) (xs : List (List DC)), buildSliceF sz t xs parts.toList = buildSliceF sz s xs parts.toList := fun sz xs =>
      buildSliceF_congr (fun p hp => hA.ev p.2 (by simp only [Op.operands, List.toList_toArray]; exact List.mem_map_of_mem hp)) (fun p hp => hA.row p.2 (by simp only [Op.operands, List.toList_toArray]; exact List.mem_map_of_mem hp))
    simp only [heq]
    split at h
    · split at h
      · split at h
        · split at h
          · split at h
            · cases h
              exact ⟨_, rfl, fun hc hf => ⟨hf d _ (List.mem_singleton.2 rfl), hc.2⟩⟩
            · split at h <;> cases h <;> exact ⟨_, rfl, fun hc hf => ⟨hf d _ (List.mem_singleton.2 rfl), hc.2⟩⟩
          · cases h
        · cases h
      · cases h
    · cases h
  | makeSlice ty l c0 =>
    simp only [effF] at h ⊢
    rw [hA.ev l (by simp [Op.operands]), hA.ev c0 (by simp [Op.operands])]
    split at h
    · split at h
      · split at h
        · cases h
          exact ⟨_, rfl, fun hc hf => ⟨hf d _ (List.mem_singleton.2 rfl), hc.2⟩⟩
        · cases h
      · cases h
    · cases h
  | load ty x => exact same (by simp only [effF]; rw [hA.ev x (by simp [Op.operands]), loadF_congr (hA.row x (by simp [Op.operands]))])
  | fieldAddr ty x f => exact same (by simp only [effF]; rw [hA.ev x (by simp [Op.operands])])
  | field ty x f => exact same (by simp only [effF]; rw [hA.ev x (by simp [Op.operands])])
  | indexAddr ty x i => exact same (by simp only [effF]; rw [hA.ev x (by simp [Op.operands]), hA.ev i (by simp [Op.operands]), indexAddrF_congr (hA.row x (by simp [Op.operands]))])
  | index ty x i => exact same (by simp only [effF]; rw [hA.ev x (by simp [Op.operands]), hA.ev i (by simp [Op.operands])])
  | binOp op ty x y ty2 => exact same (by simp only [effF]; rw [hA.ev x (by simp [Op.operands]), hA.ev y (by simp [Op.operands])])
  | unOp op ty x => exact same (by simp only [effF]; rw [hA.ev x (by simp [Op.operands])])
  | nilCheck x => exact same (by simp only [effF]; rw [hA.ev x (by simp [Op.operands])])
  | convert src dst x => exact same (by simp only [effF]; rw [hA.ev x (by simp [Op.operands]), bytesF_congr (hA.row x (by simp [Op.operands]))])
  | slice ty x lo hi mx =>
    refine same ?_
    simp only [effF]
    rw [optEv_congr (s := s) (t := t) (x := lo) fun y hy => hA.ev y (by simp [Op.operands, hy]), optEv_congr (s := s) (t := t) (x := hi) fun y hy => hA.ev y (by simp [Op.operands, hy]),
      optEv_congr (s := s) (t := t) (x := mx) fun y hy => hA.ev y (by simp [Op.operands, hy]), hA.ev x (by simp [Op.operands])]
    split
    · rw [sliceF_congr (hA.row x (by simp [Op.operands]))]
    · rfl
  | extract x i => exact same (by simp only [effF]; rw [hA.ev x (by simp [Op.operands])])
  | makeFunc fn first captured =>
    refine same ?_
    simp only [effF]
    rw [scalars_congr (s := s) (t := t) (l := first.toList) fun y hy => hA.ev y (by simp [Op.operands]; exact .inl (by simpa using hy)), scalars_congr (s := s) (t := t) (l := captured.toList) fun y hy => hA.ev y (by simp [Op.operands]; exact .inr (by simpa using hy)),
      dptrs_congr (s := s) (t := t) (l := captured.toList) fun y hy => hA.ev y (by simp [Op.operands]; exact .inr (by simpa using hy)),
      capsOf_congr (s := s) (t := t) (l := captured.toList) fun y hy => hA.ev y (by simp [Op.operands]; exact .inr (by simpa using hy))]
  | call c0 =>
    by_cases hap : c0.callee = .builtin .append
    · have hops : ∀ x, x ∈ c0.args.toList → x ∈ (Op.call c0).operands.toList := fun x hx => by simp [Op.operands, Call.operands, hap]; simpa using hx
      simp only [effF, hap] at h ⊢
      split at h
      · rename_i y t' tx' hargs htys
        rw [hA.ev y (hops y (by rw [hargs]; simp))]
        split at h
        · split at h
          · split at h
            · cases h
              exact ⟨_, rfl, fun hc hf => ⟨hf d _ (List.mem_singleton.2 rfl), hc.2⟩⟩
            · cases h
          · cases h
        · cases h
      · rename_i x y t' tx' _ hargs htys
        rw [hA.ev x (hops x (by rw [hargs]; simp)), hA.ev y (hops y (by rw [hargs]; simp))]
        split at h
        · split at h
          · split at h
            · split at h
              · cases h
                exact ⟨_, rfl, fun hc hf => ⟨hf d _ (List.mem_singleton.2 rfl), hc.2⟩⟩
              · cases h
            · cases h
          · cases h
        · cases h
      · cases h
    refine same ?_
    simp only [effF]
    split
    · rename_i hcal
      have hops : ∀ x, x ∈ c0.args.toList → x ∈ (Op.call c0).operands.toList := fun x hx => by simp [Op.operands, Call.operands, hcal]; simpa using hx
      split
      · rename_i x ty hargs hty
        have hx := hops x (by rw [hargs]; simp)
        rw [hA.ev x hx]
        split
        · split
          · rw [lenF_congr (hA.row x hx)]
          · rfl
          · rfl
        · rfl
      · rfl
    · rename_i hcal
      have hops : ∀ x, x ∈ c0.args.toList → x ∈ (Op.call c0).operands.toList := fun x hx => by simp [Op.operands, Call.operands, hcal]; simpa using hx
      split
      · rename_i x y hargs
        rw [hA.ev x (hops x (by rw [hargs]; simp)), hA.ev y (hops y (by rw [hargs]; simp))]
      · rfl
    · rename_i hcal
      have hops : ∀ x, x ∈ c0.args.toList → x ∈ (Op.call c0).operands.toList := fun x hx => by simp [Op.operands, Call.operands, hcal]; simpa using hx
      split
      · rename_i x y hargs
        rw [hA.ev x (hops x (by rw [hargs]; simp)), hA.ev y (hops y (by rw [hargs]; simp))]
      · rfl
    · rename_i hcal; exact absurd hcal hap
    · rfl
  | _ => simp [effF] at h

/-- F1: an operation does the same in a state that it cannot tell apart. -/
theorem stepE_agree {P : Program} {o : Oper} {e : Eff} (h : stepE P T o s e) (hA : Agree o.op.operands.toList s t) (hf : ∀ id r, (id, r) ∈ e.rows → t.free id = true) : stepE P T o t e := by
  unfold stepE at h ⊢
  rw [callOf_congr hA]
  split at h
  · rename_i f xs hc
    have hm : ∀ x, x ∈ xs → ∀ id, x.ment id = true → find t.rows id = find s.rows id := by
      intro x hx id hid
      obtain ⟨y, hy, hm⟩ := callOf_ment hc x hx id hid
      exact hA.row y hy id hm
    rw [dvsOf_congr hm, dvsOf_congr (l := false) hm]
    split at h
    · obtain ⟨r, h1, h2, h3, rfl⟩ := h
      exact ⟨r, h1, h2, ⟨List.all_eq_true.2 fun p hp => hf p.1 p.2 hp, h3.2⟩, rfl⟩
    · exact h.elim
  · split at h
    · rename_i c v rows he
      obtain ⟨hc, rfl⟩ := h
      obtain ⟨c', h1, h2⟩ := effF_congr hA he
      rw [h1]
      exact ⟨h2 hc hf, rfl⟩
    · exact h.elim

end
end Go.Abs

