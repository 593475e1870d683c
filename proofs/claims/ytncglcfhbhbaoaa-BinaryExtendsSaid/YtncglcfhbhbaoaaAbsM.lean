/-
  Regions in the order of the text, control, and functions.
-/
import Derived.Test.YtncglcfhbhbaoaaAbsL
import Derived.Sort.LoopGhostIn
set_option linter.unusedSimpArgs false
set_option linter.unusedVariables false
namespace Go.Abs
open Go.RowKit

/-- What a guard's slot says: a Bool, or nothing (the operation that writes it was passed over). -/
def gval (ops : Array Oper) (s : ASt) (j : Nat) : Option (Option Bool) :=
  match (ops[j]?).bind (·.dst) with
  | some d => match find s.tmps d with
    | some (.c (.d (.sc (.bool b)))) => some (some b)
    | some (.tup []) => some none
    | _ => none
  | none => none

def stepG (m : Bool) (P : Program) (T : Tab) (ops : Array Oper) (o : Oper) (K : ASt → Prop) (s : ASt) : Prop :=
  match o.guard with
  | none => stepA m P T o K s
  | some (j, want) => match gval ops s j with
    | some (some b) => if b = want then stepA m P T o K s else K (s.put o.dst (.tup []))
    | some none => K (s.put o.dst (.tup []))
    | none => False

def aOps (m : Bool) (P : Program) (T : Tab) (ops : Array Oper) : List Oper → (ASt → Prop) → ASt → Prop
  | [], K, s => K s
  | o :: l, K, s => stepG m P T ops o (aOps m P T ops l K) s

def dstOk (N : Nat) (ops : List Oper) : Bool := ops.all fun o => match o.dst with | some i => decide (i < N) | none => true

def AWp (ro : Option Nat) (P : Program) (N : Fm) (c : Code) (Q : Exit → ASt → Prop) (st : ASt) : Prop :=
  ∀ S w0 g a w, Rel S w0 N g st a w → c.wpIn (Fr ro) 0 P (fun e a' w' => ∃ g' st', Rel S w0 N g' st' a' w' ∧ Q e st') a w

def thenL (K : ASt → Prop) (Q : Exit → ASt → Prop) : Exit → ASt → Prop
  | .normal, s => K s
  | e, s => Q e s

def wpL (ro : Option Nat) (P : Program) (N : Fm) : List Code → (Exit → ASt → Prop) → ASt → Prop
  | [], Q, s => Q .normal s
  | c :: l, Q, s => AWp ro P N c (thenL (wpL ro P N l Q) Q) s

def flat : Code → List Code
  | .seq a b => flat a ++ flat b
  | c => [c]

section
variable {S : Nat → Nat → Prop} {w0 : World} {N : Fm} {g : Gh} {st : ASt} {a : Act} {w : World} {P : Program} {T : Tab} {ro : Option Nat}

theorem gval_sound (h : Rel S w0 N g st a w) {ops : Array Oper} {j : Nat} {b : Option Bool} (hg : gval ops st j = some b) : yielded ops a.tmps j = b := by
  unfold gval at hg
  unfold yielded
  cases hd : (ops[j]?).bind (·.dst) with
  | none => rw [hd] at hg; cases hg
  | some d =>
    rw [hd] at hg
    simp only at hg
    simp only [Option.bind_some]
    split at hg
    · rename_i b' hf
      cases hg
      obtain ⟨v, hv, hr⟩ := h.tmps d _ hf
      rw [hv, relV_sc hr]
    · rename_i hf
      cases hg
      obtain ⟨v, hv, hr⟩ := h.tmps d _ hf
      unfold RelV at hr
      obtain ⟨vs, rfl, _⟩ := hr
      rw [hv]
    · cases hg

theorem rel_undef (h : Rel S w0 N g st a w) {d : Option Nat} (hd : ∀ i, d = some i → i < N.n) : Rel S w0 N g (st.put d (.tup [])) (a.put d undef) w := by
  refine h.put' hd ?_
  unfold RelV
  exact ⟨#[], rfl, by unfold RelVL; trivial⟩

theorem stepG_sound {m : Bool} (hm : m = true → N.calm = true) (hT : TabOk P T) (h : Rel S w0 N g st a w) {ops : Array Oper} (o : Oper) (hd : ∀ i, o.dst = some i → i < N.n) {K : ASt → Prop} (hK : stepG m P T ops o K st) {Q : Exit → Act → World → Prop} {K' : Act → World → Prop}
    (hK' : ∀ g' st' a' w', Rel S w0 N g' st' a' w' → K st' → K' a' w') :
    if Region.wanted o (yielded ops a.tmps) then o.wpIn (Fr ro) 0 P a w K' Q else (∀ f, o.about P w a.eval = some f → (Fr ro).fn f) ∧ K' (a.put o.dst undef) w := by
  unfold stepG at hK
  split at hK
  · rename_i hg
    rw [if_pos (by simp [Region.wanted, hg])]
    exact Oper.wpIn_mono (fun a' w' ⟨g', st', h1, h2⟩ => hK' g' st' a' w' h1 h2) (step_sound hm hT h o hd hK)
  · rename_i j want hg
    split at hK
    · rename_i b hgv
      have hy := gval_sound h hgv
      by_cases hb : b = want
      · rw [if_pos hb] at hK
        subst hb
        rw [if_pos (by simp [Region.wanted, hg, hy])]
        exact Oper.wpIn_mono (fun a' w' ⟨g', st', h1, h2⟩ => hK' g' st' a' w' h1 h2) (step_sound hm hT h o hd hK)
      · rw [if_neg hb] at hK
        rw [if_neg (by simp [Region.wanted, hg, hy]; exact hb)]
        exact ⟨fun _ _ => trivial, hK' _ _ _ _ (rel_undef h hd) hK⟩
    · rename_i hgv
      have hy := gval_sound h hgv
      rw [if_neg (by simp [Region.wanted, hg, hy])]
      exact ⟨fun _ _ => trivial, hK' _ _ _ _ (rel_undef h hd) hK⟩
    · exact hK.elim

theorem aOps_sound {m : Bool} (hm : m = true → N.calm = true) (hT : TabOk P T) {ops : Array Oper} {K : ASt → Prop} {Q : Exit → Act → World → Prop} (hQ : ∀ g' st' a' w', Rel S w0 N g' st' a' w' → K st' → Q .normal a' w') :
    ∀ (l : List Oper), dstOk N.n l = true → ∀ {g : Gh} {st : ASt} {a : Act} {w : World}, Rel S w0 N g st a w → aOps m P T ops l K st → wpListIn (Fr ro) 0 P ops Q l a w
  | [], _, _, _, _, _, h, hK => hQ _ _ _ _ h hK
  | o :: l, hl, g, st, a, w, h, hK => by
    simp only [dstOk, List.all_cons, Bool.and_eq_true] at hl
    have hd : ∀ i, o.dst = some i → i < N.n := by
      intro i hi
      have := hl.1
      rw [hi] at this
      simpa using this
    refine wpListIn_step fun K' hK' => ?_
    exact stepG_sound hm hT h o hd hK fun g' st' a' w' h1 h2 => hK' _ _ (aOps_sound hm hT hQ l hl.2 h1 h2)

theorem AWp_region (hT : TabOk P T) {id : Nat} {ops : Array Oper} {Q : Exit → ASt → Prop} (hl : dstOk N.n ops.toList = true) (h : aOps N.calm P T ops ops.toList (Q .normal) st) : AWp ro P N (.region id ops false) Q st := by
  intro S w0 g a w hr
  exact wpIn_region_list (aOps_sound (m := N.calm) (fun hm => hm) hT (fun g' st' a' w' h1 h2 => ⟨g', st', h1, h2⟩) _ hl hr h)

theorem AWp_mono {c : Code} {Q Q' : Exit → ASt → Prop} (hq : ∀ e s, Q e s → Q' e s) (h : AWp ro P N c Q st) : AWp ro P N c Q' st :=
  fun S w0 g a w hr => wpIn_mono (h S w0 g a w hr) fun e a' w' ⟨g', st', h1, h2⟩ => ⟨g', st', h1, hq _ _ h2⟩

theorem AWp_seq {x y : Code} {Q : Exit → ASt → Prop} (h : AWp ro P N x (thenL (AWp ro P N y Q) Q) st) : AWp ro P N (.seq x y) Q st := by
  intro S w0 g a w hr
  refine wpIn_seq (wpIn_mono (h S w0 g a w hr) fun e a' w' ⟨g', st', h1, h2⟩ => ?_)
  cases e with
  | normal => exact h2 S w0 g' a' w' h1
  | _ => exact ⟨g', st', h1, h2⟩

theorem thenL_mono {K K' : ASt → Prop} {Q Q' : Exit → ASt → Prop} (hK : ∀ s, K s → K' s) (hQ : ∀ e s, Q e s → Q' e s) (e : Exit) (s : ASt) (h : thenL K Q e s) : thenL K' Q' e s := by
  cases e with
  | normal => exact hK s h
  | _ => exact hQ _ s h

theorem wpL_append : ∀ (l m : List Code) (Q : Exit → ASt → Prop) (st : ASt), wpL ro P N (l ++ m) Q st → wpL ro P N l (thenL (wpL ro P N m Q) Q) st
  | [], m, Q, st, h => h
  | c :: l, m, Q, st, h => by
    refine AWp_mono (fun e s hs => ?_) h
    cases e with
    | normal => exact wpL_append l m Q s hs
    | _ => exact hs

theorem AWp_flat : ∀ (c : Code) {Q : Exit → ASt → Prop} {st : ASt}, wpL ro P N (flat c) Q st → AWp ro P N c Q st := by
  intro c
  induction c with
  | seq x y ihx ihy =>
    intro Q st h
    refine AWp_seq (ihx ?_)
    have := wpL_append (flat x) (flat y) Q st h
    have mono : ∀ (l : List Code) (Q Q' : Exit → ASt → Prop) (st : ASt), (∀ e s, Q e s → Q' e s) → wpL ro P N l Q st → wpL ro P N l Q' st := by
      intro l
      induction l with
      | nil => intro Q Q' st hq h; exact hq _ _ h
      | cons c l ih => intro Q Q' st hq h; exact AWp_mono (thenL_mono (fun s hs => ih Q Q' s hq hs) hq) h
    exact mono _ _ _ _ (thenL_mono (fun s hs => ihy hs) fun _ _ h => h) this
  | _ =>
    intro Q st h
    exact AWp_mono (fun e s hs => by cases e <;> exact hs) h

theorem wpL_mono : ∀ (l : List Code) {Q Q' : Exit → ASt → Prop} {st : ASt}, (∀ e s, Q e s → Q' e s) → wpL ro P N l Q st → wpL ro P N l Q' st
  | [], _, _, _, hq, h => hq _ _ h
  | c :: l, _, _, _, hq, h => AWp_mono (thenL_mono (fun s hs => wpL_mono l hq hs) hq) h

/-- A code at the head of a list, taken apart. -/
theorem wpL_flat {c : Code} {l : List Code} {Q : Exit → ASt → Prop} (h : wpL ro P N (flat c ++ l) Q st) : wpL ro P N (c :: l) Q st :=
  AWp_flat c (wpL_append _ _ _ _ h)

theorem wpL_region (hT : TabOk P T) {id : Nat} {ops : Array Oper} {l : List Code} {Q : Exit → ASt → Prop} (hl : dstOk N.n ops.toList = true) (h : aOps N.calm P T ops ops.toList (wpL ro P N l Q) st) : wpL ro P N (.region id ops false :: l) Q st :=
  AWp_region hT hl h

theorem wpL_ret {l : List Code} {Q : Exit → ASt → Prop} (h : Q .ret st) : wpL ro P N (.ret :: l) Q st :=
  fun S w0 g a w hr => wpIn_ret ⟨g, st, hr, h⟩
theorem wpL_skip {l : List Code} {Q : Exit → ASt → Prop} (h : wpL ro P N l Q st) : wpL ro P N (.skip :: l) Q st :=
  fun S w0 g a w hr => wpIn_skip ⟨g, st, hr, h⟩
theorem wpL_label {l : List Code} {Q : Exit → ASt → Prop} {k : Nat} (h : wpL ro P N l Q st) : wpL ro P N (.label k :: l) Q st :=
  fun S w0 g a w hr => wpIn_label ⟨g, st, hr, h⟩
theorem wpL_exit {l : List Code} {Q : Exit → ASt → Prop} {id : Nat} (h : Q (.exit id) st) : wpL ro P N (.exit id :: l) Q st :=
  fun S w0 g a w hr => wpIn_exit ⟨g, st, hr, h⟩

theorem wpL_cond {c : Operand} {x y : Code} {l : List Code} {Q : Exit → ASt → Prop} {t : Bool} (hc : st.ev c = .c (.d (.sc (.bool t)))) (h1 : t = true → wpL ro P N (flat x ++ l) Q st) (h2 : t = false → wpL ro P N (flat y ++ l) Q st) :
    wpL ro P N (.cond c x y :: l) Q st := by
  intro S w0 g a w hr
  have hv := hr.ev c
  rw [hc] at hv
  cases t with
  | true => exact wpIn_cond (t := true) (relV_sc hv) (wpL_flat (h1 rfl) S w0 g a w hr)
  | false => exact wpIn_cond (t := false) (relV_sc hv) (wpL_flat (h2 rfl) S w0 g a w hr)

def blockQ (id : Nat) (K : ASt → Prop) (Q : Exit → ASt → Prop) : Exit → ASt → Prop
  | .normal, s => K s
  | .exit id', s => if id' = id then K s else Q (.exit id') s
  | e, s => Q e s

theorem wpL_block {id : Nat} {c : Code} {l : List Code} {Q : Exit → ASt → Prop} (h : wpL ro P N (flat c) (blockQ id (wpL ro P N l Q) Q) st) : wpL ro P N (.block id c :: l) Q st := by
  intro S w0 g a w hr
  refine wpIn_block (wpIn_mono (AWp_flat c h S w0 g a w hr) fun e a' w' ⟨g', st', h1, h2⟩ => ?_)
  cases e with
  | exit id' =>
    simp only [blockQ] at h2
    simp only [Exit.inBlock]
    split
    · rename_i e; rw [if_pos e] at h2; exact ⟨g', st', h1, h2⟩
    · rename_i e; rw [if_neg e] at h2; exact ⟨g', st', h1, h2⟩
  | _ => exact ⟨g', st', h1, h2⟩

/-- What s' says s says, too. -/
def ASt.le (s' s : ASt) : Prop := (∀ i x, find s'.tmps i = some x → find s.tmps i = some x) ∧ (∀ i r, find s'.rows i = some r → find s.rows i = some r) ∧
  ∀ i e sz xs fl, find s.rows i = some (.arr e sz xs fl) → find s'.rows i = some (.arr e sz xs fl) ∨ s'.nomen i

theorem RelAC.drop {F F' : Nat → Nat → Prop} {rows rows' : List (Nat × ARow)} (hF : ∀ b o, F b o → F' b o) {u : Value} {x : AC}
    (hx : ∀ id, x.id? = some id → ∀ e sz xs fl, find rows id = some (.arr e sz xs fl) → find rows' id = some (.arr e sz xs fl)) (h : RelAC F w rows g u x) : RelAC F' w rows' g u x :=
  h.carry (fun b o hb _ => ⟨hF b o hb, rfl⟩) fun id hid => ⟨rfl, fun e sz xs fl hf => ⟨xs, fl, hx id hid e sz xs fl hf, rfl⟩⟩

theorem Rel.weaken {s' : ASt} (hle : s'.le st) (h : Rel S w0 N g st a w) : Rel S w0 N g s' a w := by
  obtain ⟨h1, h2, h3⟩ := hle
  have hF : ∀ b o, Sf w0.heap.size S st.rows g b o → Sf w0.heap.size S s'.rows g b o := by
    intro b o hs
    rcases hs with hs | ⟨q1, q2⟩
    · exact .inl hs
    · exact .inr ⟨q1, fun id r c hf hg => q2 id r c (h2 id r hf) hg⟩
  have hc : ∀ b o, Sf w0.heap.size S st.rows g b o → b < w.heap.size → Sf w0.heap.size S s'.rows g b o ∧ cl w b o = cl w b o := fun b o hs _ => ⟨hF b o hs, rfl⟩
  refine ⟨h.below, h.size, h.calm, h.good, h.defers, fun id r b c hf hg => h.blk id r b c (h2 id r hf) hg, fun id id' r r' b c c' hf hf' hg hg' => h.inj id id' r r' b c c' (h2 _ _ hf) (h2 _ _ hf') hg hg', fun id r hf => ?_, fun i x hx => ?_⟩
  · refine (h.rows id r (h2 id r hf)).carry hc rfl (fun _ _ _ => rfl) (NonC.refl _) fun id2 hm => ⟨rfl, fun e sz xs fl hf2 => ?_⟩
    rcases h3 id2 e sz xs fl hf2 with h4 | h4
    · exact ⟨xs, fl, h4, rfl⟩
    · have := h4.2 id r hf; rw [this] at hm; cases hm
  · obtain ⟨v, hv, hr⟩ := h.tmps i x (h1 i x hx)
    refine ⟨v, hv, hr.carry hc fun id2 hm => ⟨rfl, fun e sz xs fl hf2 => ?_⟩⟩
    rcases h3 id2 e sz xs fl hf2 with h4 | h4
    · exact ⟨xs, fl, h4, rfl⟩
    · have := h4.1 i x hx; rw [this] at hm; cases hm

theorem AWp_weaken {s' : ASt} {c : Code} {Q : Exit → ASt → Prop} (hle : s'.le st) (h : AWp ro P N c Q s') : AWp ro P N c Q st :=
  fun S w0 g a w hr => h S w0 g a w (hr.weaken hle)

theorem wpL_weaken {s' : ASt} {c : Code} {l : List Code} {Q : Exit → ASt → Prop} (hle : s'.le st) (h : wpL ro P N (c :: l) Q s') : wpL ro P N (c :: l) Q st := AWp_weaken hle h

/-- A loop. I n: what holds at a round's head when at most n rounds are to come. -/
theorem wpL_loop (I : Nat → ASt → Prop) {c : Code} {l : List Code} {Q : Exit → ASt → Prop} (h0 : ∃ n s', I n s' ∧ s'.le st)
    (round : ∀ n s, I n s → wpL ro P N (flat c) (thenL (fun s2 => ∃ m s', m < n ∧ I m s' ∧ s'.le s2) (thenL (wpL ro P N l Q) Q)) s) : wpL ro P N (.loop c :: l) Q st := by
  intro S w0 g a w hr
  obtain ⟨n0, s0, hI, hle⟩ := h0
  refine wpIn_loop_ghost (fun n a w => ∃ g s, Rel S w0 N g s a w ∧ I n s) n0 ⟨g, s0, hr.weaken hle, hI⟩ fun n a w ⟨g, s, hs, hIs⟩ => ?_
  refine wpIn_mono (AWp_flat c (round n s hIs) S w0 g a w hs) fun e a' w' ⟨g', s2, h1, h2⟩ => ?_
  cases e with
  | normal =>
    obtain ⟨m, s', hm, hIm, hle'⟩ := h2
    exact ⟨m, hm, g', s', h1.weaken hle', hIm⟩
  | _ => exact ⟨g', s2, h1, h2⟩

end
end Go.Abs
