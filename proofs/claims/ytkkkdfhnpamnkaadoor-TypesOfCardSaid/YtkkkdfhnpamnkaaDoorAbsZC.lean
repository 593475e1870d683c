/-
  strings.Builder's Grow at a fresh builder, as a call on the caller's own rows.
-/
import Derived.Test.YtkkkdfhnpamnkaaDoorAbsZA
set_option linter.unusedSimpArgs false
set_option linter.unusedVariables false
namespace Go.Abs
open Go.RowKit Go.Shelf Go.Proofs

def sameW (w w' : World) : Prop := w'.heap = w.heap ∧ w'.os = w.os ∧ w'.tape = w.tape ∧ w'.output = w.output

section
variable {S : Nat → Nat → Prop} {w0 : World} {N : Fm} {g : Gh} {st : ASt} {a : Act} {w : World} {P : Program} {T : Tab}

theorem setCell_setRowO {w : World} {b : Nat} {cur : Array Value} {T : Nat} (h : w.heap[b]? = some (.cells cur T (0, 0))) (o : Nat) (v : Value) : w.setCell ⟨b, o, none⟩ v = w.setRow b (cur.setIfInBounds o v) := by
  have hlt := (Array.getElem?_eq_some_iff.1 h).1
  have hv := (Array.getElem?_eq_some_iff.1 h).2
  unfold World.setCell World.setRow
  congr 1
  apply Array.ext_getElem?
  intro k
  simp only [Array.getElem?_modify]
  by_cases hk : b = k
  · subst hk
    simp [h]
  · simp [hk]

theorem push_modify {α : Type} (h : Array α) (x : α) (b : Nat) (f : α → α) (hb : b < h.size) : (h.modify b f).push x = (h.push x).modify b f := by
  apply Array.ext_getElem?
  intro i
  rw [Array.getElem?_modify, Array.getElem?_push, Array.getElem?_push, Array.getElem?_modify, Array.size_modify]
  by_cases hi : i = h.size
  · rw [if_pos hi, if_neg (by omega), if_pos hi]
  · rw [if_neg hi, if_neg hi]
theorem alloc_setCell {w : World} {b : Nat} (hlt : b < w.heap.size) (o : Nat) (v : Value) (x : Obj) : ((w.setCell ⟨b, o, none⟩ v).alloc x).heap = ((w.alloc x).setCell ⟨b, o, none⟩ v).heap := by
  unfold World.alloc World.setCell
  exact push_modify _ _ _ _ hlt

theorem Meth.growB {f Ty e : Nat} (hent : ∀ args w, (callFunc f args).run P w = .ok (.enter f args) w)
    (hG : ∀ (b n : Nat) (w : World), w.heap[b]? = some (.cells #[.pointer none, .slice none 0 0] Ty (0, 0)) → n ≤ 281474976710656 → Calls P f #[.pointer (some ⟨b, 0, none⟩), .int .i64 n] w fun r w' => r = .returned (.tuple #[]) ∧
      (sameW (w.setCell ⟨b, 0, none⟩ (.pointer (some ⟨b, 0, none⟩))) w' ∨ ∃ cs : Array Value, cs.size ≤ maxLen ∧ sameW (((w.setCell ⟨b, 0, none⟩ (.pointer (some ⟨b, 0, none⟩))).alloc (.cells cs e)).setCell ⟨b, 1, none⟩ (.slice (some ⟨w.heap.size, 0, none⟩) 0 cs.size)) w'))
    {s : ASt} {b k : Nat} (hb : find s.rows b = some (.box Ty [.d (.sc (.pointer none)), .nil])) (hne : b ≠ k) (hk : s.free k = true) (n : Nat) (hn : n ≤ 281474976710656) :
    Meth P f s [.c (.ptr b 0), sint .i64 n] ⟨s.tmps, (b, .box Ty [.ptr b 0, .row k]) :: (k, .arr e 1 [] false) :: s.rows⟩ (.tup []) := by
  intro S w0 N g a w hcalm h vs hvs
  obtain ⟨u, v, rfl, hu, hv⟩ := all2_two hvs
  have hv := relV_sc hv
  subst hv
  unfold RelV at hu
  obtain ⟨_, bb, c, hg, rfl⟩ := hu
  obtain ⟨b', c', cur, hg', hh, hsz, _, hall⟩ := h.box hb
  rw [hg] at hg'; cases hg'
  obtain ⟨u0, u1, hcur, hr0, hr1⟩ := all2_two hall
  have hcur' : cur = #[u0, u1] := by apply Array.ext'; simpa using hcur
  subst hcur'
  have hu0 : u0 = .pointer none := by have := hr0.2; cases this; rfl
  have hu1 : u1 = .slice none 0 0 := hr1.2
  subst hu0 hu1
  have htup : ∀ {F : Nat → Nat → Prop} {rows : List (Nat × ARow)} {g' : Gh} {w' : World}, RelV F w' rows g' (.tuple #[]) (.tup []) := by
    intro F rows g' w'; unfold RelV; exact ⟨#[], rfl, by unfold RelVL; trivial⟩
  have hrk : find s.rows k = none := by
    cases hf : find s.rows k with
    | none => rfl
    | some r => exact absurd rfl (find_free_row hk hf).1
  -- the builder is used
  have h1 : Rel S w0 N g ⟨s.tmps, (b, .box Ty [.ptr b 0, .nil]) :: s.rows⟩ a (w.setCell ⟨bb, 0, none⟩ (.pointer (some ⟨bb, 0, none⟩))) := by
    rw [setCell_setRow hh]
    refine h.store (r := .box Ty [.ptr b 0, .nil]) (T := Ty) (cur := #[Value.pointer none, .slice none 0 0].setIfInBounds 0 (.pointer (some ⟨bb, 0, none⟩))) hb hg (fun o ho => ho) (fun e sz xs fl he => by cases he) ⟨_, hh⟩ (fun F' w' rows' hF hk hw' => ?_)
    refine ⟨bb, c, _, hg, hw', ?_⟩
    refine .cons ⟨rfl, bb, c, hg, rfl⟩ (.cons ⟨hr1.1, rfl⟩ .nil)
  generalize hw1 : w.setCell ⟨bb, 0, none⟩ (.pointer (some ⟨bb, 0, none⟩)) = w1 at *
  have hfr1 : (ASt.mk s.tmps ((b, ARow.box Ty [.ptr b 0, .nil]) :: s.rows)).free k = true := by
    unfold ASt.free at hk ⊢
    simp only [List.all_cons, Bool.and_eq_true] at hk ⊢
    refine ⟨hk.1, ?_, hk.2⟩
    simp [ARow.ment, AC.ment, AC.id?, hne]
  left
  refine ⟨hent _ _, (hG bb n w hh hn).mono ?_⟩
  rintro r w' ⟨rfl, hp⟩
  rw [hw1] at hp
  rcases hp with ⟨e1, e2, e3, e4⟩ | ⟨cs, hcs, e1, e2, e3, e4⟩
  · have hno : (ASt.mk s.tmps ((b, ARow.box Ty [.ptr b 0, .nil]) :: s.rows)).nomenB k = true := by
      unfold ASt.free at hfr1
      unfold ASt.nomenB
      rw [Bool.and_eq_true] at hfr1 ⊢
      refine ⟨hfr1.1, List.all_eq_true.2 fun p hp => ?_⟩
      have := List.all_eq_true.1 hfr1.2 p hp
      simp only [Bool.and_eq_true] at this
      exact this.2
    have h2 := (h1.bear (nomen_of hno) e 1).nilCell (j := 1) hne (by rw [find_set_ne hne]; exact find_set_eq) rfl find_set_eq (updG_eq _ _ _)
    refine ⟨_, _, rfl, (h2.heap e1 e2 e3 e4).congr (fun _ => rfl) fun id => ?_, htup⟩
    simp only [find, List.set]
    split
    · rfl
    · split
      · rfl
      · rfl
  · have hw1s : w1.heap.size = w.heap.size := by rw [← hw1]; simp [World.setCell]
    have hbl := h1.blk b _ bb c find_set_eq hg
    have hnews := (h1.news (w' := w1.alloc (.cells cs e)) (Below.alloc (Below.refl _ _) (Nat.le_refl _) _) (ns := [(k, .arr e 1 [] false)]) (gN := fun _ => some (w1.heap.size, cs.size)) (g' := updG g k (some (w1.heap.size, cs.size)))
      (fun id => by by_cases hid : id = k <;> simp [find, updG, hid]) (fun id r hf => by simp only [find] at hf; split at hf; (rename_i e; subst e; exact hfr1); cases hf)
      (fun id r b c hf hg => by cases hg; exact ⟨Nat.le_refl _, by simp⟩)
      (fun id id' r r' b c c' hf hf' _ _ => by simp only [find] at hf hf'; split at hf; (split at hf'; (rename_i e e'; rw [e, e']); cases hf'); cases hf)
      (fun id r hf => by
        simp only [find] at hf
        split at hf
        · rename_i e'; cases hf; subst e'
          refine ⟨fun i x hx => by simp at hx, .inr ⟨_, _, cs, updG_eq _ _ _, heap_alloc_new w1 _, by simp, hcs, by simp, fun i j x d hx => by simp at hx⟩⟩
        · cases hf)).2
    have hbk : find ((k, ARow.arr e 1 [] false) :: (b, ARow.box Ty [.ptr b 0, .nil]) :: s.rows) b = some (.box Ty [.ptr b 0, .nil]) := by
      rw [find_set_ne hne]; exact find_set_eq
    obtain ⟨b3, c3, cur3, hg3, hh3, hall3⟩ := hnews.rows b _ hbk
    have hg3' : updG g k (some (w1.heap.size, cs.size)) b = some (bb, c) := by unfold updG; rw [if_neg hne]; exact hg
    rw [hg3'] at hg3; cases hg3
    obtain ⟨x0, x1, hc3, hx0, hx1⟩ := all2_two hall3
    have hcur3 : cur3 = #[x0, x1] := by apply Array.ext'; simpa using hc3
    subst hcur3
    have h3 := hnews.store (id := b) (b := bb) (c := c) (r := .box Ty [.ptr b 0, .row k]) (T := Ty) (cur := #[x0, x1].setIfInBounds 1 (.slice (some ⟨w1.heap.size, 0, none⟩) 0 cs.size)) hbk hg3' (fun o ho => ho) (fun e sz xs fl he => by cases he) ⟨_, hh3⟩ (fun F' w' rows' hF hkk hw' => by
      refine ⟨bb, c, _, hg3', hw', ?_⟩
      refine .cons ⟨hx0.1, hx0.2.carry hF fun id' _ => ⟨rfl, hkk id'⟩⟩ (.cons ⟨rfl, ?_⟩ .nil)
      obtain ⟨xs', fl', q1, q2⟩ := hkk k e 1 [] false find_set_eq
      have hxs : xs' = [] := by simpa using q2
      subst hxs
      exact ⟨e, 1, [], fl', q1, by rw [updG_eq]; rfl⟩)
    rw [← setCell_setRowO hh3] at h3
    rw [← hw1s] at e1
    refine ⟨_, _, rfl, (h3.heap e1 e2 e3 e4).congr (fun _ => rfl) fun id => ?_, htup⟩
    by_cases hib : id = b
    · simp [find, hib]
    · by_cases hik : id = k <;> simp [find, hib, hik]
end
end Go.Abs
