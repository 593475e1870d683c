/-
  A call that only reads the caller's own rows: what the callee is handed is data for as long as it runs.
-/
import Derived.Test.YtkkkdfhnpamnkaaDoorAbsZ
set_option linter.unusedSimpArgs false
set_option linter.unusedVariables false
namespace Go.Abs
open Go.RowKit

/-- A value as it is lent to a function that only reads: a pointer to an own box, too. -/
def dvLend (rows : List (Nat × ARow)) : AV → Option DV
  | .c (.ptr id off) => match find rows id with
    | some (.box _ cs) => match dcsOf true rows cs with
      | some ys => some (.ptr (ys.drop off))
      | none => none
    | _ => none
  | x => dvOf true rows x
def dvsLend (rows : List (Nat × ARow)) : List AV → Option (List DV)
  | [] => some []
  | x :: xs => match dvLend rows x, dvsLend rows xs with
    | some y, some ys => some (y :: ys)
    | _, _ => none
attribute [go_sem] dvLend dvsLend

section
variable {S : Nat → Nat → Prop} {w0 : World} {N : Fm} {g : Gh} {st : ASt} {a : Act} {w : World} {P : Program} {T : Tab} {ro : Option Nat}

theorem dvLend_sound (h : Rel S w0 N g st a w) {v : Value} {x : AV} {y : DV} (hv : RelV (Sf w0.heap.size S st.rows g) w st.rows g v x) (hy : dvLend st.rows x = some y) : RelDV (fun _ _ => True) w v y := by
  unfold dvLend at hy
  split at hy
  · rename_i id off
    split at hy
    · rename_i T cs hf
      split at hy
      · rename_i ys hys
        cases hy
        unfold RelV at hv
        obtain ⟨_, b, c, hg, rfl⟩ := hv
        obtain ⟨b', c', cur, hg', hh, hall⟩ := h.rows id _ hf
        rw [hg] at hg'; cases hg'
        have hd := dcs_sound (lent := true) h hall hys
        refine ⟨b, off, fun j => (cur[off + j]?).getD undef, rfl, fun j d hj => ?_⟩
        rw [List.getElem?_drop] at hj
        obtain ⟨u, hu, hr⟩ := hd.get hj
        have hcu : cur[off + j]? = some u := by simpa using hu
        refine ⟨trivial, ?_, ?_⟩
        · rw [cl_row hh, hcu]; simp only [hcu, Option.getD_some]
        · simp only [hcu, Option.getD_some]
          exact hr.sub fun _ _ _ => trivial
      · cases hy
    · cases hy
  · have := dvs_sound' (lent := true) h (.cons hv .nil) (ys := [y]) (by unfold dvsOf dvsOf; rw [hy])
    cases this with
    | cons h1 _ => exact h1.mono fun b o _ _ => ⟨trivial, rfl⟩
theorem dvsLend_sound (h : Rel S w0 N g st a w) : ∀ {vs : List Value} {xs : List AV} {ys : List DV}, All2 (RelV (Sf w0.heap.size S st.rows g) w st.rows g) vs xs → dvsLend st.rows xs = some ys → All2 (RelDV (fun _ _ => True) w) vs ys := by
  intro vs xs ys hv
  induction hv generalizing ys with
  | nil => intro hy; cases hy; exact .nil
  | cons h1 _ ih =>
    intro hy
    unfold dvsLend at hy
    split at hy
    · rename_i y ys' hy1 hy2
      cases hy
      exact .cons (dvLend_sound h h1 hy1) (ih hy2)
    · cases hy

/-- A CALL THAT ONLY READS, and gives a scalar. -/
theorem Meth.read {f : Nat} {s : ASt} {xs : List AV} {dvs : List DV} {v : Value} (hx : dvsLend s.rows xs = some dvs) (hG : Gives P f dvs (.one (.c (.d (.sc v))))) : Meth P f s xs s (.c (.d (.sc v))) := by
  intro S w0 N g a w hcalm h vs hvs
  have hcf := hG (fun _ _ => True) w vs (h.goodW.sub fun _ _ _ => trivial) (dvsLend_sound h hvs hx)
  have fin : ∀ e w', Post (fun _ _ => True) w (.one (.c (.d (.sc v)))) e w' → ∃ u g', e = .returned u ∧ Rel S w0 N g' s a w' ∧ RelV (Sf w0.heap.size S s.rows g') w' s.rows g' u (.c (.d (.sc v))) := by
    intro e w' hp
    obtain ⟨u, fb, rfl, hb, _, _, hr⟩ := hp
    refine ⟨u, g, rfl, h.grow hb, ?_⟩
    obtain ⟨h1, h2⟩ := hr
    unfold RelV
    refine ⟨h1, ?_⟩
    cases h2 with
    | sc _ h3 => exact .sc _ h3
  rcases hcf with ⟨hrun, hcalls⟩ | ⟨u, w', hrun, hp⟩
  · exact .inl ⟨hrun, hcalls.mono fun e w' hp => fin e w' hp⟩
  · exact .inr ⟨u, w', hrun, fin _ _ hp⟩
end
end Go.Abs
