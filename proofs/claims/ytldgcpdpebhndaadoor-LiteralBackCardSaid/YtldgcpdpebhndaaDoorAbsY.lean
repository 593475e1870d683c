/-
  The library's strings.Builder: its copy check and its String, as calls on the caller's own rows.
-/
import Derived.Test.YtldgcpdpebhndaaDoorAbsX
import Derived.Shelf.Strings.Builder1
set_option linter.unusedSimpArgs false
set_option linter.unusedVariables false
namespace Go.Abs
open Go.RowKit Go.Shelf Go.Proofs

section
variable {S : Nat → Nat → Prop} {w0 : World} {N : Fm} {g : Gh} {st : ASt} {a : Act} {w : World} {P : Program} {T : Tab} {ρ : Ren}

theorem all2_one {α β : Type} {R : α → β → Prop} {l : List α} {y : β} (h : All2 R l [y]) : ∃ x, l = [x] ∧ R x y := by
  cases h with
  | cons h t => cases t; exact ⟨_, rfl, h⟩
theorem all2_two {α β : Type} {R : α → β → Prop} {l : List α} {y z : β} (h : All2 R l [y, z]) : ∃ x x', l = [x, x'] ∧ R x y ∧ R x' z := by
  cases h with
  | cons h t => obtain ⟨x', rfl, h'⟩ := all2_one t; exact ⟨_, _, rfl, h, h'⟩

theorem setCell_setRow {w : World} {b : Nat} {cur : Array Value} {T : Nat} (h : w.heap[b]? = some (.cells cur T (0, 0))) (v : Value) : w.setCell ⟨b, 0, none⟩ v = w.setRow b (cur.setIfInBounds 0 v) := by
  have hlt := (Array.getElem?_eq_some_iff.1 h).1
  have hv := (Array.getElem?_eq_some_iff.1 h).2
  unfold World.setCell World.setRow
  congr 1
  apply Array.ext_getElem?
  intro k
  simp only [Array.getElem?_modify]
  by_cases hk : b = k
  · subst hk
    simp [h]
  · simp [hk]

/-- What copyCheck leaves: the builder is used. -/
def ASt.used (s : ASt) (b T : Nat) (x : AC) : ASt := ⟨s.tmps, (b, .box T [.ptr b 0, x]) :: s.rows⟩

theorem Meth.copyCheck {f Ty : Nat} (hent : ∀ args w, (callFunc f args).run P w = .ok (.enter f args) w)
    (hU : ∀ (b : Nat) (w : World), w.cell? ⟨b, 0, none⟩ = some (.pointer (some ⟨b, 0, none⟩)) → Calls P f #[.pointer (some ⟨b, 0, none⟩)] w fun e w' => e = .returned (.tuple #[]) ∧ w' = w)
    (hF : ∀ (b : Nat) (w : World), w.cell? ⟨b, 0, none⟩ = some (.pointer none) → w.shape? b = some (Ty, 2) → w.frozen? ⟨b, 0, none⟩ = false → Calls P f #[.pointer (some ⟨b, 0, none⟩)] w fun e w' => e = .returned (.tuple #[]) ∧ w' = w.setCell ⟨b, 0, none⟩ (.pointer (some ⟨b, 0, none⟩)))
    {s : ASt} {b : Nat} {x0 x1 : AC} (hb : find s.rows b = some (.box Ty [x0, x1])) (h0 : x0 = .d (.sc (.pointer none)) ∨ x0 = .ptr b 0) :
    Meth P f s [.c (.ptr b 0)] (s.used b Ty x1) (.tup []) := by
  intro S w0 N g a w hcalm h vs hvs
  obtain ⟨u, rfl, hu⟩ := all2_one hvs
  unfold RelV at hu
  obtain ⟨_, bb, c, hg, rfl⟩ := hu
  obtain ⟨b', c', cur, hg', hh, hsz, _, hall⟩ := h.box hb
  rw [hg] at hg'; cases hg'
  obtain ⟨u0, u1, hcur, hr0, hr1⟩ := all2_two hall
  have hcur' : cur = #[u0, u1] := by apply Array.ext'; simpa using hcur
  subst hcur'
  have htup : ∀ {g' : Gh} {w' : World}, RelV (Sf w0.heap.size S (s.used b Ty x1).rows g') w' (s.used b Ty x1).rows g' (.tuple #[]) (.tup []) := by
    intro g' w'; unfold RelV; exact ⟨#[], rfl, by unfold RelVL; trivial⟩
  left
  refine ⟨hent _ _, ?_⟩
  rcases h0 with rfl | rfl
  · have hu0 : u0 = .pointer none := by have := hr0.2; cases this; rfl
    subst hu0
    refine (hF bb w (by simp [World.cell?, hh]) (by simp [World.shape?, hh]) (by simp [World.frozen?, hh])).mono ?_
    rintro e w' ⟨rfl, rfl⟩
    rw [setCell_setRow hh]
    refine ⟨_, g, rfl, ?_, htup⟩
    refine h.store (r := .box Ty [.ptr b 0, x1]) (T := Ty) (cur := #[Value.pointer none, u1].setIfInBounds 0 (.pointer (some ⟨bb, 0, none⟩))) hb hg (fun o ho => ho) (fun e sz xs fl he => by cases he) ⟨_, hh⟩ (fun F' w' rows' hF hk hw' => ?_)
    refine ⟨bb, c, _, hg, hw', ?_⟩
    refine .cons ⟨rfl, bb, c, hg, rfl⟩ (.cons ⟨hr1.1, hr1.2.carry hF fun id' _ => ⟨rfl, hk id'⟩⟩ .nil)
  · have hu0 : u0 = .pointer (some ⟨bb, 0, none⟩) := by
      obtain ⟨b2, c2, h2, h3⟩ := hr0.2
      rw [hg] at h2; cases h2; exact h3
    subst hu0
    refine (hU bb w (by simp [World.cell?, hh])).mono ?_
    rintro e w' ⟨rfl, rfl⟩
    refine ⟨_, g, rfl, h.congr (fun _ => rfl) fun id => ?_, htup⟩
    unfold ASt.used
    simp only [find]
    split
    · rename_i e; rw [e]; exact hb.symm
    · rfl

/-- What a call of String leaves of the caller's knowledge: scalars. -/
def flatV : AV → AV
  | .c (.d (.sc v)) => .c (.d (.sc v))
  | _ => .any
def ASt.flatT (s : ASt) : ASt := ⟨mapV flatV s.tmps, []⟩

theorem row_bytes {F : Nat → Nat → Prop} {w : World} {cur : Array Value} {l : List UInt8} {b : Nat} (h : ∀ (i j : Nat) (x : List DC) (d : DC), (bytesD l)[i]? = some x → x[j]? = some d → ∃ u, cur[i * 1 + j]? = some u ∧ RelC F w u d) (hle : l.length ≤ cur.size) :
    cur.toList.take l.length = Lib.byteCells l := by
  apply List.ext_getElem?
  intro i
  rw [List.getElem?_take]
  by_cases hi : i < l.length
  · rw [if_pos hi]
    obtain ⟨u, hu, hr⟩ := h i 0 [.sc (.int .u8 l[i].toNat)] (.sc (.int .u8 l[i].toNat)) (by simp [bytesD, hi]) rfl
    cases hr
    simp at hu
    simp [Lib.byteCells, hi, hu]
  · rw [if_neg hi]
    simp [Lib.byteCells, hi]

theorem Meth.string (L : Lays.n169 P ρ) (X : Builder.Extra P ρ) {s : ASt} {b k : Nat} {x0 : AC} {l : List UInt8} {fl : Bool} (hb : find s.rows b = some (.box (ρ.t 72) [x0, .row k])) (h0 : x0 = .d (.sc (.pointer none)) ∨ x0 = .ptr b 0)
    (hk : find s.rows k = some (.arr (ρ.t 5) 1 (bytesD l) fl)) : Meth P (ρ.f 169) s [.c (.ptr b 0)] s.flatT (sstr ⟨l.toArray⟩) := by
  intro S w0 N g a w hcalm h vs hvs
  obtain ⟨u, rfl, hu⟩ := all2_one hvs
  unfold RelV at hu
  obtain ⟨_, bb, c, hg, rfl⟩ := hu
  obtain ⟨b', c', cur, hg', hh, hsz, _, hall⟩ := h.box hb
  rw [hg] at hg'; cases hg'
  obtain ⟨u0, u1, hcur, hr0, hr1⟩ := all2_two hall
  have hcur' : cur = #[u0, u1] := by apply Array.ext'; simpa using hcur
  subst hcur'
  have hd : a.defers = [] := h.calm hcalm
  have hent : (callFunc (ρ.f 169) #[.pointer (some ⟨bb, 0, none⟩)]).run P w = .ok (.enter (ρ.f 169) #[.pointer (some ⟨bb, 0, none⟩)]) w := enters_of L.f169 (by kernel_rfl) rfl _ _
  obtain ⟨hB, hlt⟩ := h.blk b _ bb c hb hg
  have hu1 : u1 = gsl (g k) (bytesD l).length := by
    obtain ⟨e, sz, xs, fl', h1, h2⟩ := hr1.2
    rw [hk] at h1; cases h1; exact h2
  have hown : w.ownsRow w0.heap.size (ρ.t 5) 1 u1 l.length (Lib.byteCells l) := by
    refine ⟨by simp [Lib.byteCells], ?_⟩
    obtain ⟨_, hrow⟩ := h.rows k _ hk
    rcases hrow with ⟨q1, q2⟩ | ⟨b2, cap, cur, q1, q2, q3, q4, q5, q6⟩
    · left
      have : l = [] := by cases l with | nil => rfl | cons c l => simp [bytesD] at q2
      subst this
      rw [hu1, q1]; exact ⟨rfl, rfl⟩
    · right
      have hl : (bytesD l).length = l.length := by simp [bytesD]
      refine ⟨b2, cap, cur, by rw [hu1, q1, hl]; rfl, (h.blk k _ b2 cap hk q1).1, q2, by omega, q4, q5, ?_⟩
      rw [Nat.mul_one]
      exact row_bytes (b := b2) q6 (by omega)
  have hne : u1.ownBlock ≠ some bb := by
    intro e
    rw [hu1] at e
    cases hgk : g k with
    | none => rw [hgk] at e; simp [gsl, Value.ownBlock] at e
    | some p =>
      obtain ⟨b2, cap⟩ := p
      rw [hgk] at e
      simp [gsl, Value.ownBlock] at e
      subst e
      have := h.inj b k _ _ _ c cap hb hk hg hgk
      subst this
      rw [hb] at hk; cases hk
  have hbu : Lib.IsBuilder (ρ.t 72) (ρ.t 5) w0.heap.size bb (Lib.byteCells l) w := by
    have hlen : (Lib.byteCells l).length = l.length := by simp [Lib.byteCells]
    rcases h0 with rfl | rfl
    · have hu0 : u0 = .pointer none := by have := hr0.2; cases this; rfl
      subst hu0
      exact .inl ⟨hB, u1, hh, by rw [hlen]; exact hown, hne⟩
    · have hu0 : u0 = .pointer (some ⟨bb, 0, none⟩) := by
        obtain ⟨b2, c2, h2, h3⟩ := hr0.2
        rw [hg] at h2; cases h2; exact h3
      subst hu0
      exact .inr ⟨hB, u1, hh, by rw [hlen]; exact hown, hne⟩
  left
  refine ⟨hent, (Any.Builder_String_any L X w0.heap.size bb l w hbu h.below.size).mono ?_⟩
  rintro e w' ⟨rfl, hbl⟩
  refine ⟨_, fun _ => none, rfl, ⟨h.below.trans hbl, h.size, h.calm, h.good, by rw [hd]; exact DefOk.nil _ _, fun id r b c hf => by simp [ASt.flatT, find] at hf, fun id id' r r' b c c' hf => by simp [ASt.flatT, find] at hf, fun id r hf => by simp [ASt.flatT, find] at hf, fun i x hx => ?_⟩, ?_⟩
  · simp only [ASt.flatT, find_mapV] at hx
    obtain ⟨x0, h1, rfl⟩ := Option.map_eq_some_iff.1 hx
    obtain ⟨v, hv, hr⟩ := h.tmps i x0 h1
    refine ⟨v, hv, ?_⟩
    unfold flatV
    split
    · have := relV_sc hr
      unfold RelV at hr ⊢
      refine ⟨hr.1, ?_⟩
      obtain ⟨h1, h2⟩ := hr
      cases h2 with
      | sc v hv => exact .sc _ hv
    · unfold RelV; trivial
  · unfold sstr RelV; exact ⟨rfl, .sc _ rfl⟩

attribute [go_sem] ASt.used ASt.flatT flatV

end
end Go.Abs
