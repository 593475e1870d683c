/-
  The abstract steps are sound, part two: cells as data, cuts, structs built by value.
-/
import Derived.Test.YtncglcfhbhbaoaaAbsC
set_option linter.unusedSimpArgs false
set_option linter.unusedVariables false
namespace Go.Abs
open Go.RowKit

section
variable {S : Nat → Nat → Prop} {w0 : World} {N : Fm} {g : Gh} {st : ASt} {a : Act} {w : World}

theorem RelC.all {F : Nat → Nat → Prop} {u : Value} {x : DC} (h : RelC F w u x) : RelC (fun _ _ => True) w u x := h.sub fun _ _ _ => trivial

/-- A row of the call's own as data, its places being in F'. -/
theorem row_data (h : Rel S w0 N g st a w) {F' : Nat → Nat → Prop} (hF : ∀ b o, Sf w0.heap.size S st.rows g b o → F' b o) {id e sz : Nat} {xs : List (List DC)} {fl : Bool} (hf : find st.rows id = some (.arr e sz xs fl))
    (hown : ∀ b c o, g id = some (b, c) → o < xs.length * sz → F' b o) : RelC F' w (gsl (g id) xs.length) (.sl xs) := by
  obtain ⟨hsz, hrow⟩ := h.rows id _ hf
  rcases hrow with ⟨hg, hnil⟩ | ⟨b, cap, cur, hg, hh, hcap, hm, hcs, hcells⟩
  · rw [hg, hnil]; exact .emp _ _
  · rw [hg]
    simp only [gsl]
    refine .sl b 0 cap sz xs (fun i j => (cur[i * sz + j]?).getD undef) hcap hm hsz (fun i j x d hx hd => ?_) (fun i j x d hx hd => ?_)
    · obtain ⟨u, hu, _⟩ := hcells i j x d hx hd
      have hi : i < xs.length := (List.getElem?_eq_some_iff.1 hx).1
      have hj : j < x.length := (List.getElem?_eq_some_iff.1 hd).1
      rw [hsz i x hx] at hj
      have hlt : i * sz + j < xs.length * sz := by
        have : (i + 1) * sz ≤ xs.length * sz := Nat.mul_le_mul_right _ hi
        rw [Nat.add_mul, Nat.one_mul] at this
        omega
      refine ⟨by rw [Nat.zero_add]; exact hown b cap _ hg hlt, ?_⟩
      rw [Nat.zero_add, cl_row hh]
      simp [hu]
    · obtain ⟨u, hu, hr⟩ := hcells i j x d hx hd
      simp only [hu, Option.getD_some]
      exact hr.sub hF

theorem row_frozen (h : Rel S w0 N g st a w) {id e sz : Nat} {xs : List (List DC)} (hf : find st.rows id = some (.arr e sz xs true)) :
    RelC (Sf w0.heap.size S st.rows g) w (gsl (g id) xs.length) (.sl xs) := by
  refine row_data h (fun _ _ x => x) hf fun b c o hg ho => ?_
  have hb := (h.blk id _ b c hf hg).1
  refine .inr ⟨hb, fun id' r c' hr hg' => ?_⟩
  have := h.inj id id' _ r b c c' hf hr hg hg'
  subst this
  rw [hf] at hr
  cases hr
  exact ⟨rfl, ho⟩

theorem dc_sound (h : Rel S w0 N g st a w) {lent : Bool} {u : Value} {x : AC} {y : DC} (hr : RelAC (Sf w0.heap.size S st.rows g) w st.rows g u x) (hy : dcOf lent st.rows x = some y) :
    RelC (fun b o => lent = true ∨ Sf w0.heap.size S st.rows g b o) w u y := by
  unfold dcOf at hy
  split at hy
  · cases hy; exact RelC.sub (fun _ _ hb => .inr hb) hr
  · cases hy
    have hu : u = .slice none 0 0 := hr
    rw [hu]; exact .emp _ _
  · rename_i id
    obtain ⟨e, sz, xs, fl, hf, hu⟩ := hr
    rw [hf] at hy
    simp only at hy
    split at hy
    · rename_i hfl
      cases hy
      rw [hu]
      cases fl with
      | true => exact RelC.sub (fun _ _ hb => .inr hb) (row_frozen h hf)
      | false =>
        have hl : lent = true := by simpa using hfl
        exact row_data h (fun _ _ hb => .inr hb) hf (fun _ _ _ _ _ => .inl hl)
    · cases hy
  · cases hy

theorem dcs_sound (h : Rel S w0 N g st a w) {lent : Bool} : ∀ {us : List Value} {xs : List AC} {ys : List DC},
    All2 (fun u x => u.oneCell' = true ∧ RelAC (Sf w0.heap.size S st.rows g) w st.rows g u x) us xs → dcsOf lent st.rows xs = some ys →
    All2 (RelC (fun b o => lent = true ∨ Sf w0.heap.size S st.rows g b o) w) us ys
  | _, [], ys, hr, hy => by
    cases hr
    simp [dcsOf] at hy
    subst hy
    exact .nil
  | _, x :: xs, ys, hr, hy => by
    cases hr with
    | cons h1 h2 =>
      simp only [dcsOf] at hy
      split at hy
      · rename_i y ys' hy1 hy2
        cases hy
        exact .cons (dc_sound h h1.2 hy1) (dcs_sound h h2 hy2)
      · cases hy

/-- A value as it is handed to a function. -/
def RelDV (F : Nat → Nat → Prop) (w : World) : Value → DV → Prop
  | v, .c x => RelC F w v x
  | v, .agg xs => ∃ cs, v = .agg cs ∧ All2 (RelC F w) cs.toList xs
  | v, .ptr xs => ∃ b o, ∃ us : Nat → Value, v = .pointer (some ⟨b, o, none⟩) ∧ ∀ (j : Nat) (d : DC), xs[j]? = some d → F b (o + j) ∧ cl w b (o + j) = some (us j) ∧ RelC F w (us j) d

theorem RelDV.mono {F F' : Nat → Nat → Prop} {w w' : World} (hS : ∀ b o, F b o → b < w.heap.size → F' b o ∧ cl w' b o = cl w b o) {v : Value} {x : DV} (h : RelDV F w v x) : RelDV F' w' v x := by
  cases x with
  | c x => exact RelC.mono hS h
  | agg xs =>
    obtain ⟨cs, h1, h2⟩ := h
    exact ⟨cs, h1, h2.mono fun _ _ hr => hr.mono hS⟩
  | ptr xs =>
    obtain ⟨b, o, us, h1, h2⟩ := h
    refine ⟨b, o, us, h1, fun j d hd => ?_⟩
    obtain ⟨h3, h4, h5⟩ := h2 j d hd
    obtain ⟨h6, h7⟩ := hS _ _ h3 (cl_lt h4)
    exact ⟨h6, h7.trans h4, h5.mono hS⟩

theorem dv_sound (h : Rel S w0 N g st a w) {lent : Bool} {v : Value} {x : AV} {y : DV} (hr : RelV (Sf w0.heap.size S st.rows g) w st.rows g v x) (hy : dvOf lent st.rows x = some y) :
    RelDV (fun b o => lent = true ∨ Sf w0.heap.size S st.rows g b o) w v y := by
  unfold dvOf at hy
  split at hy
  · cases hy
    unfold RelV at hr
    obtain ⟨_, b, o, us, h1, h2⟩ := hr
    exact ⟨b, o, us, h1, fun j d hd => ⟨.inr (h2 j d hd).1, (h2 j d hd).2.1, RelC.sub (fun _ _ hb => .inr hb) (h2 j d hd).2.2⟩⟩
  · split at hy
    · rename_i y' hy'
      cases hy
      unfold RelV at hr
      exact dc_sound h hr.2 hy'
    · cases hy
  · split at hy
    · rename_i ys hy'
      cases hy
      unfold RelV at hr
      obtain ⟨cs, h1, h2⟩ := hr
      exact ⟨cs, h1, dcs_sound h h2 hy'⟩
    · cases hy
  · cases hy

theorem dvs_sound (h : Rel S w0 N g st a w) {lent : Bool} : ∀ {l : List Operand} {ys : List DV}, dvsOf lent st.rows (l.map st.ev) = some ys →
    All2 (RelDV (fun b o => lent = true ∨ Sf w0.heap.size S st.rows g b o) w) (l.map a.eval) ys
  | [], ys, hy => by
    simp [dvsOf] at hy
    subst hy
    exact .nil
  | x :: l, ys, hy => by
    simp only [List.map_cons, dvsOf] at hy
    split at hy
    · rename_i y ys' hy1 hy2
      cases hy
      exact .cons (dv_sound h (h.ev x) hy1) (dvs_sound h hy2)
    · cases hy

theorem optEv_sound (h : Rel S w0 N g st a w) {x : Option Operand} {y : Option Int} (hy : optEv st x = some y) :
    (x = none ∧ y = none) ∨ ∃ o k n, x = some o ∧ y = some n ∧ a.eval o = .int k n := by
  cases x with
  | none => simp [optEv] at hy; exact .inl ⟨rfl, hy.symm⟩
  | some o =>
    simp only [optEv] at hy
    split at hy
    · rename_i k n he
      cases hy
      have := h.ev o
      rw [he] at this
      exact .inr ⟨o, k, n, rfl, rfl, relV_sc this⟩
    · cases hy

theorem bound_ok {P : Program} (k : IntKind) (i : Int) (y : Nat) (code : BoundsCode) (h0 : 0 ≤ i) (h1 : i ≤ y) : (Instr.sliceBound (.int k i) y code).run P w = .ok i.toNat w := by
  simp [Instr.sliceBound, asIntOf, h0, h1]

/-- The bounds of a cut, where they hold. -/
theorem cut_bounds {P : Program} (isSlice : Bool) (len cap : Nat) (hc : len ≤ cap) {lo hi mx : Option Int} {vlo vhi vmx : Option Value}
    (hlo : (vlo = none ∧ lo = none) ∨ ∃ k n, vlo = some (.int k n) ∧ lo = some n) (hhi : (vhi = none ∧ hi = none) ∨ ∃ k n, vhi = some (.int k n) ∧ hi = some n)
    (hmx : (vmx = none ∧ mx = none) ∨ ∃ k n, vmx = some (.int k n) ∧ mx = some n) (hok : (cutF len lo hi mx).1) :
    ∃ m, (Instr.sliceBounds isSlice len cap vlo vhi vmx).run P w = .ok ((cutF len lo hi mx).2.1, (cutF len lo hi mx).2.2, m) w ∧ (cutF len lo hi mx).2.2 ≤ m ∧ m ≤ cap := by
  obtain ⟨h0, h1, h2, h3⟩ := hok
  rcases hlo with ⟨rfl, rfl⟩ | ⟨kl, l, rfl, rfl⟩ <;> rcases hhi with ⟨rfl, rfl⟩ | ⟨kh, hh, rfl, rfl⟩ <;> rcases hmx with ⟨rfl, rfl⟩ | ⟨km, m, rfl, rfl⟩ <;> simp only [cutF, Option.getD_none, Option.getD_some] at *
  · refine ⟨cap, ?_, by omega, by omega⟩
    simp [Instr.sliceBounds]
  · exact absurd (h3 m rfl).2.2 (by simp)
  · refine ⟨cap, ?_, by omega, by omega⟩
    simp only [Instr.sliceBounds, Sem.run_bind, Sem.run_pure, Result.andThen_ok]
    rw [bound_ok kh hh cap _ (by omega) (by omega)]
    simp
  · obtain ⟨h4, h5, _⟩ := h3 m rfl
    refine ⟨m.toNat, ?_, by omega, by omega⟩
    simp only [Instr.sliceBounds, Sem.run_bind, Sem.run_pure, Result.andThen_ok]
    rw [bound_ok km m cap _ (by omega) (by omega)]
    simp only [Result.andThen_ok, Sem.run_bind]
    rw [bound_ok kh hh m.toNat _ (by omega) (by omega)]
    simp
  · refine ⟨cap, ?_, by omega, by omega⟩
    simp only [Instr.sliceBounds, Sem.run_bind, Sem.run_pure, Result.andThen_ok]
    rw [bound_ok kl l len _ (by omega) (by omega)]
    simp
  · exact absurd (h3 m rfl).2.2 (by simp)
  · refine ⟨cap, ?_, by omega, by omega⟩
    simp only [Instr.sliceBounds, Sem.run_bind, Sem.run_pure, Result.andThen_ok]
    rw [bound_ok kh hh cap _ (by omega) (by omega)]
    simp only [Result.andThen_ok, Sem.run_bind]
    rw [bound_ok kl l hh.toNat _ (by omega) (by omega)]
    simp
  · obtain ⟨h4, h5, _⟩ := h3 m rfl
    refine ⟨m.toNat, ?_, by omega, by omega⟩
    simp only [Instr.sliceBounds, Sem.run_bind, Sem.run_pure, Result.andThen_ok]
    rw [bound_ok km m cap _ (by omega) (by omega)]
    simp only [Result.andThen_ok, Sem.run_bind]
    rw [bound_ok kh hh m.toNat _ (by omega) (by omega)]
    simp only [Result.andThen_ok, Sem.run_bind]
    rw [bound_ok kl l hh.toNat _ (by omega) (by omega)]
    simp

theorem cut_le {len : Nat} {lo hi mx : Option Int} (hok : (cutF len lo hi mx).1) : (cutF len lo hi mx).2.1 ≤ (cutF len lo hi mx).2.2 ∧ (cutF len lo hi mx).2.2 ≤ len := by
  obtain ⟨h0, h1, h2, _⟩ := hok
  simp only [cutF]
  omega

/-- A cut of a slice that is data. -/
theorem relC_cut {F : Nat → Nat → Prop} {u : Value} {xs : List (List DC)} (hr : RelC F w u (.sl xs)) (size l h m : Nat) (hsz : ∀ y, y ∈ xs → y.length = size) (h1 : l ≤ h) (h2 : h ≤ xs.length) :
    ∃ ad n c, u = .slice ad n c ∧ xs.length = n ∧ n ≤ c ∧ (h ≤ m → m ≤ c → RelC F w (.slice (if m = l then ad else ad.map (·.add (l * size))) (h - l) (m - l)) (.sl ((xs.take h).drop l))) := by
  cases hr with
  | emp ad c =>
    refine ⟨ad, 0, c, rfl, rfl, Nat.zero_le _, fun _ _ => ?_⟩
    simp at h2
    have : l = 0 := by omega
    subst this; subst h2
    simp
    exact .emp _ _
  | sl b o c sz xs us hc hm hs hS hrr =>
    refine ⟨_, _, c, rfl, rfl, hc, fun hm1 hm2 => ?_⟩
    by_cases hlt : l = h
    · subst hlt
      have : (xs.take l).drop l = [] := by simp
      rw [this, Nat.sub_self]
      exact .emp _ _
    · have hne : ¬ m = l := by omega
      rw [if_neg hne]
      have hszsz : sz = size := by
        have h0 : 0 < xs.length := by omega
        have hx := List.getElem?_eq_getElem h0
        rw [← hs 0 _ hx]
        exact hsz _ (List.mem_of_getElem? hx)
      subst hszsz
      have hlen : h - l = ((xs.take h).drop l).length := by simp; omega
      have hidx : ∀ (i : Nat) (x : List DC), ((xs.take h).drop l)[i]? = some x → xs[l + i]? = some x := by
        intro i x hx
        rw [List.getElem?_drop, List.getElem?_take] at hx
        split at hx
        · exact hx
        · cases hx
      simp only [Option.map_some, Addr.add_lit]
      rw [hlen]
      refine .sl b (o + l * sz) (m - l) sz _ (fun i j => us (l + i) j) (by omega) (by unfold maxLen at *; omega) (fun i x hx => hs _ x (hidx i x hx)) (fun i j x d hx hd => ?_) (fun i j x d hx hd => hrr _ j x d (hidx i x hx) hd)
      have := hS (l + i) j x d (hidx i x hx) hd
      have e : o + l * sz + i * sz + j = o + (l + i) * sz + j := by rw [Nat.add_mul]; omega
      rw [e]
      exact this

theorem slice_sound {P : Program} {T : Tab} (hT : TabOk P T) (h : Rel S w0 N g st a w) (t : Nat) (x : Operand) (lo hi mx : Option Operand) {lo' hi' mx' : Option Int}
    (elo : optEv st lo = some lo') (ehi : optEv st hi = some hi') (emx : optEv st mx = some mx') {c : Prop} {v : AV} {rs : List (Nat × ARow)}
    (hv : sliceF T t st.rows lo' hi' mx' (st.ev x) = .ok c v rs) (hc : c) :
    rs = [] ∧ ∃ u, (Instr.sliceAt t (a.eval x) (lo.map a.eval) (hi.map a.eval) (mx.map a.eval)).run P w = .ok u w ∧ RelV (Sf w0.heap.size S st.rows g) w st.rows g u v := by
  have conv : ∀ {y : Option Operand} {z : Option Int}, optEv st y = some z → (y.map a.eval = none ∧ z = none) ∨ ∃ k n, y.map a.eval = some (.int k n) ∧ z = some n := by
    intro y z hy
    rcases optEv_sound h hy with ⟨h1, h2⟩ | ⟨o, k, n, h1, h2, h3⟩
    · exact .inl ⟨by rw [h1]; rfl, h2⟩
    · exact .inr ⟨k, n, by rw [h1]; simp [h3], h2⟩
  have hlo := conv elo
  have hhi := conv ehi
  have hmx := conv emx
  have hx := h.ev x
  unfold sliceF at hv
  split at hv
  · rename_i s he
    rw [he] at hx
    have hx' := relV_sc hx
    split at hv
    · rename_i ti ht
      split at hv
      · rename_i hd
        have hu := (hT t ti ht).under
        rw [hd] at hu
        simp only at hu
        cases hv
        obtain ⟨hok, rfl⟩ := hc
        refine ⟨rfl, _, ?_, rel_sstr _ _ _ _ _⟩
        have hnone : mx.map a.eval = none := by rcases hmx with ⟨h1, _⟩ | ⟨k, n, _, h2⟩ <;> first | exact h1 | cases h2
        obtain ⟨m, hb, _, _⟩ := cut_bounds (P := P) (w := w) false s.size s.size (Nat.le_refl _) hlo hhi (.inl ⟨rfl, rfl⟩) hok
        simp [Instr.sliceAt, run_underlying hu, Instr.slice, hx', hnone, hb]
      · cases hv
    · cases hv
  · rename_i xs he
    rw [he] at hx
    split at hv
    · rename_i ti ht
      split at hv
      · rename_i m e hd
        have hu := (hT t ti ht).under
        rw [hd] at hu
        simp only at hu
        split at hv
        · rename_i te hte
          obtain ⟨ie, ze, hie, hse, _, _, _⟩ := (hT e te hte).info'
          cases hv
          obtain ⟨hok, hlen, hs1, hm, rfl⟩ := hc
          unfold RelV at hx
          obtain ⟨_, b, o, us, hu', hall⟩ := hx
          have hnone : mx.map a.eval = none := by rcases hmx with ⟨h1, _⟩ | ⟨k, n, _, h2⟩ <;> first | exact h1 | cases h2
          obtain ⟨hle1, hle2⟩ := cut_le hok
          obtain ⟨m', hb, hm1, hm2⟩ := cut_bounds (P := P) (w := w) false m m (Nat.le_refl _) hlo hhi (.inl ⟨rfl, rfl⟩) hok
          refine ⟨rfl, .slice (some ⟨b, o + (if m' = (cutF m lo' hi' none).2.1 then 0 else (cutF m lo' hi' none).2.1), none⟩) ((cutF m lo' hi' none).2.2 - (cutF m lo' hi' none).2.1) (m' - (cutF m lo' hi' none).2.1), ?_, ?_⟩
          · simp only [Instr.sliceAt, Sem.run_bind, run_underlying hu, Result.andThen_ok, hu', hnone, Instr.sureAddr, Sem.run_pure, hb]
            simp [sizeOf, typeInfo, hie, hse, hs1, Addr.add_lit]
            split <;> rfl
          · unfold RelV
            refine ⟨rfl, ?_⟩
            have hll : (((xs.map fun y => [y]).take (cutF m lo' hi' none).2.2).drop (cutF m lo' hi' none).2.1).length = (cutF m lo' hi' none).2.2 - (cutF m lo' hi' none).2.1 := by
              simp [hlen]; omega
            by_cases he0 : m' = (cutF m lo' hi' none).2.1
            · have hnil : (((xs.map fun y => [y]).take (cutF m lo' hi' none).2.2).drop (cutF m lo' hi' none).2.1) = [] := List.length_eq_zero_iff.1 (by rw [hll]; omega)
              rw [hnil, show (cutF m lo' hi' none).2.2 - (cutF m lo' hi' none).2.1 = 0 by omega]
              exact .emp _ _
            · rw [if_neg he0, ← hll]
              have hget : ∀ (i j : Nat) (x : List DC) (d : DC), (((xs.map fun y => [y]).take (cutF m lo' hi' none).2.2).drop (cutF m lo' hi' none).2.1)[i]? = some x → x[j]? = some d → j = 0 ∧ xs[(cutF m lo' hi' none).2.1 + i]? = some d := by
                intro i j x d hx hd
                rw [List.getElem?_drop, List.getElem?_take] at hx
                split at hx
                · rw [List.getElem?_map] at hx
                  obtain ⟨y, hy, rfl⟩ := Option.map_eq_some_iff.1 hx
                  cases j with
                  | zero => simp at hd; subst hd; exact ⟨rfl, hy⟩
                  | succ j => simp at hd
                · cases hx
              refine .sl b _ _ 1 _ (fun i j => us ((cutF m lo' hi' none).2.1 + i)) (by rw [hll]; omega) (by unfold maxLen; omega) (fun i x hx => ?_) (fun i j x d hx hd => ?_) (fun i j x d hx hd => ?_)
              · have hmem := List.mem_of_mem_drop (List.mem_of_getElem? hx)
                have hmem2 := List.mem_of_mem_take hmem
                obtain ⟨y, _, rfl⟩ := List.mem_map.1 hmem2
                rfl
              · obtain ⟨rfl, h2⟩ := hget i j x d hx hd
                have := hall _ d h2
                rw [show o + (cutF m lo' hi' none).2.1 + i * 1 + 0 = o + ((cutF m lo' hi' none).2.1 + i) by omega]
                exact ⟨this.1, this.2.1⟩
              · obtain ⟨rfl, h2⟩ := hget i j x d hx hd
                exact (hall _ d h2).2.2
        · cases hv
      · cases hv
    · cases hv
  · rename_i y _ _ he
    rw [he] at hx
    split at hv
    · rename_i ti ht
      split at hv
      · rename_i e hd
        have hu := (hT t ti ht).under
        rw [hd] at hu
        simp only at hu
        split at hv
        · rename_i te hte
          obtain ⟨ie, ze, hie, hse, _, _, _⟩ := (hT e te hte).info'
          split at hv
          · rename_i xs hxs
            cases hv
            obtain ⟨hok, hsz⟩ := hc
            unfold RelV at hx
            have hr := (dc_sound h hx.2 hxs).sub (S' := Sf w0.heap.size S st.rows g) (fun b o hb => by simpa using hb)
            obtain ⟨hle1, hle2⟩ := cut_le hok
            obtain ⟨ad, n, cap, hu1, hn, hncap, _⟩ := relC_cut hr te.size _ _ 0 hsz hle1 hle2
            subst hn
            obtain ⟨m, hb, hm1, hm2⟩ := cut_bounds (P := P) (w := w) true xs.length cap hncap hlo hhi hmx hok
            obtain ⟨ad', n', cap', hu2, hn', _, hrel⟩ := relC_cut hr te.size _ _ m hsz hle1 hle2
            rw [hu1] at hu2
            cases hu2
            refine ⟨rfl, .slice (if m = (cutF xs.length lo' hi' mx').2.1 then ad else ad.map (·.add ((cutF xs.length lo' hi' mx').2.1 * te.size))) ((cutF xs.length lo' hi' mx').2.2 - (cutF xs.length lo' hi' mx').2.1) (m - (cutF xs.length lo' hi' mx').2.1), ?_, ?_⟩
            · simp [Instr.sliceAt, run_underlying hu, Instr.slice, hu1, hb, sizeOf, typeInfo, hie, hse]
            · have := hrel hm1 hm2
              unfold RelV
              exact ⟨rfl, this⟩
          · cases hv
        · cases hv
      · cases hv
    · cases hv
  · cases hv

end
end Go.Abs
