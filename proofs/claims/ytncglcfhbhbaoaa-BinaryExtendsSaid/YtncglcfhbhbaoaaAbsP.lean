/-
  What an operation's effect leads to.
-/
import Derived.Test.YtncglcfhbhbaoaaAbsO
set_option linter.unusedSimpArgs false
set_option linter.unusedVariables false
namespace Go.Abs
open Go.RowKit

section
variable {s t : ASt} {T : Tab} {id : Nat}

theorem take_ment {ag : Bool} {cs : List AC} {off n : Nat} {v : AV} (h : takeAV ag cs off n = some v) (hm : cs.any (·.ment id) = false) : v.ment id = false := by
  rw [List.any_eq_false] at hm
  unfold takeAV at h
  split at h
  · split at h
    · cases h
      unfold AV.ment
      rw [List.any_eq_false]
      intro x hx
      exact hm x (List.mem_of_mem_drop (List.mem_of_mem_take hx))
    · cases h
  · split at h
    · rename_i x hx
      cases h
      unfold AV.ment
      have := hm x (List.mem_of_getElem? hx)
      simpa using this
    · cases h

theorem loadF_ment {ty : Nat} (hf : s.free id = true) {x v : AV} (h : loadF T ty s.rows x = some v) : v.ment id = false := by
  unfold loadF at h
  split at h
  · split at h
    · rename_i hr
      have := (find_free_row hf hr).2
      exact take_ment h this
    · cases h
  · split at h
    · split at h
      · exact take_ment h (ment_map _ _)
      · cases h
    · cases h
  · split at h
    · exact take_ment h (ment_map _ _)
    · cases h
  · cases h

theorem splice_ment {cs xs : List AC} {off : Nat} (h1 : cs.any (·.ment id) = false) (h2 : xs.any (·.ment id) = false) : (splice cs off xs).any (·.ment id) = false := by
  rw [List.any_eq_false] at *
  intro x hx
  simp only [splice, List.mem_append] at hx
  rcases hx with (hx | hx) | hx
  · exact h1 x (List.mem_of_mem_take hx)
  · exact h2 x hx
  · exact h1 x (List.mem_of_mem_drop hx)

theorem cells_nm {v : AV} {cs : List AC} (h : v.cells = some cs) (hm : v.ment id = false) : cs.any (·.ment id) = false := by
  cases hb : cs.any (·.ment id) with
  | false => rfl
  | true => rw [cells_ment h hb] at hm; cases hm

theorem buildF_ment (hf : s.free id = true) {fs : List (Nat × Nat × Bool)} : ∀ {l : List (Nat × Operand)} {cs cs' : List AC}, buildF fs s cs l = some cs' → cs.any (·.ment id) = false → cs'.any (·.ment id) = false
  | [], cs, cs', h, hm => by simp only [buildF] at h; cases h; exact hm
  | (i, x) :: l, cs, cs', h, hm => by
    simp only [buildF] at h
    split at h
    · rename_i hx
      split at h
      · exact buildF_ment hf h (splice_ment hm (cells_nm hx (ev_free hf x)))
      · cases h
    · cases h

theorem zacs_ment (l : List Value) : (l.map zac).any (·.ment id) = false := by
  rw [List.any_eq_false]
  intro x hx
  obtain ⟨v, _, rfl⟩ := List.mem_map.1 hx
  simp [zac_ment]

theorem sint_ment (k : IntKind) (n : Int) : (sint k n).ment id = false := by unfold sint AV.ment; rfl
theorem sbool_ment (b : Bool) : (sbool b).ment id = false := by unfold sbool AV.ment; rfl
theorem sstr_ment (b : ByteArray) : (sstr b).ment id = false := by unfold sstr AV.ment; rfl
theorem d_ment (x : DC) : (AV.c (.d x)).ment id = false := by unfold AV.ment; rfl
theorem dptr_ment (x : List DC) : (AV.c (.dptr x)).ment id = false := by unfold AV.ment; rfl
theorem ptr_ment {i o : Nat} (h : i ≠ id) : (AV.c (.ptr i o)).ment id = false := by unfold AV.ment; simp [ment_ptr, h]
theorem row_ment {i : Nat} (h : i ≠ id) : (AV.c (.row i)).ment id = false := by unfold AV.ment; simp [ment_row, h]

/-- What an effect leads to is what the state leads to, or its own rows. -/
theorem capsOf_ne (hf : s.free id = true) : ∀ {l : List Operand} {pre post : List (List DC)} {i : Nat}, capsOf s l = some (pre, i, post) → i ≠ id
  | [], pre, post, i, h => by simp [capsOf] at h
  | x :: l, pre, post, i, h => by
    simp only [capsOf] at h
    split at h
    · split at h
      · rename_i hc
        cases h
        exact capsOf_ne hf hc
      · cases h
    · rename_i i' he
      split at h
      · cases h
        intro e
        subst e
        have := ev_free hf x
        rw [he] at this
        unfold AV.ment at this
        simp [ment_ptr] at this
      · cases h
    · cases h

theorem effF_ment (hf : s.free id = true) {d : Nat} {op : Op} {c : Prop} {v : AV} {rows : List (Nat × ARow)} (h : effF T d op s = .ok c v rows) (hid : ∀ r, (id, r) ∉ rows) :
    v.ment id = false ∧ ∀ k r, (k, r) ∈ rows → r.ment id = false := by
  have none_ : rows = [] → v.ment id = false → v.ment id = false ∧ ∀ k r, (k, r) ∈ rows → r.ment id = false := fun hr hv => ⟨hv, fun k r hm => by rw [hr] at hm; simp at hm⟩
  have dne : ∀ r, (d, r) ∈ rows → d ≠ id := fun r hm e => by subst e; exact hid r hm
  cases op with
  | move x => simp only [effF] at h; cases h; exact none_ rfl (ev_free hf x)
  | assign x => simp only [effF] at h; cases h; exact none_ rfl (ev_free hf x)
  | pick a b e =>
    simp only [effF] at h
    split at h
    · cases h; refine none_ rfl ?_; split <;> exact ev_free hf _
    · cases h
  | alloc ty =>
    simp only [effF] at h
    split at h
    · cases h
      refine ⟨ptr_ment (dne _ (List.mem_singleton.2 rfl)), fun k r hm => ?_⟩
      simp only [List.mem_singleton, Prod.mk.injEq] at hm
      rw [hm.2]; exact zacs_ment _
    · cases h
  | box ty x =>
    simp only [effF] at h
    split at h
    · rename_i hx
      cases h
      refine ⟨ptr_ment (dne _ (List.mem_singleton.2 rfl)), fun k r hm => ?_⟩
      simp only [List.mem_singleton, Prod.mk.injEq] at hm
      rw [hm.2]; exact cells_nm hx (ev_free hf x)
    · cases h
  | build ty parts =>
    simp only [effF] at h
    split at h
    · split at h
      · split at h
        · rename_i hb
          cases h
          refine none_ rfl ?_
          unfold AV.ment
          exact buildF_ment hf hb (zacs_ment _)
        · cases h
      · split at h
        · split at h
          · rename_i hb
            cases h
            refine none_ rfl ?_
            unfold AV.ment
            exact buildF_ment hf hb (zacs_ment _)
          · cases h
        · cases h
      · cases h
    · cases h
  | buildSlice ty n parts =>
    simp only [effF] at h
    split at h
    · split at h
      · split at h
        · split at h
          · cases h
            refine ⟨row_ment (dne _ (List.mem_singleton.2 rfl)), fun k r hm => ?_⟩
            simp only [List.mem_singleton, Prod.mk.injEq] at hm
            rw [hm.2]; rfl
          · cases h
        · cases h
      · cases h
    · cases h
  | makeSlice ty l c0 =>
    simp only [effF] at h
    split at h
    · split at h
      · split at h
        · cases h
          refine ⟨row_ment (dne _ (List.mem_singleton.2 rfl)), fun k r hm => ?_⟩
          simp only [List.mem_singleton, Prod.mk.injEq] at hm
          rw [hm.2]; rfl
        · cases h
      · cases h
    · cases h
  | load ty x =>
    simp only [effF] at h
    split at h
    · rename_i hl
      cases h; exact none_ rfl (loadF_ment hf hl)
    · cases h
  | fieldAddr ty x f =>
    simp only [effF] at h
    have hx := ev_free hf x
    unfold fieldAddrF at h
    split at h
    · split at h
      · split at h
        · split at h
          · rename_i he
            cases h
            rw [he] at hx
            refine none_ rfl (ptr_ment fun e => ?_)
            subst e; rw [ment_ptr_self] at hx; cases hx
          · rename_i he
            cases h
            rw [he] at hx
            refine none_ rfl ?_
            unfold AV.ment at hx ⊢
            rw [ment_eptr] at hx ⊢; exact hx
          · cases h; exact none_ rfl (dptr_ment _)
          · cases h
        · cases h
      · cases h
    · cases h
  | field ty x f =>
    simp only [effF] at h
    split at h
    · rename_i hl
      cases h
      refine none_ rfl ?_
      have hx := ev_free hf x
      unfold fieldF at hl
      split at hl
      · rename_i he
        rw [he] at hx
        unfold AV.ment at hx
        split at hl
        · split at hl
          · split at hl
            · exact take_ment hl hx
            · cases hl
          · cases hl
        · cases hl
      · cases hl
    · cases h
  | indexAddr ty x i =>
    simp only [effF] at h
    have hx := ev_free hf x
    unfold indexAddrF at h
    split at h
    · split at h
      · split at h
        · split at h
          · split at h
            · split at h
              · cases h; exact none_ rfl (dptr_ment _)
              · cases h
            · rename_i he
              split at h
              · cases h
                rw [he] at hx
                refine none_ rfl ?_
                unfold AV.ment at hx ⊢
                rw [ment_row] at hx; rw [ment_eptr]; exact hx
              · cases h
            · cases h
          · cases h
        · split at h
          · split at h
            · rename_i he
              cases h
              rw [he] at hx
              refine none_ rfl ?_
              unfold AV.ment at hx ⊢
              rw [ment_ptr] at hx ⊢; exact hx
            · rename_i he
              cases h
              rw [he] at hx
              refine none_ rfl ?_
              unfold AV.ment at hx ⊢
              rw [ment_eptr] at hx ⊢; exact hx
            · cases h; exact none_ rfl (dptr_ment _)
            · cases h
          · cases h
        · cases h
      · cases h
    · cases h
  | index ty x i =>
    simp only [effF] at h
    unfold indexF at h
    split at h
    · split at h
      · split at h
        · split at h
          · cases h; exact none_ rfl (sint_ment _ _)
          · cases h
        · cases h
      · cases h
    · rename_i he hn
      have hx := ev_free hf x
      rw [he] at hx
      unfold AV.ment at hx
      split at h
      · split at h
        · split at h
          · split at h
            · rename_i hl
              cases h
              exact none_ rfl (take_ment hl hx)
            · cases h
          · cases h
        · cases h
      · cases h
    · cases h
  | binOp op ty x y ty2 =>
    simp only [effF] at h
    unfold binF at h
    split at h
    · split at h
      · unfold shF at h
        split at h <;> cases h <;> first | exact none_ rfl (sint_ment _ _) | exact none_ rfl (sbool_ment _)
      · split at h
        · unfold intF at h
          split at h <;> cases h <;> first | exact none_ rfl (sint_ment _ _) | exact none_ rfl (sbool_ment _)
        · cases h
    · split at h
      · split at h
        · unfold boolF at h
          split at h <;> cases h <;> first | exact none_ rfl (sint_ment _ _) | exact none_ rfl (sbool_ment _)
        · cases h
      · cases h
    · split at h
      · split at h
        · unfold eqF at h
          split at h <;> cases h <;> first | exact none_ rfl (sint_ment _ _) | exact none_ rfl (sbool_ment _)
        · cases h
      · cases h
    · unfold strF at h
      split at h <;> cases h <;> first | exact none_ rfl (sstr_ment _) | exact none_ rfl (sbool_ment _)
    · split at h
      · unfold nilF at h
        split at h <;> cases h <;> exact none_ rfl (sbool_ment _)
      · cases h
    · split at h
      · unfold nilF at h
        split at h <;> cases h <;> exact none_ rfl (sbool_ment _)
      · cases h
    · cases h
  | unOp op ty x =>
    simp only [effF] at h
    unfold unF at h
    split at h
    · split at h <;> cases h; exact none_ rfl (sint_ment _ _)
    · split at h <;> cases h; exact none_ rfl (sbool_ment _)
    · cases h
  | nilCheck x =>
    simp only [effF] at h
    have hx := ev_free hf x
    split at h
    · rename_i he; cases h; rw [he] at hx; exact none_ rfl hx
    · rename_i he; cases h; rw [he] at hx; exact none_ rfl hx
    · rename_i he; cases h; rw [he] at hx; exact none_ rfl hx
    · cases h
  | convert src dst x =>
    simp only [effF] at h
    unfold convF at h
    split at h
    · split at h
      · split at h <;> cases h; exact none_ rfl (sint_ment _ _)
      · cases h
    · split at h
      · split at h <;> cases h; exact none_ rfl (sstr_ment _)
      · cases h
    · cases h
  | slice ty x lo hi mx =>
    simp only [effF] at h
    split at h
    · unfold sliceF at h
      split at h
      · split at h
        · split at h <;> cases h; exact none_ rfl (sstr_ment _)
        · cases h
      · split at h
        · split at h
          · split at h
            · cases h; exact none_ rfl (d_ment _)
            · cases h
          · cases h
        · cases h
      · split at h
        · split at h
          · split at h
            · split at h
              · cases h; exact none_ rfl (d_ment _)
              · cases h
            · cases h
          · cases h
        · cases h
      · cases h
    · cases h
  | extract x i =>
    simp only [effF] at h
    have hx := ev_free hf x
    split at h
    · rename_i xs he
      split at h
      · rename_i v' hv
        cases h
        rw [he] at hx
        unfold AV.ment at hx
        refine none_ rfl ?_
        clear he none_
        induction xs generalizing i with
        | nil => simp at hv
        | cons y ys ih =>
          unfold mentL at hx
          rw [Bool.or_eq_false_iff] at hx
          cases i with
          | zero => simp at hv; subst hv; exact hx.1
          | succ i => exact ih i (by simpa using hv) hx.2
      · cases h
    · cases h
  | makeFunc fn first captured =>
    simp only [effF] at h
    split at h
    · cases h; exact none_ rfl (d_ment _)
    · split at h
      · split at h
        · cases h; exact none_ rfl (d_ment _)
        · split at h
          · rename_i hcp
            cases h
            refine none_ rfl ?_
            unfold AV.ment
            rw [ment_pclo]
            simpa using capsOf_ne hf hcp
          · cases h
      · cases h
    · cases h
  | call c0 =>
    simp only [effF] at h
    split at h
    · split at h
      · split at h
        · split at h
          · unfold lenF at h
            split at h
            · cases h; exact none_ rfl (sint_ment _ _)
            · cases h; exact none_ rfl (sint_ment _ _)
            · split at h
              · cases h; exact none_ rfl (sint_ment _ _)
              · cases h
            · cases h
          · unfold lenS at h
            split at h
            · cases h; exact none_ rfl (sint_ment _ _)
            · cases h
          · cases h
        · cases h
      · cases h
    · split at h
      · split at h
        · cases h; exact none_ rfl (sint_ment _ _)
        · cases h
      · cases h
    · split at h
      · split at h
        · cases h; exact none_ rfl (sint_ment _ _)
        · cases h
      · cases h
    · cases h
  | _ => simp [effF] at h

theorem acRC_ment {d p : Nat} {x : RC} (hid : ∀ r, (id, r) ∉ rowsRC d p x) : (acRC d p x).ment id = false := by
  cases x with
  | d x => rfl
  | fresh e sz xs =>
    simp only [acRC, ment_row]
    have : cid d p ≠ id := fun e' => hid (.arr e sz xs false) (by simp [rowsRC, e'])
    simp [this]
theorem acRCs_ment {d : Nat} : ∀ {p : Nat} {xs : List RC}, (∀ r, (id, r) ∉ rowsRCs d p xs) → (acRCs d p xs).any (·.ment id) = false
  | p, [], _ => rfl
  | p, x :: xs, h => by
    simp only [acRCs, List.any_cons, Bool.or_eq_false_iff]
    exact ⟨acRC_ment fun r hr => h r (by simp only [rowsRCs, List.mem_append]; exact .inl hr), acRCs_ment fun r hr => h r (by simp only [rowsRCs, List.mem_append]; exact .inr hr)⟩
theorem avRV_ment {d p : Nat} {x : RV} (hid : ∀ r, (id, r) ∉ rowsRV d p x) : (avRV d p x).ment id = false := by
  cases x with
  | c x => unfold avRV AV.ment; exact acRC_ment hid
  | agg xs => unfold avRV AV.ment; exact acRCs_ment hid
theorem avRVs_ment {d : Nat} : ∀ {p : Nat} {xs : List RV}, (∀ r, (id, r) ∉ rowsRVs d p xs) → mentL id (avRVs d p xs) = false
  | p, [], _ => by unfold avRVs mentL; rfl
  | p, x :: xs, h => by
    unfold avRVs mentL
    rw [Bool.or_eq_false_iff]
    exact ⟨avRV_ment fun r hr => h r (by simp only [rowsRVs, List.mem_append]; exact .inl hr), avRVs_ment fun r hr => h r (by simp only [rowsRVs, List.mem_append]; exact .inr hr)⟩
theorem avRes_ment {d : Nat} {x : Res} (hid : ∀ r, (id, r) ∉ rowsRes d x) : (avRes d x).ment id = false := by
  cases x with
  | one x => exact avRV_ment hid
  | tup xs => unfold avRes AV.ment; exact avRVs_ment hid

theorem rowsRC_arr {d p : Nat} {x : RC} : ∀ k r, (k, r) ∈ rowsRC d p x → (∃ q, k = cid d q) ∧ r.ment id = false := by
  intro k r hm
  cases x with
  | d x => simp [rowsRC] at hm
  | fresh e sz xs => simp only [rowsRC, List.mem_singleton, Prod.mk.injEq] at hm; exact ⟨⟨p, hm.1⟩, by rw [hm.2]; rfl⟩
theorem rowsRCs_arr {d : Nat} : ∀ {p : Nat} {xs : List RC} (k : Nat) (r : ARow), (k, r) ∈ rowsRCs d p xs → (∃ q, k = cid d q) ∧ r.ment id = false
  | p, [], k, r, hm => by simp [rowsRCs] at hm
  | p, x :: xs, k, r, hm => by
    simp only [rowsRCs, List.mem_append] at hm
    rcases hm with hm | hm
    · exact rowsRC_arr k r hm
    · exact rowsRCs_arr k r hm
theorem rowsRV_arr {d p : Nat} {x : RV} : ∀ k r, (k, r) ∈ rowsRV d p x → (∃ q, k = cid d q) ∧ r.ment id = false := by
  cases x with
  | c x => exact rowsRC_arr
  | agg xs => exact rowsRCs_arr
theorem rowsRVs_arr {d : Nat} : ∀ {p : Nat} {xs : List RV} (k : Nat) (r : ARow), (k, r) ∈ rowsRVs d p xs → (∃ q, k = cid d q) ∧ r.ment id = false
  | p, [], k, r, hm => by simp [rowsRVs] at hm
  | p, x :: xs, k, r, hm => by
    simp only [rowsRVs, List.mem_append] at hm
    rcases hm with hm | hm
    · exact rowsRV_arr k r hm
    · exact rowsRVs_arr k r hm
theorem rowsRes_arr {d : Nat} {x : Res} : ∀ k r, (k, r) ∈ rowsRes d x → (∃ q, k = cid d q) ∧ r.ment id = false := by
  cases x with
  | one x => exact rowsRV_arr
  | tup xs => exact rowsRVs_arr

/-- F2. -/
theorem stepE_ment {P : Program} {o : Oper} {e : Eff} (h : stepE P T o s e) (hf : s.free id = true) (hid : ∀ r, (id, r) ∉ e.rows) : e.v.ment id = false ∧ ∀ k r, (k, r) ∈ e.rows → r.ment id = false := by
  unfold stepE at h
  split at h
  · split at h
    · obtain ⟨r, h1, h2, h3, rfl⟩ := h
      exact ⟨avRes_ment hid, fun k r' hm => (rowsRes_arr k r' hm).2⟩
    · exact h.elim
  · split at h
    · rename_i he
      obtain ⟨hc, rfl⟩ := h
      exact effF_ment hf he hid
    · exact h.elim

theorem effF_keys {d : Nat} {op : Op} {c : Prop} {v : AV} {rows : List (Nat × ARow)} (h : effF T d op s = .ok c v rows) : ∀ k r, (k, r) ∈ rows → k = d ∧ (c → s.free d = true) := by
  have nil_ : rows = [] → ∀ k r, (k, r) ∈ rows → k = d ∧ (c → s.free d = true) := fun hr k r hm => by rw [hr] at hm; simp at hm
  cases op with
  | alloc ty =>
    simp only [effF] at h
    split at h
    · cases h
      intro k r hm
      simp only [List.mem_singleton, Prod.mk.injEq] at hm
      exact ⟨hm.1, fun hc => hc⟩
    · cases h
  | box ty x =>
    simp only [effF] at h
    split at h
    · cases h
      intro k r hm
      simp only [List.mem_singleton, Prod.mk.injEq] at hm
      exact ⟨hm.1, fun hc => hc.2⟩
    · cases h
  | buildSlice ty n parts =>
    simp only [effF] at h
    split at h
    · split at h
      · split at h
        · split at h
          · cases h
            intro k r hm
            simp only [List.mem_singleton, Prod.mk.injEq] at hm
            exact ⟨hm.1, fun hc => hc.1⟩
          · cases h
        · cases h
      · cases h
    · cases h
  | makeSlice ty l c0 =>
    simp only [effF] at h
    split at h
    · split at h
      · split at h
        · cases h
          intro k r hm
          simp only [List.mem_singleton, Prod.mk.injEq] at hm
          exact ⟨hm.1, fun hc => hc.1⟩
        · cases h
      · cases h
    · cases h
  | move x => simp only [effF] at h; cases h; exact nil_ rfl
  | assign x => simp only [effF] at h; cases h; exact nil_ rfl
  | pick a b e => simp only [effF] at h; split at h <;> cases h; exact nil_ rfl
  | build ty parts =>
    simp only [effF] at h
    split at h
    · split at h
      · split at h <;> cases h; exact nil_ rfl
      · split at h
        · split at h <;> cases h; exact nil_ rfl
        · cases h
      · cases h
    · cases h
  | load ty x => simp only [effF] at h; split at h <;> cases h; exact nil_ rfl
  | fieldAddr ty x f =>
    simp only [effF] at h
    unfold fieldAddrF at h
    split at h
    · split at h
      · split at h
        · split at h <;> cases h <;> exact nil_ rfl
        · cases h
      · cases h
    · cases h
  | field ty x f => simp only [effF] at h; split at h <;> cases h; exact nil_ rfl
  | indexAddr ty x i =>
    simp only [effF] at h
    unfold indexAddrF at h
    split at h
    · split at h
      · split at h
        · split at h
          · split at h
            · split at h <;> cases h; exact nil_ rfl
            · split at h <;> cases h; exact nil_ rfl
            · cases h
          · cases h
        · split at h
          · split at h <;> cases h <;> exact nil_ rfl
          · cases h
        · cases h
      · cases h
    · cases h
  | index ty x i =>
    simp only [effF] at h
    unfold indexF at h
    split at h
    · split at h
      · split at h
        · split at h <;> cases h; exact nil_ rfl
        · cases h
      · cases h
    · split at h
      · split at h
        · split at h
          · split at h <;> cases h; exact nil_ rfl
          · cases h
        · cases h
      · cases h
    · cases h
  | binOp op ty x y ty2 =>
    simp only [effF] at h
    unfold binF at h
    split at h
    · split at h
      · unfold shF at h
        split at h <;> cases h <;> exact nil_ rfl
      · split at h
        · unfold intF at h
          split at h <;> cases h <;> exact nil_ rfl
        · cases h
    · split at h
      · split at h
        · unfold boolF at h
          split at h <;> cases h <;> exact nil_ rfl
        · cases h
      · cases h
    · split at h
      · split at h
        · unfold eqF at h
          split at h <;> cases h <;> exact nil_ rfl
        · cases h
      · cases h
    · unfold strF at h
      split at h <;> cases h <;> exact nil_ rfl
    · split at h
      · unfold nilF at h
        split at h <;> cases h <;> exact nil_ rfl
      · cases h
    · split at h
      · unfold nilF at h
        split at h <;> cases h <;> exact nil_ rfl
      · cases h
    · cases h
  | unOp op ty x =>
    simp only [effF] at h
    unfold unF at h
    split at h
    · split at h <;> cases h; exact nil_ rfl
    · split at h <;> cases h; exact nil_ rfl
    · cases h
  | nilCheck x => simp only [effF] at h; split at h <;> cases h <;> exact nil_ rfl
  | convert src dst x =>
    simp only [effF] at h
    unfold convF at h
    split at h
    · split at h
      · split at h <;> cases h; exact nil_ rfl
      · cases h
    · split at h
      · split at h <;> cases h; exact nil_ rfl
      · cases h
    · cases h
  | slice ty x lo hi mx =>
    simp only [effF] at h
    split at h
    · unfold sliceF at h
      split at h
      · split at h
        · split at h <;> cases h; exact nil_ rfl
        · cases h
      · split at h
        · split at h
          · split at h <;> cases h; exact nil_ rfl
          · cases h
        · cases h
      · split at h
        · split at h
          · split at h
            · split at h <;> cases h; exact nil_ rfl
            · cases h
          · cases h
        · cases h
      · cases h
    · cases h
  | extract x i =>
    simp only [effF] at h
    split at h
    · split at h <;> cases h; exact nil_ rfl
    · cases h
  | makeFunc fn first captured =>
    simp only [effF] at h
    split at h
    · cases h; exact nil_ rfl
    · split at h
      · split at h
        · cases h; exact nil_ rfl
        · split at h <;> cases h; exact nil_ rfl
      · cases h
    · cases h
  | call c0 =>
    simp only [effF] at h
    split at h
    · split at h
      · split at h
        · split at h
          · unfold lenF at h
            split at h
            · cases h; exact nil_ rfl
            · cases h; exact nil_ rfl
            · split at h <;> cases h; exact nil_ rfl
            · cases h
          · unfold lenS at h
            split at h <;> cases h; exact nil_ rfl
          · cases h
        · cases h
      · cases h
    · split at h
      · split at h <;> cases h; exact nil_ rfl
      · cases h
    · split at h
      · split at h <;> cases h; exact nil_ rfl
      · cases h
    · cases h
  | _ => simp [effF] at h

/-- An effect's rows bear ids of the operation's own, and they were free. -/
def ownId (d k : Nat) : Prop := k = d ∨ ∃ p, k = cid d p

theorem stepE_keys {P : Program} {o : Oper} {e : Eff} (h : stepE P T o s e) : ∀ k r, (k, r) ∈ e.rows → ownId (o.dst.getD 0) k ∧ s.free k = true := by
  unfold stepE at h
  split at h
  · split at h
    · obtain ⟨r, h1, h2, h3, rfl⟩ := h
      intro k r' hm
      exact ⟨.inr (rowsRes_arr (id := 0) k r' hm).1, List.all_eq_true.1 h3.1 _ hm⟩
    · exact h.elim
  · split at h
    · rename_i he
      obtain ⟨hc, rfl⟩ := h
      intro k r' hm
      obtain ⟨h1, h2⟩ := effF_keys he k r' hm
      exact ⟨.inl h1, by rw [h1]; exact h2 hc⟩
    · exact h.elim

end
end Go.Abs
