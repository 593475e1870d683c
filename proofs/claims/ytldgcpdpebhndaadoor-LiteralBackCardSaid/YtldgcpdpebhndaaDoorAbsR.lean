/-
  What an operation's effect leads to.
-/
import Derived.Test.YtldgcpdpebhndaaDoorAbsO
import Derived.Orders
set_option linter.unusedSimpArgs false
set_option linter.unusedVariables false
namespace Go.Abs
open Go.RowKit

section
variable {s t : ASt} {T : Tab} {id : Nat}

theorem take_ment {ag : Bool} {cs : List AC} {off n : Nat} {v : AV} (h : takeAV ag cs off n = some v) (hm : cs.any (·.ment id) = false) : v.ment id = false := by
  rw [List.any_eq_false] at hm
  unfold takeAV at h
  split at h
  · split at h
    · cases h
      unfold AV.ment
      rw [List.any_eq_false]
      intro x hx
      exact hm x (List.mem_of_mem_drop (List.mem_of_mem_take hx))
    · cases h
  · split at h
    · rename_i x hx
      cases h
      unfold AV.ment
      have := hm x (List.mem_of_getElem? hx)
      simpa using this
    · cases h

theorem loadF_ment {ty : Nat} (hf : s.free id = true) {x v : AV} (h : loadF T ty s.rows x = some v) : v.ment id = false := by
  unfold loadF at h
  split at h
  · split at h
    · rename_i hr
      have := (find_free_row hf hr).2
      exact take_ment h this
    · cases h
  · split at h
    · split at h
      · exact take_ment h (ment_map _ _)
      · cases h
    · cases h
  · split at h
    · exact take_ment h (ment_map _ _)
    · cases h
  · cases h

theorem splice_ment {cs xs : List AC} {off : Nat} (h1 : cs.any (·.ment id) = false) (h2 : xs.any (·.ment id) = false) : (splice cs off xs).any (·.ment id) = false := by
  rw [List.any_eq_false] at *
  intro x hx
  simp only [splice, List.mem_append] at hx
  rcases hx with (hx | hx) | hx
  · exact h1 x (List.mem_of_mem_take hx)
  · exact h2 x hx
  · exact h1 x (List.mem_of_mem_drop hx)

theorem cells_nm {v : AV} {cs : List AC} (h : v.cells = some cs) (hm : v.ment id = false) : cs.any (·.ment id) = false := by
  cases hb : cs.any (·.ment id) with
  | false => rfl
  | true => rw [cells_ment h hb] at hm; cases hm

theorem buildF_ment (hf : s.free id = true) {fs : List (Nat × Nat × Bool)} : ∀ {l : List (Nat × Operand)} {cs cs' : List AC}, buildF fs s cs l = some cs' → cs.any (·.ment id) = false → cs'.any (·.ment id) = false
  | [], cs, cs', h, hm => by simp only [buildF] at h; cases h; exact hm
  | (i, x) :: l, cs, cs', h, hm => by
    simp only [buildF] at h
    split at h
    · rename_i hx
      split at h
      · exact buildF_ment hf h (splice_ment hm (cells_nm hx (ev_free hf x)))
      · cases h
    · cases h

theorem zacs_ment (l : List Value) : (l.map zac).any (·.ment id) = false := by
  rw [List.any_eq_false]
  intro x hx
  obtain ⟨v, _, rfl⟩ := List.mem_map.1 hx
  simp [zac_ment]

theorem sint_ment (k : IntKind) (n : Int) : (sint k n).ment id = false := by unfold sint AV.ment; rfl
theorem sbool_ment (b : Bool) : (sbool b).ment id = false := by unfold sbool AV.ment; rfl
theorem sstr_ment (b : ByteArray) : (sstr b).ment id = false := by unfold sstr AV.ment; rfl
theorem d_ment (x : DC) : (AV.c (.d x)).ment id = false := by unfold AV.ment; rfl
theorem dptr_ment (x : List DC) : (AV.c (.dptr x)).ment id = false := by unfold AV.ment; rfl
theorem ptr_ment {i o : Nat} (h : i ≠ id) : (AV.c (.ptr i o)).ment id = false := by unfold AV.ment; simp [ment_ptr, h]
theorem row_ment {i : Nat} (h : i ≠ id) : (AV.c (.row i)).ment id = false := by unfold AV.ment; simp [ment_row, h]

/-- What an effect leads to is what the state leads to, or its own rows. -/
theorem capsOf_ne (hf : s.free id = true) : ∀ {l : List Operand} {pre post : List (List DC)} {i : Nat}, capsOf s l = some (pre, i, post) → i ≠ id
  | [], pre, post, i, h => by simp [capsOf] at h
  | x :: l, pre, post, i, h => by
    simp only [capsOf] at h
    split at h
    · split at h
      · rename_i hc
        cases h
        exact capsOf_ne hf hc
      · cases h
    · rename_i i' he
      split at h
      · cases h
        intro e
        subst e
        have := ev_free hf x
        rw [he] at this
        unfold AV.ment at this
        simp [ment_ptr] at this
      · cases h
    · cases h

theorem effF_ment (hf : s.free id = true) {d : Nat} {op : Op} {c : Prop} {v : AV} {rows : List (Nat × ARow)} (h : effF T d op s = .ok c v rows) (hid : ∀ r, (id, r) ∉ rows) :
    v.ment id = false ∧ ∀ k r, (k, r) ∈ rows → r.ment id = false := by
  have none_ : rows = [] → v.ment id = false → v.ment id = false ∧ ∀ k r, (k, r) ∈ rows → r.ment id = false := fun hr hv => ⟨hv, fun k r hm => by rw [hr] at hm; simp at hm⟩
  have dne : ∀ r, (d, r) ∈ rows → d ≠ id := fun r hm e => by subst e; exact hid r hm
  cases op with
  | move x => simp only [effF] at h; cases h; exact none_ rfl (ev_free hf x)
  | assign x => simp only [effF] at h; cases h; exact none_ rfl (ev_free hf x)
  | pick a b e =>
    simp only [effF] at h
    split at h
    · cases h; refine none_ rfl ?_; split <;> exact ev_free hf _
    · cases h
  | alloc ty =>
    simp only [effF] at h
    split at h
    · cases h
      refine ⟨ptr_ment (dne _ (List.mem_singleton.2 rfl)), fun k r hm => ?_⟩
      simp only [List.mem_singleton, Prod.mk.injEq] at hm
      rw [hm.2]; exact zacs_ment _
    · cases h
  | box ty x =>
    simp only [effF] at h
    split at h
    · rename_i hx
      cases h
      refine ⟨ptr_ment (dne _ (List.mem_singleton.2 rfl)), fun k r hm => ?_⟩
      simp only [List.mem_singleton, Prod.mk.injEq] at hm
      rw [hm.2]; exact cells_nm hx (ev_free hf x)
    · cases h
  | build ty parts =>
    simp only [effF] at h
    split at h
    · split at h
      · split at h
        · rename_i hb
          cases h
          refine none_ rfl ?_
          unfold AV.ment
          exact buildF_ment hf hb (zacs_ment _)
        · cases h
      · split at h
        · split at h
          · rename_i hb
            cases h
            refine none_ rfl ?_
            unfold AV.ment
            exact buildF_ment hf hb (zacs_ment _)
          · cases h
        · cases h
      · cases h
    · cases h
  | buildSlice ty n parts =>
    simp only [effF] at h
    split at h
    · split at h
      · split at h
        · split at h
          · split at h
            · cases h
              refine ⟨row_ment (dne _ (List.mem_singleton.2 rfl)), fun k r hm => ?_⟩
              simp only [List.mem_singleton, Prod.mk.injEq] at hm
              rw [hm.2]; rfl
            · split at h
              · cases h
                refine ⟨by unfold AV.ment; rfl, fun k r hm => ?_⟩
                simp only [List.mem_singleton, Prod.mk.injEq] at hm
                rw [hm.2]; rfl
              · cases h
                refine ⟨row_ment (dne _ (List.mem_singleton.2 rfl)), fun k r hm => ?_⟩
                simp only [List.mem_singleton, Prod.mk.injEq] at hm
                rw [hm.2]; rfl
          · cases h
        · cases h
      · cases h
    · cases h
  | makeSlice ty l c0 =>
    simp only [effF] at h
    split at h
    · split at h
      · split at h
        · cases h
          refine ⟨row_ment (dne _ (List.mem_singleton.2 rfl)), fun k r hm => ?_⟩
          simp only [List.mem_singleton, Prod.mk.injEq] at hm
          rw [hm.2]; rfl
        · cases h
      · cases h
    · cases h
  | load ty x =>
    simp only [effF] at h
    split at h
    · rename_i hl
      cases h; exact none_ rfl (loadF_ment hf hl)
    · cases h
  | fieldAddr ty x f =>
    simp only [effF] at h
    have hx := ev_free hf x
    unfold fieldAddrF at h
    split at h
    · split at h
      · split at h
        · split at h
          · rename_i he
            cases h
            rw [he] at hx
            refine none_ rfl (ptr_ment fun e => ?_)
            subst e; rw [ment_ptr_self] at hx; cases hx
          · rename_i he
            cases h
            rw [he] at hx
            refine none_ rfl ?_
            unfold AV.ment at hx ⊢
            rw [ment_eptr] at hx ⊢; exact hx
          · cases h; exact none_ rfl (dptr_ment _)
          · cases h
        · cases h
      · cases h
    · cases h
  | field ty x f =>
    simp only [effF] at h
    split at h
    · rename_i hl
      cases h
      refine none_ rfl ?_
      have hx := ev_free hf x
      unfold fieldF at hl
      split at hl
      · rename_i he
        rw [he] at hx
        unfold AV.ment at hx
        split at hl
        · split at hl
          · split at hl
            · exact take_ment hl hx
            · cases hl
          · cases hl
        · cases hl
      · cases hl
    · cases h
  | indexAddr ty x i =>
    simp only [effF] at h
    have hx := ev_free hf x
    unfold indexAddrF at h
    split at h
    · split at h
      · split at h
        · split at h
          · split at h
            · split at h
              · cases h; exact none_ rfl (dptr_ment _)
              · cases h
            · rename_i he
              split at h
              · cases h
                rw [he] at hx
                refine none_ rfl ?_
                unfold AV.ment at hx ⊢
                rw [ment_row] at hx; rw [ment_eptr]; exact hx
              · cases h
            · cases h
          · cases h
        · split at h
          · split at h
            · rename_i he
              cases h
              rw [he] at hx
              refine none_ rfl ?_
              unfold AV.ment at hx ⊢
              rw [ment_ptr] at hx ⊢; exact hx
            · rename_i he
              cases h
              rw [he] at hx
              refine none_ rfl ?_
              unfold AV.ment at hx ⊢
              rw [ment_eptr] at hx ⊢; exact hx
            · cases h; exact none_ rfl (dptr_ment _)
            · cases h
          · cases h
        · cases h
      · cases h
    · cases h
  | index ty x i =>
    simp only [effF] at h
    unfold indexF at h
    split at h
    · split at h
      · split at h
        · split at h
          · cases h; exact none_ rfl (sint_ment _ _)
          · cases h
        · cases h
      · cases h
    · rename_i he hn
      have hx := ev_free hf x
      rw [he] at hx
      unfold AV.ment at hx
      split at h
      · split at h
        · split at h
          · split at h
            · rename_i hl
              cases h
              exact none_ rfl (take_ment hl hx)
            · cases h
          · cases h
        · cases h
      · cases h
    · cases h
  | binOp op ty x y ty2 =>
    simp only [effF] at h
    unfold binF at h
    split at h
    · split at h
      · unfold shF at h
        split at h <;> cases h <;> first | exact none_ rfl (sint_ment _ _) | exact none_ rfl (sbool_ment _)
      · split at h
        · unfold intF at h
          split at h <;> cases h <;> first | exact none_ rfl (sint_ment _ _) | exact none_ rfl (sbool_ment _)
        · cases h
    · split at h
      · split at h
        · unfold boolF at h
          split at h <;> cases h <;> first | exact none_ rfl (sint_ment _ _) | exact none_ rfl (sbool_ment _)
        · cases h
      · cases h
    · split at h
      · split at h
        · unfold eqF at h
          split at h <;> cases h <;> first | exact none_ rfl (sint_ment _ _) | exact none_ rfl (sbool_ment _)
        · cases h
      · cases h
    · unfold strF at h
      split at h <;> cases h <;> first | exact none_ rfl (sstr_ment _) | exact none_ rfl (sbool_ment _)
    · split at h
      · unfold nilF at h
        split at h <;> cases h <;> exact none_ rfl (sbool_ment _)
      · cases h
    · split at h
      · unfold nilF at h
        split at h <;> cases h <;> exact none_ rfl (sbool_ment _)
      · cases h
    · cases h
  | unOp op ty x =>
    simp only [effF] at h
    unfold unF at h
    split at h
    · split at h <;> cases h; exact none_ rfl (sint_ment _ _)
    · split at h <;> cases h; exact none_ rfl (sbool_ment _)
    · cases h
  | nilCheck x =>
    simp only [effF] at h
    have hx := ev_free hf x
    split at h
    · rename_i he; cases h; rw [he] at hx; exact none_ rfl hx
    · rename_i he; cases h; rw [he] at hx; exact none_ rfl hx
    · rename_i he; cases h; rw [he] at hx; exact none_ rfl hx
    · cases h
  | convert src dst x =>
    simp only [effF] at h
    split at h
    · cases h; exact none_ rfl (sstr_ment _)
    unfold convF at h
    split at h
    · split at h
      · split at h <;> cases h <;> first | exact none_ rfl (sint_ment _ _) | exact none_ rfl (sstr_ment _)
      · cases h
    · split at h
      · split at h <;> cases h; exact none_ rfl (sstr_ment _)
      · cases h
    · cases h
  | slice ty x lo hi mx =>
    simp only [effF] at h
    split at h
    · unfold sliceF at h
      split at h
      · split at h
        · split at h <;> cases h; exact none_ rfl (sstr_ment _)
        · cases h
      · split at h
        · split at h
          · split at h
            · cases h; exact none_ rfl (d_ment _)
            · cases h
          · cases h
        · cases h
      · split at h
        · split at h
          · split at h
            · split at h
              · cases h; exact none_ rfl (d_ment _)
              · cases h
            · cases h
          · cases h
        · cases h
      · cases h
    · cases h
  | extract x i =>
    simp only [effF] at h
    have hx := ev_free hf x
    split at h
    · rename_i xs he
      split at h
      · rename_i v' hv
        cases h
        rw [he] at hx
        unfold AV.ment at hx
        refine none_ rfl ?_
        clear he none_
        induction xs generalizing i with
        | nil => simp at hv
        | cons y ys ih =>
          unfold mentL at hx
          rw [Bool.or_eq_false_iff] at hx
          cases i with
          | zero => simp at hv; subst hv; exact hx.1
          | succ i => exact ih i (by simpa using hv) hx.2
      · cases h
    · cases h
  | makeFunc fn first captured =>
    simp only [effF] at h
    split at h
    · cases h; exact none_ rfl (d_ment _)
    · split at h
      · split at h
        · cases h; exact none_ rfl (d_ment _)
        · split at h
          · rename_i hcp
            cases h
            refine none_ rfl ?_
            unfold AV.ment
            rw [ment_pclo]
            simpa using capsOf_ne hf hcp
          · cases h
      · cases h
    · cases h
  | call c0 =>
    simp only [effF] at h
    split at h
    · split at h
      · split at h
        · split at h
          · unfold lenF at h
            split at h
            · cases h; exact none_ rfl (sint_ment _ _)
            · cases h; exact none_ rfl (sint_ment _ _)
            · split at h
              · cases h; exact none_ rfl (sint_ment _ _)
              · cases h
            · cases h
          · unfold lenS at h
            split at h
            · cases h; exact none_ rfl (sint_ment _ _)
            · cases h
          · cases h
        · cases h
      · cases h
    · split at h
      · split at h
        · cases h; exact none_ rfl (sint_ment _ _)
        · cases h
      · cases h
    · split at h
      · split at h
        · cases h; exact none_ rfl (sint_ment _ _)
        · cases h
      · cases h
    · split at h
      · split at h
        · split at h
          · split at h
            · cases h
              refine ⟨row_ment (dne _ (List.mem_singleton.2 rfl)), fun k r hm => ?_⟩
              simp only [List.mem_singleton, Prod.mk.injEq] at hm
              rw [hm.2]; rfl
            · cases h
          · cases h
        · cases h
      · split at h
        · split at h
          · split at h
            · split at h
              · cases h
                refine ⟨d_ment _, fun k r hm => ?_⟩
                simp only [List.mem_singleton, Prod.mk.injEq] at hm
                rw [hm.2]; rfl
              · cases h
            · cases h
          · cases h
        · cases h
      · cases h
    · cases h
  | _ => simp [effF] at h

theorem acRC_ment {d p : Nat} {x : RC} (hid : ∀ r, (id, r) ∉ rowsRC d p x) : (acRC d p x).ment id = false := by
  cases x with
  | d x => rfl
  | fresh e sz xs =>
    simp only [acRC, ment_row]
    have : cid d p ≠ id := fun e' => hid (.arr e sz xs false) (by simp [rowsRC, e'])
    simp [this]
theorem acRCs_ment {d : Nat} : ∀ {p : Nat} {xs : List RC}, (∀ r, (id, r) ∉ rowsRCs d p xs) → (acRCs d p xs).any (·.ment id) = false
  | p, [], _ => rfl
  | p, x :: xs, h => by
    simp only [acRCs, List.any_cons, Bool.or_eq_false_iff]
    exact ⟨acRC_ment fun r hr => h r (by simp only [rowsRCs, List.mem_append]; exact .inl hr), acRCs_ment fun r hr => h r (by simp only [rowsRCs, List.mem_append]; exact .inr hr)⟩
theorem avRV_ment {d p : Nat} {x : RV} (hid : ∀ r, (id, r) ∉ rowsRV d p x) : (avRV d p x).ment id = false := by
  cases x with
  | c x => unfold avRV AV.ment; exact acRC_ment hid
  | agg xs => unfold avRV AV.ment; exact acRCs_ment hid
theorem avRVs_ment {d : Nat} : ∀ {p : Nat} {xs : List RV}, (∀ r, (id, r) ∉ rowsRVs d p xs) → mentL id (avRVs d p xs) = false
  | p, [], _ => by unfold avRVs mentL; rfl
  | p, x :: xs, h => by
    unfold avRVs mentL
    rw [Bool.or_eq_false_iff]
    exact ⟨avRV_ment fun r hr => h r (by simp only [rowsRVs, List.mem_append]; exact .inl hr), avRVs_ment fun r hr => h r (by simp only [rowsRVs, List.mem_append]; exact .inr hr)⟩
theorem avRes_ment {d : Nat} {x : Res} (hid : ∀ r, (id, r) ∉ rowsRes d x) : (avRes d x).ment id = false := by
  cases x with
  | one x => exact avRV_ment hid
  | tup xs => unfold avRes AV.ment; exact avRVs_ment hid

theorem rowsRC_arr {d p : Nat} {x : RC} : ∀ k r, (k, r) ∈ rowsRC d p x → (∃ q, k = cid d q) ∧ r.ment id = false := by
  intro k r hm
  cases x with
  | d x => simp [rowsRC] at hm
  | fresh e sz xs => simp only [rowsRC, List.mem_singleton, Prod.mk.injEq] at hm; exact ⟨⟨p, hm.1⟩, by rw [hm.2]; rfl⟩
theorem rowsRCs_arr {d : Nat} : ∀ {p : Nat} {xs : List RC} (k : Nat) (r : ARow), (k, r) ∈ rowsRCs d p xs → (∃ q, k = cid d q) ∧ r.ment id = false
  | p, [], k, r, hm => by simp [rowsRCs] at hm
  | p, x :: xs, k, r, hm => by
    simp only [rowsRCs, List.mem_append] at hm
    rcases hm with hm | hm
    · exact rowsRC_arr k r hm
    · exact rowsRCs_arr k r hm
theorem rowsRV_arr {d p : Nat} {x : RV} : ∀ k r, (k, r) ∈ rowsRV d p x → (∃ q, k = cid d q) ∧ r.ment id = false := by
  cases x with
  | c x => exact rowsRC_arr
  | agg xs => exact rowsRCs_arr
theorem rowsRVs_arr {d : Nat} : ∀ {p : Nat} {xs : List RV} (k : Nat) (r : ARow), (k, r) ∈ rowsRVs d p xs → (∃ q, k = cid d q) ∧ r.ment id = false
  | p, [], k, r, hm => by simp [rowsRVs] at hm
  | p, x :: xs, k, r, hm => by
    simp only [rowsRVs, List.mem_append] at hm
    rcases hm with hm | hm
    · exact rowsRV_arr k r hm
    · exact rowsRVs_arr k r hm
theorem rowsRes_arr {d : Nat} {x : Res} : ∀ k r, (k, r) ∈ rowsRes d x → (∃ q, k = cid d q) ∧ r.ment id = false := by
  cases x with
  | one x => exact rowsRV_arr
  | tup xs => exact rowsRVs_arr

/-- F2. -/
theorem stepE_ment {P : Program} {o : Oper} {e : Eff} (h : stepE P T o s e) (hf : s.free id = true) (hid : ∀ r, (id, r) ∉ e.rows) : e.v.ment id = false ∧ ∀ k r, (k, r) ∈ e.rows → r.ment id = false := by
  unfold stepE at h
  split at h
  · split at h
    · obtain ⟨r, h1, h2, h3, rfl⟩ := h
      exact ⟨avRes_ment hid, fun k r' hm => (rowsRes_arr k r' hm).2⟩
    · exact h.elim
  · split at h
    · rename_i he
      obtain ⟨hc, rfl⟩ := h
      exact effF_ment hf he hid
    · exact h.elim

theorem effF_keys {d : Nat} {op : Op} {c : Prop} {v : AV} {rows : List (Nat × ARow)} (h : effF T d op s = .ok c v rows) : ∀ k r, (k, r) ∈ rows → k = d ∧ (c → s.free d = true) := by
  have nil_ : rows = [] → ∀ k r, (k, r) ∈ rows → k = d ∧ (c → s.free d = true) := fun hr k r hm => by rw [hr] at hm; simp at hm
  cases op with
  | alloc ty =>
    simp only [effF] at h
    split at h
    · cases h
      intro k r hm
      simp only [List.mem_singleton, Prod.mk.injEq] at hm
      exact ⟨hm.1, fun hc => hc⟩
    · cases h
  | box ty x =>
    simp only [effF] at h
    split at h
    · cases h
      intro k r hm
      simp only [List.mem_singleton, Prod.mk.injEq] at hm
      exact ⟨hm.1, fun hc => hc.2⟩
    · cases h
  | buildSlice ty n parts =>
    simp only [effF] at h
    split at h
    · split at h
      · split at h
        · split at h
          · split at h
            · cases h
              intro k r hm
              simp only [List.mem_singleton, Prod.mk.injEq] at hm
              exact ⟨hm.1, fun hc => hc.1⟩
            · split at h <;> cases h <;> (intro k r hm; simp only [List.mem_singleton, Prod.mk.injEq] at hm; exact ⟨hm.1, fun hc => hc.1⟩)
          · cases h
        · cases h
      · cases h
    · cases h
  | makeSlice ty l c0 =>
    simp only [effF] at h
    split at h
    · split at h
      · split at h
        · cases h
          intro k r hm
          simp only [List.mem_singleton, Prod.mk.injEq] at hm
          exact ⟨hm.1, fun hc => hc.1⟩
        · cases h
      · cases h
    · cases h
  | move x => simp only [effF] at h; cases h; exact nil_ rfl
  | assign x => simp only [effF] at h; cases h; exact nil_ rfl
  | pick a b e => simp only [effF] at h; split at h <;> cases h; exact nil_ rfl
  | build ty parts =>
    simp only [effF] at h
    split at h
    · split at h
      · split at h <;> cases h; exact nil_ rfl
      · split at h
        · split at h <;> cases h; exact nil_ rfl
        · cases h
      · cases h
    · cases h
  | load ty x => simp only [effF] at h; split at h <;> cases h; exact nil_ rfl
  | fieldAddr ty x f =>
    simp only [effF] at h
    unfold fieldAddrF at h
    split at h
    · split at h
      · split at h
        · split at h <;> cases h <;> exact nil_ rfl
        · cases h
      · cases h
    · cases h
  | field ty x f => simp only [effF] at h; split at h <;> cases h; exact nil_ rfl
  | indexAddr ty x i =>
    simp only [effF] at h
    unfold indexAddrF at h
    split at h
    · split at h
      · split at h
        · split at h
          · split at h
            · split at h <;> cases h; exact nil_ rfl
            · split at h <;> cases h; exact nil_ rfl
            · cases h
          · cases h
        · split at h
          · split at h <;> cases h <;> exact nil_ rfl
          · cases h
        · cases h
      · cases h
    · cases h
  | index ty x i =>
    simp only [effF] at h
    unfold indexF at h
    split at h
    · split at h
      · split at h
        · split at h <;> cases h; exact nil_ rfl
        · cases h
      · cases h
    · split at h
      · split at h
        · split at h
          · split at h <;> cases h; exact nil_ rfl
          · cases h
        · cases h
      · cases h
    · cases h
  | binOp op ty x y ty2 =>
    simp only [effF] at h
    unfold binF at h
    split at h
    · split at h
      · unfold shF at h
        split at h <;> cases h <;> exact nil_ rfl
      · split at h
        · unfold intF at h
          split at h <;> cases h <;> exact nil_ rfl
        · cases h
    · split at h
      · split at h
        · unfold boolF at h
          split at h <;> cases h <;> exact nil_ rfl
        · cases h
      · cases h
    · split at h
      · split at h
        · unfold eqF at h
          split at h <;> cases h <;> exact nil_ rfl
        · cases h
      · cases h
    · unfold strF at h
      split at h <;> cases h <;> exact nil_ rfl
    · split at h
      · unfold nilF at h
        split at h <;> cases h <;> exact nil_ rfl
      · cases h
    · split at h
      · unfold nilF at h
        split at h <;> cases h <;> exact nil_ rfl
      · cases h
    · cases h
  | unOp op ty x =>
    simp only [effF] at h
    unfold unF at h
    split at h
    · split at h <;> cases h; exact nil_ rfl
    · split at h <;> cases h; exact nil_ rfl
    · cases h
  | nilCheck x => simp only [effF] at h; split at h <;> cases h <;> exact nil_ rfl
  | convert src dst x =>
    simp only [effF] at h
    split at h
    · cases h; exact nil_ rfl
    unfold convF at h
    split at h
    · split at h
      · split at h <;> cases h <;> exact nil_ rfl
      · cases h
    · split at h
      · split at h <;> cases h; exact nil_ rfl
      · cases h
    · cases h
  | slice ty x lo hi mx =>
    simp only [effF] at h
    split at h
    · unfold sliceF at h
      split at h
      · split at h
        · split at h <;> cases h; exact nil_ rfl
        · cases h
      · split at h
        · split at h
          · split at h <;> cases h; exact nil_ rfl
          · cases h
        · cases h
      · split at h
        · split at h
          · split at h
            · split at h <;> cases h; exact nil_ rfl
            · cases h
          · cases h
        · cases h
      · cases h
    · cases h
  | extract x i =>
    simp only [effF] at h
    split at h
    · split at h <;> cases h; exact nil_ rfl
    · cases h
  | makeFunc fn first captured =>
    simp only [effF] at h
    split at h
    · cases h; exact nil_ rfl
    · split at h
      · split at h
        · cases h; exact nil_ rfl
        · split at h <;> cases h; exact nil_ rfl
      · cases h
    · cases h
  | call c0 =>
    simp only [effF] at h
    split at h
    · split at h
      · split at h
        · split at h
          · unfold lenF at h
            split at h
            · cases h; exact nil_ rfl
            · cases h; exact nil_ rfl
            · split at h <;> cases h; exact nil_ rfl
            · cases h
          · unfold lenS at h
            split at h <;> cases h; exact nil_ rfl
          · cases h
        · cases h
      · cases h
    · split at h
      · split at h <;> cases h; exact nil_ rfl
      · cases h
    · split at h
      · split at h <;> cases h; exact nil_ rfl
      · cases h
    · split at h
      · split at h
        · split at h
          · split at h
            · cases h
              intro k r hm
              simp only [List.mem_singleton, Prod.mk.injEq] at hm
              exact ⟨hm.1, fun hc => hc.1⟩
            · cases h
          · cases h
        · cases h
      · split at h
        · split at h
          · split at h
            · split at h
              · cases h
                intro k r hm
                simp only [List.mem_singleton, Prod.mk.injEq] at hm
                exact ⟨hm.1, fun hc => hc.1⟩
              · cases h
            · cases h
          · cases h
        · cases h
      · cases h
    · cases h
  | _ => simp [effF] at h

/-- An effect's rows bear ids of the operation's own, and they were free. -/
def ownId (d k : Nat) : Prop := k = d ∨ ∃ p, k = cid d p

theorem stepE_keys {P : Program} {o : Oper} {e : Eff} (h : stepE P T o s e) : ∀ k r, (k, r) ∈ e.rows → ownId (o.dst.getD 0) k ∧ s.free k = true := by
  unfold stepE at h
  split at h
  · split at h
    · obtain ⟨r, h1, h2, h3, rfl⟩ := h
      intro k r' hm
      exact ⟨.inr (rowsRes_arr (id := 0) k r' hm).1, List.all_eq_true.1 h3.1 _ hm⟩
    · exact h.elim
  · split at h
    · rename_i he
      obtain ⟨hc, rfl⟩ := h
      intro k r' hm
      obtain ⟨h1, h2⟩ := effF_keys he k r' hm
      exact ⟨.inl h1, by rw [h1]; exact h2 hc⟩
    · exact h.elim

end
end Go.Abs

set_option linter.unusedSimpArgs false
set_option linter.unusedVariables false
namespace Go.Abs
open Go.RowKit

/-- The edges that bind in every mode. -/
def bindsOn (o : Oper) : List Nat := (o.after.toList.filter fun e => Region.binds .any e).map (·.on)

def reach (ops : Array Oper) : Nat → Nat → Nat → Bool
  | 0, _, _ => false
  | f + 1, i, j => match ops[i]? with
    | some o => (bindsOn o).any fun p => p == j || reach ops f p j
    | none => false

/-- The slots at which an operation looks. -/
def looks (ops : Array Oper) (o : Oper) : List Nat :=
  (o.op.operands.toList.filterMap fun | .tmp t => some t | _ => none) ++ (match o.guard with | some (g, _) => ((ops[g]?).bind (·.dst)).toList | none => [])

/-- k: how many operations may come up in another order than the text's. -/
def drawOk (k : Nat) (ops : Array Oper) : Bool :=
  decide (k ≤ ops.size) &&
  (List.range ops.size).all (fun i => match ops[i]? with
    | some o => (bindsOn o).all (fun p => decide (p < i)) &&
      (if i < k then
        (!isW o.op || isAp o.op) && (match o.dst with | some d => decide (d < 1000) | none => false) &&
        (List.range k).all (fun j => match ops[j]? with
          | some o' => (i == j || o'.dst != o.dst) && (match o'.dst with | some d => !(looks ops o).contains d || (decide (j < i) && (bindsOn o).contains j) | none => true)
          | none => true)
      else (List.range i).all (fun j => reach ops ops.size i j))
    | none => true)

section
variable {P : Program} {T : Tab} {ops : Array Oper}

def stepGE (P : Program) (T : Tab) (ops : Array Oper) (o : Oper) (s : ASt) (e : Eff) : Prop :=
  match o.guard with
  | none => stepE P T o s e
  | some (j, want) => match gval ops s j with
    | some (some b) => (b = want → stepE P T o s e) ∧ (b = (!want) → e = ⟨.tup [], []⟩)
    | some none => e = ⟨.tup [], []⟩
    | none => False

def stepGD (P : Program) (T : Tab) (ops : Array Oper) (o : Oper) (K : ASt → Prop) (s : ASt) : Prop :=
  match o.guard with
  | none => stepD P T o K s
  | some (j, want) => match gval ops s j with
    | some (some b) => if b = want then stepD P T o K s else K (s.put o.dst (.tup []))
    | some none => K (s.put o.dst (.tup []))
    | none => False

/-- Operations that turn no row, in the order of the text. -/
def aOpsD (P : Program) (T : Tab) (ops : Array Oper) : List Oper → (ASt → Prop) → ASt → Prop
  | [], K, s => K s
  | o :: l, K, s => stepGD P T ops o (aOpsD P T ops l K) s
theorem aOpsD_nil {P : Program} {T : Tab} {ops : Array Oper} {K : ASt → Prop} {s : ASt} : aOpsD P T ops [] K s = K s := rfl
theorem aOpsD_cons {P : Program} {T : Tab} {ops : Array Oper} {o : Oper} {l : List Oper} {K : ASt → Prop} {s : ASt} : aOpsD P T ops (o :: l) K s = stepGD P T ops o (aOpsD P T ops l K) s := rfl
attribute [go_sem] aOpsD_nil aOpsD_cons stepGD stepD

theorem stepGD_E {o : Oper} {K : ASt → Prop} {s : ASt} (h : stepGD P T ops o K s) : ∃ e, stepGE P T ops o s e ∧ K (s.ap o.dst e) := by
  have one : stepD P T o K s → ∃ e, stepE P T o s e ∧ K (s.ap o.dst e) := fun h => let ⟨h1, h2⟩ := stepD_A h; (stepA_E h1).1 h2
  unfold stepGD at h
  unfold stepGE
  cases hgd : o.guard with
  | none => rw [hgd] at h; exact one h
  | some p =>
    obtain ⟨j, want⟩ := p
    rw [hgd] at h
    simp only at h ⊢
    cases hg : gval ops s j with
    | none => rw [hg] at h; exact h.elim
    | some b =>
      rw [hg] at h
      cases b with
      | none => exact ⟨_, rfl, h⟩
      | some b =>
        simp only at h ⊢
        by_cases hb : b = want
        · have hb' : ¬ b = !want := by subst hb; cases b <;> simp
          rw [if_pos hb] at h
          obtain ⟨e, h1, h2⟩ := one h
          exact ⟨e, ⟨fun _ => h1, fun h' => absurd h' hb'⟩, h2⟩
        · rw [if_neg hb] at h
          exact ⟨⟨.tup [], []⟩, ⟨fun h' => absurd h' hb, fun _ => rfl⟩, h⟩

theorem stepG_of {o : Oper} {s : ASt} {e : Eff} (hw : isW o.op = false ∨ isAp o.op = true) (h : stepGE P T ops o s e) : stepG false P T ops o (fun s' => s' = s.ap o.dst e) s := by
  have one : stepE P T o s e → stepA false P T o (fun s' => s' = s.ap o.dst e) s := fun h => (stepA_E (wF_none_of hw h)).2 ⟨e, h, rfl⟩
  unfold stepGE at h
  unfold stepG
  cases hgd : o.guard with
  | none => rw [hgd] at h; exact one h
  | some p =>
    obtain ⟨j, want⟩ := p
    rw [hgd] at h
    simp only at h ⊢
    cases hg : gval ops s j with
    | none => rw [hg] at h; exact h.elim
    | some b =>
      rw [hg] at h
      cases b with
      | none => simp only at h ⊢; subst h; rfl
      | some b =>
        simp only at h ⊢
        by_cases hb : b = want
        · rw [if_pos hb]; exact one (h.1 hb)
        · have hb' : b = !want := by cases b <;> cases want <;> simp_all
          rw [if_neg hb, h.2 hb']; rfl

theorem stepGE_keys {o : Oper} {s : ASt} {e : Eff} (h : stepGE P T ops o s e) : ∀ k r, (k, r) ∈ e.rows → ownId (o.dst.getD 0) k ∧ s.free k = true := by
  unfold stepGE at h
  cases hgd : o.guard with
  | none => rw [hgd] at h; exact stepE_keys h
  | some p =>
    obtain ⟨j, want⟩ := p
    rw [hgd] at h
    simp only at h
    cases hg : gval ops s j with
    | none => rw [hg] at h; exact h.elim
    | some b =>
      cases b with
      | none => rw [hg] at h; simp only at h; subst h; intro k r hm; simp at hm
      | some b =>
        rw [hg] at h
        simp only at h
        by_cases hb : b = want
        · exact stepE_keys (h.1 hb)
        · have hb' : b = !want := by cases b <;> cases want <;> simp_all
          have := h.2 hb'
          subst this
          intro k r hm; simp at hm

theorem stepGE_ment {o : Oper} {s : ASt} {e : Eff} {id : Nat} (h : stepGE P T ops o s e) (hf : s.free id = true) (hid : ∀ r, (id, r) ∉ e.rows) : e.v.ment id = false ∧ ∀ k r, (k, r) ∈ e.rows → r.ment id = false := by
  have und : e = ⟨.tup [], []⟩ → e.v.ment id = false ∧ ∀ k r, (k, r) ∈ e.rows → r.ment id = false := fun he => by
    subst he
    exact ⟨by unfold AV.ment mentL; rfl, fun k r hm => by simp at hm⟩
  unfold stepGE at h
  cases hgd : o.guard with
  | none => rw [hgd] at h; exact stepE_ment h hf hid
  | some p =>
    obtain ⟨j, want⟩ := p
    rw [hgd] at h
    simp only at h
    cases hg : gval ops s j with
    | none => rw [hg] at h; exact h.elim
    | some b =>
      cases b with
      | none => rw [hg] at h; exact und h
      | some b =>
        rw [hg] at h
        simp only at h
        by_cases hb : b = want
        · exact stepE_ment (h.1 hb) hf hid
        · have hb' : b = !want := by cases b <;> cases want <;> simp_all
          exact und (h.2 hb')

theorem stepGE_agree {o : Oper} {s t : ASt} {e : Eff} (h : stepGE P T ops o s e) (hA : Agree o.op.operands.toList s t) (hg : ∀ j want, o.guard = some (j, want) → gval ops t j = gval ops s j) (hf : ∀ id r, (id, r) ∈ e.rows → t.free id = true) : stepGE P T ops o t e := by
  unfold stepGE at h ⊢
  cases hgd : o.guard with
  | none => rw [hgd] at h; exact stepE_agree h hA hf
  | some p =>
    obtain ⟨j, want⟩ := p
    rw [hgd] at h
    simp only at h ⊢
    rw [hg j want hgd]
    split at h
    · exact ⟨fun hb => stepE_agree (h.1 hb) hA hf, h.2⟩
    · exact h
    · exact h.elim

end

/- The effects in the order of the text. -/
section
variable {P : Program} {T : Tab} {ops : Array Oper} {k : Nat} {s0 : ASt}

/-- What is known of a state in which the operations of D have come up. -/
structure St (ops : Array Oper) (k : Nat) (es : Nat → Eff) (s0 : ASt) (D : Nat → Prop) (s : ASt) : Prop where
  t1 : ∀ i o t, i < k → D i → ops[i]? = some o → o.dst = some t → find s.tmps t = some (es i).v
  t2 : ∀ t, (∀ i o, i < k → D i → ops[i]? = some o → o.dst ≠ some t) → find s.tmps t = find s0.tmps t
  r1 : ∀ i id r, i < k → D i → find (es i).rows id = some r → find s.rows id = some r
  r2 : ∀ id, (∀ i, i < k → D i → find (es i).rows id = none) → find s.rows id = find s0.rows id
  fr : ∀ i id r, i < k → ¬ D i → (id, r) ∈ (es i).rows → s.free id = true

/-- What the check says of the operations that may come up in any order. -/
structure Pre0 (ops : Array Oper) (k : Nat) : Prop where
  le : k ≤ ops.size
  bind : ∀ i o, ops[i]? = some o → ∀ p, p ∈ bindsOn o → p < i
  w : ∀ i o, i < k → ops[i]? = some o → isW o.op = false ∨ isAp o.op = true
  dst : ∀ i o, i < k → ops[i]? = some o → ∃ d, o.dst = some d ∧ d < 1000
  ne : ∀ i j o o', i < k → j < k → ops[i]? = some o → ops[j]? = some o' → o'.dst = o.dst → i = j
  look : ∀ i j o o' d, i < k → j < k → ops[i]? = some o → ops[j]? = some o' → o'.dst = some d → d ∈ looks ops o → j < i ∧ j ∈ bindsOn o
structure Pre (ops : Array Oper) (k : Nat) : Prop extends Pre0 ops k where
  tail : ∀ i, k ≤ i → i < ops.size → ∀ j, j < i → reach ops ops.size i j = true

theorem pre_of {k : Nat} (h : drawOk k ops = true) : Pre ops k := by
  unfold drawOk at h
  rw [Bool.and_eq_true, List.all_eq_true] at h
  obtain ⟨h1, h2⟩ := h
  have h1' : k ≤ ops.size := by simpa using h1
  have row : ∀ i o, ops[i]? = some o → (bindsOn o).all (fun p => decide (p < i)) = true ∧ (if i < k then
        (!isW o.op || isAp o.op) && (match o.dst with | some d => decide (d < 1000) | none => false) &&
        (List.range k).all (fun j => match ops[j]? with
          | some o' => (i == j || o'.dst != o.dst) && (match o'.dst with | some d => !(looks ops o).contains d || (decide (j < i) && (bindsOn o).contains j) | none => true)
          | none => true)
      else (List.range i).all (fun j => reach ops ops.size i j)) = true := by
    intro i o ho
    have hi : i < ops.size := (Array.getElem?_eq_some_iff.1 ho).1
    have := h2 i (List.mem_range.2 hi)
    rw [ho] at this
    simp only at this
    rw [Bool.and_eq_true] at this
    exact this
  have rowk : ∀ i o, i < k → ops[i]? = some o → (isW o.op = false ∨ isAp o.op = true) ∧ (match o.dst with | some d => decide (d < 1000) | none => false) = true ∧
      ∀ j o', j < k → ops[j]? = some o' → (i == j || o'.dst != o.dst) = true ∧ (match o'.dst with | some d => !(looks ops o).contains d || (decide (j < i) && (bindsOn o).contains j) | none => true) = true := by
    intro i o hi ho
    have := (row i o ho).2
    rw [if_pos hi, Bool.and_eq_true, Bool.and_eq_true, List.all_eq_true] at this
    obtain ⟨⟨q1, q2⟩, q3⟩ := this
    refine ⟨by simpa using q1, q2, fun j o' hj ho' => ?_⟩
    have := q3 j (List.mem_range.2 hj)
    rw [ho'] at this
    simp only at this
    rw [Bool.and_eq_true] at this
    exact this
  refine ⟨⟨h1', fun i o ho p hp => ?_, fun i o hi ho => (rowk i o hi ho).1, fun i o hi ho => ?_, fun i j o o' hi hj ho ho' hd => ?_, fun i j o o' d hi hj ho ho' hd hl => ?_⟩, fun i hk hi j hj => ?_⟩
  · have := List.all_eq_true.1 (row i o ho).1 p hp
    simpa using this
  · have := (rowk i o hi ho).2.1
    cases hd : o.dst with
    | none => rw [hd] at this; cases this
    | some d => rw [hd] at this; exact ⟨d, rfl, by simpa using this⟩
  · have := ((rowk i o hi ho).2.2 j o' hj ho').1
    rw [Bool.or_eq_true] at this
    rcases this with h | h
    · simpa using h
    · simp [hd] at h
  · have := ((rowk i o hi ho).2.2 j o' hj ho').2
    rw [hd] at this
    simp only [Bool.or_eq_true, Bool.and_eq_true] at this
    rcases this with h | h
    · simp at h; exact absurd hl h
    · exact ⟨by simpa using h.1, by simpa using h.2⟩
  · have ho := Array.getElem?_eq_getElem hi
    have := (row i _ ho).2
    rw [if_neg (by omega), List.all_eq_true] at this
    exact this j (List.mem_range.2 hj)

theorem ownId_one {d d' x : Nat} (h : d < 1000) (h' : d' < 1000) (h1 : ownId d x) (h2 : ownId d' x) : d = d' := by
  unfold ownId cid at h1 h2
  have e1 : x % 1000 = d := by rcases h1 with h1 | ⟨p, h1⟩ <;> subst h1 <;> omega
  have e2 : x % 1000 = d' := by rcases h2 with h2 | ⟨p, h2⟩ <;> subst h2 <;> omega
  exact e1.symm.trans e2

theorem own_apart (hp : Pre0 ops k) {i j : Nat} {o o' : Oper} {x : Nat} (hi : i < k) (hj : j < k) (ho : ops[i]? = some o) (ho' : ops[j]? = some o') (h1 : ownId (o.dst.getD 0) x) (h2 : ownId (o'.dst.getD 0) x) : i = j := by
  obtain ⟨d, hd, hlt⟩ := hp.dst i o hi ho
  obtain ⟨d', hd', hlt'⟩ := hp.dst j o' hj ho'
  have : d = d' := by
    rw [hd] at h1; rw [hd'] at h2
    simp only [Option.getD_some] at h1 h2
    exact ownId_one hlt hlt' h1 h2
  exact hp.ne i j o o' hi hj ho ho' (by rw [hd, hd', this])

theorem free_ap {s : ASt} {d : Option Nat} {e : Eff} {id : Nat} (h : (s.ap d e).free id = true) : s.free id = true := by
  unfold ASt.ap ASt.add ASt.put at h
  unfold ASt.free at h ⊢
  cases d with
  | none => simp only [List.all_append, Bool.and_eq_true] at h ⊢; exact ⟨h.1, h.2.2⟩
  | some d => simp only [List.all_cons, List.all_append, Bool.and_eq_true] at h ⊢; exact ⟨h.1.2, h.2.2⟩

theorem ap_free {s : ASt} {d : Option Nat} {e : Eff} {id : Nat} (h : s.free id = true) (h1 : e.v.ment id = false) (h2 : ∀ k r, (k, r) ∈ e.rows → k ≠ id ∧ r.ment id = false) : (s.ap d e).free id = true := by
  unfold ASt.ap ASt.add ASt.put
  unfold ASt.free at h ⊢
  rw [Bool.and_eq_true] at h
  have hrows : e.rows.all (fun p => p.1 != id && !p.2.ment id) = true := List.all_eq_true.2 fun p hp => by
    have := h2 p.1 p.2 hp
    simp [this.1, this.2]
  cases d with
  | none => simp only [List.all_append, Bool.and_eq_true]; exact ⟨h.1, hrows, h.2⟩
  | some d => simp only [List.all_cons, List.all_append, Bool.and_eq_true, h1]; exact ⟨⟨rfl, h.1⟩, hrows, h.2⟩

/-- One more operation has come up. -/
theorem St.step (hp : Pre0 ops k) {es : Nat → Eff} {D : Nat → Prop} {s : ASt} (h : St ops k es s0 D s) {i : Nat} {o : Oper} (hi : i < k) (hD : ¬ D i) (ho : ops[i]? = some o) (he : stepGE P T ops o s (es i))
    (hkeys : ∀ j o', j < k → ops[j]? = some o' → ∀ id r, (id, r) ∈ (es j).rows → ownId (o'.dst.getD 0) id) : St ops k es s0 (fun j => D j ∨ j = i) (s.ap o.dst (es i)) := by
  obtain ⟨d, hd, _⟩ := hp.dst i o hi ho
  have htm : ∀ t, find (s.ap o.dst (es i)).tmps t = if t = d then some (es i).v else find s.tmps t := by
    intro t; unfold ASt.ap ASt.add ASt.put; rw [hd]; rfl
  have hrw : ∀ id, find (s.ap o.dst (es i)).rows id = match find (es i).rows id with | some r => some r | none => find s.rows id := by
    intro id; unfold ASt.ap ASt.add ASt.put; rw [hd]; simp only; rw [find_append]; cases find (es i).rows id <;> rfl
  have hsize : ∀ j, j < k → ∃ o', ops[j]? = some o' := fun j hj => ⟨_, Array.getElem?_eq_getElem (Nat.lt_of_lt_of_le hj hp.le)⟩
  refine ⟨fun j o' t hj hDj ho' ht => ?_, fun t ht => ?_, fun j id r hj hDj hr => ?_, fun id hid => ?_, fun j id r hj hDj hm => ?_⟩
  · rw [htm]
    rcases hDj with hDj | rfl
    · have hne : t ≠ d := by
        intro e
        have := hp.ne i j o o' hi hj ho ho' (by rw [ht, hd, e])
        subst this; exact hD hDj
      rw [if_neg hne]
      exact h.t1 j o' t hj hDj ho' ht
    · rw [ho] at ho'
      cases ho'
      rw [hd] at ht
      cases ht
      rw [if_pos rfl]
  · rw [htm]
    have hne : t ≠ d := fun e => ht i o hi (.inr rfl) ho (by rw [hd, e])
    rw [if_neg hne]
    exact h.t2 t fun j o' hj hDj ho' => ht j o' hj (.inl hDj) ho'
  · rw [hrw]
    rcases hDj with hDj | rfl
    · have hnone : find (es i).rows id = none := by
        cases hf : find (es i).rows id with
        | none => rfl
        | some r' =>
          obtain ⟨o', ho'⟩ := hsize j hj
          have := own_apart hp hi hj ho ho' (hkeys i o hi ho id r' (find_mem hf)) (hkeys j o' hj ho' id r (find_mem hr))
          subst this; exact absurd hDj hD
      rw [hnone]
      exact h.r1 j id r hj hDj hr
    · rw [hr]
  · rw [hrw, hid i hi (.inr rfl)]
    exact h.r2 id fun j hj hDj => hid j hj (.inl hDj)
  · have hDj1 : ¬ D j := fun q => hDj (.inl q)
    have hji : j ≠ i := fun q => hDj (.inr q)
    have hfree := h.fr j id r hj hDj1 hm
    obtain ⟨o', ho'⟩ := hsize j hj
    have hown := hkeys j o' hj ho' id r hm
    have hnot : ∀ r', (id, r') ∉ (es i).rows := fun r' hr' => hji (own_apart hp hj hi ho' ho hown (hkeys i o hi ho id r' hr'))
    obtain ⟨h1, h2⟩ := stepGE_ment he hfree hnot
    exact ap_free hfree h1 fun k' r' hr' => ⟨fun e => hnot r' (by rw [← e]; exact hr'), h2 k' r' hr'⟩

/-- The states of the order of the text. -/
def text (ops : Array Oper) (es : Nat → Eff) (s0 : ASt) : Nat → ASt
  | 0 => s0
  | i + 1 => match ops[i]? with
    | some o => (text ops es s0 i).ap o.dst (es i)
    | none => text ops es s0 i

theorem text_free {es : Nat → Eff} {id : Nat} : ∀ {i j : Nat}, i ≤ j → (text ops es s0 j).free id = true → (text ops es s0 i).free id = true
  | i, 0, h, hf => by have : i = 0 := by omega
                      subst this; exact hf
  | i, j + 1, h, hf => by
    by_cases he : i = j + 1
    · subst he; exact hf
    · refine text_free (j := j) (by omega) ?_
      simp only [text] at hf
      split at hf
      · exact free_ap hf
      · exact hf

theorem text_St (hp : Pre0 ops k) {es : Nat → Eff} (htext : ∀ i o, i < k → ops[i]? = some o → stepGE P T ops o (text ops es s0 i) (es i)) :
    ∀ i, i ≤ k → St ops k es s0 (fun j => j < i) (text ops es s0 i) := by
  have hkeys : ∀ j o', j < k → ops[j]? = some o' → ∀ id r, (id, r) ∈ (es j).rows → ownId (o'.dst.getD 0) id := fun j o' hj ho' id r hm => (stepGE_keys (htext j o' hj ho') id r hm).1
  intro i
  induction i with
  | zero =>
    intro _
    refine ⟨fun i o t _ h => by omega, fun t _ => rfl, fun i id r _ h => by omega, fun id _ => rfl, fun i id r hi _ hm => ?_⟩
    have ho := Array.getElem?_eq_getElem (Nat.lt_of_lt_of_le hi hp.le)
    exact text_free (Nat.zero_le i) (stepGE_keys (htext i _ hi ho) id r hm).2
  | succ i ih =>
    intro hi
    have ho := Array.getElem?_eq_getElem (Nat.lt_of_lt_of_le (show i < k by omega) hp.le)
    have := (ih (by omega)).step hp (by omega) (by simp) ho (htext i _ (by omega) ho) hkeys
    have e : text ops es s0 (i + 1) = (text ops es s0 i).ap (ops[i]'(Nat.lt_of_lt_of_le (show i < k by omega) hp.le)).dst (es i) := by
      simp only [text, ho]
    rw [e]
    refine ⟨fun j o t hj h => this.t1 j o t hj (by omega), fun t ht => this.t2 t fun j o hj h => ht j o hj (by omega), fun j id r hj h => this.r1 j id r hj (by omega), fun id h => this.r2 id fun j hj hD => h j hj (by omega), fun j id r hj h => this.fr j id r hj (by omega)⟩

/-- Two states of which the same is known. -/
theorem St.same (hp : Pre0 ops k) {es : Nat → Eff} {D D' : Nat → Prop} {s s' : ASt} (h : St ops k es s0 D s) (h' : St ops k es s0 D' s') (hDD : ∀ i, i < k → (D i ↔ D' i)) :
    (∀ t, find s'.tmps t = find s.tmps t) ∧ (∀ id, find s'.rows id = find s.rows id) := by
  constructor
  · intro t
    by_cases hex : ∃ i o, i < k ∧ D i ∧ ops[i]? = some o ∧ o.dst = some t
    · obtain ⟨i, o, hi, hD, ho, ht⟩ := hex
      rw [h.t1 i o t hi hD ho ht, h'.t1 i o t hi ((hDD i hi).1 hD) ho ht]
    · rw [h.t2 t fun i o hi hD ho ht => hex ⟨i, o, hi, hD, ho, ht⟩, h'.t2 t fun i o hi hD ho ht => hex ⟨i, o, hi, (hDD i hi).2 hD, ho, ht⟩]
  · intro id
    by_cases hex : ∃ i r, i < k ∧ D i ∧ find (es i).rows id = some r
    · obtain ⟨i, r, hi, hD, hr⟩ := hex
      rw [h.r1 i id r hi hD hr, h'.r1 i id r hi ((hDD i hi).1 hD) hr]
    · have none_ : ∀ i, i < k → D i → find (es i).rows id = none := fun i hi hD => by
        cases hf : find (es i).rows id with
        | none => rfl
        | some r => exact absurd ⟨i, r, hi, hD, hf⟩ hex
      rw [h.r2 id none_, h'.r2 id fun i hi hD => none_ i hi ((hDD i hi).2 hD)]

end

section
variable {S : Nat → Nat → Prop} {w0 : World} {N : Fm} {g : Gh} {st : ASt} {a : Act} {w : World} {P : Program} {T : Tab}

/-- The relation looks at what is found alone. -/
theorem Rel.congr (h : Rel S w0 N g st a w) {s' : ASt} (ht : ∀ t, find s'.tmps t = find st.tmps t) (hr : ∀ id, find s'.rows id = find st.rows id) : Rel S w0 N g s' a w := by
  have hF : ∀ b o, Sf w0.heap.size S st.rows g b o → Sf w0.heap.size S s'.rows g b o := by
    intro b o hs
    rcases hs with hs | ⟨q1, q2⟩
    · exact .inl hs
    · exact .inr ⟨q1, fun id r c hf hg => q2 id r c (by rw [← hr]; exact hf) hg⟩
  have hc : ∀ b o, Sf w0.heap.size S st.rows g b o → b < w.heap.size → Sf w0.heap.size S s'.rows g b o ∧ cl w b o = cl w b o := fun b o hs _ => ⟨hF b o hs, rfl⟩
  have hk : ∀ id, g id = g id ∧ ∀ e sz xs fl, find st.rows id = some (.arr e sz xs fl) → ∃ xs' fl', find s'.rows id = some (.arr e sz xs' fl') ∧ xs'.length = xs.length :=
    fun id => ⟨rfl, fun e sz xs fl hf => ⟨xs, fl, by rw [hr]; exact hf, rfl⟩⟩
  refine ⟨h.below, h.size, h.calm, h.good, h.defers, fun id r b c hf hg => h.blk id r b c (by rw [← hr]; exact hf) hg, fun id id' r r' b c c' hf hf' hg hg' => h.inj id id' r r' b c c' (by rw [← hr]; exact hf) (by rw [← hr]; exact hf') hg hg', fun id r hf => ?_, fun i x hx => ?_⟩
  · exact (h.rows id r (by rw [← hr]; exact hf)).carry hc rfl (fun _ _ _ => rfl) (NonC.refl _) fun id2 _ => hk id2
  · obtain ⟨v, hv, hrv⟩ := h.tmps i x (by rw [← ht]; exact hx)
    exact ⟨v, hv, hrv.carry hc fun id2 _ => hk id2⟩

end
end Go.Abs

set_option linter.unusedSimpArgs false
set_option linter.unusedVariables false
namespace Go.Abs
open Go.RowKit

def cnt (f : Nat → Bool) : Nat → Nat
  | 0 => 0
  | n + 1 => cnt f n + (if f n then 0 else 1)

theorem cnt_set {f f' : Nat → Bool} {i : Nat} (hi : f i = false) (hi' : f' i = true) (h : ∀ j, j ≠ i → f' j = f j) : ∀ n, cnt f n = cnt f' n + (if i < n then 1 else 0)
  | 0 => by simp [cnt]
  | n + 1 => by
    have ih := cnt_set hi hi' h n
    unfold cnt
    by_cases hn : n = i
    · subst hn
      rw [hi, hi', ih]
      simp
    · rw [h n hn, ih]
      have he : (if i < n + 1 then (1 : Nat) else 0) = if i < n then 1 else 0 := by
        by_cases hlt : i < n
        · rw [if_pos hlt, if_pos (show i < n + 1 by omega)]
        · rw [if_neg hlt, if_neg (show ¬ i < n + 1 by omega)]
      rw [he]
      generalize (if i < n then (1 : Nat) else 0) = z
      generalize (if f n = true then (0 : Nat) else 1) = y
      omega

theorem cnt_all {f : Nat → Bool} {m : Nat} (h : ∀ j, j < m → f j = true) : cnt f m = 0 := by
  induction m with
  | zero => rfl
  | succ m ih => unfold cnt; rw [ih fun j hj => h j (by omega), h m (by omega)]; rfl

theorem cnt_pos {f : Nat → Bool} {i : Nat} (hi : f i = false) : ∀ {n}, i < n → 0 < cnt f n
  | n + 1, h => by
    unfold cnt
    by_cases hn : n = i
    · subst hn; rw [hi]; simp
    · have := cnt_pos hi (show i < n by omega); omega

theorem least {p : Nat → Bool} {i : Nat} (hi : p i = false) : ∃ j, j ≤ i ∧ p j = false ∧ ∀ l, l < j → p l = true := by
  induction i using Nat.strongRecOn with
  | _ i ih =>
    by_cases h : ∃ l, l < i ∧ p l = false
    · obtain ⟨l, hl, hp⟩ := h
      obtain ⟨j, h1, h2, h3⟩ := ih l hl hp
      exact ⟨j, by omega, h2, h3⟩
    · refine ⟨i, Nat.le_refl _, hi, fun l hl => ?_⟩
      cases hp : p l with
      | true => rfl
      | false => exact absurd ⟨l, hl, hp⟩ h

section
variable {ops : Array Oper} {k : Nat}

theorem ready_iff {listed : Array Bool} {i : Nat} : i ∈ Region.ready .any ops listed ↔ ∃ o, ops[i]? = some o ∧ listed.getD i true = false ∧ ∀ p ∈ bindsOn o, listed.getD p false = true := by
  unfold Region.ready
  rw [List.mem_filter, List.mem_range]
  constructor
  · rintro ⟨hi, h⟩
    have ho := Array.getElem?_eq_getElem hi
    refine ⟨_, ho, ?_⟩
    rw [ho] at h
    simp only [Bool.and_eq_true, Option.map_some, Option.getD_some, Bool.not_eq_true'] at h
    refine ⟨h.1, fun p hp => ?_⟩
    unfold bindsOn at hp
    rw [List.mem_map] at hp
    obtain ⟨e, he, rfl⟩ := hp
    rw [List.mem_filter] at he
    have h2 := h.2
    rw [Array.all_eq_true'] at h2
    have := h2 e (by simpa using he.1)
    rw [he.2] at this
    simpa using this
  · rintro ⟨o, ho, h1, h2⟩
    have hi : i < ops.size := (Array.getElem?_eq_some_iff.1 ho).1
    refine ⟨hi, ?_⟩
    rw [ho]
    simp only [Bool.and_eq_true, Option.map_some, Option.getD_some, Bool.not_eq_true']
    refine ⟨h1, ?_⟩
    rw [Array.all_eq_true']
    intro e he
    cases hb : Region.binds .any e with
    | false => simp
    | true =>
      have := h2 e.on (by
        unfold bindsOn
        rw [List.mem_map]
        exact ⟨e, List.mem_filter.2 ⟨by simpa using he, hb⟩, rfl⟩)
      simp [this]

theorem reach_lt (hp : Pre0 ops k) : ∀ {f i j : Nat}, reach ops f i j = true → j < i
  | 0, i, j, h => by simp [reach] at h
  | f + 1, i, j, h => by
    unfold reach at h
    split at h
    · rename_i o ho
      rw [List.any_eq_true] at h
      obtain ⟨p, hp1, hp2⟩ := h
      have := hp.bind i o ho p hp1
      rw [Bool.or_eq_true] at hp2
      rcases hp2 with hp2 | hp2
      · have : p = j := by simpa using hp2
        omega
      · have := reach_lt hp hp2; omega
    · cases h

theorem reach_first {f i j : Nat} {o : Oper} (h : reach ops f i j = true) (ho : ops[i]? = some o) : ∃ p, p ∈ bindsOn o ∧ (p = j ∨ ∃ f', reach ops f' p j = true) := by
  cases f with
  | zero => simp [reach] at h
  | succ f =>
    unfold reach at h
    rw [ho] at h
    simp only at h
    rw [List.any_eq_true] at h
    obtain ⟨p, hp1, hp2⟩ := h
    rw [Bool.or_eq_true] at hp2
    refine ⟨p, hp1, ?_⟩
    rcases hp2 with hp2 | hp2
    · exact .inl (by simpa using hp2)
    · exact .inr ⟨f, hp2⟩

/-- Closed downward. -/
def Closed (ops : Array Oper) (f : Nat → Bool) : Prop := ∀ i o, ops[i]? = some o → f i = true → ∀ p ∈ bindsOn o, f p = true

theorem closed_reach {f : Nat → Bool} (hc : Closed ops f) : ∀ {n i j : Nat}, reach ops n i j = true → f i = true → f j = true
  | 0, i, j, h, _ => by simp [reach] at h
  | n + 1, i, j, h, hi => by
    unfold reach at h
    split at h
    · rename_i o ho
      rw [List.any_eq_true] at h
      obtain ⟨p, hp1, hp2⟩ := h
      have hfp := hc i o ho hi p hp1
      rw [Bool.or_eq_true] at hp2
      rcases hp2 with hp2 | hp2
      · have : p = j := by simpa using hp2
        subst this; exact hfp
      · exact closed_reach hc hp2 hfp
    · cases h

end

section
variable {P : Program} {T : Tab} {ops : Array Oper} {k : Nat} {s0 : ASt} {K : ASt → Prop}

theorem text_congr {es es' : Nat → Eff} : ∀ {i : Nat}, (∀ j, j < i → es' j = es j) → text ops es' s0 i = text ops es s0 i
  | 0, _ => rfl
  | i + 1, h => by
    have ih := text_congr (i := i) fun j hj => h j (by omega)
    unfold text
    rw [ih, h i (by omega)]

theorem aOps_es (hp : Pre0 ops k) (h : aOpsD P T ops (ops.toList.take k) K s0) : ∀ m, m ≤ k → ∃ es : Nat → Eff, (∀ i o, i < m → ops[i]? = some o → stepGE P T ops o (text ops es s0 i) (es i)) ∧ aOpsD P T ops ((ops.toList.take k).drop m) K (text ops es s0 m)
  | 0, _ => ⟨fun _ => ⟨.any, []⟩, fun i o hi => by omega, h⟩
  | m + 1, hm => by
    obtain ⟨es, h1, h2⟩ := aOps_es hp h m (by omega)
    have hlt : m < ops.size := Nat.lt_of_lt_of_le (show m < k by omega) hp.le
    have ho := Array.getElem?_eq_getElem hlt
    have hdrop : (ops.toList.take k).drop m = ops[m] :: (ops.toList.take k).drop (m + 1) := by
      rw [List.drop_eq_getElem_cons (by simp; omega)]
      simp
    rw [hdrop] at h2
    obtain ⟨e, he, hK⟩ := stepGD_E h2
    have hcg : ∀ i, i ≤ m → text ops (fun j => if j = m then e else es j) s0 i = text ops es s0 i := fun i hi => text_congr fun j hj => by
      exact if_neg (by omega)
    refine ⟨fun j => if j = m then e else es j, fun i o hi hio => ?_, ?_⟩
    · rw [hcg i (by omega)]
      by_cases him : i = m
      · subst him
        simp only [if_pos]
        rw [ho] at hio; cases hio
        exact he
      · simp only [if_neg him]
        exact h1 i o (by omega) hio
    · have : text ops (fun j => if j = m then e else es j) s0 (m + 1) = (text ops es s0 m).ap (ops[m]).dst e := by
        rw [text, hcg m (Nat.le_refl _), ho]
        simp only [if_pos]
      rw [this]
      exact hK

end

section
variable {S : Nat → Nat → Prop} {w0 : World} {N : Fm} {P : Program} {T : Tab} {ops : Array Oper} {k : Nat} {s0 : ASt} {K : ASt → Prop} {Qc : Exit → Act → World → Prop}

theorem dst_of (hd : dstOk N.n ops.toList = true) {i : Nat} {o : Oper} (ho : ops[i]? = some o) : ∀ t, o.dst = some t → t < N.n := by
  intro t ht
  unfold dstOk at hd
  rw [List.all_eq_true] at hd
  have := hd o (by rw [Array.mem_toList_iff]; exact Array.mem_of_getElem? ho)
  rw [ht] at this
  simpa using this

theorem getD_set {l : Array Bool} {i : Nat} (hi : i < l.size) (b : Bool) (j : Nat) : (l.setIfInBounds i true).getD j b = if j = i then true else l.getD j b := by
  simp only [Array.getD_eq_getD_getElem?, Array.getElem?_setIfInBounds]
  by_cases h : i = j
  · subst h; simp [hi]
  · rw [if_neg h, if_neg (Ne.symm h)]

theorem getD_tf {l : Array Bool} {j : Nat} (hj : j < l.size) : l.getD j true = l.getD j false := by
  simp only [Array.getD_eq_getD_getElem?, Array.getElem?_eq_getElem hj, Option.getD_some]

/-- The tail, in the order of the text. -/
theorem phaseB {ro : Option Nat} (hT : TabOk P T) (hd : dstOk N.n ops.toList = true) (hp : Pre ops k) (hQ : ∀ g s a w, Rel S w0 N g s a w → K s → Qc .normal a w) :
    ∀ (fuel m : Nat) (listed : Array Bool) (g : Gh) (s : ASt) (a : Act) (w : World), k ≤ m → m ≤ ops.size → ops.size - m ≤ fuel → listed.size = ops.size → (∀ i, i < ops.size → listed.getD i true = decide (i < m)) →
      Rel S w0 N g s a w → aOps N.calm P T ops (ops.toList.drop m) K s → wpAnyIn (Fr ro) 0 P .any ops Qc fuel listed a w := by
  intro fuel
  have only : ∀ (m : Nat) (listed : Array Bool), k ≤ m → listed.size = ops.size → (∀ i, i < ops.size → listed.getD i true = decide (i < m)) → ∀ i, i ∈ Region.ready .any ops listed → i = m := by
    intro m listed hkm hsz hl i hi
    obtain ⟨o, ho, h1, h2⟩ := ready_iff.1 hi
    have hlt : i < ops.size := (Array.getElem?_eq_some_iff.1 ho).1
    rw [hl i hlt] at h1
    have him : ¬ i < m := by simpa using h1
    by_cases he : i = m
    · exact he
    · exfalso
      have hr := hp.tail i (by omega) hlt m (by omega)
      obtain ⟨p, hp1, hp2⟩ := reach_first hr ho
      have hpi := hp.bind i o ho p hp1
      have := h2 p hp1
      rw [← getD_tf (by omega), hl p (by omega)] at this
      have hpm : p < m := by simpa using this
      rcases hp2 with rfl | ⟨f', hp2⟩
      · omega
      · have := reach_lt hp.toPre0 hp2; omega
  have isr : ∀ (m : Nat) (listed : Array Bool), k ≤ m → m < ops.size → listed.size = ops.size → (∀ i, i < ops.size → listed.getD i true = decide (i < m)) → m ∈ Region.ready .any ops listed := by
    intro m listed hkm hm hsz hl
    have ho := Array.getElem?_eq_getElem hm
    refine ready_iff.2 ⟨_, ho, by rw [hl m hm]; simp, fun p hp1 => ?_⟩
    have hpi := hp.bind m _ ho p hp1
    rw [← getD_tf (by omega), hl p (by omega)]
    simpa using hpi
  have fin : ∀ (m : Nat) (listed : Array Bool), k ≤ m → m = ops.size → listed.size = ops.size → (∀ i, i < ops.size → listed.getD i true = decide (i < m)) → Region.ready .any ops listed = [] := by
    intro m listed hkm hm hsz hl
    rw [List.eq_nil_iff_forall_not_mem]
    intro i hi
    have := only m listed hkm hsz hl i hi
    obtain ⟨o, ho, _⟩ := ready_iff.1 hi
    have hlt : i < ops.size := (Array.getElem?_eq_some_iff.1 ho).1
    omega
  induction fuel with
  | zero =>
    intro m listed g s a w hkm hms hf hsz hl hrel hK
    have hm : m = ops.size := by omega
    refine ⟨fin m listed hkm hm hsz hl, ?_⟩
    rw [hm, List.drop_of_length_le (by simp)] at hK
    exact hQ g s a w hrel hK
  | succ fuel ih =>
    intro m listed g s a w hkm hms hf hsz hl hrel hK
    by_cases hm : m = ops.size
    · have hfin := fin m listed hkm hm hsz hl
      rw [hm, List.drop_of_length_le (by simp)] at hK
      exact wpAnyIn_done hfin (hQ g s a w hrel hK) _
    · have hlt : m < ops.size := by omega
      refine ⟨fun h0 => ?_, fun i hi => ?_⟩
      · have := isr m listed hkm hlt hsz hl
        rw [h0] at this; cases this
      · have := only m listed hkm hsz hl i hi
        subst this
        have ho := Array.getElem?_eq_getElem hlt
        have hdrop : ops.toList.drop i = ops[i] :: ops.toList.drop (i + 1) := by
          rw [List.drop_eq_getElem_cons (by simpa using hlt)]
          simp
        rw [hdrop] at hK
        have hs := stepG_sound (ro := ro) (S := S) (w0 := w0) (m := N.calm) (fun hm => hm) hT hrel (ops[i]) (dst_of hd ho) hK (Q := Qc) (K' := wpAnyIn (Fr ro) 0 P .any ops Qc fuel (listed.setIfInBounds i true))
          fun g' st' a' w' h1 h2 => ih (i + 1) _ g' st' a' w' (by omega) (by omega) (by omega) (by simpa using hsz) (fun j hj => by
            rw [getD_set (by omega), hl j hj]
            by_cases hji : j = i
            · subst hji; simp
            · rw [if_neg hji]
              by_cases hlt2 : j < i
              · simp [hlt2, show j < i + 1 by omega]
              · simp [hlt2, show ¬ j < i + 1 by omega]) h1 h2
        unfold wpOpIn
        rw [ho]
        simp only
        by_cases hw : Region.wanted ops[i] (yielded ops a.tmps) = true
        · rw [if_pos hw] at hs ⊢
          exact hs
        · rw [if_neg hw] at hs ⊢
          exact hs

/-- The head, in whatever order. -/
theorem phaseA {ro : Option Nat} (hT : TabOk P T) (hd : dstOk N.n ops.toList = true) (hp : Pre ops k) (hQ : ∀ g s a w, Rel S w0 N g s a w → K s → Qc .normal a w) {es : Nat → Eff}
    (htext : ∀ i o, i < k → ops[i]? = some o → stepGE P T ops o (text ops es s0 i) (es i)) (hK : aOps N.calm P T ops (ops.toList.drop k) K (text ops es s0 k)) :
    ∀ (fuel : Nat) (listed : Array Bool) (g : Gh) (s : ASt) (a : Act) (w : World), cnt (fun i => listed.getD i true) ops.size ≤ fuel → listed.size = ops.size → (∀ i, k ≤ i → i < ops.size → listed.getD i true = false) →
      Closed ops (fun i => listed.getD i true) → St ops k es s0 (fun i => listed.getD i true = true) s → Rel S w0 N g s a w → wpAnyIn (Fr ro) 0 P .any ops Qc fuel listed a w := by
  have hkeys : ∀ j o', j < k → ops[j]? = some o' → ∀ id r, (id, r) ∈ (es j).rows → ownId (o'.dst.getD 0) id := fun j o' hj ho' id r hm => (stepGE_keys (htext j o' hj ho') id r hm).1
  have hsome : ∀ j, j < k → ∃ o', ops[j]? = some o' := fun j hj => ⟨_, Array.getElem?_eq_getElem (Nat.lt_of_lt_of_le hj hp.le)⟩
  intro fuel
  induction fuel with
  | zero =>
    intro listed g s a w hc hsz hge hcl hst hrel
    have hall : ∀ i, i < ops.size → listed.getD i true = true := fun i hi => by
      cases hb : listed.getD i true with
      | true => rfl
      | false => have := cnt_pos (f := fun i => listed.getD i true) hb hi; omega
    have hk : k = ops.size := by
      by_cases h : k = ops.size
      · exact h
      · have h1 := hge k (Nat.le_refl _) (by have := hp.le; omega)
        have h2 := hall k (by have := hp.le; omega)
        rw [h1] at h2; cases h2
    have hsame := hst.same hp.toPre0 (text_St hp.toPre0 htext k (Nat.le_refl _)) fun i hi => ⟨fun _ => hi, fun _ => hall i (by omega)⟩
    exact phaseB hT hd hp hQ 0 k listed g _ a w (Nat.le_refl _) hp.le (by omega) hsz (fun i hi => by rw [hall i hi]; simp; omega) (hrel.congr hsame.1 hsame.2) hK
  | succ fuel ih =>
    intro listed g s a w hc hsz hge hcl hst hrel
    by_cases hall : ∀ i, i < k → listed.getD i true = true
    · have hsame := hst.same hp.toPre0 (text_St hp.toPre0 htext k (Nat.le_refl _)) fun i hi => ⟨fun _ => hi, fun _ => hall i hi⟩
      refine phaseB hT hd hp hQ (fuel + 1) k listed g _ a w (Nat.le_refl _) hp.le ?_ hsz (fun i hi => ?_) (hrel.congr hsame.1 hsame.2) hK
      · have : ∀ n, k ≤ n → n ≤ ops.size → n - k ≤ cnt (fun i => listed.getD i true) n := by
          intro n
          induction n with
          | zero => intro h1 h2; omega
          | succ n ihn =>
            intro h1 h2
            by_cases hn : k ≤ n
            · have h3 := ihn hn (by omega)
              unfold cnt
              simp only [hge n hn (by omega)]
              simp only [Bool.false_eq_true, if_false]
              omega
            · omega
        have := this ops.size hp.le (Nat.le_refl _)
        omega
      · by_cases hik : i < k
        · rw [hall i hik]; simp [hik]
        · rw [hge i (by omega) hi]; simp [hik]
    · have hex : ∃ i0, i0 < k ∧ listed.getD i0 true = false := by
        by_cases h : ∃ i0, i0 < k ∧ listed.getD i0 true = false
        · exact h
        · refine absurd (fun i hi => ?_) hall
          cases hb : listed.getD i true with
          | true => rfl
          | false => exact absurd ⟨i, hi, hb⟩ h
      obtain ⟨i0, hi0, hu0⟩ := hex
      refine ⟨fun h0 => ?_, fun i hi => ?_⟩
      · obtain ⟨j, hj, hju, hjl⟩ := least (p := fun i => listed.getD i true) hu0
        obtain ⟨o, ho⟩ := hsome j (by omega)
        have : j ∈ Region.ready .any ops listed := ready_iff.2 ⟨o, ho, hju, fun p hp1 => by
          have hpj := hp.bind j o ho p hp1
          have hle := hp.le
          rw [← getD_tf (by omega)]
          exact hjl p hpj⟩
        rw [h0] at this; cases this
      · obtain ⟨o, ho, h1, h2⟩ := ready_iff.1 hi
        have hlt : i < ops.size := (Array.getElem?_eq_some_iff.1 ho).1
        have h2' : ∀ p ∈ bindsOn o, listed.getD p true = true := fun p hp1 => by
          have := hp.bind i o ho p hp1
          rw [getD_tf (by omega)]; exact h2 p hp1
        have hik : i < k := by
          by_cases h : i < k
          · exact h
          · exfalso
            have hr := hp.tail i (by omega) hlt i0 (by omega)
            obtain ⟨p, hp1, hp2⟩ := reach_first hr ho
            have hlp := h2' p hp1
            rcases hp2 with rfl | ⟨f', hp2⟩
            · rw [hu0] at hlp; cases hlp
            · have := closed_reach hcl hp2 hlp
              rw [hu0] at this; cases this
        have hTx := text_St hp.toPre0 htext i (by omega)
        have hnD : ¬ listed.getD i true = true := by rw [h1]; simp
        -- what it looks at is the same
        have slot : ∀ t, t ∈ looks ops o → find s.tmps t = find (text ops es s0 i).tmps t := by
          intro t ht
          by_cases hx : ∃ j o', j < k ∧ ops[j]? = some o' ∧ o'.dst = some t
          · obtain ⟨j, o', hj, ho', hdt⟩ := hx
            obtain ⟨hji, hb⟩ := hp.look i j o o' t hik hj ho ho' hdt ht
            rw [hst.t1 j o' t hj (h2' j hb) ho' hdt, hTx.t1 j o' t hj hji ho' hdt]
          · rw [hst.t2 t fun j o' hj _ ho' hdt => hx ⟨j, o', hj, ho', hdt⟩, hTx.t2 t fun j o' hj _ ho' hdt => hx ⟨j, o', hj, ho', hdt⟩]
        have evs : ∀ x, x ∈ o.op.operands.toList → s.ev x = (text ops es s0 i).ev x := by
          intro x hx
          unfold ASt.ev
          cases x with
          | tmp t =>
            simp only
            rw [slot t (by
              unfold looks
              rw [List.mem_append]
              exact .inl (List.mem_filterMap.2 ⟨.tmp t, hx, rfl⟩))]
          | _ => rfl
        have hA : Agree o.op.operands.toList (text ops es s0 i) s := by
          refine ⟨evs, fun x hx id hm => ?_⟩
          have hm' : (s.ev x).ment id = true := by rw [evs x hx]; exact hm
          by_cases hxx : ∃ j r, j < k ∧ find (es j).rows id = some r
          · obtain ⟨j, r, hj, hr⟩ := hxx
            by_cases hDj : listed.getD j true = true
            · by_cases hji : j < i
              · rw [hst.r1 j id r hj hDj hr, hTx.r1 j id r hj hji hr]
              · have := ev_free (hTx.fr j id r hj hji (find_mem hr)) x
                rw [this] at hm; cases hm
            · have := ev_free (hst.fr j id r hj hDj (find_mem hr)) x
              rw [this] at hm'; cases hm'
          · have none_ : ∀ j, j < k → find (es j).rows id = none := fun j hj => by
              cases hf : find (es j).rows id with
              | none => rfl
              | some r => exact absurd ⟨j, r, hj, hf⟩ hxx
            rw [hst.r2 id fun j hj _ => none_ j hj, hTx.r2 id fun j hj _ => none_ j hj]
        have hg : ∀ j want, o.guard = some (j, want) → gval ops s j = gval ops (text ops es s0 i) j := by
          intro j want hgd
          unfold gval
          cases hb : (ops[j]?).bind (·.dst) with
          | none => rfl
          | some d =>
            simp only
            rw [slot d (by
              unfold looks
              rw [List.mem_append, hgd]
              refine .inr ?_
              simp only
              rw [hb]
              simp)]
        have hE : stepGE P T ops o s (es i) := stepGE_agree (htext i o hik ho) hA hg fun id r hm => hst.fr i id r hik hnD hm
        have hG : stepG false P T ops o (fun s' => s' = s.ap o.dst (es i)) s := stepG_of (hp.w i o hik ho) hE
        have hstep := hst.step hp.toPre0 hik hnD ho hE hkeys
        have hs := stepG_sound (ro := ro) (S := S) (w0 := w0) (m := false) (fun hm => by cases hm) hT hrel o (dst_of hd ho) hG (Q := Qc) (K' := wpAnyIn (Fr ro) 0 P .any ops Qc fuel (listed.setIfInBounds i true))
          fun g' st' a' w' hr2 he => by
            subst he
            have hset : ∀ j, (listed.setIfInBounds i true).getD j true = if j = i then true else listed.getD j true := fun j => getD_set (by omega) true j
            refine ih _ g' _ a' w' ?_ (by simpa using hsz) (fun j hj hj2 => ?_) (fun j o' ho' hj p hp1 => ?_) ?_ hr2
            · have := cnt_set (f := fun i => listed.getD i true) (f' := fun j => (listed.setIfInBounds i true).getD j true) (i := i) h1 (by simp only [hset]; simp) (fun j hj => by simp only [hset]; rw [if_neg hj]) ops.size
              rw [if_pos hlt] at this
              omega
            · rw [hset, if_neg (by omega)]; exact hge j hj hj2
            · simp only [hset] at hj ⊢
              by_cases hpi : p = i
              · rw [if_pos hpi]
              · rw [if_neg hpi]
                by_cases hji : j = i
                · subst hji
                  rw [ho] at ho'; cases ho'
                  exact h2' p hp1
                · rw [if_neg hji] at hj
                  exact hcl j o' ho' hj p hp1
            · have hiff : ∀ j, ((listed.setIfInBounds i true).getD j true = true) ↔ (listed.getD j true = true ∨ j = i) := fun j => by
                rw [hset]
                by_cases hji : j = i
                · simp [hji]
                · simp [hji]
              refine ⟨fun j o' t hj hD => hstep.t1 j o' t hj ((hiff j).1 hD), fun t ht => hstep.t2 t fun j o' hj hD => ht j o' hj ((hiff j).2 hD), fun j id r hj hD => hstep.r1 j id r hj ((hiff j).1 hD), fun id hid => hstep.r2 id fun j hj hD => hid j hj ((hiff j).2 hD), fun j id r hj hD => hstep.fr j id r hj fun q => hD ((hiff j).2 q)⟩
        unfold wpOpIn
        rw [ho]
        simp only
        by_cases hw : Region.wanted o (yielded ops a.tmps) = true
        · rw [if_pos hw] at hs ⊢
          exact hs
        · rw [if_neg hw] at hs ⊢
          exact hs

/-- A region that draws its order is as the region in the order of the text. -/
theorem wpL_draw {ro : Option Nat} (hT : TabOk P T) (hm : P.follows .mixedOrders = true) (k : Nat) {id : Nat} {l : List Code} {Q : Exit → ASt → Prop} {st : ASt} (hdk : drawOk k ops = true) (hl : dstOk N.n ops.toList = true) (h : aOpsD P T ops (ops.toList.take k) (aOps N.calm P T ops (ops.toList.drop k) (wpL ro P N l Q)) st) :
    wpL ro P N (.region id ops true :: l) Q st := by
  intro S w0 g a w hr
  have hp := pre_of hdk
  obtain ⟨es, htext, hK⟩ := aOps_es hp.toPre0 h k (Nat.le_refl _)
  rw [List.drop_eq_nil_of_le (by simp; omega)] at hK
  replace hK : aOps N.calm P T ops (ops.toList.drop k) (wpL ro P N l Q) (text ops es st k) := hK
  refine wpIn_region_any hm ?_
  have hgd : ∀ i, i < ops.size → (Array.replicate ops.size false).getD i true = false := fun i hi => by
    simp [Array.getD_eq_getD_getElem?, hi]
  have hst := text_St hp.toPre0 htext 0 (Nat.zero_le _)
  refine phaseA hT hl hp (Qc := fun e a' w' => ∃ g' st', Rel S w0 N g' st' a' w' ∧ thenL (wpL ro P N l Q) Q e st') (fun g s a w h1 h2 => ⟨g, s, h1, h2⟩) htext hK ops.size _ g st a _ ?_ (by simp) (fun i _ hi => hgd i hi) (fun i o ho hi => ?_) ?_ (hr.heap rfl rfl rfl rfl)
  · have : ∀ n (f : Nat → Bool), cnt f n ≤ n := by
      intro n f
      induction n with
      | zero => simp [cnt]
      | succ n ih => unfold cnt; split <;> omega
    exact this _ _
  · have hlt : i < ops.size := (Array.getElem?_eq_some_iff.1 ho).1
    simp only [hgd i hlt] at hi
    cases hi
  · have hno : ∀ i, i < k → ¬ (Array.replicate ops.size false).getD i true = true := fun i hi => by
      rw [hgd i (Nat.lt_of_lt_of_le hi hp.le)]; simp
    refine ⟨fun i o t hi hD => absurd hD (hno i hi), fun t _ => rfl, fun i id r hi hD => absurd hD (hno i hi), fun id _ => rfl, fun i id r hi _ hmm => hst.fr i id r hi (by omega) hmm⟩

end
end Go.Abs

