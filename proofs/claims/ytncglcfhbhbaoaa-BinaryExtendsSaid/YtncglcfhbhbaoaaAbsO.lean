/-
  An operation's effect, and on what it depends: for regions that draw their order.
-/
import Derived.Test.YtncglcfhbhbaoaaAbsN
set_option linter.unusedSimpArgs false
set_option linter.unusedVariables false
namespace Go.Abs
open Go.RowKit

structure Eff where
  v : AV
  rows : List (Nat × ARow)

def isW : Op → Bool
  | .store _ _ _ => true
  | .range _ _ => true
  | .next _ true => true
  | .call c => match c.callee with
    | .builtin .append => true
    | _ => false
  | _ => false

def stepE (P : Program) (T : Tab) (o : Oper) (s : ASt) (e : Eff) : Prop :=
  match callOf s o.op with
  | some (f, xs) => match dvsOf true s.rows xs with
    | some dvs => ∃ r, Gives P f dvs r ∧ ((dvsOf false s.rows xs).isSome = true ∨ r.flat = true) ∧ okIds s (rowsRes (o.dst.getD 0) r) ∧ e = ⟨avRes (o.dst.getD 0) r, rowsRes (o.dst.getD 0) r⟩
    | none => False
  | none => match effF T (o.dst.getD 0) o.op s with
    | .ok c v rows => c ∧ e = ⟨v, rows⟩
    | .no => False

def ASt.ap (s : ASt) (d : Option Nat) (e : Eff) : ASt := (s.add e.rows).put d e.v

theorem wF_none {T : Tab} {d : Nat} {s : ASt} {op : Op} (h : isW op = false) : wF T d s op = none := by
  unfold wF
  split
  · simp [isW] at h
  · simp [isW] at h
  · simp [isW] at h
  · rename_i c
    split
    · rename_i hc; simp [isW, hc] at h
    · rfl
  · rfl

theorem stepA_E {P : Program} {T : Tab} {o : Oper} {K : ASt → Prop} {s : ASt} (hw : isW o.op = false) : stepA false P T o K s ↔ ∃ e, stepE P T o s e ∧ K (s.ap o.dst e) := by
  unfold stepA stepE
  rw [wF_none hw]
  simp only
  cases hc : callOf s o.op with
  | some p =>
    obtain ⟨f, xs⟩ := p
    simp only
    cases hd : dvsOf true s.rows xs with
    | some dvs =>
      simp only
      exact ⟨fun ⟨r, h1, h234⟩ => let ⟨h2, h3, h4⟩ := h234; ⟨_, ⟨r, h1, h2, h3, rfl⟩, h4⟩, fun ⟨e, ⟨r, h1, h2, h3, he⟩, hK⟩ => ⟨r, h1, ⟨h2, h3, by subst he; exact hK⟩⟩⟩
    | none => simp
  | none =>
    simp only
    cases he : effF T (o.dst.getD 0) o.op s with
    | ok c v rows =>
      simp only
      exact ⟨fun ⟨h1, h2⟩ => ⟨_, ⟨h1, rfl⟩, h2⟩, fun ⟨e, ⟨h1, he⟩, hK⟩ => ⟨h1, by subst he; exact hK⟩⟩
    | no => simp

/-- Two states that an operation cannot tell apart. -/
structure Agree (xs : List Operand) (s t : ASt) : Prop where
  ev : ∀ x, x ∈ xs → t.ev x = s.ev x
  row : ∀ x, x ∈ xs → ∀ id, (s.ev x).ment id = true → find t.rows id = find s.rows id

section
variable {s t : ASt} {T : Tab}

theorem ment_row_self (id : Nat) : (AV.c (AC.row id)).ment id = true := by unfold AV.ment; simp [ment_row]
theorem ment_ptr_self (id o : Nat) : (AV.c (AC.ptr id o)).ment id = true := by unfold AV.ment; simp [ment_ptr]
theorem ment_eptr_self (id i o : Nat) : (AV.c (AC.eptr id i o)).ment id = true := by unfold AV.ment; simp [ment_eptr]

theorem loadF_congr {ty : Nat} {rows rows' : List (Nat × ARow)} {v : AV} (h : ∀ id, v.ment id = true → find rows' id = find rows id) : loadF T ty rows' v = loadF T ty rows v := by
  unfold loadF
  split
  · rename_i id off; rw [h id (ment_ptr_self _ _)]
  · rename_i id i off; rw [h id (ment_eptr_self _ _ _)]
  · rfl
  · rfl
theorem dcOf_congr {l : Bool} {rows rows' : List (Nat × ARow)} {x : AC} (h : ∀ id, x.ment id = true → find rows' id = find rows id) : dcOf l rows' x = dcOf l rows x := by
  unfold dcOf
  split
  · rfl
  · rfl
  · rename_i id; rw [h id (by simp [ment_row])]
  · rfl
theorem dcsOf_congr {l : Bool} {rows rows' : List (Nat × ARow)} : ∀ {xs : List AC}, (∀ id, xs.any (·.ment id) = true → find rows' id = find rows id) → dcsOf l rows' xs = dcsOf l rows xs
  | [], _ => rfl
  | x :: xs, h => by
    simp only [dcsOf]
    rw [dcOf_congr fun id hid => h id (by simp [hid]), dcsOf_congr fun id hid => h id (by simp only [List.any_cons, hid, Bool.or_true])]
theorem dvOf_congr {l : Bool} {rows rows' : List (Nat × ARow)} {x : AV} (h : ∀ id, x.ment id = true → find rows' id = find rows id) : dvOf l rows' x = dvOf l rows x := by
  unfold dvOf
  split
  · rfl
  · rw [dcOf_congr fun id hid => h id (by unfold AV.ment; exact hid)]
  · rw [dcsOf_congr fun id hid => h id (by unfold AV.ment; exact hid)]
  · rfl
theorem dvsOf_congr {l : Bool} {rows rows' : List (Nat × ARow)} : ∀ {xs : List AV}, (∀ x, x ∈ xs → ∀ id, x.ment id = true → find rows' id = find rows id) → dvsOf l rows' xs = dvsOf l rows xs
  | [], _ => rfl
  | x :: xs, h => by
    simp only [dvsOf]
    rw [dvOf_congr (h x (by simp)), dvsOf_congr fun y hy => h y (List.mem_cons_of_mem _ hy)]
theorem indexAddrF_congr {ty : Nat} {rows rows' : List (Nat × ARow)} {v i : AV} (h : ∀ id, v.ment id = true → find rows' id = find rows id) : indexAddrF T ty rows' v i = indexAddrF T ty rows v i := by
  unfold indexAddrF
  split
  · split
    · split
      · split
        · split
          · rfl
          · rename_i id; rw [h id (ment_row_self _)]
          · rfl
        · rfl
      · rfl
      · rfl
    · rfl
  · rfl
theorem lenF_congr {rows rows' : List (Nat × ARow)} {v : AV} (h : ∀ id, v.ment id = true → find rows' id = find rows id) : lenF v rows' = lenF v rows := by
  unfold lenF
  split
  · rfl
  · rfl
  · rename_i id; rw [h id (ment_row_self _)]
  · rfl
theorem sliceF_congr {ty : Nat} {rows rows' : List (Nat × ARow)} {lo hi mx : Option Int} {v : AV} (h : ∀ id, v.ment id = true → find rows' id = find rows id) : sliceF T ty rows' lo hi mx v = sliceF T ty rows lo hi mx v := by
  unfold sliceF
  split
  · rfl
  · rfl
  · rename_i x _
    rw [dcOf_congr fun id hid => h id (by unfold AV.ment; exact hid)]
  · rfl
theorem optEv_congr {x : Option Operand} (h : ∀ y, x = some y → t.ev y = s.ev y) : optEv t x = optEv s x := by
  cases x with
  | none => rfl
  | some y => simp only [optEv, h y rfl]
theorem scalars_congr : ∀ {l : List Operand}, (∀ x, x ∈ l → t.ev x = s.ev x) → scalars t l = scalars s l
  | [], _ => rfl
  | x :: l, h => by
    simp only [scalars]
    rw [h x (by simp), scalars_congr fun y hy => h y (List.mem_cons_of_mem _ hy)]
theorem dptrs_congr : ∀ {l : List Operand}, (∀ x, x ∈ l → t.ev x = s.ev x) → dptrs t l = dptrs s l
  | [], _ => rfl
  | x :: l, h => by
    simp only [dptrs]
    rw [h x (by simp), dptrs_congr fun y hy => h y (List.mem_cons_of_mem _ hy)]
theorem capsOf_congr : ∀ {l : List Operand}, (∀ x, x ∈ l → t.ev x = s.ev x) → capsOf t l = capsOf s l
  | [], _ => rfl
  | x :: l, h => by
    simp only [capsOf]
    rw [h x (by simp), capsOf_congr fun y hy => h y (List.mem_cons_of_mem _ hy), dptrs_congr fun y hy => h y (List.mem_cons_of_mem _ hy)]
theorem buildF_congr {fs : List (Nat × Nat × Bool)} : ∀ {l : List (Nat × Operand)} {cs : List AC}, (∀ p, p ∈ l → t.ev p.2 = s.ev p.2) → buildF fs t cs l = buildF fs s cs l
  | [], cs, _ => rfl
  | (i, x) :: l, cs, h => by
    have ih : ∀ cs, buildF fs t cs l = buildF fs s cs l := fun cs => buildF_congr fun p hp => h p (List.mem_cons_of_mem _ hp)
    have hx : t.ev x = s.ev x := h (i, x) (by simp)
    simp only [buildF, hx, ih]
theorem cells_ment {v : AV} {cs : List AC} (h : v.cells = some cs) {id : Nat} (hm : cs.any (·.ment id) = true) : v.ment id = true := by
  cases v with
  | c x => cases h; unfold AV.ment; simpa using hm
  | agg xs => cases h; unfold AV.ment; exact hm
  | tup _ => cases h
  | any => cases h
theorem buildSliceF_congr {sz : Nat} : ∀ {l : List (Nat × Operand)} {xs : List (List DC)}, (∀ p, p ∈ l → t.ev p.2 = s.ev p.2) → (∀ p, p ∈ l → ∀ id, (s.ev p.2).ment id = true → find t.rows id = find s.rows id) →
    buildSliceF sz t xs l = buildSliceF sz s xs l
  | [], xs, _, _ => rfl
  | (i, x) :: l, xs, h, h2 => by
    have ih : ∀ xs, buildSliceF sz t xs l = buildSliceF sz s xs l := fun xs => buildSliceF_congr (fun p hp => h p (List.mem_cons_of_mem _ hp)) (fun p hp => h2 p (List.mem_cons_of_mem _ hp))
    have hx : t.ev x = s.ev x := h (i, x) (by simp)
    simp only [buildSliceF, hx, ih]
    cases hc : (s.ev x).cells with
    | none => rfl
    | some cs =>
      simp only
      rw [dcsOf_congr fun id hid => h2 (i, x) (by simp) id (cells_ment hc hid)]

theorem callOf_congr {op : Op} (hA : Agree op.operands.toList s t) : callOf t op = callOf s op := by
  unfold callOf
  split
  · rename_i c
    split
    · rename_i x hc
      have hx : x ∈ (Op.call c).operands.toList := by simp [Op.operands, Call.operands, hc]
      have hargs : c.args.toList.map t.ev = c.args.toList.map s.ev := List.map_congr_left fun y hy => hA.ev y (by simp [Op.operands, Call.operands, hc]; exact .inr (by simpa using hy))
      rw [hA.ev x hx, hargs]
    · rfl
  · rfl

theorem callOf_ment {op : Op} {f : Nat} {xs : List AV} (h : callOf s op = some (f, xs)) : ∀ x, x ∈ xs → ∀ id, x.ment id = true → ∃ y, y ∈ op.operands.toList ∧ (s.ev y).ment id = true := by
  unfold callOf at h
  split at h
  · rename_i c
    split at h
    · rename_i z hc
      split at h
      · split at h
        · cases h
          intro x hx id hid
          simp only [List.mem_append, List.mem_map] at hx
          rcases hx with (⟨v, _, rfl⟩ | ⟨y, hy, rfl⟩) | ⟨v, _, rfl⟩
          · unfold scAV AV.ment at hid; simp [ment_d] at hid
          · exact ⟨y, by simp [Op.operands, Call.operands, hc]; exact .inr (by simpa using hy), hid⟩
          · unfold scAV AV.ment at hid; simp [ment_d] at hid
        · cases h
      · cases h
        intro x hx id hid
        simp only [List.mem_append, List.mem_map] at hx
        rcases hx with ⟨y, hy, rfl⟩ | ⟨v, _, rfl⟩
        · exact ⟨y, by simp [Op.operands, Call.operands, hc]; exact .inr (by simpa using hy), hid⟩
        · unfold AV.ment at hid; simp [ment_dptr] at hid
      · cases h
        intro x hx id hid
        simp only [List.mem_append, List.mem_map, List.mem_singleton] at hx
        rcases hx with ⟨y, hy, rfl⟩ | rfl
        · exact ⟨y, by simp [Op.operands, Call.operands, hc]; exact .inr (by simpa using hy), hid⟩
        · unfold AV.ment at hid; simp [ment_dptr] at hid
      · rename_i f' pre i' post he
        cases h
        intro x hx id hid
        simp only [List.mem_append, List.mem_map, List.mem_cons] at hx
        rcases hx with ⟨y, hy, rfl⟩ | ⟨v, _, rfl⟩ | rfl | ⟨v, _, rfl⟩
        · exact ⟨y, by simp [Op.operands, Call.operands, hc]; exact .inr (by simpa using hy), hid⟩
        · unfold AV.ment at hid; simp [ment_dptr] at hid
        · refine ⟨z, by simp [Op.operands, Call.operands, hc], ?_⟩
          rw [he]
          unfold AV.ment at hid ⊢
          rw [ment_ptr] at hid
          rw [ment_pclo]; exact hid
        · unfold AV.ment at hid; simp [ment_dptr] at hid
      · cases h
    · cases h
  · cases h

/-- The same result in a state that cannot be told apart, but for the side condition that the ids be free. -/
theorem effF_congr {d : Nat} {op : Op} {c : Prop} {v : AV} {rows : List (Nat × ARow)} (hA : Agree op.operands.toList s t) (h : effF T d op s = .ok c v rows) :
    ∃ c', effF T d op t = .ok c' v rows ∧ (c → (∀ id r, (id, r) ∈ rows → t.free id = true) → c') := by
  have same : effF T d op t = effF T d op s → ∃ c', effF T d op t = .ok c' v rows ∧ (c → (∀ id r, (id, r) ∈ rows → t.free id = true) → c') := fun e => ⟨c, by rw [e, h], fun hc _ => hc⟩
  cases op with
  | move x => exact same (by simp only [effF]; rw [hA.ev x (by simp [Op.operands])])
  | assign x => exact same (by simp only [effF]; rw [hA.ev x (by simp [Op.operands])])
  | pick a b e => exact same (by simp only [effF]; rw [hA.ev a (by simp [Op.operands]), hA.ev b (by simp [Op.operands]), hA.ev e (by simp [Op.operands])])
  | alloc ty =>
    simp only [effF] at h ⊢
    split at h
    · cases h; exact ⟨_, rfl, fun _ hf => hf d _ (List.mem_singleton.2 rfl)⟩
    · cases h
  | box ty x =>
    simp only [effF] at h ⊢
    rw [hA.ev x (by simp [Op.operands])]
    split at h
    · cases h; exact ⟨_, rfl, fun hc hf => ⟨hc.1, hf d _ (List.mem_singleton.2 rfl)⟩⟩
    · cases h
  | build ty parts =>
    refine same ?_
    simp only [effF]
    split
    · split
      · rw [buildF_congr fun p hp => hA.ev p.2 (by simp only [Op.operands, List.toList_toArray]; exact List.mem_map_of_mem hp)]
      · split
        · rw [buildF_congr fun p hp => hA.ev p.2 (by simp only [Op.operands, List.toList_toArray]; exact List.mem_map_of_mem hp)]
        · rfl
      · rfl
    · rfl
  | buildSlice ty n parts =>
    simp only [effF] at h ⊢
    have heq : ∀ (sz : Nat) (xs : List (List DC)), buildSliceF sz t xs parts.toList = buildSliceF sz s xs parts.toList := fun sz xs =>
      buildSliceF_congr (fun p hp => hA.ev p.2 (by simp only [Op.operands, List.toList_toArray]; exact List.mem_map_of_mem hp)) (fun p hp => hA.row p.2 (by simp only [Op.operands, List.toList_toArray]; exact List.mem_map_of_mem hp))
    simp only [heq]
    split at h
    · split at h
      · split at h
        · split at h
          · cases h
            exact ⟨_, rfl, fun hc hf => ⟨hf d _ (List.mem_singleton.2 rfl), hc.2⟩⟩
          · cases h
        · cases h
      · cases h
    · cases h
  | makeSlice ty l c0 =>
    simp only [effF] at h ⊢
    rw [hA.ev l (by simp [Op.operands]), hA.ev c0 (by simp [Op.operands])]
    split at h
    · split at h
      · split at h
        · cases h
          exact ⟨_, rfl, fun hc hf => ⟨hf d _ (List.mem_singleton.2 rfl), hc.2⟩⟩
        · cases h
      · cases h
    · cases h
  | load ty x => exact same (by simp only [effF]; rw [hA.ev x (by simp [Op.operands]), loadF_congr (hA.row x (by simp [Op.operands]))])
  | fieldAddr ty x f => exact same (by simp only [effF]; rw [hA.ev x (by simp [Op.operands])])
  | field ty x f => exact same (by simp only [effF]; rw [hA.ev x (by simp [Op.operands])])
  | indexAddr ty x i => exact same (by simp only [effF]; rw [hA.ev x (by simp [Op.operands]), hA.ev i (by simp [Op.operands]), indexAddrF_congr (hA.row x (by simp [Op.operands]))])
  | index ty x i => exact same (by simp only [effF]; rw [hA.ev x (by simp [Op.operands]), hA.ev i (by simp [Op.operands])])
  | binOp op ty x y ty2 => exact same (by simp only [effF]; rw [hA.ev x (by simp [Op.operands]), hA.ev y (by simp [Op.operands])])
  | unOp op ty x => exact same (by simp only [effF]; rw [hA.ev x (by simp [Op.operands])])
  | nilCheck x => exact same (by simp only [effF]; rw [hA.ev x (by simp [Op.operands])])
  | convert src dst x => exact same (by simp only [effF]; rw [hA.ev x (by simp [Op.operands])])
  | slice ty x lo hi mx =>
    refine same ?_
    simp only [effF]
    rw [optEv_congr (s := s) (t := t) (x := lo) fun y hy => hA.ev y (by simp [Op.operands, hy]), optEv_congr (s := s) (t := t) (x := hi) fun y hy => hA.ev y (by simp [Op.operands, hy]),
      optEv_congr (s := s) (t := t) (x := mx) fun y hy => hA.ev y (by simp [Op.operands, hy]), hA.ev x (by simp [Op.operands])]
    split
    · rw [sliceF_congr (hA.row x (by simp [Op.operands]))]
    · rfl
  | extract x i => exact same (by simp only [effF]; rw [hA.ev x (by simp [Op.operands])])
  | makeFunc fn first captured =>
    refine same ?_
    simp only [effF]
    rw [scalars_congr (s := s) (t := t) (l := first.toList) fun y hy => hA.ev y (by simp [Op.operands]; exact .inl (by simpa using hy)), scalars_congr (s := s) (t := t) (l := captured.toList) fun y hy => hA.ev y (by simp [Op.operands]; exact .inr (by simpa using hy)),
      dptrs_congr (s := s) (t := t) (l := captured.toList) fun y hy => hA.ev y (by simp [Op.operands]; exact .inr (by simpa using hy)),
      capsOf_congr (s := s) (t := t) (l := captured.toList) fun y hy => hA.ev y (by simp [Op.operands]; exact .inr (by simpa using hy))]
  | call c0 =>
    refine same ?_
    simp only [effF]
    split
    · rename_i hcal
      have hops : ∀ x, x ∈ c0.args.toList → x ∈ (Op.call c0).operands.toList := fun x hx => by simp [Op.operands, Call.operands, hcal]; simpa using hx
      split
      · rename_i x ty hargs hty
        have hx := hops x (by rw [hargs]; simp)
        rw [hA.ev x hx]
        split
        · split
          · rw [lenF_congr (hA.row x hx)]
          · rfl
          · rfl
        · rfl
      · rfl
    · rename_i hcal
      have hops : ∀ x, x ∈ c0.args.toList → x ∈ (Op.call c0).operands.toList := fun x hx => by simp [Op.operands, Call.operands, hcal]; simpa using hx
      split
      · rename_i x y hargs
        rw [hA.ev x (hops x (by rw [hargs]; simp)), hA.ev y (hops y (by rw [hargs]; simp))]
      · rfl
    · rename_i hcal
      have hops : ∀ x, x ∈ c0.args.toList → x ∈ (Op.call c0).operands.toList := fun x hx => by simp [Op.operands, Call.operands, hcal]; simpa using hx
      split
      · rename_i x y hargs
        rw [hA.ev x (hops x (by rw [hargs]; simp)), hA.ev y (hops y (by rw [hargs]; simp))]
      · rfl
    · rfl
  | _ => simp [effF] at h

/-- F1: an operation does the same in a state that it cannot tell apart. -/
theorem stepE_agree {P : Program} {o : Oper} {e : Eff} (h : stepE P T o s e) (hA : Agree o.op.operands.toList s t) (hf : ∀ id r, (id, r) ∈ e.rows → t.free id = true) : stepE P T o t e := by
  unfold stepE at h ⊢
  rw [callOf_congr hA]
  split at h
  · rename_i f xs hc
    have hm : ∀ x, x ∈ xs → ∀ id, x.ment id = true → find t.rows id = find s.rows id := by
      intro x hx id hid
      obtain ⟨y, hy, hm⟩ := callOf_ment hc x hx id hid
      exact hA.row y hy id hm
    rw [dvsOf_congr hm, dvsOf_congr (l := false) hm]
    split at h
    · obtain ⟨r, h1, h2, h3, rfl⟩ := h
      exact ⟨r, h1, h2, ⟨List.all_eq_true.2 fun p hp => hf p.1 p.2 hp, h3.2⟩, rfl⟩
    · exact h.elim
  · split at h
    · rename_i c v rows he
      obtain ⟨hc, rfl⟩ := h
      obtain ⟨c', h1, h2⟩ := effF_congr hA he
      rw [h1]
      exact ⟨h2 hc hf, rfl⟩
    · exact h.elim

end
end Go.Abs
