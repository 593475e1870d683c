/-
  The lane program of a right kernel is right, and loads each input once; the law VectorizeValid.
-/
import Derived.Test.YtcafkemjegkhkaaDoorW24
set_option linter.unusedSimpArgs false
set_option linter.unusedVariables false
set_option maxRecDepth 100000
set_option maxHeartbeats 4000000
namespace Go.Proofs.YtcafkemjegkhkaaDoor
open Go.Abs Go

theorem goL_zero (p : Lanes) : ∀ (l : List LOp) (i : Nat), (∀ (j : Nat) (o : LOp), l[j]? = some o → formS o = true ∧ placesS p (i + j) o = true) → goL p i l = 0
  | [], _, _ => rfl
  | o :: l, i, h => by
    obtain ⟨h1, h2⟩ := h 0 o rfl
    rw [Nat.add_zero] at h2
    rw [goL, if_neg (by simp [h1]), if_neg (by simp [h2])]
    exact goL_zero p l (i + 1) fun j o' ho => by
      have := h (j + 1) o' (by simpa using ho)
      rwa [show i + (j + 1) = i + 1 + j by omega] at this
theorem written_of {p : Lanes} {i m : Nat} {o : LOp} (hm : m < i) (ho : p.code[m]? = some o) (h4 : ¬ o.kind = 4) : writtenS p i o.dst = true := by
  unfold writtenS
  rw [List.any_eq_true]
  exact ⟨o, List.mem_iff_getElem?.2 ⟨m, by rw [List.getElem?_take, if_pos hm, ho]⟩, by simp [writes, h4]⟩

theorem ops_at (k : Kernel) (bufs : List Int) {n j : Nat} {o : KOp} (hj : j < n) (ho : k.ops[j]? = some o) : (opsUpto k bufs n)[j]? = some (opOf k bufs j o) := by
  simp [opsUpto, hj, ho]
theorem load_at {k : Kernel} {n m : Nat} {o : LOp} (h : (loadsUpto k n)[m]? = some o) : ∃ v, v < n ∧ usedIn k 0 v = true ∧ o = loadOf v := by
  unfold loadsUpto at h
  rw [List.getElem?_map] at h
  obtain ⟨v, hv, rfl⟩ := Option.map_eq_some_iff.1 h
  have := List.mem_of_getElem? hv
  rw [List.mem_filter, List.mem_range] at this
  exact ⟨v, this.1, this.2, rfl⟩
theorem load_mem {k : Kernel} {n v : Nat} (hv : v < n) (hu : usedIn k 0 v = true) : ∃ m, m < (loadsUpto k n).length ∧ (loadsUpto k n)[m]? = some (loadOf v) := by
  have : loadOf v ∈ loadsUpto k n := by
    unfold loadsUpto
    rw [List.mem_map]
    exact ⟨v, List.mem_filter.2 ⟨List.mem_range.2 hv, hu⟩, rfl⟩
  obtain ⟨m, hm⟩ := List.mem_iff_getElem?.1 this
  exact ⟨m, (List.getElem?_eq_some_iff.1 hm).1, hm⟩
theorem load_apart {k : Kernel} {n i j : Nat} {a b : LOp} (hij : i < j) (ha : (loadsUpto k n)[i]? = some a) (hb : (loadsUpto k n)[j]? = some b) : a.input ≠ b.input := by
  unfold loadsUpto at ha hb
  rw [List.getElem?_map] at ha hb
  obtain ⟨v, hv, rfl⟩ := Option.map_eq_some_iff.1 ha
  obtain ⟨w, hw, rfl⟩ := Option.map_eq_some_iff.1 hb
  have hnd : ((List.range n).filter fun (v : Nat) => usedIn k 0 v).Nodup := List.nodup_range.filter _
  obtain ⟨h1, h2⟩ := List.getElem?_eq_some_iff.1 hv
  obtain ⟨h3, h4⟩ := List.getElem?_eq_some_iff.1 hw
  intro e
  simp only [loadOf] at e
  have e' : v = w := by omega
  rw [← h2, ← h4] at e'
  exact List.pairwise_iff_getElem.1 hnd i j h1 h3 hij e'

theorem reg_small {k : Kernel} {v : Int} (h : v < k.inputs) : regS k (bufsS k) v = v := by unfold regS; rw [if_pos h]
theorem used_of {k : Kernel} {j : Nat} {o : KOp} (ho : k.ops[j]? = some o) {v : Int} (h : o.a = v ∨ o.b = v) : usedIn k 0 v = true := by
  unfold usedIn
  rw [List.drop_zero, List.any_eq_true]
  exact ⟨o, List.mem_of_getElem? ho, by unfold usesB; simp only [Bool.or_eq_true, decide_eq_true_eq]; exact h⟩


theorem reg_bound {k : Kernel} (hr : right k = 0) {v : Int} (h0 : 0 ≤ v) (h : v < k.inputs + k.ops.length) : 0 ≤ regS k (bufsS k) v ∧ regS k (bufsS k) v < k.inputs + mostS k := by
  obtain ⟨⟨hk1, hk2, hk3, hk4⟩, _⟩ := right_zero hr
  obtain ⟨hm0, hm1, hbb⟩ := bufsS_bound hr
  have hbl := bufsS_len hr
  unfold regS
  by_cases hv : v < k.inputs
  · rw [if_pos hv]; omega
  · rw [if_neg hv]
    obtain ⟨b, hb⟩ := get_ex (l := bufsS k) (i := (v - k.inputs).toNat) (by omega)
    have := hbb b (List.mem_of_getElem? hb)
    rw [hb]
    simp only [Option.getD_some]
    omega
theorem prog_code {k : Kernel} (hr : right k = 0) : (programS k).code = loadsUpto k k.inputs.toNat ++ (opsUpto k (bufsS k) k.ops.length ++ [storeOf k (bufsS k)]) := by
  unfold programS; rw [if_pos hr]
theorem prog_regs {k : Kernel} (hr : right k = 0) : (programS k).regs = k.inputs + mostS k := by
  unfold programS; rw [if_pos hr]
theorem code_op {k : Kernel} (hr : right k = 0) {j : Nat} {o : KOp} (ho : k.ops[j]? = some o) : (programS k).code[(loadsUpto k k.inputs.toNat).length + j]? = some (opOf k (bufsS k) j o) := by
  have hj := (List.getElem?_eq_some_iff.1 ho).1
  rw [prog_code hr, List.getElem?_append_right (by omega), Nat.add_sub_cancel_left, List.getElem?_append_left (by rw [ops_len]; exact hj)]
  exact ops_at k _ hj ho
theorem code_load {k : Kernel} (hr : right k = 0) {m : Nat} (hm : m < (loadsUpto k k.inputs.toNat).length) : (programS k).code[m]? = (loadsUpto k k.inputs.toNat)[m]? := by
  rw [prog_code hr, List.getElem?_append_left hm]
theorem code_len {k : Kernel} (hr : right k = 0) : (programS k).code.length = (loadsUpto k k.inputs.toNat).length + (k.ops.length + 1) := by
  rw [prog_code hr]; simp [ops_len]
theorem code_store {k : Kernel} (hr : right k = 0) : (programS k).code[(loadsUpto k k.inputs.toNat).length + k.ops.length]? = some (storeOf k (bufsS k)) := by
  rw [prog_code hr, List.getElem?_append_right (by omega), Nat.add_sub_cancel_left, List.getElem?_append_right (by rw [ops_len]; omega), ops_len, Nat.sub_self]
  rfl

/-- What an operation reads is written. -/
theorem reads_ok {k : Kernel} (hr : right k = 0) {v : Int} {j i : Nat} (hv0 : 0 ≤ v) (hv : v < k.inputs + j) (hj : j ≤ k.ops.length) (hu : v < k.inputs → usedIn k 0 v = true) (hi : (loadsUpto k k.inputs.toNat).length + j ≤ i) : readS (programS k) i (regS k (bufsS k) v) = true := by
  obtain ⟨h1, h2⟩ := reg_bound hr hv0 (by omega)
  unfold readS
  rw [show regB (programS k) (regS k (bufsS k) v) = true by unfold regB; rw [prog_regs hr]; simp; exact ⟨h1, h2⟩, Bool.true_and]
  by_cases hs : v < k.inputs
  · rw [reg_small hs]
    obtain ⟨m, hm, hml⟩ := load_mem (k := k) (n := k.inputs.toNat) (v := v.toNat) (by omega) (by rw [show ((v.toNat : Nat) : Int) = v by omega]; exact hu hs)
    have := written_of (p := programS k) (i := i) (show m < i by omega) (by rw [code_load hr hm]; exact hml) (by simp [loadOf])
    rw [show (loadOf v.toNat).dst = v by simp [loadOf]; omega] at this
    exact this
  · obtain ⟨o, ho⟩ := get_ex (l := k.ops) (i := (v - k.inputs).toNat) (by omega)
    have := written_of (p := programS k) (i := i) (show (loadsUpto k k.inputs.toNat).length + (v - k.inputs).toNat < i by omega) (code_op hr ho) (by unfold opOf; simp only; split <;> decide)
    rw [show (opOf k (bufsS k) (v - k.inputs).toNat o).dst = regS k (bufsS k) v by unfold opOf; simp only; rw [show k.inputs + (((v - k.inputs).toNat : Nat) : Int) = v by omega]] at this
    exact this
theorem each_ok {k : Kernel} (hr : right k = 0) (hn : 1 ≤ k.inputs) (i : Nat) (x : LOp) (hx : (programS k).code[i]? = some x) : formS x = true ∧ placesS (programS k) i x = true ∧ (x.kind = 4 ↔ i = (loadsUpto k k.inputs.toNat).length + k.ops.length) ∧ (x.kind = 1 ↔ i < (loadsUpto k k.inputs.toNat).length) ∧ (x.kind = 1 → 0 ≤ x.input ∧ x.input < 16) := by
  obtain ⟨⟨hk1, hk2, hk3, hk4⟩, hval⟩ := right_zero hr
  obtain ⟨hm0, hm1, hbb⟩ := bufsS_bound hr
  have hcl := code_len hr
  have hi := (List.getElem?_eq_some_iff.1 hx).1
  by_cases h1 : i < (loadsUpto k k.inputs.toNat).length
  · rw [code_load hr h1] at hx
    obtain ⟨v, hv, hu, rfl⟩ := load_at hx
    have hf : formS (loadOf v) = true := by simp [formS, loadOf]
    refine ⟨hf, ?_, ?_, ?_, fun _ => ?_⟩
    · rw [places_one hf rfl]
      unfold regB inB
      rw [prog_regs hr]
      simp only [loadOf, Bool.and_eq_true]
      exact ⟨⟨decide_eq_true (by omega), decide_eq_true (by omega)⟩, decide_eq_true (by omega), decide_eq_true (by omega)⟩
    · simp [loadOf]; omega
    · simp [loadOf, h1]
    · simp [loadOf]; omega
  by_cases h2 : i < (loadsUpto k k.inputs.toNat).length + k.ops.length
  · obtain ⟨j, rfl⟩ : ∃ j, i = (loadsUpto k k.inputs.toNat).length + j := ⟨i - (loadsUpto k k.inputs.toNat).length, by omega⟩
    obtain ⟨o, ho⟩ := get_ex (l := k.ops) (i := j) (by omega)
    rw [code_op hr ho] at hx
    cases hx
    obtain ⟨hbp, hbi⟩ := hval j o ho
    obtain ⟨ha1, ha2, hb1, hb2⟩ := badI_false hbi
    obtain ⟨hd1, hd2⟩ := reg_bound hr (v := k.inputs + j) (by omega) (by omega)
    have hdst : regB (programS k) (regS k (bufsS k) (k.inputs + j)) = true := by unfold regB; rw [prog_regs hr]; simp; exact ⟨hd1, hd2⟩
    have hrb : readS (programS k) ((loadsUpto k k.inputs.toNat).length + j) (regS k (bufsS k) o.b) = true := reads_ok hr hb1 hb2 (by omega) (fun _ => used_of ho (.inr rfl)) (Nat.le_refl _)
    by_cases ha : 0 ≤ o.a
    · have hB : isB o.prim = true := by
        have : ¬ o.a = -1 := by omega
        simp [badP, this] at hbp; exact hbp
      have hra : readS (programS k) ((loadsUpto k k.inputs.toNat).length + j) (regS k (bufsS k) o.a) = true := reads_ok hr ha ha2 (by omega) (fun _ => used_of ho (.inl rfl)) (Nat.le_refl _)
      have hf : formS (opOf k (bufsS k) j o) = true := by simp [formS, opOf, ha, hB]
      refine ⟨hf, ?_, ?_, ?_, fun h => ?_⟩
      · rw [places_three hf (by simp [opOf, ha])]
        simp [opOf, ha, hdst, hra, hrb]
      · simp [opOf, ha]; omega
      · simp [opOf, ha]
      · simp [opOf, ha] at h
    · have hU : isU o.prim = true := by
        have : o.a = -1 := by omega
        simp [badP, this] at hbp; exact hbp
      have hf : formS (opOf k (bufsS k) j o) = true := by simp [formS, opOf, ha, hU]
      refine ⟨hf, ?_, ?_, ?_, fun h => ?_⟩
      · rw [places_two hf (by simp [opOf, ha])]
        simp [opOf, ha, hdst, hrb]
      · simp [opOf, ha]; omega
      · simp [opOf, ha]
      · simp [opOf, ha] at h
  · have hi2 : i = (loadsUpto k k.inputs.toNat).length + k.ops.length := by omega
    subst hi2
    rw [code_store hr] at hx
    cases hx
    have hf : formS (storeOf k (bufsS k)) = true := by simp [formS, storeOf]
    refine ⟨hf, ?_, ?_, ?_, fun h => ?_⟩
    · rw [places_four (by rw [prog_regs hr]; omega) hf rfl]
      exact reads_ok hr (v := k.inputs + k.ops.length - 1) (j := k.ops.length) (by omega) (by omega) (Nat.le_refl _) (fun h => by omega) (Nat.le_refl _)
    · simp [storeOf]
    · simp [storeOf]
    · simp [storeOf] at h

theorem program_right {k : Kernel} (hr : right k = 0) (hn : 1 ≤ k.inputs) : rightL (programS k) = 0 := by
  obtain ⟨⟨hk1, hk2, hk3, hk4⟩, hval⟩ := right_zero hr
  obtain ⟨hm0, hm1, hbb⟩ := bufsS_bound hr
  have hcl := code_len hr
  have hll := loads_len k k.inputs.toNat
  have hb : badL (programS k) = false := by
    unfold badL
    rw [prog_regs hr, hcl]
    simp
    omega
  have hg : goL (programS k) 0 (programS k).code = 0 := goL_zero _ _ 0 fun j o ho => by
    obtain ⟨h1, h2, _⟩ := each_ok hr hn j o ho
    rw [Nat.zero_add]; exact ⟨h1, h2⟩
  have hst : ∀ i, i ≤ (programS k).code.length → storesN (programS k) i = if (loadsUpto k k.inputs.toNat).length + k.ops.length < i then 1 else 0 := by
    intro i
    induction i with
    | zero => intro _; simp [storesN]
    | succ i ih =>
      intro hi
      obtain ⟨o, ho⟩ := get_ex (l := (programS k).code) (i := i) (by omega)
      obtain ⟨_, _, h4, _⟩ := each_ok hr hn i o ho
      rw [stores_succ ho, ih (by omega)]
      by_cases he : i = (loadsUpto k k.inputs.toNat).length + k.ops.length
      · rw [if_pos (h4.2 he), if_neg (by omega), if_pos (by omega)]
      · rw [if_neg fun h => he (h4.1 h)]
        by_cases hlt : (loadsUpto k k.inputs.toNat).length + k.ops.length < i
        · rw [if_pos hlt, if_pos (by omega)]
        · rw [if_neg hlt, if_neg (by omega)]
  have he : badE (programS k) = false := by
    unfold badE
    rw [hst _ (Nat.le_refl _), if_pos (by omega)]
    have : endS (programS k) = true := by
      unfold endS
      rw [show (programS k).code.length - 1 = (loadsUpto k k.inputs.toNat).length + k.ops.length by omega, code_store hr]
      rfl
    rw [this]; rfl
  unfold rightL
  rw [hb, hg, he]
  rfl

/-! ### The law -/
def lw (p : Lanes) : Nat → List Int
  | 0 => List.replicate 16 0
  | i + 1 => match p.code[i]? with
    | some o => if o.kind = 1 then (lw p i).set o.input.toNat 1 else lw p i
    | none => lw p i
theorem lw_len (p : Lanes) : ∀ i, (lw p i).length = 16
  | 0 => by simp [lw]
  | i + 1 => by
    unfold lw
    split
    · split <;> simp [lw_len p i]
    · exact lw_len p i
theorem lw_get (p : Lanes) {n : Nat} (hn : n < 16) : ∀ i, (∀ (j : Nat) (o : LOp), j < i → p.code[j]? = some o → o.kind = 1 → o.input.toNat ≠ n) → (lw p i)[n]? = some 0
  | 0, _ => by rw [lw, List.getElem?_replicate, if_pos hn]
  | i + 1, h => by
    have ih := lw_get p hn i fun j o hj => h j o (by omega)
    unfold lw
    split
    · rename_i o ho
      split
      · rename_i h1
        rw [List.getElem?_set, if_neg (h i o (by omega) ho h1)]
        exact ih
      · exact ih
    · exact ih
theorem lw_succ {p : Lanes} {i : Nat} {o : LOp} (ho : p.code[i]? = some o) : lw p (i + 1) = if o.kind = 1 then (lw p i).set o.input.toNat 1 else lw p i := by
  rw [lw, ho]
theorem eInts_set (l : List Int) (i : Nat) (x : Int) : (eInts l).set i [DC.sc (.int .i64 x)] = eInts (l.set i x) := by simp [eInts, eInt, List.map_set]

theorem law6 (k : Kernel) : Gives Tryd.prog 6 [.agg (eKernel k)] (rBool true) := by
  refine Gives.intro Tryd.tyOk Tryd.func6 (by kernel_rfl) rfl (by simp [Tryd.ntmps6]) ?_
  simp only [go_sem, ↓reduceIte, Nat.reduceEqDiff, Nat.reduceAdd, Nat.reduceLeDiff, Nat.reduceMul, Nat.reducePow, Nat.reduceLT, Nat.reduceSub, Int.reduceEq, Int.reduceLT, Int.reduceLE, Int.reduceNeg, Int.reduceToNat, Int.cast_ofNat_Int]
  simp only [Tryd.ntmps6, Tryd.results6, eInt, keyOf, eKOp, eKernel, rBool, rInt, rInts, eLOp, rLOB, eLanes, rLanes, eStr, rStr, rTwo, rIB, rKer, List.map_cons, List.map_nil]
  generalize hBQ : retQ _ _ _ = BQ
  refine wpL_region Tryd.tyOk (by decide) ?_
  simp only [go_sem, ↓reduceIte, Nat.reduceEqDiff, Nat.reduceAdd, Nat.reduceLeDiff, Nat.reduceMul, Nat.reducePow, Nat.reduceLT, Nat.reduceSub, Int.reduceEq, Int.reduceLT, Int.reduceLE, Int.reduceNeg, Int.reduceToNat, Int.cast_ofNat_Int]
  refine wpL_to ⟨[(19, .c (.d (.sc (.bool (!decide (k.ops.length ≤ 100 ∧ right k = 0 ∧ 1 ≤ k.inputs)))))), (2, sbool false), (1, .c (.ptr 1 0))], [(1, .box 25 ((eKernel k).map .d))]⟩ ?_ ?_
  · by_cases h1 : (k.ops.length : Int) > 100
    · have : ¬ k.ops.length ≤ 100 := by omega
      refine wpL_region Tryd.tyOk (by decide) ?_
      simp only [go_sem, ↓reduceIte, Nat.reduceEqDiff, Nat.reduceAdd, Nat.reduceLeDiff, Nat.reduceMul, Nat.reducePow, Nat.reduceLT, Nat.reduceSub, Int.reduceEq, Int.reduceLT, Int.reduceLE, Int.reduceNeg, Int.reduceToNat, Int.cast_ofNat_Int, List.length_map, h1, decide_true]
      refine le_mk ?_ ?_ ?_ <;> (simp only [go_sem, ↓reduceIte, Nat.reduceEqDiff, Nat.reduceAdd, Nat.reduceLeDiff, Nat.reduceMul, Nat.reducePow, Nat.reduceLT, Nat.reduceSub, Int.reduceEq, Int.reduceLT, Int.reduceLE, Int.reduceNeg, Int.reduceToNat, Int.cast_ofNat_Int]; try simp [eInt, keyOf, eKOp, eKernel, rBool, rInt, rInts, eLOp, rLOB, eLanes, rLanes, eStr, rStr, rTwo, rIB, rKer, eInt, eStr, this]; try simp (disch := omega) only [IntWalk.i64_in, and_self])
    have h1' : k.ops.length ≤ 100 := by omega
    refine wpL_region Tryd.tyOk (by decide) ?_
    simp only [go_sem, ↓reduceIte, Nat.reduceEqDiff, Nat.reduceAdd, Nat.reduceLeDiff, Nat.reduceMul, Nat.reducePow, Nat.reduceLT, Nat.reduceSub, Int.reduceEq, Int.reduceLT, Int.reduceLE, Int.reduceNeg, Int.reduceToNat, Int.cast_ofNat_Int, List.length_map, h1, decide_false]
    refine ⟨_, right20 k, ?_⟩
    by_cases h2 : right k = 0
    · by_cases h3 : k.inputs < 1
      · have : ¬ 1 ≤ k.inputs := by omega
        simp only [go_sem, ↓reduceIte, Nat.reduceEqDiff, Nat.reduceAdd, Nat.reduceLeDiff, Nat.reduceMul, Nat.reducePow, Nat.reduceLT, Nat.reduceSub, Int.reduceEq, Int.reduceLT, Int.reduceLE, Int.reduceNeg, Int.reduceToNat, Int.cast_ofNat_Int, h2, h3, decide_true, Bool.not_true, Int.reduceEq]
        refine le_mk ?_ ?_ ?_ <;> (simp only [go_sem, ↓reduceIte, Nat.reduceEqDiff, Nat.reduceAdd, Nat.reduceLeDiff, Nat.reduceMul, Nat.reducePow, Nat.reduceLT, Nat.reduceSub, Int.reduceEq, Int.reduceLT, Int.reduceLE, Int.reduceNeg, Int.reduceToNat, Int.cast_ofNat_Int]; try simp [eInt, keyOf, eKOp, eKernel, rBool, rInt, rInts, eLOp, rLOB, eLanes, rLanes, eStr, rStr, rTwo, rIB, rKer, eInt, eStr, this]; try simp (disch := omega) only [IntWalk.i64_in, and_self])
      · have : 1 ≤ k.inputs := by omega
        simp only [go_sem, ↓reduceIte, Nat.reduceEqDiff, Nat.reduceAdd, Nat.reduceLeDiff, Nat.reduceMul, Nat.reducePow, Nat.reduceLT, Nat.reduceSub, Int.reduceEq, Int.reduceLT, Int.reduceLE, Int.reduceNeg, Int.reduceToNat, Int.cast_ofNat_Int, h2, h3, decide_true, decide_false, Bool.not_true, Int.reduceEq]
        refine le_mk ?_ ?_ ?_ <;> (simp only [go_sem, ↓reduceIte, Nat.reduceEqDiff, Nat.reduceAdd, Nat.reduceLeDiff, Nat.reduceMul, Nat.reducePow, Nat.reduceLT, Nat.reduceSub, Int.reduceEq, Int.reduceLT, Int.reduceLE, Int.reduceNeg, Int.reduceToNat, Int.cast_ofNat_Int]; try simp [eInt, keyOf, eKOp, eKernel, rBool, rInt, rInts, eLOp, rLOB, eLanes, rLanes, eStr, rStr, rTwo, rIB, rKer, eInt, eStr, this, h1', h2]; try simp (disch := omega) only [IntWalk.i64_in, and_self])
    · simp only [go_sem, ↓reduceIte, Nat.reduceEqDiff, Nat.reduceAdd, Nat.reduceLeDiff, Nat.reduceMul, Nat.reducePow, Nat.reduceLT, Nat.reduceSub, Int.reduceEq, Int.reduceLT, Int.reduceLE, Int.reduceNeg, Int.reduceToNat, Int.cast_ofNat_Int, h2, decide_false, Bool.not_false]
      refine le_mk ?_ ?_ ?_ <;> (simp only [go_sem, ↓reduceIte, Nat.reduceEqDiff, Nat.reduceAdd, Nat.reduceLeDiff, Nat.reduceMul, Nat.reducePow, Nat.reduceLT, Nat.reduceSub, Int.reduceEq, Int.reduceLT, Int.reduceLE, Int.reduceNeg, Int.reduceToNat, Int.cast_ofNat_Int]; try simp [eInt, keyOf, eKOp, eKernel, rBool, rInt, rInts, eLOp, rLOB, eLanes, rLanes, eStr, rStr, rTwo, rIB, rKer, eInt, eStr, h2]; try simp (disch := omega) only [IntWalk.i64_in, and_self])
  refine wpL_cond (t := !decide (k.ops.length ≤ 100 ∧ right k = 0 ∧ 1 ≤ k.inputs)) (by simp only [go_sem, ↓reduceIte, Nat.reduceEqDiff, Nat.reduceAdd, Nat.reduceLeDiff, Nat.reduceMul, Nat.reducePow, Nat.reduceLT, Nat.reduceSub, Int.reduceEq, Int.reduceLT, Int.reduceLE, Int.reduceNeg, Int.reduceToNat, Int.cast_ofNat_Int]) (fun h => ?_) (fun h => ?_)
  · simp only [go_sem, ↓reduceIte, Nat.reduceEqDiff, Nat.reduceAdd, Nat.reduceLeDiff, Nat.reduceMul, Nat.reducePow, Nat.reduceLT, Nat.reduceSub, Int.reduceEq, Int.reduceLT, Int.reduceLE, Int.reduceNeg, Int.reduceToNat, Int.cast_ofNat_Int]
    refine wpL_region Tryd.tyOk (by decide) ?_
    simp only [go_sem, ↓reduceIte, Nat.reduceEqDiff, Nat.reduceAdd, Nat.reduceLeDiff, Nat.reduceMul, Nat.reducePow, Nat.reduceLT, Nat.reduceSub, Int.reduceEq, Int.reduceLT, Int.reduceLE, Int.reduceNeg, Int.reduceToNat, Int.cast_ofNat_Int]
    refine ⟨_, example7, ?_⟩
    simp only [go_sem, ↓reduceIte, Nat.reduceEqDiff, Nat.reduceAdd, Nat.reduceLeDiff, Nat.reduceMul, Nat.reducePow, Nat.reduceLT, Nat.reduceSub, Int.reduceEq, Int.reduceLT, Int.reduceLE, Int.reduceNeg, Int.reduceToNat, Int.cast_ofNat_Int]
    refine wpL_ret ?_
    try simp only [go_sem, ↓reduceIte, Nat.reduceEqDiff, Nat.reduceAdd, Nat.reduceLeDiff, Nat.reduceMul, Nat.reducePow, Nat.reduceLT, Nat.reduceSub, Int.reduceEq, Int.reduceLT, Int.reduceLE, Int.reduceNeg, Int.reduceToNat, Int.cast_ofNat_Int]
    rw [← hBQ]
    try simp only [go_sem, ↓reduceIte, Nat.reduceEqDiff, Nat.reduceAdd, Nat.reduceLeDiff, Nat.reduceMul, Nat.reducePow, Nat.reduceLT, Nat.reduceSub, Int.reduceEq, Int.reduceLT, Int.reduceLE, Int.reduceNeg, Int.reduceToNat, Int.cast_ofNat_Int]
    try simp only [go_sem, ↓reduceIte, Nat.reduceEqDiff, Nat.reduceAdd, Nat.reduceLeDiff, Nat.reduceMul, Nat.reducePow, Nat.reduceLT, Nat.reduceSub, Int.reduceEq, Int.reduceLT, Int.reduceLE, Int.reduceNeg, Int.reduceToNat, Int.cast_ofNat_Int]
  obtain ⟨h1, hr, hn⟩ : k.ops.length ≤ 100 ∧ right k = 0 ∧ 1 ≤ k.inputs := by
    by_cases hc : k.ops.length ≤ 100 ∧ right k = 0 ∧ 1 ≤ k.inputs
    · exact hc
    · rw [decide_eq_false hc] at h; cases h
  obtain ⟨⟨hk1, hk2, hk3, hk4⟩, hval⟩ := right_zero hr
  obtain ⟨hm0, hm1, hbb⟩ := bufsS_bound hr
  have hp0 := program_right hr hn
  have hpr := prog_regs hr
  have hpl := code_len hr
  have hll := loads_len k k.inputs.toNat
  have heach := each_ok hr hn
  have hap : ∀ (i : Nat) (o : LOp), (programS k).code[i]? = some o → o.kind = 1 → ∀ (j : Nat) (o' : LOp), j < i → (programS k).code[j]? = some o' → o'.kind = 1 → o'.input.toNat ≠ o.input.toNat := by
    intro i o ho h1 j o' hj ho' h1' e
    obtain ⟨_, _, _, q1, q2⟩ := heach i o ho
    obtain ⟨_, _, _, q3, q4⟩ := heach j o' ho'
    have hi := q1.1 h1
    rw [code_load hr hi] at ho
    rw [code_load hr (by omega)] at ho'
    have h5 := load_apart hj ho' ho
    have h6 := q2 h1
    have h7 := q4 h1'
    omega
  have hmk : (programS k).code.length ≤ 1000 := by omega
  have hprog := program9 k
  have hright := right11 (programS k)
  rw [hp0] at hright
  generalize programS k = p at *
  have hw : IntKind.i64.wrap (k.inputs + k.ops.length) = k.inputs + k.ops.length := IntWalk.i64_in _ (by omega)
  have hnot : ¬ p.regs > k.inputs + k.ops.length := by omega
  simp only [go_sem, ↓reduceIte, Nat.reduceEqDiff, Nat.reduceAdd, Nat.reduceLeDiff, Nat.reduceMul, Nat.reducePow, Nat.reduceLT, Nat.reduceSub, Int.reduceEq, Int.reduceLT, Int.reduceLE, Int.reduceNeg, Int.reduceToNat, Int.cast_ofNat_Int]
  refine wpL_skip ?_
  refine wpL_region Tryd.tyOk (by decide) ?_
  simp only [go_sem, ↓reduceIte, Nat.reduceEqDiff, Nat.reduceAdd, Nat.reduceLeDiff, Nat.reduceMul, Nat.reducePow, Nat.reduceLT, Nat.reduceSub, Int.reduceEq, Int.reduceLT, Int.reduceLE, Int.reduceNeg, Int.reduceToNat, Int.cast_ofNat_Int]
  refine ⟨_, hprog, ?_⟩
  simp only [go_sem, ↓reduceIte, Nat.reduceEqDiff, Nat.reduceAdd, Nat.reduceLeDiff, Nat.reduceMul, Nat.reducePow, Nat.reduceLT, Nat.reduceSub, Int.reduceEq, Int.reduceLT, Int.reduceLE, Int.reduceNeg, Int.reduceToNat, Int.cast_ofNat_Int]
  refine wpL_region Tryd.tyOk (by decide) ?_
  simp only [go_sem, ↓reduceIte, Nat.reduceEqDiff, Nat.reduceAdd, Nat.reduceLeDiff, Nat.reduceMul, Nat.reducePow, Nat.reduceLT, Nat.reduceSub, Int.reduceEq, Int.reduceLT, Int.reduceLE, Int.reduceNeg, Int.reduceToNat, Int.cast_ofNat_Int]
  refine ⟨_, hright, ?_⟩
  simp only [go_sem, ↓reduceIte, Nat.reduceEqDiff, Nat.reduceAdd, Nat.reduceLeDiff, Nat.reduceMul, Nat.reducePow, Nat.reduceLT, Nat.reduceSub, Int.reduceEq, Int.reduceLT, Int.reduceLE, Int.reduceNeg, Int.reduceToNat, Int.cast_ofNat_Int, List.length_map, hw, hnot, decide_false]
  refine wpL_cond (t := false) (by simp only [go_sem, ↓reduceIte, Nat.reduceEqDiff, Nat.reduceAdd, Nat.reduceLeDiff, Nat.reduceMul, Nat.reducePow, Nat.reduceLT, Nat.reduceSub, Int.reduceEq, Int.reduceLT, Int.reduceLE, Int.reduceNeg, Int.reduceToNat, Int.cast_ofNat_Int]) (fun h => by cases h) (fun _ => ?_)
  simp only [go_sem, ↓reduceIte, Nat.reduceEqDiff, Nat.reduceAdd, Nat.reduceLeDiff, Nat.reduceMul, Nat.reducePow, Nat.reduceLT, Nat.reduceSub, Int.reduceEq, Int.reduceLT, Int.reduceLE, Int.reduceNeg, Int.reduceToNat, Int.cast_ofNat_Int]
  refine wpL_skip ?_
  refine wpL_region Tryd.tyOk (by decide) ?_
  simp only [go_sem, ↓reduceIte, Nat.reduceEqDiff, Nat.reduceAdd, Nat.reduceLeDiff, Nat.reduceMul, Nat.reducePow, Nat.reduceLT, Nat.reduceSub, Int.reduceEq, Int.reduceLT, Int.reduceLE, Int.reduceNeg, Int.reduceToNat, Int.cast_ofNat_Int]
  refine ⟨by decide, ?_⟩
  refine wpL_region Tryd.tyOk (by decide) ?_
  simp only [go_sem, ↓reduceIte, Nat.reduceEqDiff, Nat.reduceAdd, Nat.reduceLeDiff, Nat.reduceMul, Nat.reducePow, Nat.reduceLT, Nat.reduceSub, Int.reduceEq, Int.reduceLT, Int.reduceLE, Int.reduceNeg, Int.reduceToNat, Int.cast_ofNat_Int]
  refine wpL_block ?_
  generalize hB0 : blockQ _ _ _ = B0
  simp only [go_sem, ↓reduceIte, Nat.reduceEqDiff, Nat.reduceAdd, Nat.reduceLeDiff, Nat.reduceMul, Nat.reducePow, Nat.reduceLT, Nat.reduceSub, Int.reduceEq, Int.reduceLT, Int.reduceLE, Int.reduceNeg, Int.reduceToNat, Int.cast_ofNat_Int]
  refine wpL_loop (fun n s => ∃ i : Nat, i ≤ p.code.length ∧ n = p.code.length - i ∧ s = ⟨[(5, sint .i64 i), (4, .c (.row 37)), (3, .c (.ptr 3 0))], [(37, .arr 3 1 (eInts (lw p i)) false), (3, .box 30 [.d (eInt p.regs), .row 2022]), (2022, .arr 41 6 (p.code.map eLOp) false)]⟩) ?_ ?_
  · refine ⟨_, _, ⟨0, by omega, rfl, rfl⟩, ?_⟩
    refine le_mk ?_ ?_ ?_ <;> (simp only [go_sem, ↓reduceIte, Nat.reduceEqDiff, Nat.reduceAdd, Nat.reduceLeDiff, Nat.reduceMul, Nat.reducePow, Nat.reduceLT, Nat.reduceSub, Int.reduceEq, Int.reduceLT, Int.reduceLE, Int.reduceNeg, Int.reduceToNat, Int.cast_ofNat_Int]; try simp [eInt, keyOf, eKOp, eKernel, rBool, rInt, rInts, eLOp, rLOB, eLanes, rLanes, eStr, rStr, rTwo, rIB, rKer, eInt, eStr, lw, eInts]; try simp (disch := omega) only [IntWalk.i64_in, and_self])
  rintro n s ⟨i, hi, rfl, rfl⟩
  have hlen16 := lw_len p i
  simp only [go_sem, ↓reduceIte, Nat.reduceEqDiff, Nat.reduceAdd, Nat.reduceLeDiff, Nat.reduceMul, Nat.reducePow, Nat.reduceLT, Nat.reduceSub, Int.reduceEq, Int.reduceLT, Int.reduceLE, Int.reduceNeg, Int.reduceToNat, Int.cast_ofNat_Int]
  refine wpL_region Tryd.tyOk (by decide) ?_
  simp only [go_sem, ↓reduceIte, Nat.reduceEqDiff, Nat.reduceAdd, Nat.reduceLeDiff, Nat.reduceMul, Nat.reducePow, Nat.reduceLT, Nat.reduceSub, Int.reduceEq, Int.reduceLT, Int.reduceLE, Int.reduceNeg, Int.reduceToNat, Int.cast_ofNat_Int, List.length_map]
  refine wpL_cond (t := decide ((i : Int) < p.code.length)) (by simp only [go_sem, ↓reduceIte, Nat.reduceEqDiff, Nat.reduceAdd, Nat.reduceLeDiff, Nat.reduceMul, Nat.reducePow, Nat.reduceLT, Nat.reduceSub, Int.reduceEq, Int.reduceLT, Int.reduceLE, Int.reduceNeg, Int.reduceToNat, Int.cast_ofNat_Int]) (fun hlt => ?_) (fun hge => ?_)
  · have hlt := lt_of hlt
    obtain ⟨o, ho⟩ := get_ex (l := p.code) (i := i) (by omega)
    have hsucc := lw_succ ho
    simp only [go_sem, ↓reduceIte, Nat.reduceEqDiff, Nat.reduceAdd, Nat.reduceLeDiff, Nat.reduceMul, Nat.reducePow, Nat.reduceLT, Nat.reduceSub, Int.reduceEq, Int.reduceLT, Int.reduceLE, Int.reduceNeg, Int.reduceToNat, Int.cast_ofNat_Int]
    refine wpL_skip ?_
    refine wpL_block ?_
    generalize hB1 : blockQ _ _ _ = B1
    simp only [go_sem, ↓reduceIte, Nat.reduceEqDiff, Nat.reduceAdd, Nat.reduceLeDiff, Nat.reduceMul, Nat.reducePow, Nat.reduceLT, Nat.reduceSub, Int.reduceEq, Int.reduceLT, Int.reduceLE, Int.reduceNeg, Int.reduceToNat, Int.cast_ofNat_Int]
    refine wpL_region Tryd.tyOk (by decide) ?_
    simp only [go_sem, ↓reduceIte, Nat.reduceEqDiff, Nat.reduceAdd, Nat.reduceLeDiff, Nat.reduceMul, Nat.reducePow, Nat.reduceLT, Nat.reduceSub, Int.reduceEq, Int.reduceLT, Int.reduceLE, Int.reduceNeg, Int.reduceToNat, Int.cast_ofNat_Int, lops_get ho, List.length_map, hlt]
    by_cases k1 : o.kind = 1
    · obtain ⟨_, _, _, _, q2⟩ := heach i o ho
      obtain ⟨i0, i1⟩ := q2 k1
      have hget : (lw p i)[o.input.toNat]? = some 0 := lw_get p (by omega) i fun j o' hj ho' h1' => hap i o ho k1 j o' hj ho' h1'
      have hget2 : ((lw p i).set o.input.toNat 1)[o.input.toNat]? = some 1 := by rw [List.getElem?_set, if_pos rfl, if_pos (by omega)]
      have hil : o.input < ((lw p i).length : Int) := by omega
      have hil2 : o.input < (((lw p i).set o.input.toNat 1).length : Int) := by rw [List.length_set]; omega
      have hw1 : IntKind.i64.wrap (0 + 1) = 1 := by decide
      refine wpL_cond (t := true) (by simp only [go_sem, ↓reduceIte, Nat.reduceEqDiff, Nat.reduceAdd, Nat.reduceLeDiff, Nat.reduceMul, Nat.reducePow, Nat.reduceLT, Nat.reduceSub, Int.reduceEq, Int.reduceLT, Int.reduceLE, Int.reduceNeg, Int.reduceToNat, Int.cast_ofNat_Int, k1, decide_true]) (fun _ => ?_) (fun h => by cases h)
      simp only [go_sem, ↓reduceIte, Nat.reduceEqDiff, Nat.reduceAdd, Nat.reduceLeDiff, Nat.reduceMul, Nat.reducePow, Nat.reduceLT, Nat.reduceSub, Int.reduceEq, Int.reduceLT, Int.reduceLE, Int.reduceNeg, Int.reduceToNat, Int.cast_ofNat_Int]
      refine wpL_region Tryd.tyOk (by decide) ?_
      simp only [go_sem, ↓reduceIte, Nat.reduceEqDiff, Nat.reduceAdd, Nat.reduceLeDiff, Nat.reduceMul, Nat.reducePow, Nat.reduceLT, Nat.reduceSub, Int.reduceEq, Int.reduceLT, Int.reduceLE, Int.reduceNeg, Int.reduceToNat, Int.cast_ofNat_Int, lops_get ho, List.length_map, hlt, eInts_length, hil, i0, eInts_get hget, hw1, eInts_set, and_self]
      refine wpL_region Tryd.tyOk (by decide) ?_
      simp only [go_sem, ↓reduceIte, Nat.reduceEqDiff, Nat.reduceAdd, Nat.reduceLeDiff, Nat.reduceMul, Nat.reducePow, Nat.reduceLT, Nat.reduceSub, Int.reduceEq, Int.reduceLT, Int.reduceLE, Int.reduceNeg, Int.reduceToNat, Int.cast_ofNat_Int, lops_get ho, List.length_map, hlt, eInts_length, hil2, i0, eInts_get hget2, and_self, Int.reduceGT, decide_false]
      refine wpL_cond (t := false) (by simp only [go_sem, ↓reduceIte, Nat.reduceEqDiff, Nat.reduceAdd, Nat.reduceLeDiff, Nat.reduceMul, Nat.reducePow, Nat.reduceLT, Nat.reduceSub, Int.reduceEq, Int.reduceLT, Int.reduceLE, Int.reduceNeg, Int.reduceToNat, Int.cast_ofNat_Int, Int.reduceGT, decide_false]) (fun h => by cases h) (fun _ => ?_)
      simp only [go_sem, ↓reduceIte, Nat.reduceEqDiff, Nat.reduceAdd, Nat.reduceLeDiff, Nat.reduceMul, Nat.reducePow, Nat.reduceLT, Nat.reduceSub, Int.reduceEq, Int.reduceLT, Int.reduceLE, Int.reduceNeg, Int.reduceToNat, Int.cast_ofNat_Int]
      refine wpL_skip ?_
      try simp only [go_sem, ↓reduceIte, Nat.reduceEqDiff, Nat.reduceAdd, Nat.reduceLeDiff, Nat.reduceMul, Nat.reducePow, Nat.reduceLT, Nat.reduceSub, Int.reduceEq, Int.reduceLT, Int.reduceLE, Int.reduceNeg, Int.reduceToNat, Int.cast_ofNat_Int]
      rw [← hB1]
      try simp only [go_sem, ↓reduceIte, Nat.reduceEqDiff, Nat.reduceAdd, Nat.reduceLeDiff, Nat.reduceMul, Nat.reducePow, Nat.reduceLT, Nat.reduceSub, Int.reduceEq, Int.reduceLT, Int.reduceLE, Int.reduceNeg, Int.reduceToNat, Int.cast_ofNat_Int]
      refine wpL_region Tryd.tyOk (by decide) ?_
      simp only [go_sem, ↓reduceIte, Nat.reduceEqDiff, Nat.reduceAdd, Nat.reduceLeDiff, Nat.reduceMul, Nat.reducePow, Nat.reduceLT, Nat.reduceSub, Int.reduceEq, Int.reduceLT, Int.reduceLE, Int.reduceNeg, Int.reduceToNat, Int.cast_ofNat_Int]
      refine ⟨_, _, ?_, ⟨i + 1, by omega, rfl, rfl⟩, ?_⟩
      · omega
      · rw [hsucc, if_pos k1]
        refine le_mk ?_ ?_ ?_ <;> (simp only [go_sem, ↓reduceIte, Nat.reduceEqDiff, Nat.reduceAdd, Nat.reduceLeDiff, Nat.reduceMul, Nat.reducePow, Nat.reduceLT, Nat.reduceSub, Int.reduceEq, Int.reduceLT, Int.reduceLE, Int.reduceNeg, Int.reduceToNat, Int.cast_ofNat_Int]; try simp [eInt, keyOf, eKOp, eKernel, rBool, rInt, rInts, eLOp, rLOB, eLanes, rLanes, eStr, rStr, rTwo, rIB, rKer, eInt, eStr]; try simp (disch := omega) only [IntWalk.i64_in, and_self])
    · refine wpL_cond (t := false) (by simp only [go_sem, ↓reduceIte, Nat.reduceEqDiff, Nat.reduceAdd, Nat.reduceLeDiff, Nat.reduceMul, Nat.reducePow, Nat.reduceLT, Nat.reduceSub, Int.reduceEq, Int.reduceLT, Int.reduceLE, Int.reduceNeg, Int.reduceToNat, Int.cast_ofNat_Int, k1, decide_false]) (fun h => by cases h) (fun _ => ?_)
      simp only [go_sem, ↓reduceIte, Nat.reduceEqDiff, Nat.reduceAdd, Nat.reduceLeDiff, Nat.reduceMul, Nat.reducePow, Nat.reduceLT, Nat.reduceSub, Int.reduceEq, Int.reduceLT, Int.reduceLE, Int.reduceNeg, Int.reduceToNat, Int.cast_ofNat_Int]
      refine wpL_skip ?_
      try simp only [go_sem, ↓reduceIte, Nat.reduceEqDiff, Nat.reduceAdd, Nat.reduceLeDiff, Nat.reduceMul, Nat.reducePow, Nat.reduceLT, Nat.reduceSub, Int.reduceEq, Int.reduceLT, Int.reduceLE, Int.reduceNeg, Int.reduceToNat, Int.cast_ofNat_Int]
      rw [← hB1]
      try simp only [go_sem, ↓reduceIte, Nat.reduceEqDiff, Nat.reduceAdd, Nat.reduceLeDiff, Nat.reduceMul, Nat.reducePow, Nat.reduceLT, Nat.reduceSub, Int.reduceEq, Int.reduceLT, Int.reduceLE, Int.reduceNeg, Int.reduceToNat, Int.cast_ofNat_Int]
      refine wpL_region Tryd.tyOk (by decide) ?_
      simp only [go_sem, ↓reduceIte, Nat.reduceEqDiff, Nat.reduceAdd, Nat.reduceLeDiff, Nat.reduceMul, Nat.reducePow, Nat.reduceLT, Nat.reduceSub, Int.reduceEq, Int.reduceLT, Int.reduceLE, Int.reduceNeg, Int.reduceToNat, Int.cast_ofNat_Int]
      refine ⟨_, _, ?_, ⟨i + 1, by omega, rfl, rfl⟩, ?_⟩
      · omega
      · rw [hsucc, if_neg k1]
        refine le_mk ?_ ?_ ?_ <;> (simp only [go_sem, ↓reduceIte, Nat.reduceEqDiff, Nat.reduceAdd, Nat.reduceLeDiff, Nat.reduceMul, Nat.reducePow, Nat.reduceLT, Nat.reduceSub, Int.reduceEq, Int.reduceLT, Int.reduceLE, Int.reduceNeg, Int.reduceToNat, Int.cast_ofNat_Int]; try simp [eInt, keyOf, eKOp, eKernel, rBool, rInt, rInts, eLOp, rLOB, eLanes, rLanes, eStr, rStr, rTwo, rIB, rKer, eInt, eStr]; try simp (disch := omega) only [IntWalk.i64_in, and_self])
  refine wpL_exit ?_
  simp only [go_sem, ↓reduceIte, Nat.reduceEqDiff, Nat.reduceAdd, Nat.reduceLeDiff, Nat.reduceMul, Nat.reducePow, Nat.reduceLT, Nat.reduceSub, Int.reduceEq, Int.reduceLT, Int.reduceLE, Int.reduceNeg, Int.reduceToNat, Int.cast_ofNat_Int]
  rw [← hB0]
  try simp only [go_sem, ↓reduceIte, Nat.reduceEqDiff, Nat.reduceAdd, Nat.reduceLeDiff, Nat.reduceMul, Nat.reducePow, Nat.reduceLT, Nat.reduceSub, Int.reduceEq, Int.reduceLT, Int.reduceLE, Int.reduceNeg, Int.reduceToNat, Int.cast_ofNat_Int]
  refine wpL_region Tryd.tyOk (by decide) ?_
  simp only [go_sem, ↓reduceIte, Nat.reduceEqDiff, Nat.reduceAdd, Nat.reduceLeDiff, Nat.reduceMul, Nat.reducePow, Nat.reduceLT, Nat.reduceSub, Int.reduceEq, Int.reduceLT, Int.reduceLE, Int.reduceNeg, Int.reduceToNat, Int.cast_ofNat_Int]
  refine ⟨_, example7, ?_⟩
  simp only [go_sem, ↓reduceIte, Nat.reduceEqDiff, Nat.reduceAdd, Nat.reduceLeDiff, Nat.reduceMul, Nat.reducePow, Nat.reduceLT, Nat.reduceSub, Int.reduceEq, Int.reduceLT, Int.reduceLE, Int.reduceNeg, Int.reduceToNat, Int.cast_ofNat_Int]
  refine wpL_ret ?_
  try simp only [go_sem, ↓reduceIte, Nat.reduceEqDiff, Nat.reduceAdd, Nat.reduceLeDiff, Nat.reduceMul, Nat.reducePow, Nat.reduceLT, Nat.reduceSub, Int.reduceEq, Int.reduceLT, Int.reduceLE, Int.reduceNeg, Int.reduceToNat, Int.cast_ofNat_Int]
  rw [← hBQ]
  try simp only [go_sem, ↓reduceIte, Nat.reduceEqDiff, Nat.reduceAdd, Nat.reduceLeDiff, Nat.reduceMul, Nat.reducePow, Nat.reduceLT, Nat.reduceSub, Int.reduceEq, Int.reduceLT, Int.reduceLE, Int.reduceNeg, Int.reduceToNat, Int.cast_ofNat_Int]
  try simp only [go_sem, ↓reduceIte, Nat.reduceEqDiff, Nat.reduceAdd, Nat.reduceLeDiff, Nat.reduceMul, Nat.reducePow, Nat.reduceLT, Nat.reduceSub, Int.reduceEq, Int.reduceLT, Int.reduceLE, Int.reduceNeg, Int.reduceToNat, Int.cast_ofNat_Int]
end Go.Proofs.YtcafkemjegkhkaaDoor
