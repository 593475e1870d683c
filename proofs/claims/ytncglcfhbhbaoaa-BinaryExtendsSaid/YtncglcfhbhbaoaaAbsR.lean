/-
  Regions that draw their order: the rule.
-/
import Derived.Test.YtncglcfhbhbaoaaAbsQ
import Derived.Orders
set_option linter.unusedSimpArgs false
set_option linter.unusedVariables false
namespace Go.Abs
open Go.RowKit

def cnt (f : Nat → Bool) : Nat → Nat
  | 0 => 0
  | n + 1 => cnt f n + (if f n then 0 else 1)

theorem cnt_set {f f' : Nat → Bool} {i : Nat} (hi : f i = false) (hi' : f' i = true) (h : ∀ j, j ≠ i → f' j = f j) : ∀ n, cnt f n = cnt f' n + (if i < n then 1 else 0)
  | 0 => by simp [cnt]
  | n + 1 => by
    have ih := cnt_set hi hi' h n
    unfold cnt
    by_cases hn : n = i
    · subst hn
      rw [hi, hi', ih]
      simp
    · rw [h n hn, ih]
      have he : (if i < n + 1 then (1 : Nat) else 0) = if i < n then 1 else 0 := by
        by_cases hlt : i < n
        · rw [if_pos hlt, if_pos (show i < n + 1 by omega)]
        · rw [if_neg hlt, if_neg (show ¬ i < n + 1 by omega)]
      rw [he]
      generalize (if i < n then (1 : Nat) else 0) = z
      generalize (if f n = true then (0 : Nat) else 1) = y
      omega

theorem cnt_all {f : Nat → Bool} {m : Nat} (h : ∀ j, j < m → f j = true) : cnt f m = 0 := by
  induction m with
  | zero => rfl
  | succ m ih => unfold cnt; rw [ih fun j hj => h j (by omega), h m (by omega)]; rfl

theorem cnt_pos {f : Nat → Bool} {i : Nat} (hi : f i = false) : ∀ {n}, i < n → 0 < cnt f n
  | n + 1, h => by
    unfold cnt
    by_cases hn : n = i
    · subst hn; rw [hi]; simp
    · have := cnt_pos hi (show i < n by omega); omega

theorem least {p : Nat → Bool} {i : Nat} (hi : p i = false) : ∃ j, j ≤ i ∧ p j = false ∧ ∀ l, l < j → p l = true := by
  induction i using Nat.strongRecOn with
  | _ i ih =>
    by_cases h : ∃ l, l < i ∧ p l = false
    · obtain ⟨l, hl, hp⟩ := h
      obtain ⟨j, h1, h2, h3⟩ := ih l hl hp
      exact ⟨j, by omega, h2, h3⟩
    · refine ⟨i, Nat.le_refl _, hi, fun l hl => ?_⟩
      cases hp : p l with
      | true => rfl
      | false => exact absurd ⟨l, hl, hp⟩ h

section
variable {ops : Array Oper} {k : Nat}

theorem ready_iff {listed : Array Bool} {i : Nat} : i ∈ Region.ready .any ops listed ↔ ∃ o, ops[i]? = some o ∧ listed.getD i true = false ∧ ∀ p ∈ bindsOn o, listed.getD p false = true := by
  unfold Region.ready
  rw [List.mem_filter, List.mem_range]
  constructor
  · rintro ⟨hi, h⟩
    have ho := Array.getElem?_eq_getElem hi
    refine ⟨_, ho, ?_⟩
    rw [ho] at h
    simp only [Bool.and_eq_true, Option.map_some, Option.getD_some, Bool.not_eq_true'] at h
    refine ⟨h.1, fun p hp => ?_⟩
    unfold bindsOn at hp
    rw [List.mem_map] at hp
    obtain ⟨e, he, rfl⟩ := hp
    rw [List.mem_filter] at he
    have h2 := h.2
    rw [Array.all_eq_true'] at h2
    have := h2 e (by simpa using he.1)
    rw [he.2] at this
    simpa using this
  · rintro ⟨o, ho, h1, h2⟩
    have hi : i < ops.size := (Array.getElem?_eq_some_iff.1 ho).1
    refine ⟨hi, ?_⟩
    rw [ho]
    simp only [Bool.and_eq_true, Option.map_some, Option.getD_some, Bool.not_eq_true']
    refine ⟨h1, ?_⟩
    rw [Array.all_eq_true']
    intro e he
    cases hb : Region.binds .any e with
    | false => simp
    | true =>
      have := h2 e.on (by
        unfold bindsOn
        rw [List.mem_map]
        exact ⟨e, List.mem_filter.2 ⟨by simpa using he, hb⟩, rfl⟩)
      simp [this]

theorem reach_lt (hp : Pre0 ops k) : ∀ {f i j : Nat}, reach ops f i j = true → j < i
  | 0, i, j, h => by simp [reach] at h
  | f + 1, i, j, h => by
    unfold reach at h
    split at h
    · rename_i o ho
      rw [List.any_eq_true] at h
      obtain ⟨p, hp1, hp2⟩ := h
      have := hp.bind i o ho p hp1
      rw [Bool.or_eq_true] at hp2
      rcases hp2 with hp2 | hp2
      · have : p = j := by simpa using hp2
        omega
      · have := reach_lt hp hp2; omega
    · cases h

theorem reach_first {f i j : Nat} {o : Oper} (h : reach ops f i j = true) (ho : ops[i]? = some o) : ∃ p, p ∈ bindsOn o ∧ (p = j ∨ ∃ f', reach ops f' p j = true) := by
  cases f with
  | zero => simp [reach] at h
  | succ f =>
    unfold reach at h
    rw [ho] at h
    simp only at h
    rw [List.any_eq_true] at h
    obtain ⟨p, hp1, hp2⟩ := h
    rw [Bool.or_eq_true] at hp2
    refine ⟨p, hp1, ?_⟩
    rcases hp2 with hp2 | hp2
    · exact .inl (by simpa using hp2)
    · exact .inr ⟨f, hp2⟩

/-- Closed downward. -/
def Closed (ops : Array Oper) (f : Nat → Bool) : Prop := ∀ i o, ops[i]? = some o → f i = true → ∀ p ∈ bindsOn o, f p = true

theorem closed_reach {f : Nat → Bool} (hc : Closed ops f) : ∀ {n i j : Nat}, reach ops n i j = true → f i = true → f j = true
  | 0, i, j, h, _ => by simp [reach] at h
  | n + 1, i, j, h, hi => by
    unfold reach at h
    split at h
    · rename_i o ho
      rw [List.any_eq_true] at h
      obtain ⟨p, hp1, hp2⟩ := h
      have hfp := hc i o ho hi p hp1
      rw [Bool.or_eq_true] at hp2
      rcases hp2 with hp2 | hp2
      · have : p = j := by simpa using hp2
        subst this; exact hfp
      · exact closed_reach hc hp2 hfp
    · cases h

end

section
variable {P : Program} {T : Tab} {ops : Array Oper} {k : Nat} {s0 : ASt} {K : ASt → Prop}

theorem text_congr {es es' : Nat → Eff} : ∀ {i : Nat}, (∀ j, j < i → es' j = es j) → text ops es' s0 i = text ops es s0 i
  | 0, _ => rfl
  | i + 1, h => by
    have ih := text_congr (i := i) fun j hj => h j (by omega)
    unfold text
    rw [ih, h i (by omega)]

theorem aOps_es (hp : Pre0 ops k) (h : aOps false P T ops (ops.toList.take k) K s0) : ∀ m, m ≤ k → ∃ es : Nat → Eff, (∀ i o, i < m → ops[i]? = some o → stepGE P T ops o (text ops es s0 i) (es i)) ∧ aOps false P T ops ((ops.toList.take k).drop m) K (text ops es s0 m)
  | 0, _ => ⟨fun _ => ⟨.any, []⟩, fun i o hi => by omega, h⟩
  | m + 1, hm => by
    obtain ⟨es, h1, h2⟩ := aOps_es hp h m (by omega)
    have hlt : m < ops.size := Nat.lt_of_lt_of_le (show m < k by omega) hp.le
    have ho := Array.getElem?_eq_getElem hlt
    have hdrop : (ops.toList.take k).drop m = ops[m] :: (ops.toList.take k).drop (m + 1) := by
      rw [List.drop_eq_getElem_cons (by simp; omega)]
      simp
    rw [hdrop] at h2
    obtain ⟨e, he, hK⟩ := (stepG_E (hp.w m _ (by omega) ho)).1 h2
    have hcg : ∀ i, i ≤ m → text ops (fun j => if j = m then e else es j) s0 i = text ops es s0 i := fun i hi => text_congr fun j hj => by
      exact if_neg (by omega)
    refine ⟨fun j => if j = m then e else es j, fun i o hi hio => ?_, ?_⟩
    · rw [hcg i (by omega)]
      by_cases him : i = m
      · subst him
        simp only [if_pos]
        rw [ho] at hio; cases hio
        exact he
      · simp only [if_neg him]
        exact h1 i o (by omega) hio
    · have : text ops (fun j => if j = m then e else es j) s0 (m + 1) = (text ops es s0 m).ap (ops[m]).dst e := by
        rw [text, hcg m (Nat.le_refl _), ho]
        simp only [if_pos]
      rw [this]
      exact hK

end

section
variable {S : Nat → Nat → Prop} {w0 : World} {N : Fm} {P : Program} {T : Tab} {ops : Array Oper} {k : Nat} {s0 : ASt} {K : ASt → Prop} {Qc : Exit → Act → World → Prop}

theorem dst_of (hd : dstOk N.n ops.toList = true) {i : Nat} {o : Oper} (ho : ops[i]? = some o) : ∀ t, o.dst = some t → t < N.n := by
  intro t ht
  unfold dstOk at hd
  rw [List.all_eq_true] at hd
  have := hd o (by rw [Array.mem_toList_iff]; exact Array.mem_of_getElem? ho)
  rw [ht] at this
  simpa using this

theorem getD_set {l : Array Bool} {i : Nat} (hi : i < l.size) (b : Bool) (j : Nat) : (l.setIfInBounds i true).getD j b = if j = i then true else l.getD j b := by
  simp only [Array.getD_eq_getD_getElem?, Array.getElem?_setIfInBounds]
  by_cases h : i = j
  · subst h; simp [hi]
  · rw [if_neg h, if_neg (Ne.symm h)]

theorem getD_tf {l : Array Bool} {j : Nat} (hj : j < l.size) : l.getD j true = l.getD j false := by
  simp only [Array.getD_eq_getD_getElem?, Array.getElem?_eq_getElem hj, Option.getD_some]

/-- The tail, in the order of the text. -/
theorem phaseB {ro : Option Nat} (hT : TabOk P T) (hd : dstOk N.n ops.toList = true) (hp : Pre ops k) (hQ : ∀ g s a w, Rel S w0 N g s a w → K s → Qc .normal a w) :
    ∀ (fuel m : Nat) (listed : Array Bool) (g : Gh) (s : ASt) (a : Act) (w : World), k ≤ m → m ≤ ops.size → ops.size - m ≤ fuel → listed.size = ops.size → (∀ i, i < ops.size → listed.getD i true = decide (i < m)) →
      Rel S w0 N g s a w → aOps N.calm P T ops (ops.toList.drop m) K s → wpAnyIn (Fr ro) 0 P .any ops Qc fuel listed a w := by
  intro fuel
  have only : ∀ (m : Nat) (listed : Array Bool), k ≤ m → listed.size = ops.size → (∀ i, i < ops.size → listed.getD i true = decide (i < m)) → ∀ i, i ∈ Region.ready .any ops listed → i = m := by
    intro m listed hkm hsz hl i hi
    obtain ⟨o, ho, h1, h2⟩ := ready_iff.1 hi
    have hlt : i < ops.size := (Array.getElem?_eq_some_iff.1 ho).1
    rw [hl i hlt] at h1
    have him : ¬ i < m := by simpa using h1
    by_cases he : i = m
    · exact he
    · exfalso
      have hr := hp.tail i (by omega) hlt m (by omega)
      obtain ⟨p, hp1, hp2⟩ := reach_first hr ho
      have hpi := hp.bind i o ho p hp1
      have := h2 p hp1
      rw [← getD_tf (by omega), hl p (by omega)] at this
      have hpm : p < m := by simpa using this
      rcases hp2 with rfl | ⟨f', hp2⟩
      · omega
      · have := reach_lt hp.toPre0 hp2; omega
  have isr : ∀ (m : Nat) (listed : Array Bool), k ≤ m → m < ops.size → listed.size = ops.size → (∀ i, i < ops.size → listed.getD i true = decide (i < m)) → m ∈ Region.ready .any ops listed := by
    intro m listed hkm hm hsz hl
    have ho := Array.getElem?_eq_getElem hm
    refine ready_iff.2 ⟨_, ho, by rw [hl m hm]; simp, fun p hp1 => ?_⟩
    have hpi := hp.bind m _ ho p hp1
    rw [← getD_tf (by omega), hl p (by omega)]
    simpa using hpi
  have fin : ∀ (m : Nat) (listed : Array Bool), k ≤ m → m = ops.size → listed.size = ops.size → (∀ i, i < ops.size → listed.getD i true = decide (i < m)) → Region.ready .any ops listed = [] := by
    intro m listed hkm hm hsz hl
    rw [List.eq_nil_iff_forall_not_mem]
    intro i hi
    have := only m listed hkm hsz hl i hi
    obtain ⟨o, ho, _⟩ := ready_iff.1 hi
    have hlt : i < ops.size := (Array.getElem?_eq_some_iff.1 ho).1
    omega
  induction fuel with
  | zero =>
    intro m listed g s a w hkm hms hf hsz hl hrel hK
    have hm : m = ops.size := by omega
    refine ⟨fin m listed hkm hm hsz hl, ?_⟩
    rw [hm, List.drop_of_length_le (by simp)] at hK
    exact hQ g s a w hrel hK
  | succ fuel ih =>
    intro m listed g s a w hkm hms hf hsz hl hrel hK
    by_cases hm : m = ops.size
    · have hfin := fin m listed hkm hm hsz hl
      rw [hm, List.drop_of_length_le (by simp)] at hK
      exact wpAnyIn_done hfin (hQ g s a w hrel hK) _
    · have hlt : m < ops.size := by omega
      refine ⟨fun h0 => ?_, fun i hi => ?_⟩
      · have := isr m listed hkm hlt hsz hl
        rw [h0] at this; cases this
      · have := only m listed hkm hsz hl i hi
        subst this
        have ho := Array.getElem?_eq_getElem hlt
        have hdrop : ops.toList.drop i = ops[i] :: ops.toList.drop (i + 1) := by
          rw [List.drop_eq_getElem_cons (by simpa using hlt)]
          simp
        rw [hdrop] at hK
        have hs := stepG_sound (ro := ro) (S := S) (w0 := w0) (m := N.calm) (fun hm => hm) hT hrel (ops[i]) (dst_of hd ho) hK (Q := Qc) (K' := wpAnyIn (Fr ro) 0 P .any ops Qc fuel (listed.setIfInBounds i true))
          fun g' st' a' w' h1 h2 => ih (i + 1) _ g' st' a' w' (by omega) (by omega) (by omega) (by simpa using hsz) (fun j hj => by
            rw [getD_set (by omega), hl j hj]
            by_cases hji : j = i
            · subst hji; simp
            · rw [if_neg hji]
              by_cases hlt2 : j < i
              · simp [hlt2, show j < i + 1 by omega]
              · simp [hlt2, show ¬ j < i + 1 by omega]) h1 h2
        unfold wpOpIn
        rw [ho]
        simp only
        by_cases hw : Region.wanted ops[i] (yielded ops a.tmps) = true
        · rw [if_pos hw] at hs ⊢
          exact hs
        · rw [if_neg hw] at hs ⊢
          exact hs

/-- The head, in whatever order. -/
theorem phaseA {ro : Option Nat} (hT : TabOk P T) (hd : dstOk N.n ops.toList = true) (hp : Pre ops k) (hQ : ∀ g s a w, Rel S w0 N g s a w → K s → Qc .normal a w) {es : Nat → Eff}
    (htext : ∀ i o, i < k → ops[i]? = some o → stepGE P T ops o (text ops es s0 i) (es i)) (hK : aOps N.calm P T ops (ops.toList.drop k) K (text ops es s0 k)) :
    ∀ (fuel : Nat) (listed : Array Bool) (g : Gh) (s : ASt) (a : Act) (w : World), cnt (fun i => listed.getD i true) ops.size ≤ fuel → listed.size = ops.size → (∀ i, k ≤ i → i < ops.size → listed.getD i true = false) →
      Closed ops (fun i => listed.getD i true) → St ops k es s0 (fun i => listed.getD i true = true) s → Rel S w0 N g s a w → wpAnyIn (Fr ro) 0 P .any ops Qc fuel listed a w := by
  have hkeys : ∀ j o', j < k → ops[j]? = some o' → ∀ id r, (id, r) ∈ (es j).rows → ownId (o'.dst.getD 0) id := fun j o' hj ho' id r hm => (stepGE_keys (htext j o' hj ho') id r hm).1
  have hsome : ∀ j, j < k → ∃ o', ops[j]? = some o' := fun j hj => ⟨_, Array.getElem?_eq_getElem (Nat.lt_of_lt_of_le hj hp.le)⟩
  intro fuel
  induction fuel with
  | zero =>
    intro listed g s a w hc hsz hge hcl hst hrel
    have hall : ∀ i, i < ops.size → listed.getD i true = true := fun i hi => by
      cases hb : listed.getD i true with
      | true => rfl
      | false => have := cnt_pos (f := fun i => listed.getD i true) hb hi; omega
    have hk : k = ops.size := by
      by_cases h : k = ops.size
      · exact h
      · have h1 := hge k (Nat.le_refl _) (by have := hp.le; omega)
        have h2 := hall k (by have := hp.le; omega)
        rw [h1] at h2; cases h2
    have hsame := hst.same hp.toPre0 (text_St hp.toPre0 htext k (Nat.le_refl _)) fun i hi => ⟨fun _ => hi, fun _ => hall i (by omega)⟩
    exact phaseB hT hd hp hQ 0 k listed g _ a w (Nat.le_refl _) hp.le (by omega) hsz (fun i hi => by rw [hall i hi]; simp; omega) (hrel.congr hsame.1 hsame.2) hK
  | succ fuel ih =>
    intro listed g s a w hc hsz hge hcl hst hrel
    by_cases hall : ∀ i, i < k → listed.getD i true = true
    · have hsame := hst.same hp.toPre0 (text_St hp.toPre0 htext k (Nat.le_refl _)) fun i hi => ⟨fun _ => hi, fun _ => hall i hi⟩
      refine phaseB hT hd hp hQ (fuel + 1) k listed g _ a w (Nat.le_refl _) hp.le ?_ hsz (fun i hi => ?_) (hrel.congr hsame.1 hsame.2) hK
      · have : ∀ n, k ≤ n → n ≤ ops.size → n - k ≤ cnt (fun i => listed.getD i true) n := by
          intro n
          induction n with
          | zero => intro h1 h2; omega
          | succ n ihn =>
            intro h1 h2
            by_cases hn : k ≤ n
            · have h3 := ihn hn (by omega)
              unfold cnt
              simp only [hge n hn (by omega)]
              simp only [Bool.false_eq_true, if_false]
              omega
            · omega
        have := this ops.size hp.le (Nat.le_refl _)
        omega
      · by_cases hik : i < k
        · rw [hall i hik]; simp [hik]
        · rw [hge i (by omega) hi]; simp [hik]
    · have hex : ∃ i0, i0 < k ∧ listed.getD i0 true = false := by
        by_cases h : ∃ i0, i0 < k ∧ listed.getD i0 true = false
        · exact h
        · refine absurd (fun i hi => ?_) hall
          cases hb : listed.getD i true with
          | true => rfl
          | false => exact absurd ⟨i, hi, hb⟩ h
      obtain ⟨i0, hi0, hu0⟩ := hex
      refine ⟨fun h0 => ?_, fun i hi => ?_⟩
      · obtain ⟨j, hj, hju, hjl⟩ := least (p := fun i => listed.getD i true) hu0
        obtain ⟨o, ho⟩ := hsome j (by omega)
        have : j ∈ Region.ready .any ops listed := ready_iff.2 ⟨o, ho, hju, fun p hp1 => by
          have hpj := hp.bind j o ho p hp1
          have hle := hp.le
          rw [← getD_tf (by omega)]
          exact hjl p hpj⟩
        rw [h0] at this; cases this
      · obtain ⟨o, ho, h1, h2⟩ := ready_iff.1 hi
        have hlt : i < ops.size := (Array.getElem?_eq_some_iff.1 ho).1
        have h2' : ∀ p ∈ bindsOn o, listed.getD p true = true := fun p hp1 => by
          have := hp.bind i o ho p hp1
          rw [getD_tf (by omega)]; exact h2 p hp1
        have hik : i < k := by
          by_cases h : i < k
          · exact h
          · exfalso
            have hr := hp.tail i (by omega) hlt i0 (by omega)
            obtain ⟨p, hp1, hp2⟩ := reach_first hr ho
            have hlp := h2' p hp1
            rcases hp2 with rfl | ⟨f', hp2⟩
            · rw [hu0] at hlp; cases hlp
            · have := closed_reach hcl hp2 hlp
              rw [hu0] at this; cases this
        have hTx := text_St hp.toPre0 htext i (by omega)
        have hnD : ¬ listed.getD i true = true := by rw [h1]; simp
        -- what it looks at is the same
        have slot : ∀ t, t ∈ looks ops o → find s.tmps t = find (text ops es s0 i).tmps t := by
          intro t ht
          by_cases hx : ∃ j o', j < k ∧ ops[j]? = some o' ∧ o'.dst = some t
          · obtain ⟨j, o', hj, ho', hdt⟩ := hx
            obtain ⟨hji, hb⟩ := hp.look i j o o' t hik hj ho ho' hdt ht
            rw [hst.t1 j o' t hj (h2' j hb) ho' hdt, hTx.t1 j o' t hj hji ho' hdt]
          · rw [hst.t2 t fun j o' hj _ ho' hdt => hx ⟨j, o', hj, ho', hdt⟩, hTx.t2 t fun j o' hj _ ho' hdt => hx ⟨j, o', hj, ho', hdt⟩]
        have evs : ∀ x, x ∈ o.op.operands.toList → s.ev x = (text ops es s0 i).ev x := by
          intro x hx
          unfold ASt.ev
          cases x with
          | tmp t =>
            simp only
            rw [slot t (by
              unfold looks
              rw [List.mem_append]
              exact .inl (List.mem_filterMap.2 ⟨.tmp t, hx, rfl⟩))]
          | _ => rfl
        have hA : Agree o.op.operands.toList (text ops es s0 i) s := by
          refine ⟨evs, fun x hx id hm => ?_⟩
          have hm' : (s.ev x).ment id = true := by rw [evs x hx]; exact hm
          by_cases hxx : ∃ j r, j < k ∧ find (es j).rows id = some r
          · obtain ⟨j, r, hj, hr⟩ := hxx
            by_cases hDj : listed.getD j true = true
            · by_cases hji : j < i
              · rw [hst.r1 j id r hj hDj hr, hTx.r1 j id r hj hji hr]
              · have := ev_free (hTx.fr j id r hj hji (find_mem hr)) x
                rw [this] at hm; cases hm
            · have := ev_free (hst.fr j id r hj hDj (find_mem hr)) x
              rw [this] at hm'; cases hm'
          · have none_ : ∀ j, j < k → find (es j).rows id = none := fun j hj => by
              cases hf : find (es j).rows id with
              | none => rfl
              | some r => exact absurd ⟨j, r, hj, hf⟩ hxx
            rw [hst.r2 id fun j hj _ => none_ j hj, hTx.r2 id fun j hj _ => none_ j hj]
        have hg : ∀ j want, o.guard = some (j, want) → gval ops s j = gval ops (text ops es s0 i) j := by
          intro j want hgd
          unfold gval
          cases hb : (ops[j]?).bind (·.dst) with
          | none => rfl
          | some d =>
            simp only
            rw [slot d (by
              unfold looks
              rw [List.mem_append, hgd]
              refine .inr ?_
              simp only
              rw [hb]
              simp)]
        have hE : stepGE P T ops o s (es i) := stepGE_agree (htext i o hik ho) hA hg fun id r hm => hst.fr i id r hik hnD hm
        have hG : stepG false P T ops o (fun s' => s' = s.ap o.dst (es i)) s := (stepG_E (hp.w i o hik ho)).2 ⟨es i, hE, rfl⟩
        have hstep := hst.step hp.toPre0 hik hnD ho hE hkeys
        have hs := stepG_sound (ro := ro) (S := S) (w0 := w0) (m := false) (fun hm => by cases hm) hT hrel o (dst_of hd ho) hG (Q := Qc) (K' := wpAnyIn (Fr ro) 0 P .any ops Qc fuel (listed.setIfInBounds i true))
          fun g' st' a' w' hr2 he => by
            subst he
            have hset : ∀ j, (listed.setIfInBounds i true).getD j true = if j = i then true else listed.getD j true := fun j => getD_set (by omega) true j
            refine ih _ g' _ a' w' ?_ (by simpa using hsz) (fun j hj hj2 => ?_) (fun j o' ho' hj p hp1 => ?_) ?_ hr2
            · have := cnt_set (f := fun i => listed.getD i true) (f' := fun j => (listed.setIfInBounds i true).getD j true) (i := i) h1 (by simp only [hset]; simp) (fun j hj => by simp only [hset]; rw [if_neg hj]) ops.size
              rw [if_pos hlt] at this
              omega
            · rw [hset, if_neg (by omega)]; exact hge j hj hj2
            · simp only [hset] at hj ⊢
              by_cases hpi : p = i
              · rw [if_pos hpi]
              · rw [if_neg hpi]
                by_cases hji : j = i
                · subst hji
                  rw [ho] at ho'; cases ho'
                  exact h2' p hp1
                · rw [if_neg hji] at hj
                  exact hcl j o' ho' hj p hp1
            · have hiff : ∀ j, ((listed.setIfInBounds i true).getD j true = true) ↔ (listed.getD j true = true ∨ j = i) := fun j => by
                rw [hset]
                by_cases hji : j = i
                · simp [hji]
                · simp [hji]
              refine ⟨fun j o' t hj hD => hstep.t1 j o' t hj ((hiff j).1 hD), fun t ht => hstep.t2 t fun j o' hj hD => ht j o' hj ((hiff j).2 hD), fun j id r hj hD => hstep.r1 j id r hj ((hiff j).1 hD), fun id hid => hstep.r2 id fun j hj hD => hid j hj ((hiff j).2 hD), fun j id r hj hD => hstep.fr j id r hj fun q => hD ((hiff j).2 q)⟩
        unfold wpOpIn
        rw [ho]
        simp only
        by_cases hw : Region.wanted o (yielded ops a.tmps) = true
        · rw [if_pos hw] at hs ⊢
          exact hs
        · rw [if_neg hw] at hs ⊢
          exact hs

/-- A region that draws its order is as the region in the order of the text. -/
theorem wpL_draw {ro : Option Nat} (hT : TabOk P T) (hm : P.follows .mixedOrders = true) (k : Nat) {id : Nat} {l : List Code} {Q : Exit → ASt → Prop} {st : ASt} (hdk : drawOk k ops = true) (hl : dstOk N.n ops.toList = true) (h : aOps false P T ops (ops.toList.take k) (aOps N.calm P T ops (ops.toList.drop k) (wpL ro P N l Q)) st) :
    wpL ro P N (.region id ops true :: l) Q st := by
  intro S w0 g a w hr
  have hp := pre_of hdk
  obtain ⟨es, htext, hK⟩ := aOps_es hp.toPre0 h k (Nat.le_refl _)
  rw [List.drop_eq_nil_of_le (by simp; omega)] at hK
  replace hK : aOps N.calm P T ops (ops.toList.drop k) (wpL ro P N l Q) (text ops es st k) := hK
  refine wpIn_region_any hm ?_
  have hgd : ∀ i, i < ops.size → (Array.replicate ops.size false).getD i true = false := fun i hi => by
    simp [Array.getD_eq_getD_getElem?, hi]
  have hst := text_St hp.toPre0 htext 0 (Nat.zero_le _)
  refine phaseA hT hl hp (Qc := fun e a' w' => ∃ g' st', Rel S w0 N g' st' a' w' ∧ thenL (wpL ro P N l Q) Q e st') (fun g s a w h1 h2 => ⟨g, s, h1, h2⟩) htext hK ops.size _ g st a _ ?_ (by simp) (fun i _ hi => hgd i hi) (fun i o ho hi => ?_) ?_ (hr.heap rfl rfl rfl rfl)
  · have : ∀ n (f : Nat → Bool), cnt f n ≤ n := by
      intro n f
      induction n with
      | zero => simp [cnt]
      | succ n ih => unfold cnt; split <;> omega
    exact this _ _
  · have hlt : i < ops.size := (Array.getElem?_eq_some_iff.1 ho).1
    simp only [hgd i hlt] at hi
    cases hi
  · have hno : ∀ i, i < k → ¬ (Array.replicate ops.size false).getD i true = true := fun i hi => by
      rw [hgd i (Nat.lt_of_lt_of_le hi hp.le)]; simp
    refine ⟨fun i o t hi hD => absurd hD (hno i hi), fun t _ => rfl, fun i id r hi hD => absurd hD (hno i hi), fun id _ => rfl, fun i id r hi _ hmm => hst.fr i id r hi (by omega) hmm⟩

end
end Go.Abs
