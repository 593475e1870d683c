/-
  A call that is handed an own row and turns it: by a contract of its own, whatever the row's elements could be read as.
-/
import Derived.Test.YtldgcpdpebhndaaDoorAbsX
set_option linter.unusedSimpArgs false
set_option linter.unusedVariables false
namespace Go.Abs
open Go.RowKit

section
variable {S : Nat → Nat → Prop} {w0 : World} {N : Fm} {g : Gh} {st : ASt} {a : Act} {w : World} {P : Program} {T : Tab} {ro : Option Nat}

theorem meth_sound (hcalm : N.calm = true) (h : Rel S w0 N g st a w) (o : Oper) (hd : ∀ i, o.dst = some i → i < N.n) {f : FuncId} {xs : List AV} {s' : ASt} {v : AV} (hcall : callOf st o.op = some (f, xs)) (hmeth : Meth P f st xs s' v) {K : ASt → Prop} (hK : K (s'.put o.dst v)) {Q : Exit → Act → World → Prop} :
    o.wpIn (Fr ro) 0 P a w (fun a' w' => ∃ g' st', Rel S w0 N g' st' a' w' ∧ K st') Q := by
  obtain ⟨hnd0, args, hexec, hall⟩ := call_args h o hcall
  rcases hmeth S w0 N g a w hcalm h args hall with ⟨hrun, hcalls⟩ | ⟨u, w', hrun, u', g', he, h1, h2⟩
  · refine wpIn_op hnd0 (hexec ▸ hrun) ?_
    rw [Oper.uponIn_enter]
    refine ⟨fun hx => by simp [Fr] at hx, callsIn_fr (hcalls.mono fun e w' hpost => ?_)⟩
    obtain ⟨u, g', rfl, h1, h2⟩ := hpost
    exact ⟨g', _, h1.put' hd h2, hK⟩
  · cases he
    refine wpIn_op hnd0 (hexec ▸ hrun) ?_
    rw [Oper.uponIn_value]
    exact ⟨g', _, h1.put' hd h2, hK⟩

/-- What the operations before the call come to. -/
theorem aOps_meth (hcalm : N.calm = true) (hT : TabOk P T) {ops : Array Oper} {K : ASt → Prop} {Q : Exit → Act → World → Prop} (hQ : ∀ g' st' a' w', Rel S w0 N g' st' a' w' → K st' → Q .normal a' w') (o : Oper) (hg : o.guard = none) (l2 : List Oper)
    (hl2 : dstOk N.n (o :: l2) = true) :
    ∀ (l : List Oper), dstOk N.n l = true → ∀ {g : Gh} {st : ASt} {a : Act} {w : World}, Rel S w0 N g st a w →
      aOps N.calm P T ops l (fun s => ∃ f xs s' v, callOf s o.op = some (f, xs) ∧ Meth P f s xs s' v ∧ aOps N.calm P T ops l2 K (s'.put o.dst v)) st → wpListIn (Fr ro) 0 P ops Q (l ++ o :: l2) a w
  | [], _, g, st, a, w, h, hK => by
    obtain ⟨f, xs, s', v, hcall, hmeth, hK'⟩ := hK
    simp only [dstOk, List.all_cons, Bool.and_eq_true] at hl2
    have hd : ∀ i, o.dst = some i → i < N.n := by
      intro i hi
      have := hl2.1
      rw [hi] at this
      simpa using this
    refine wpListIn_step fun K' hK2 => ?_
    rw [if_pos (by simp [Region.wanted, hg])]
    exact Oper.wpIn_mono (fun a' w' ⟨g', st', h1, h2⟩ => hK2 _ _ (aOps_sound (m := N.calm) (fun hm => hm) hT hQ l2 hl2.2 h1 h2)) (meth_sound hcalm h o hd hcall hmeth hK')
  | o' :: l, hl, g, st, a, w, h, hK => by
    simp only [dstOk, List.all_cons, Bool.and_eq_true] at hl
    have hd : ∀ i, o'.dst = some i → i < N.n := by
      intro i hi
      have := hl.1
      rw [hi] at this
      simpa using this
    refine wpListIn_step fun K' hK' => ?_
    exact stepG_sound (m := N.calm) (fun hm => hm) hT h o' hd hK fun g' st' a' w' h1 h2 => hK' _ _ (aOps_meth hcalm hT hQ o hg l2 hl2 l hl.2 h1 h2)

/-- A region whose operation number k is such a call. -/
theorem wpL_meth (hT : TabOk P T) (k : Nat) {id : Nat} {ops : Array Oper} {o : Oper} {l2 : List Oper} {l : List Code} {Q : Exit → ASt → Prop} (hcalm : N.calm = true) (ho : ops.toList.drop k = o :: l2) (hg : o.guard = none) (hl : dstOk N.n ops.toList = true)
    (h : ∀ K : ASt → Prop, (∀ s f xs s' v, callOf s o.op = some (f, xs) → Meth P f s xs s' v → aOps N.calm P T ops l2 (wpL ro P N l Q) (s'.put o.dst v) → K s) → aOps N.calm P T ops (ops.toList.take k) K st) :
    wpL ro P N (.region id ops false :: l) Q st := by
  intro S w0 g a w hr
  have h1 : dstOk N.n (ops.toList.take k) = true := by
    unfold dstOk at hl ⊢
    rw [List.all_eq_true] at hl ⊢
    exact fun x hx => hl x (List.mem_of_mem_take hx)
  have h2 : dstOk N.n (ops.toList.drop k) = true := by
    unfold dstOk at hl ⊢
    rw [List.all_eq_true] at hl ⊢
    exact fun x hx => hl x (List.mem_of_mem_drop hx)
  rw [ho] at h2
  refine wpIn_region_list ?_
  have := aOps_meth (ro := ro) (P := P) (S := S) (w0 := w0) hcalm hT (Q := fun e a' w' => ∃ g' st', Rel S w0 N g' st' a' w' ∧ thenL (wpL ro P N l Q) Q e st') (fun g' st' a' w' h1 h2 => ⟨g', st', h1, h2⟩) o hg l2 h2 (ops.toList.take k) h1 hr
    (h _ fun s f xs s' v q1 q2 q3 => ⟨f, xs, s', v, q1, q2, q3⟩)
  rwa [← ho, List.take_append_drop] at this

end
end Go.Abs
