/-
  What an argument reads as, as cells of data; a law's statement out of what its function gives.
-/
import Derived.Test.YtldgcpdpebhndaaDoorAbsU
import Derived.ChangeSame
import Derived.ChangeArms
import Derived.Deep.Slices
import Derived.WideKeyArgs
import Derived.Below
import Derived.RowKit
import Derived.OpenShut
import Derived.Lib.LaidTab
set_option linter.unusedSimpArgs false
set_option linter.unusedVariables false
namespace Go.Abs
open Go.RowKit

/-- Cells of data that are a value of a type. -/
inductive Typed (P : Program) : TypeId → List DC → Prop
  | int {t : TypeId} {k : IntKind} {n : Int} (h : P.underlying t = some (.int k)) (hw : (Lit.int k n).wf = true) : Typed P t [.sc (.int k n)]
  | bool {t : TypeId} {b : Bool} (h : P.underlying t = some .bool) : Typed P t [.sc (.bool b)]
  | str {t : TypeId} {s : ByteArray} (h : P.underlying t = some .string) (hs : s.size ≤ maxLen) : Typed P t [.sc (.string s)]
  | sl {t e : TypeId} {xs : List (List DC)} (h : P.underlying t = some (.slice e)) (hl : xs.length ≤ maxLen) (hx : ∀ x, x ∈ xs → Typed P e x) : Typed P t [.sl xs]
  | st {t : TypeId} {fs : Array Field} {parts : List (List DC)} (h : P.underlying t = some (.struct fs)) (hl : parts.length = fs.size) (hp : ∀ (i : Nat) (f : Field) (y : List DC), fs[i]? = some f → parts[i]? = some y → Typed P f.type y) : Typed P t parts.flatten
  | arr {t e : TypeId} {n : Nat} {parts : List (List DC)} (h : P.underlying t = some (.array n e)) (hl : parts.length = n) (hp : ∀ y, y ∈ parts → Typed P e y) : Typed P t parts.flatten

/-- The fields lie one behind the other. -/
def chainF (P : Program) : Nat → List Field → Nat → Bool
  | off, [], tot => off == tot
  | off, f :: l, tot => off == f.offset && chainF P (off + P.cellsOf f.type) l tot

def plainOne (P : Program) (L : List TypeId) (t : TypeId) : Bool :=
  match P.underlying t with
  | some (.int _) | some .bool | some .string => true
  | some (.slice e) => L.contains e && decide (0 < P.cellsOf e)
  | some (.struct fs) => fs.toList.all (fun f => L.contains f.type) && chainF P 0 fs.toList (P.cellsOf t)
  | some (.array n e) => L.contains e && (n * P.cellsOf e == P.cellsOf t)
  | _ => false
def plainSet (P : Program) (L : List TypeId) : Bool := L.all (plainOne P L)

section
variable {H : Type} {enc : TypeId × Value → H} {P : Program} {w : World} {base : Nat} {sp : Nat → Bool} {held : Bool}

theorem All2.flat {α β : Type} {R : α → β → Prop} : ∀ {l : List (List α)} {m : List (List β)}, All2 (All2 R) l m → All2 R l.flatten m.flatten
  | _, _, .nil => .nil
  | _, _, .cons h t => h.app (All2.flat t)

/-- The cells cut at the fields. -/
theorem cut_fields {cs : List Value} : ∀ (l : List Field) (off tot : Nat), chainF P off l tot = true → cs.length = tot → (l.map fun f => (cs.drop f.offset).take (P.cellsOf f.type)).flatten = cs.drop off
  | [], off, tot, h, hl => by
    simp [chainF] at h
    simp [h, hl]
  | f :: l, off, tot, h, hl => by
    simp only [chainF, Bool.and_eq_true, beq_iff_eq] at h
    rw [List.map_cons, List.flatten_cons, cut_fields l _ tot h.2 hl, ← h.1, ← List.drop_drop, List.take_append_drop]

theorem trod_typed {L : List TypeId} (hL : plainSet P L = true) : ∀ (fuel : Nat) (t : TypeId) (cs : List Value) (x : DataW H × List MemPlace), t ∈ L → DataW.trod enc P w base sp held fuel t cs = some x →
    ∃ ys, All2 (RelC (fun _ _ => True) w) cs ys ∧ Typed P t ys := by
  intro fuel
  induction fuel with
  | zero => intro t cs x _ h; simp [DataW.trod] at h
  | succ fuel ih =>
    intro t cs x ht h
    have hp := List.all_eq_true.1 hL t ht
    unfold plainOne at hp
    split at hp
    · rename_i k hu
      obtain ⟨n, rfl, rfl, hw⟩ := DataW.trod_int hu h
      exact ⟨_, .cons (.sc _ rfl) .nil, .int hu hw⟩
    · rename_i hu
      obtain ⟨b, rfl, rfl⟩ := DataW.trod_bool hu h
      exact ⟨_, .cons (.sc _ rfl) .nil, .bool hu⟩
    · rename_i hu
      obtain ⟨s, rfl, rfl, hs⟩ := DataW.trod_string hu h
      exact ⟨_, .cons (.sc _ rfl) .nil, .str hu hs⟩
    · rename_i e hu
      simp only [Bool.and_eq_true, List.contains_iff_mem, decide_eq_true_eq] at hp
      rcases DataW.trod_slice hu h with ⟨rfl, rfl⟩ | ⟨a, len, cap, elems, rest, n, hn, rfl, rfl, hb, hl, hm, hlen, hel, _, _⟩
      · exact ⟨_, .cons (.emp none 0) .nil, .sl hu (by simp) (fun x hx => by simp at hx)⟩
      · have hn' : n = fuel := by omega
        subst hn'
        have hat : ∀ i, i < len → ∃ cs', w.cells? base (a.add (i * P.cellsOf e)) (P.cellsOf e) = some cs' ∧ ∃ y, DataW.trod enc P w base sp held n e cs' = some y := by
          intro i hi
          have h1 := hel i hi
          rw [List.getElem?_eq_getElem (by omega)] at h1
          obtain ⟨cs', h2, h3⟩ := Option.bind_eq_some_iff.1 h1
          exact ⟨cs', h2, _, h3⟩
        have hex : ∀ i : Nat, ∃ p : List Value × List DC, i < len → w.cells? base (a.add (i * P.cellsOf e)) (P.cellsOf e) = some p.1 ∧ All2 (RelC (fun _ _ => True) w) p.1 p.2 ∧ Typed P e p.2 := by
          intro i
          by_cases hi : i < len
          · obtain ⟨cs', h2, y, h3⟩ := hat i hi
            obtain ⟨ys, h4, h5⟩ := ih e cs' y hp.1 h3
            exact ⟨(cs', ys), fun _ => ⟨h2, h4, h5⟩⟩
          · exact ⟨([], []), fun h => absurd h hi⟩
        obtain ⟨p, hpx⟩ := Classical.axiomOfChoice hex
        have hxs : ∀ (i : Nat) (x : List DC), ((List.range len).map fun i => (p i).2)[i]? = some x → i < len ∧ x = (p i).2 := by
          intro i x hx
          have hi : i < len := by simpa using (List.getElem?_eq_some_iff.1 hx).1
          refine ⟨hi, ?_⟩
          simpa [hi] using hx.symm
        have hsz : ∀ i, i < len → (p i).2.length = P.cellsOf e := by
          intro i hi
          obtain ⟨h2, h4, _⟩ := hpx i hi
          obtain ⟨_, h6, _⟩ := World.cells?_some h2
          rw [← h4.len, h6]
        refine ⟨[.sl ((List.range len).map fun i => (p i).2)], .cons ?_ .nil, .sl hu (by simpa using Nat.le_trans hl hm) (fun x hx => ?_)⟩
        · cases hz : len with
          | zero => exact .emp _ _
          | succ len' =>
            have h0 : 0 < len := by omega
            have hspot : a.spot = none := by
              obtain ⟨h2, _, _⟩ := hpx 0 h0
              obtain ⟨_, h6, h7⟩ := World.cells?_some h2
              have h8 := h7 0 hp.2
              rw [List.getElem?_eq_getElem (by omega)] at h8
              unfold World.cell? at h8
              split at h8
              · split at h8
                · cases h8
                · rename_i hsp
                  simpa [Addr.add] using hsp
              · cases h8
            obtain ⟨b, o, spot⟩ := a
            simp only at hspot
            subst hspot
            rw [← hz]
            have hlx : ((List.range len).map fun i => (p i).2).length = len := by simp
            have key := RelC.sl (S := fun _ _ => True) (w := w) b o cap (P.cellsOf e) ((List.range len).map fun i => (p i).2) (fun i j => (p i).1[j]?.getD undef) (by rw [hlx]; exact hl) hm
              (fun i x hx => by obtain ⟨hi, rfl⟩ := hxs i x hx; exact hsz i hi)
              (fun i j x d hx hd => by
                obtain ⟨hi, rfl⟩ := hxs i x hx
                refine ⟨trivial, ?_⟩
                obtain ⟨h2, h4, _⟩ := hpx i hi
                obtain ⟨_, h6, h7⟩ := World.cells?_some h2
                have hj : j < P.cellsOf e := by rw [← hsz i hi]; exact (List.getElem?_eq_some_iff.1 hd).1
                have h8 := h7 j hj
                have hjl : j < (p i).1.length := by omega
                rw [List.getElem?_eq_getElem hjl] at h8
                unfold cl
                have hadd : (Addr.mk b (o + i * P.cellsOf e + j) none) = ((Addr.mk b o none).add (i * P.cellsOf e)).add j := by
                  unfold Addr.add
                  split <;> split <;> simp_all <;> omega
                rw [hadd, h8, List.getElem?_eq_getElem hjl]; rfl)
              (fun i j x d hx hd => by
                obtain ⟨hi, rfl⟩ := hxs i x hx
                obtain ⟨h2, h4, _⟩ := hpx i hi
                obtain ⟨u, hu', hr⟩ := h4.get hd
                simp only [hu', Option.getD_some]
                exact hr)
            rw [hlx] at key
            exact key
        · obtain ⟨i, hi⟩ := List.mem_iff_getElem?.1 hx
          obtain ⟨hi', rfl⟩ := hxs i x hi
          exact (hpx i hi').2.2
    · rename_i fs hu
      simp only [Bool.and_eq_true, List.all_eq_true, List.contains_iff_mem] at hp
      obtain ⟨xs, n, hn, rfl, hl, hxl, hf⟩ := DataW.trod_struct hu h
      have hn' : n = fuel := by omega
      subst hn'
      have hex : ∀ i : Nat, ∃ ys : List DC, ∀ f, fs[i]? = some f → All2 (RelC (fun _ _ => True) w) ((cs.drop f.offset).take (P.cellsOf f.type)) ys ∧ Typed P f.type ys := by
        intro i
        cases hfi : fs[i]? with
        | none => exact ⟨[], fun f hf => by cases hf⟩
        | some f =>
          have hi : i < fs.size := (Array.getElem?_eq_some_iff.1 hfi).1
          have h1 := hf i f hfi
          rw [List.getElem?_eq_getElem (by omega)] at h1
          obtain ⟨ys, h2, h3⟩ := ih f.type _ _ (hp.1 f (by simpa using Array.mem_of_getElem? hfi)) h1
          exact ⟨ys, fun g hg => by cases hg; exact ⟨h2, h3⟩⟩
      obtain ⟨Y, hY⟩ := Classical.axiomOfChoice hex
      have hpl : ((List.range fs.size).map Y).length = fs.size := by simp
      have hgY : ∀ (i : Nat) (y : List DC), ((List.range fs.size).map Y)[i]? = some y → i < fs.size ∧ y = Y i := by
        intro i y hy
        have hi : i < fs.size := by simpa using (List.getElem?_eq_some_iff.1 hy).1
        exact ⟨hi, by simpa [hi] using hy.symm⟩
      refine ⟨((List.range fs.size).map Y).flatten, ?_, .st hu hpl fun i f y hfi hy => ?_⟩
      · have hcut := cut_fields (P := P) (cs := cs) fs.toList 0 _ hp.2 hl
        rw [List.drop_zero] at hcut
        rw [← hcut]
        refine All2.flat (All2.of_get (by simp) fun i c y hc hy => ?_)
        obtain ⟨hi, rfl⟩ := hgY i y hy
        rw [List.getElem?_map] at hc
        obtain ⟨f, hfi, rfl⟩ := Option.map_eq_some_iff.1 hc
        exact (hY i f (by simpa using hfi)).1
      · obtain ⟨hi, rfl⟩ := hgY i y hy
        exact (hY i f hfi).2
    · rename_i n e hu
      simp only [Bool.and_eq_true, List.contains_iff_mem, beq_iff_eq] at hp
      obtain ⟨xs, m, hm, rfl, hl, hxl, hf⟩ := DataW.trod_array hu h
      have hm' : m = fuel := by omega
      subst hm'
      have hex : ∀ i : Nat, ∃ ys : List DC, i < n → All2 (RelC (fun _ _ => True) w) ((cs.drop (i * P.cellsOf e)).take (P.cellsOf e)) ys ∧ Typed P e ys := by
        intro i
        by_cases hi : i < n
        · have h1 := hf i hi
          rw [List.getElem?_eq_getElem (by omega)] at h1
          obtain ⟨ys, h2, h3⟩ := ih e _ _ hp.1 h1
          exact ⟨ys, fun _ => ⟨h2, h3⟩⟩
        · exact ⟨[], fun h => absurd h hi⟩
      obtain ⟨Y, hY⟩ := Classical.axiomOfChoice hex
      have hcut : ∀ n, cs.length = n * P.cellsOf e → ((List.range n).map fun i => (cs.drop (i * P.cellsOf e)).take (P.cellsOf e)).flatten = cs := by
        intro n
        have : ∀ k, ((List.range k).map fun i => (cs.drop (i * P.cellsOf e)).take (P.cellsOf e)).flatten = cs.take (k * P.cellsOf e) := by
          intro k
          induction k with
          | zero => simp
          | succ k ihk =>
            rw [List.range_succ, List.map_append, List.flatten_append, ihk]
            simp only [List.map_cons, List.map_nil, List.flatten_cons, List.flatten_nil, List.append_nil]
            rw [Nat.succ_mul, List.take_add]
        intro h
        rw [this n, ← h, List.take_length]
      refine ⟨((List.range n).map Y).flatten, ?_, .arr hu (by simp) fun y hy => ?_⟩
      · rw [← hcut n (by rw [hl, hp.2])]
        refine All2.flat (All2.of_get (by simp) fun i c y hc hy => ?_)
        have hi : i < n := by simpa using (List.getElem?_eq_some_iff.1 hy).1
        have e1 : y = Y i := by simpa [hi] using hy.symm
        have e2 : c = (cs.drop (i * P.cellsOf e)).take (P.cellsOf e) := by simpa [hi] using hc.symm
        rw [e1, e2]
        exact (hY i hi).1
      · obtain ⟨i, hi, rfl⟩ := List.mem_map.1 hy
        exact (hY i (by simpa using hi)).2
    · cases hp

theorem trodAll_stays (hl : laidOutB P = true) {W W' : World} {sp' : Nat → Bool} : ∀ {ts : List TypeId} {vs : List Value} {ds : List (DataW H)} {ps : List MemPlace}, (ts.all fun t => P.readableRec t && decide (t < P.types.size)) = true →
    DataW.TrodAll enc P W 0 (fun _ => true) true ts vs ds ps → (∀ p ∈ ps, W.sameAt W' p) → (∀ p ∈ ps, sp' p.block = true) → DataW.TrodAll enc P W' 0 sp' true ts vs ds ps
  | [], [], [], ps, _, h, _, _ => h
  | t :: ts, v :: vs, d :: ds, ps, hr, h, h1, h2 => by
    obtain ⟨p, q, ha, hb, rfl⟩ := h
    simp only [List.all_cons, Bool.and_eq_true, decide_eq_true_eq] at hr
    exact ⟨p, q, WideElems.Trod_stays hl hr.1.1 hr.1.2 ha (fun x hx => h1 x (List.mem_append_left _ hx)) (fun x hx => h2 x (List.mem_append_left _ hx)),
      trodAll_stays hl (by simpa using hr.2) hb (fun x hx => h1 x (List.mem_append_right _ hx)) (fun x hx => h2 x (List.mem_append_right _ hx)), rfl⟩
  | [], _ :: _, _, _, _, h, _, _ => by simp [DataW.TrodAll] at h
  | [], [], _ :: _, _, _, h, _, _ => by simp [DataW.TrodAll] at h
  | _ :: _, [], _, _, _, h, _, _ => by simp [DataW.TrodAll] at h
  | _ :: _, _ :: _, [], _, _, h, _, _ => by simp [DataW.TrodAll] at h

/-- The arguments as data, each with its type. -/
theorem trodAll_typed {L : List TypeId} (hL : plainSet P L = true) {W : World} {sp' : Nat → Bool} : ∀ {ts : List TypeId} {vs : List Value} {ds : List (DataW H)} {ps : List MemPlace}, (∀ t, t ∈ ts → t ∈ L) → (∀ (j : Nat) t v, ts[j]? = some t → vs[j]? = some v → Value.okWide P W .any base t v) →
    DataW.TrodAll enc P W 0 sp' true ts vs ds ps → ds.length = ts.length ∧ ∃ yss : List (List DC), All2 (fun v ys => All2 (RelC (fun _ _ => True) W) v.cells.toList ys) vs yss ∧ All2 (fun t ys => Typed P t ys) ts yss
  | [], [], [], ps, _, _, h => ⟨rfl, [], .nil, .nil⟩
  | t :: ts, v :: vs, d :: ds, ps, hm, hv, h => by
    obtain ⟨p, q, ⟨fuel, ha⟩, hb, rfl⟩ := h
    obtain ⟨hlen, yss, h1, h2⟩ := trodAll_typed hL (fun t ht => hm t (List.mem_cons_of_mem _ ht)) (fun j t v h1 h2 => hv (j + 1) t v (by simpa using h1) (by simpa using h2)) hb
    obtain ⟨ys, h3, h4⟩ := trod_typed hL fuel t _ _ (hm t (by simp)) ha
    exact ⟨by simp [hlen], ys :: yss, .cons h3 h1, .cons h4 h2⟩
  | [], _ :: _, _, _, _, _, h => by simp [DataW.TrodAll] at h
  | [], [], _ :: _, _, _, _, h => by simp [DataW.TrodAll] at h
  | _ :: _, [], _, _, _, _, h => by simp [DataW.TrodAll] at h
  | _ :: _, _ :: _, [], _, _, _, h => by simp [DataW.TrodAll] at h

/-- How an argument of a type is handed: as an aggregate, or as a cell. -/
def handed (P : Program) (t : TypeId) (ys : List DC) : DV := if aggB P t then .agg ys else match ys with | [y] => .c y | _ => .agg ys

theorem handed_rel {W : World} {t : TypeId} {v : Value} {ys : List DC} (hty : Typed P t ys) (hv : Value.okWide P W .any base t v) (h : All2 (RelC (fun _ _ => True) W) v.cells.toList ys) : RelDV (fun _ _ => True) W v (handed P t ys) := by
  have agg : aggB P t = true → RelDV (fun _ _ => True) W v (handed P t ys) := by
    intro ha
    unfold handed
    rw [if_pos ha]
    unfold aggB at ha
    unfold Value.okWide at hv
    split at ha
    · rename_i hu; rw [hu] at hv; obtain ⟨cs, rfl, _⟩ := hv; exact ⟨cs, rfl, by simpa [Value.cells] using h⟩
    · rename_i hu; rw [hu] at hv; obtain ⟨cs, rfl, _⟩ := hv; exact ⟨cs, rfl, by simpa [Value.cells] using h⟩
    · cases ha
  have one : ∀ y, ys = [y] → aggB P t = false → RelDV (fun _ _ => True) W v (handed P t ys) := by
    intro y hy ha
    have hcell : v.cells = #[v] := by
      unfold aggB at ha
      unfold Value.okWide at hv
      cases v with
      | agg cs =>
        exfalso
        split at hv
        · rename_i hu; rw [hu] at ha; cases ha
        · rename_i hu; rw [hu] at ha; cases ha
        · have hty' := hty
          clear h
          cases hty' with
          | int hu _ => simp [Cell.okWide, Cell.ok, hu] at hv
          | bool hu => simp [Cell.okWide, Cell.ok, hu] at hv
          | str hu _ => simp [Cell.okWide, Cell.ok, hu] at hv
          | sl hu _ _ => simp [Cell.okWide, Cell.ok, hu] at hv
          | st hu _ _ => rw [hu] at ha; cases ha
          | arr hu _ _ => rw [hu] at ha; cases ha
      | _ => rfl
    subst hy
    unfold handed
    rw [if_neg (by simp [ha])]
    rw [hcell] at h
    simp only at h
    cases h with
    | cons h1 _ => exact h1
  cases hty with
  | int hu _ => exact one _ rfl (by simp [aggB, hu])
  | bool hu => exact one _ rfl (by simp [aggB, hu])
  | str hu _ => exact one _ rfl (by simp [aggB, hu])
  | sl hu _ _ => exact one _ rfl (by simp [aggB, hu])
  | st hu _ _ => exact agg (by simp [aggB, hu])
  | arr hu _ _ => exact agg (by simp [aggB, hu])

def handedAll (P : Program) : List TypeId → List (List DC) → List DV
  | t :: ts, ys :: yss => handed P t ys :: handedAll P ts yss
  | _, _ => []

theorem handedAll_rel {W : World} : ∀ {ts : List TypeId} {vs : List Value} {yss : List (List DC)}, (∀ (j : Nat) t v, ts[j]? = some t → vs[j]? = some v → Value.okWide P W .any base t v) →
    All2 (fun v ys => All2 (RelC (fun _ _ => True) W) v.cells.toList ys) vs yss → All2 (fun t ys => Typed P t ys) ts yss → All2 (RelDV (fun _ _ => True) W) vs (handedAll P ts yss)
  | _, _, _, hv, .nil, .nil => .nil
  | _, _, _, hv, .cons h1 h2, .cons h3 h4 => .cons (handed_rel h3 (hv 0 _ _ rfl rfl) h1) (handedAll_rel (fun j t v h5 h6 => hv (j + 1) t v (by simpa using h5) (by simpa using h6)) h2 h4)

/-- A LAW's CONTRACT, from what its function gives: true, whatever the arguments. -/
theorem law_contract {f : FuncId} {fn : Func} {c : Code} {s : ChangeSpec} {L : List TypeId} {tb : TypeId} (hl : laidOutB P = true) (hf : P.funcs[f]? = some fn) (hname : (fn.name == "runtime.NumGoroutine") = false) (hbody : fn.body = some c)
    (hL : plainSet P L = true) (hps : (fn.params.toList.all fun t => L.contains t && (P.readableRec t && decide (t < P.types.size))) = true) (hvars : s.vars = [])
    (hs : ∀ ds : List (DataW H), ds.length = fn.params.size → s.fn H ds = { results := [.lit (.bool true)], args := ds }) (hres : fn.resultTypes = #[tb]) (htb : P.underlying tb = some .bool)
    (hg : ∀ yss : List (List DC), All2 (fun t ys => Typed P t ys) fn.params.toList yss → Gives P f (handedAll P fn.params.toList yss) (.one (.c (.d (.sc (.bool true))))))
    {W : World} (hgood : TabGood (fun _ _ => True) W) {args : Array Value} {ds gs : List (DataW H)} {before : List MemPlace} (hval : ∀ (j : Nat) t v, fn.params[j]? = some t → args[j]? = some v → Value.okWide P W .any base t v)
    (hW : DataW.Whole enc P fn.params.toList s.vars false W args.toList ds gs before) : Calls P f args W fun e W' => ∃ v, e = .returned v ∧ s.post enc P fn false true false false W args v W' := by
  have hW' := hW
  obtain ⟨p, q, hA, hV, rfl, hfz, hnd⟩ := hW
  rw [hvars] at hV
  have hgs : gs = [] ∧ q = [] := by
    cases gs with
    | nil => exact ⟨rfl, hV⟩
    | cons => simp [DataW.TrodVars] at hV
  obtain ⟨rfl, rfl⟩ := hgs
  have hps1 : ∀ t, t ∈ fn.params.toList → t ∈ L := fun t ht => by
    have := List.all_eq_true.1 hps t ht
    simp only [Bool.and_eq_true, List.contains_iff_mem] at this
    exact this.1
  have hps2 : (fn.params.toList.all fun t => P.readableRec t && decide (t < P.types.size)) = true := List.all_eq_true.2 fun t ht => by
    have := List.all_eq_true.1 hps t ht
    simp only [Bool.and_eq_true] at this ⊢
    exact this.2
  have hval' : ∀ (j : Nat) t v, fn.params.toList[j]? = some t → args.toList[j]? = some v → Value.okWide P W .any base t v := fun j t v h1 h2 => hval j t v (by simpa using h1) (by simpa using h2)
  obtain ⟨hlen, yss, h1, h2⟩ := trodAll_typed hL hps1 hval' hA
  have hrel := handedAll_rel hval' h1 h2
  have hcall := hg yss h2 (fun _ _ => True) W args.toList hgood hrel
  have hnm : ¬ fn.name = "runtime.NumGoroutine" := by simpa using hname
  have hrun : (callFunc f args).run P W = .ok (.enter f args) W := by simp [callFunc, hf, hnm, hbody]
  have hto : args.toList.toArray = args := by simp
  rw [hto] at hcall
  rcases hcall with ⟨_, hcall⟩ | ⟨v, w', hv, _⟩
  · refine hcall.mono fun e W' hpost => ?_
    obtain ⟨v, fb, rfl, hb, _, _, hr⟩ := hpost
    have hvb : v = .bool true := by
      obtain ⟨_, hr⟩ := hr
      cases hr; rfl
    subst hvb
    refine ⟨_, rfl, ?_⟩
    have hlt : ∀ x ∈ p ++ [], x.block < W.heap.size := fun x hx => hW'.lt x hx
    have hsn := hs ds (by simpa using hlen)
    have hres' : ∀ (b : Nat) (sp : Nat → Bool) (hd : Bool), DataW.TrodAll enc P W' b sp hd fn.resultTypes.toList ((Value.bool true).resultList fn.resultTypes.size) (s.fn H (ds ++ [])).results [] := by
      intro b sp hd
      rw [List.append_nil, hsn, hres]
      exact ⟨[], [], shut_bool htb _, rfl, rfl⟩
    have hargs : ∀ sp : Nat → Bool, (∀ x ∈ p ++ [], sp x.block = true) → DataW.TrodAll enc P W' 0 sp true fn.params.toList args.toList (s.fn H (ds ++ [])).args p := by
      intro sp hsp
      rw [List.append_nil, hsn]
      exact trodAll_stays hl hps2 hA (fun x hx => hb.same (hlt x (by simpa using hx))) (fun x hx => hsp x (by simpa using hx))
    have hvs : ∀ sp : Nat → Bool, DataW.TrodVars enc P W' sp s.vars (s.fn H (ds ++ [])).vars [] := by
      intro sp
      rw [List.append_nil, hsn, hvars]
      rfl
    have hok : ∀ (j : Nat) (t : TypeId) (r : Value), fn.resultTypes[j]? = some t → ((Value.bool true).resultList fn.resultTypes.size)[j]? = some r → Value.okWide P W' .any 0 t r :=
      ok_one hres rfl (okWide_bool_mk htb _)
    have hold : ∀ x ∈ p ++ [], (fun b => decide (b < W.heap.size)) x.block = true := fun x hx => by simpa using hlt x hx
    refine ⟨ds, [], p ++ [], [], p, [], hW', hres' _ _ _, hargs _ hold, hvs _, World.keptBut_mono (fun x hx => ⟨hx, ?_⟩) (hb.frame (· ∈ p ++ [])), fun _ => ?_⟩
    · exact .inr (by simpa using hx)
    · refine ⟨hok, _, _, ([] ++ p) ++ [], ⟨[] ++ p, [], ChangeShapes.trodAll_append (hargs _ (fun _ _ => rfl)) (hres' _ _ _), hvs _, rfl, ?_, ?_⟩, ?_⟩
      · intro b off hp
        have hin : MemPlace.cell b off ∈ p ++ [] := by simpa using hp
        rw [hb.frozen (hlt _ hin)]
        exact hfz b off hin
      · intro ha; simpa using hnd ha
      · intro x hx _; simpa using hx
  · rw [hrun] at hv; cases hv

/-! ### What a typed value looks like -/
theorem Typed.int_inv {t : TypeId} {k : IntKind} {ys : List DC} (h : Typed P t ys) (hu : P.underlying t = some (.int k)) : ∃ n, ys = [.sc (.int k n)] ∧ (Lit.int k n).wf = true := by
  cases h with
  | int h hw => rw [hu] at h; cases h; exact ⟨_, rfl, hw⟩
  | bool h => rw [hu] at h; cases h
  | str h => rw [hu] at h; cases h
  | sl h => rw [hu] at h; cases h
  | st h => rw [hu] at h; cases h
  | arr h => rw [hu] at h; cases h
theorem Typed.bool_inv {t : TypeId} {ys : List DC} (h : Typed P t ys) (hu : P.underlying t = some .bool) : ∃ b, ys = [.sc (.bool b)] := by
  cases h with
  | int h hw => rw [hu] at h; cases h
  | bool h => exact ⟨_, rfl⟩
  | str h => rw [hu] at h; cases h
  | sl h => rw [hu] at h; cases h
  | st h => rw [hu] at h; cases h
  | arr h => rw [hu] at h; cases h
theorem Typed.str_inv {t : TypeId} {ys : List DC} (h : Typed P t ys) (hu : P.underlying t = some .string) : ∃ s, ys = [.sc (.string s)] ∧ s.size ≤ maxLen := by
  cases h with
  | int h hw => rw [hu] at h; cases h
  | bool h => rw [hu] at h; cases h
  | str h hs => exact ⟨_, rfl, hs⟩
  | sl h => rw [hu] at h; cases h
  | st h => rw [hu] at h; cases h
  | arr h => rw [hu] at h; cases h
theorem Typed.sl_inv {t e : TypeId} {ys : List DC} (h : Typed P t ys) (hu : P.underlying t = some (.slice e)) : ∃ xs, ys = [.sl xs] ∧ xs.length ≤ maxLen ∧ ∀ x, x ∈ xs → Typed P e x := by
  cases h with
  | int h hw => rw [hu] at h; cases h
  | bool h => rw [hu] at h; cases h
  | str h => rw [hu] at h; cases h
  | sl h hl hx => rw [hu] at h; cases h; exact ⟨_, rfl, hl, hx⟩
  | st h => rw [hu] at h; cases h
  | arr h => rw [hu] at h; cases h
theorem Typed.st_inv {t : TypeId} {fs : Array Field} {ys : List DC} (h : Typed P t ys) (hu : P.underlying t = some (.struct fs)) :
    ∃ parts : List (List DC), ys = parts.flatten ∧ parts.length = fs.size ∧ ∀ (i : Nat) (f : Field) (y : List DC), fs[i]? = some f → parts[i]? = some y → Typed P f.type y := by
  cases h with
  | int h hw => rw [hu] at h; cases h
  | bool h => rw [hu] at h; cases h
  | str h => rw [hu] at h; cases h
  | sl h => rw [hu] at h; cases h
  | st h hl hp => rw [hu] at h; cases h; exact ⟨_, rfl, hl, hp⟩
  | arr h => rw [hu] at h; cases h
theorem Typed.arr_inv {t e : TypeId} {n : Nat} {ys : List DC} (h : Typed P t ys) (hu : P.underlying t = some (.array n e)) :
    ∃ parts : List (List DC), ys = parts.flatten ∧ parts.length = n ∧ ∀ y, y ∈ parts → Typed P e y := by
  cases h with
  | int h hw => rw [hu] at h; cases h
  | bool h => rw [hu] at h; cases h
  | str h => rw [hu] at h; cases h
  | sl h => rw [hu] at h; cases h
  | st h => rw [hu] at h; cases h
  | arr h hl hp => rw [hu] at h; cases h; exact ⟨_, rfl, hl, hp⟩
end
end Go.Abs

set_option linter.unusedSimpArgs false
set_option linter.unusedVariables false
namespace Go.Abs
open Go.RowKit

mutual
/-- How many values and letters a cell of data holds. -/
def DC.bulk : DC → Nat
  | .sc (.string s) => s.size + 1
  | .sc _ => 1
  | .sl xs => bulkLL xs + 1
  | .clo _ _ => 1
  | .rc _ => 1
def bulkL : List DC → Nat
  | [] => 0
  | d :: l => d.bulk + bulkL l
def bulkLL : List (List DC) → Nat
  | [] => 0
  | x :: l => bulkL x + bulkLL l
end
theorem bulkL_append : ∀ (a b : List DC), bulkL (a ++ b) = bulkL a + bulkL b
  | [], b => by simp [bulkL]
  | x :: a, b => by simp only [List.cons_append, bulkL, bulkL_append a b]; omega
theorem bulkL_flatten : ∀ l : List (List DC), bulkL l.flatten = bulkLL l
  | [] => by simp [bulkL, bulkLL]
  | x :: l => by simp only [List.flatten_cons, bulkLL, bulkL_append, bulkL_flatten l]
/-- As many cells at the most. -/
theorem bulk_pos (d : DC) : 1 ≤ d.bulk := by
  cases d with
  | sc v => cases v <;> simp [DC.bulk]
  | sl xs => simp [DC.bulk]
  | clo f xs => simp [DC.bulk]
  | rc f => simp [DC.bulk]
theorem bulkL_len : ∀ l : List DC, l.length ≤ bulkL l
  | [] => by simp [bulkL]
  | x :: l => by have := bulk_pos x; have := bulkL_len l; simp only [bulkL, List.length_cons]; omega
theorem bulkLL_len : ∀ l : List (List DC), (∀ x, x ∈ l → x ≠ []) → l.length ≤ bulkLL l
  | [], _ => by simp [bulkLL]
  | x :: l, h => by
    have h1 := bulkL_len x
    have h2 := bulkLL_len l fun y hy => h y (List.mem_cons_of_mem _ hy)
    have h3 : 0 < x.length := List.length_pos_iff.2 (h x (by simp))
    simp only [bulkLL, List.length_cons]; omega

/-- What a measure of readings must do. -/
structure Bulk {H : Type} (B : DataW H → Nat) (BL : List (DataW H) → Nat) : Prop where
  str : ∀ b, b.length + 1 ≤ B (.lit (.string b))
  lit : ∀ l, 1 ≤ B (.lit l)
  nil : 1 ≤ B .nil
  slice : ∀ e s, BL e + 1 ≤ B (.slice e s)
  agg : ∀ ps, BL ps ≤ B (.agg ps)
  cons : ∀ d r, BL (d :: r) = B d + BL r
theorem Bulk.le {H : Type} {B : DataW H → Nat} {BL : List (DataW H) → Nat} (hB : Bulk B BL) : ∀ (l : List (List DC)) (m : List (DataW H)), l.length = m.length → (∀ (i : Nat) x d, l[i]? = some x → m[i]? = some d → bulkL x ≤ B d) → bulkLL l ≤ BL m
  | [], m, _, _ => by simp [bulkLL]
  | x :: l, [], h, _ => by simp at h
  | x :: l, d :: m, h, hx => by
    rw [hB.cons]
    have h1 := hx 0 x d rfl rfl
    have h2 := Bulk.le hB l m (by simpa using h) fun i y e hy he => hx (i + 1) y e (by simpa using hy) (by simpa using he)
    simp only [bulkLL]; omega

section
variable {H : Type} {enc : TypeId × Value → H} {P : Program} {w : World} {base : Nat} {sp : Nat → Bool} {held : Bool}

theorem trod_typed2 {B : DataW H → Nat} {BL : List (DataW H) → Nat} (hB : Bulk B BL) {L : List TypeId} (hL : plainSet P L = true) : ∀ (fuel : Nat) (t : TypeId) (cs : List Value) (x : DataW H × List MemPlace), t ∈ L → DataW.trod enc P w base sp held fuel t cs = some x →
    ∃ ys, All2 (RelC (fun _ _ => True) w) cs ys ∧ Typed P t ys ∧ bulkL ys ≤ B x.1 := by
  intro fuel
  induction fuel with
  | zero => intro t cs x _ h; simp [DataW.trod] at h
  | succ fuel ih =>
    intro t cs x ht h
    have hp := List.all_eq_true.1 hL t ht
    unfold plainOne at hp
    split at hp
    · rename_i k hu
      obtain ⟨n, rfl, rfl, hw⟩ := DataW.trod_int hu h
      refine ⟨_, .cons (.sc _ rfl) .nil, .int hu hw, ?_⟩
      have := hB.lit (.int k n); simp only [bulkL, DC.bulk]; omega
    · rename_i hu
      obtain ⟨b, rfl, rfl⟩ := DataW.trod_bool hu h
      refine ⟨_, .cons (.sc _ rfl) .nil, .bool hu, ?_⟩
      have := hB.lit (.bool b); simp only [bulkL, DC.bulk]; omega
    · rename_i hu
      obtain ⟨s, rfl, rfl, hs⟩ := DataW.trod_string hu h
      refine ⟨_, .cons (.sc _ rfl) .nil, .str hu hs, ?_⟩
      have := hB.str s.data.toList; simp only [bulkL, DC.bulk]; simp at this ⊢; omega
    · rename_i e hu
      simp only [Bool.and_eq_true, List.contains_iff_mem, decide_eq_true_eq] at hp
      rcases DataW.trod_slice hu h with ⟨rfl, rfl⟩ | ⟨a, len, cap, elems, rest, n, hn, rfl, rfl, hb, hl, hm, hlen, hel, _, _⟩
      · refine ⟨_, .cons (.emp none 0) .nil, .sl hu (by simp) (fun x hx => by simp at hx), ?_⟩
        have := hB.nil; simp only [bulkL, DC.bulk, bulkLL]; omega
      · have hn' : n = fuel := by omega
        subst hn'
        have hat : ∀ i, i < len → ∃ cs', w.cells? base (a.add (i * P.cellsOf e)) (P.cellsOf e) = some cs' ∧ ∃ y, DataW.trod enc P w base sp held n e cs' = some y ∧ elems[i]? = some y := by
          intro i hi
          have h1 := hel i hi
          rw [List.getElem?_eq_getElem (by omega)] at h1
          obtain ⟨cs', h2, h3⟩ := Option.bind_eq_some_iff.1 h1
          exact ⟨cs', h2, _, h3, List.getElem?_eq_getElem (by omega)⟩
        have hex : ∀ i : Nat, ∃ p : List Value × List DC, i < len → w.cells? base (a.add (i * P.cellsOf e)) (P.cellsOf e) = some p.1 ∧ All2 (RelC (fun _ _ => True) w) p.1 p.2 ∧ Typed P e p.2 ∧ ∀ y, elems[i]? = some y → bulkL p.2 ≤ B y.1 := by
          intro i
          by_cases hi : i < len
          · obtain ⟨cs', h2, y, h3, h3'⟩ := hat i hi
            obtain ⟨ys, h4, h5, h6⟩ := ih e cs' y hp.1 h3
            exact ⟨(cs', ys), fun _ => ⟨h2, h4, h5, fun z hz => by rw [h3'] at hz; cases hz; exact h6⟩⟩
          · exact ⟨([], []), fun h => absurd h hi⟩
        obtain ⟨p, hpx⟩ := Classical.axiomOfChoice hex
        have hxs : ∀ (i : Nat) (x : List DC), ((List.range len).map fun i => (p i).2)[i]? = some x → i < len ∧ x = (p i).2 := by
          intro i x hx
          have hi : i < len := by simpa using (List.getElem?_eq_some_iff.1 hx).1
          refine ⟨hi, ?_⟩
          simpa [hi] using hx.symm
        have hsz : ∀ i, i < len → (p i).2.length = P.cellsOf e := by
          intro i hi
          obtain ⟨h2, h4, _⟩ := hpx i hi
          obtain ⟨_, h6, _⟩ := World.cells?_some h2
          rw [← h4.len, h6]
        refine ⟨[.sl ((List.range len).map fun i => (p i).2)], .cons ?_ .nil, .sl hu (by simpa using Nat.le_trans hl hm) (fun x hx => ?_), ?_⟩
        · cases hz : len with
          | zero => exact .emp _ _
          | succ len' =>
            have h0 : 0 < len := by omega
            have hspot : a.spot = none := by
              obtain ⟨h2, _, _⟩ := hpx 0 h0
              obtain ⟨_, h6, h7⟩ := World.cells?_some h2
              have h8 := h7 0 hp.2
              rw [List.getElem?_eq_getElem (by omega)] at h8
              unfold World.cell? at h8
              split at h8
              · split at h8
                · cases h8
                · rename_i hsp
                  simpa [Addr.add] using hsp
              · cases h8
            obtain ⟨b, o, spot⟩ := a
            simp only at hspot
            subst hspot
            rw [← hz]
            have hlx : ((List.range len).map fun i => (p i).2).length = len := by simp
            have key := RelC.sl (S := fun _ _ => True) (w := w) b o cap (P.cellsOf e) ((List.range len).map fun i => (p i).2) (fun i j => (p i).1[j]?.getD undef) (by rw [hlx]; exact hl) hm
              (fun i x hx => by obtain ⟨hi, rfl⟩ := hxs i x hx; exact hsz i hi)
              (fun i j x d hx hd => by
                obtain ⟨hi, rfl⟩ := hxs i x hx
                refine ⟨trivial, ?_⟩
                obtain ⟨h2, h4, _⟩ := hpx i hi
                obtain ⟨_, h6, h7⟩ := World.cells?_some h2
                have hj : j < P.cellsOf e := by rw [← hsz i hi]; exact (List.getElem?_eq_some_iff.1 hd).1
                have h8 := h7 j hj
                have hjl : j < (p i).1.length := by omega
                rw [List.getElem?_eq_getElem hjl] at h8
                unfold cl
                have hadd : (Addr.mk b (o + i * P.cellsOf e + j) none) = ((Addr.mk b o none).add (i * P.cellsOf e)).add j := by
                  unfold Addr.add
                  split <;> split <;> simp_all <;> omega
                rw [hadd, h8, List.getElem?_eq_getElem hjl]; rfl)
              (fun i j x d hx hd => by
                obtain ⟨hi, rfl⟩ := hxs i x hx
                obtain ⟨h2, h4, _⟩ := hpx i hi
                obtain ⟨u, hu', hr⟩ := h4.get hd
                simp only [hu', Option.getD_some]
                exact hr)
            rw [hlx] at key
            exact key
        · obtain ⟨i, hi⟩ := List.mem_iff_getElem?.1 hx
          obtain ⟨hi', rfl⟩ := hxs i x hi
          exact (hpx i hi').2.2.1
        · have h1 := hB.slice (elems.map (·.1)) (rest.map (·.1))
          have h2 : bulkLL ((List.range len).map fun i => (p i).2) ≤ BL (elems.map (·.1)) := hB.le _ _ (by simp; omega) fun i x d hx hd => by
            obtain ⟨hi, rfl⟩ := hxs i x hx
            rw [List.getElem?_map] at hd
            obtain ⟨y, hy, rfl⟩ := Option.map_eq_some_iff.1 hd
            exact (hpx i hi).2.2.2 y hy
          simp only [bulkL, DC.bulk]; omega
    · rename_i fs hu
      simp only [Bool.and_eq_true, List.all_eq_true, List.contains_iff_mem] at hp
      obtain ⟨xs, n, hn, rfl, hl, hxl, hf⟩ := DataW.trod_struct hu h
      have hn' : n = fuel := by omega
      subst hn'
      have hex : ∀ i : Nat, ∃ ys : List DC, ∀ f, fs[i]? = some f → All2 (RelC (fun _ _ => True) w) ((cs.drop f.offset).take (P.cellsOf f.type)) ys ∧ Typed P f.type ys ∧ ∀ y, xs[i]? = some y → bulkL ys ≤ B y.1 := by
        intro i
        cases hfi : fs[i]? with
        | none => exact ⟨[], fun f hf => by cases hf⟩
        | some f =>
          have hi : i < fs.size := (Array.getElem?_eq_some_iff.1 hfi).1
          have h1 := hf i f hfi
          rw [List.getElem?_eq_getElem (by omega)] at h1
          have h1' := List.getElem?_eq_getElem (l := xs) (i := i) (by omega)
          obtain ⟨ys, h2, h3, h4⟩ := ih f.type _ _ (hp.1 f (by simpa using Array.mem_of_getElem? hfi)) h1
          exact ⟨ys, fun g hg => by cases hg; exact ⟨h2, h3, fun z hz => by rw [h1'] at hz; cases hz; exact h4⟩⟩
      obtain ⟨Y, hY⟩ := Classical.axiomOfChoice hex
      have hpl : ((List.range fs.size).map Y).length = fs.size := by simp
      have hgY : ∀ (i : Nat) (y : List DC), ((List.range fs.size).map Y)[i]? = some y → i < fs.size ∧ y = Y i := by
        intro i y hy
        have hi : i < fs.size := by simpa using (List.getElem?_eq_some_iff.1 hy).1
        exact ⟨hi, by simpa [hi] using hy.symm⟩
      refine ⟨((List.range fs.size).map Y).flatten, ?_, .st hu hpl fun i f y hfi hy => ?_, ?_⟩
      · have hcut := cut_fields (P := P) (cs := cs) fs.toList 0 _ hp.2 hl
        rw [List.drop_zero] at hcut
        rw [← hcut]
        refine All2.flat (All2.of_get (by simp) fun i c y hc hy => ?_)
        obtain ⟨hi, rfl⟩ := hgY i y hy
        rw [List.getElem?_map] at hc
        obtain ⟨f, hfi, rfl⟩ := Option.map_eq_some_iff.1 hc
        exact (hY i f (by simpa using hfi)).1
      · obtain ⟨hi, rfl⟩ := hgY i y hy
        exact (hY i f hfi).2.1
      · refine Nat.le_trans ?_ (hB.agg _)
        rw [bulkL_flatten]
        refine hB.le _ _ (by simp; omega) fun i y d hy hd => ?_
        obtain ⟨hi, rfl⟩ := hgY i y hy
        rw [List.getElem?_map] at hd
        obtain ⟨y, hy, rfl⟩ := Option.map_eq_some_iff.1 hd
        exact (hY i _ (Array.getElem?_eq_getElem hi)).2.2 y hy
    · rename_i n e hu
      simp only [Bool.and_eq_true, List.contains_iff_mem, beq_iff_eq] at hp
      obtain ⟨xs, m, hm, rfl, hl, hxl, hf⟩ := DataW.trod_array hu h
      have hm' : m = fuel := by omega
      subst hm'
      have hex : ∀ i : Nat, ∃ ys : List DC, i < n → All2 (RelC (fun _ _ => True) w) ((cs.drop (i * P.cellsOf e)).take (P.cellsOf e)) ys ∧ Typed P e ys ∧ ∀ y, xs[i]? = some y → bulkL ys ≤ B y.1 := by
        intro i
        by_cases hi : i < n
        · have h1 := hf i hi
          rw [List.getElem?_eq_getElem (by omega)] at h1
          have h1' := List.getElem?_eq_getElem (l := xs) (i := i) (by omega)
          obtain ⟨ys, h2, h3, h4⟩ := ih e _ _ hp.1 h1
          exact ⟨ys, fun _ => ⟨h2, h3, fun z hz => by rw [h1'] at hz; cases hz; exact h4⟩⟩
        · exact ⟨[], fun h => absurd h hi⟩
      obtain ⟨Y, hY⟩ := Classical.axiomOfChoice hex
      have hcut : ∀ n, cs.length = n * P.cellsOf e → ((List.range n).map fun i => (cs.drop (i * P.cellsOf e)).take (P.cellsOf e)).flatten = cs := by
        intro n
        have : ∀ k, ((List.range k).map fun i => (cs.drop (i * P.cellsOf e)).take (P.cellsOf e)).flatten = cs.take (k * P.cellsOf e) := by
          intro k
          induction k with
          | zero => simp
          | succ k ihk =>
            rw [List.range_succ, List.map_append, List.flatten_append, ihk]
            simp only [List.map_cons, List.map_nil, List.flatten_cons, List.flatten_nil, List.append_nil]
            rw [Nat.succ_mul, List.take_add]
        intro h
        rw [this n, ← h, List.take_length]
      refine ⟨((List.range n).map Y).flatten, ?_, .arr hu (by simp) fun y hy => ?_, ?_⟩
      · rw [← hcut n (by rw [hl, hp.2])]
        refine All2.flat (All2.of_get (by simp) fun i c y hc hy => ?_)
        have hi : i < n := by simpa using (List.getElem?_eq_some_iff.1 hy).1
        have e1 : y = Y i := by simpa [hi] using hy.symm
        have e2 : c = (cs.drop (i * P.cellsOf e)).take (P.cellsOf e) := by simpa [hi] using hc.symm
        rw [e1, e2]
        exact (hY i hi).1
      · obtain ⟨i, hi, rfl⟩ := List.mem_map.1 hy
        exact (hY i (by simpa using hi)).2.1
      · refine Nat.le_trans ?_ (hB.agg _)
        rw [bulkL_flatten]
        refine hB.le _ _ (by simp; omega) fun i y d hy hd => ?_
        have hi : i < n := by simpa using (List.getElem?_eq_some_iff.1 hy).1
        have e1 : y = Y i := by simpa [hi] using hy.symm
        rw [List.getElem?_map] at hd
        obtain ⟨z, hz, rfl⟩ := Option.map_eq_some_iff.1 hd
        rw [e1]
        exact (hY i hi).2.2 z hz
    · cases hp

/-- The arguments as data, each with its type. -/
theorem trodAll_typed2 {B : DataW H → Nat} {BL : List (DataW H) → Nat} (hB : Bulk B BL) {L : List TypeId} (hL : plainSet P L = true) {W : World} {sp' : Nat → Bool} : ∀ {ts : List TypeId} {vs : List Value} {ds : List (DataW H)} {ps : List MemPlace}, (∀ t, t ∈ ts → t ∈ L) → (∀ (j : Nat) t v, ts[j]? = some t → vs[j]? = some v → Value.okWide P W .any base t v) →
    DataW.TrodAll enc P W 0 sp' true ts vs ds ps → ds.length = ts.length ∧ ∃ yss : List (List DC), All2 (fun v ys => All2 (RelC (fun _ _ => True) W) v.cells.toList ys) vs yss ∧ All2 (fun t ys => Typed P t ys) ts yss ∧ bulkLL yss ≤ BL ds
  | [], [], [], ps, _, _, h => ⟨rfl, [], .nil, .nil, by simp [bulkLL]⟩
  | t :: ts, v :: vs, d :: ds, ps, hm, hv, h => by
    obtain ⟨p, q, ⟨fuel, ha⟩, hb, rfl⟩ := h
    obtain ⟨hlen, yss, h1, h2, h5⟩ := trodAll_typed2 hB hL (fun t ht => hm t (List.mem_cons_of_mem _ ht)) (fun j t v h1 h2 => hv (j + 1) t v (by simpa using h1) (by simpa using h2)) hb
    obtain ⟨ys, h3, h4, h6⟩ := trod_typed2 hB hL fuel t _ _ (hm t (by simp)) ha
    exact ⟨by simp [hlen], ys :: yss, .cons h3 h1, .cons h4 h2, by have h6 : bulkL ys ≤ B d := h6; rw [hB.cons]; simp only [bulkLL]; omega⟩
  | [], _ :: _, _, _, _, _, h => by simp [DataW.TrodAll] at h
  | [], [], _ :: _, _, _, _, h => by simp [DataW.TrodAll] at h
  | _ :: _, [], _, _, _, _, h => by simp [DataW.TrodAll] at h
  | _ :: _, _ :: _, [], _, _, _, h => by simp [DataW.TrodAll] at h

/-- A LAW's CONTRACT, from what its function gives: true, whatever the arguments. -/
theorem law_contract2 {B : DataW H → Nat} {BL : List (DataW H) → Nat} (hB : Bulk B BL) {K : Nat} {f : FuncId} {fn : Func} {c : Code} {s : ChangeSpec} {L : List TypeId} {tb : TypeId} (hl : laidOutB P = true) (hf : P.funcs[f]? = some fn) (hname : (fn.name == "runtime.NumGoroutine") = false) (hbody : fn.body = some c)
    (hL : plainSet P L = true) (hps : (fn.params.toList.all fun t => L.contains t && (P.readableRec t && decide (t < P.types.size))) = true) (hvars : s.vars = [])
    (hs : ∀ ds : List (DataW H), ds.length = fn.params.size → s.fn H ds = { results := [.lit (.bool true)], args := ds }) (hres : fn.resultTypes = #[tb]) (htb : P.underlying tb = some .bool)
    (hg : ∀ yss : List (List DC), All2 (fun t ys => Typed P t ys) fn.params.toList yss → bulkLL yss ≤ K → Gives P f (handedAll P fn.params.toList yss) (.one (.c (.d (.sc (.bool true))))))
    {W : World} (hgood : TabGood (fun _ _ => True) W) {args : Array Value} {ds gs : List (DataW H)} {before : List MemPlace} (hval : ∀ (j : Nat) t v, fn.params[j]? = some t → args[j]? = some v → Value.okWide P W .any base t v)
    (hW : DataW.Whole enc P fn.params.toList s.vars false W args.toList ds gs before) (hK : BL ds ≤ K) : Calls P f args W fun e W' => ∃ v, e = .returned v ∧ s.post enc P fn false true false false W args v W' := by
  have hW' := hW
  obtain ⟨p, q, hA, hV, rfl, hfz, hnd⟩ := hW
  rw [hvars] at hV
  have hgs : gs = [] ∧ q = [] := by
    cases gs with
    | nil => exact ⟨rfl, hV⟩
    | cons => simp [DataW.TrodVars] at hV
  obtain ⟨rfl, rfl⟩ := hgs
  have hps1 : ∀ t, t ∈ fn.params.toList → t ∈ L := fun t ht => by
    have := List.all_eq_true.1 hps t ht
    simp only [Bool.and_eq_true, List.contains_iff_mem] at this
    exact this.1
  have hps2 : (fn.params.toList.all fun t => P.readableRec t && decide (t < P.types.size)) = true := List.all_eq_true.2 fun t ht => by
    have := List.all_eq_true.1 hps t ht
    simp only [Bool.and_eq_true] at this ⊢
    exact this.2
  have hval' : ∀ (j : Nat) t v, fn.params.toList[j]? = some t → args.toList[j]? = some v → Value.okWide P W .any base t v := fun j t v h1 h2 => hval j t v (by simpa using h1) (by simpa using h2)
  obtain ⟨hlen, yss, h1, h2, hbk⟩ := trodAll_typed2 hB hL hps1 hval' hA
  have hrel := handedAll_rel hval' h1 h2
  have hcall := hg yss h2 (Nat.le_trans hbk hK) (fun _ _ => True) W args.toList hgood hrel
  have hnm : ¬ fn.name = "runtime.NumGoroutine" := by simpa using hname
  have hrun : (callFunc f args).run P W = .ok (.enter f args) W := by simp [callFunc, hf, hnm, hbody]
  have hto : args.toList.toArray = args := by simp
  rw [hto] at hcall
  rcases hcall with ⟨_, hcall⟩ | ⟨v, w', hv, _⟩
  · refine hcall.mono fun e W' hpost => ?_
    obtain ⟨v, fb, rfl, hb, _, _, hr⟩ := hpost
    have hvb : v = .bool true := by
      obtain ⟨_, hr⟩ := hr
      cases hr; rfl
    subst hvb
    refine ⟨_, rfl, ?_⟩
    have hlt : ∀ x ∈ p ++ [], x.block < W.heap.size := fun x hx => hW'.lt x hx
    have hsn := hs ds (by simpa using hlen)
    have hres' : ∀ (b : Nat) (sp : Nat → Bool) (hd : Bool), DataW.TrodAll enc P W' b sp hd fn.resultTypes.toList ((Value.bool true).resultList fn.resultTypes.size) (s.fn H (ds ++ [])).results [] := by
      intro b sp hd
      rw [List.append_nil, hsn, hres]
      exact ⟨[], [], shut_bool htb _, rfl, rfl⟩
    have hargs : ∀ sp : Nat → Bool, (∀ x ∈ p ++ [], sp x.block = true) → DataW.TrodAll enc P W' 0 sp true fn.params.toList args.toList (s.fn H (ds ++ [])).args p := by
      intro sp hsp
      rw [List.append_nil, hsn]
      exact trodAll_stays hl hps2 hA (fun x hx => hb.same (hlt x (by simpa using hx))) (fun x hx => hsp x (by simpa using hx))
    have hvs : ∀ sp : Nat → Bool, DataW.TrodVars enc P W' sp s.vars (s.fn H (ds ++ [])).vars [] := by
      intro sp
      rw [List.append_nil, hsn, hvars]
      rfl
    have hok : ∀ (j : Nat) (t : TypeId) (r : Value), fn.resultTypes[j]? = some t → ((Value.bool true).resultList fn.resultTypes.size)[j]? = some r → Value.okWide P W' .any 0 t r :=
      ok_one hres rfl (okWide_bool_mk htb _)
    have hold : ∀ x ∈ p ++ [], (fun b => decide (b < W.heap.size)) x.block = true := fun x hx => by simpa using hlt x hx
    refine ⟨ds, [], p ++ [], [], p, [], hW', hres' _ _ _, hargs _ hold, hvs _, World.keptBut_mono (fun x hx => ⟨hx, ?_⟩) (hb.frame (· ∈ p ++ [])), fun _ => ?_⟩
    · exact .inr (by simpa using hx)
    · refine ⟨hok, _, _, ([] ++ p) ++ [], ⟨[] ++ p, [], ChangeShapes.trodAll_append (hargs _ (fun _ _ => rfl)) (hres' _ _ _), hvs _, rfl, ?_, ?_⟩, ?_⟩
      · intro b off hp
        have hin : MemPlace.cell b off ∈ p ++ [] := by simpa using hp
        rw [hb.frozen (hlt _ hin)]
        exact hfz b off hin
      · intro ha; simpa using hnd ha
      · intro x hx _; simpa using hx
  · rw [hrun] at hv; cases hv

/-! ### What a typed value looks like -/

/-- The cells of a table of strings. -/
theorem cells_of_strs {fuel : Nat} {t e : TypeId} {n : Nat} {cs : List Value} {ss : List (List UInt8)} {p : List MemPlace}
    (ht : P.underlying t = some (.array n e)) (he : P.underlying e = some .string) (hce : P.cellsOf e = 1) (hct : P.cellsOf t = n)
    (h : DataW.trod enc P w base sp held fuel t cs = some (.agg (ss.map fun s => .lit (.string s)), p)) : cs = ss.map fun s => Value.string ⟨s.toArray⟩ := by
  obtain ⟨xs, m, rfl, hx, hl, hxl, hf⟩ := DataW.trod_array ht h
  simp only [Prod.mk.injEq, DataW.agg.injEq] at hx
  have hsl : ss.length = n := by rw [← hxl, ← List.length_map (f := fun x : DataW H × List MemPlace => x.1), ← hx.1, List.length_map]
  refine List.ext_getElem? fun i => ?_
  by_cases hi : i < n
  · have h1 := hf i hi
    rw [hce, Nat.mul_one, List.getElem?_eq_getElem (by omega)] at h1
    obtain ⟨s, h2, h3, _⟩ := DataW.trod_string he h1
    have h4 : cs[i]? = some (.string s) := by
      have h5 : ((cs.drop i).take 1)[0]? = some (Value.string s) := by rw [h2]; rfl
      simpa [List.getElem?_take] using h5
    have h6 : (ss.map fun s => (DataW.lit (.string s) : DataW H))[i]? = some (.lit (.string s.data.toList)) := by
      rw [hx.1, List.getElem?_map, List.getElem?_eq_getElem (by omega), h3]; rfl
    rw [List.getElem?_map] at h6
    obtain ⟨u, hu, hu2⟩ := Option.map_eq_some_iff.1 h6
    simp only [DataW.lit.injEq, Lit.string.injEq] at hu2
    rw [h4, List.getElem?_map, hu, hu2]
    simp
  · rw [List.getElem?_eq_none (by omega), List.getElem?_eq_none (by simp; omega)]
/-- A package-level table, at its block. -/
theorem good_of_var {name : String} {g : Nat} {l : List Value} (hg : P.globalNamed name = some g) (h : w.var? P name = some l.toArray) : ∃ T fr, w.heap[g]? = some (.cells l.toArray T fr) := by
  unfold World.var? at h
  rw [hg] at h
  simp only [Option.bind_some] at h
  split at h
  · rename_i cs T fr hw
    cases h
    exact ⟨T, fr, hw⟩
  · cases h
end
end Go.Abs

