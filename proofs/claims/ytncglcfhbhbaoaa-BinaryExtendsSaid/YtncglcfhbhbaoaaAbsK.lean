/-
  One operation: the abstract step and its soundness.
-/
import Derived.Test.YtncglcfhbhbaoaaAbsJ
set_option linter.unusedSimpArgs false
set_option linter.unusedVariables false
namespace Go.Abs
open Go.RowKit

def scAV (v : Value) : AV := .c (.d (.sc v))

def callOf (s : ASt) : Op → Option (Nat × List AV)
  | .call c => match c.callee with
    | .value x => match s.ev x with
      | .c (.d (.sc (.func (.func f) first cap))) => match (first.toList ++ cap.toList).all (·.oneCell') with
        | true => some (f, first.toList.map scAV ++ c.args.toList.map s.ev ++ cap.toList.map scAV)
        | false => none
      | .c (.d (.clo f xs)) => some (f, c.args.toList.map s.ev ++ xs.map fun x => .c (.dptr x))
      | .c (.d (.rc f)) => some (f, c.args.toList.map s.ev ++ [.c (.dptr [.rc f])])
      | .c (.pclo f pre id post) => some (f, c.args.toList.map s.ev ++ ((pre.map fun x => .c (.dptr x)) ++ .c (.ptr id 0) :: post.map fun x => .c (.dptr x)))
      | _ => none
    | _ => none
  | _ => none

def srcOf (s : ASt) : AV → Option (List (List DC))
  | .c (.d (.sl ys)) => some ys
  | .c .nil => some []
  | .c (.d (.sc (.slice _ 0 _))) => some []
  | .c (.row id) => match find s.rows id with | some (.arr _ _ ys _) => some ys | _ => none
  | _ => none

def bytesD (l : List UInt8) : List (List DC) := l.map fun c => [.sc (.int .u8 c.toNat)]
def srcStr : AV → Option (List (List DC))
  | .c (.d (.sc (.string s))) => some (bytesD s.data.toList)
  | _ => none
def srcT (td : TD) (s : ASt) (y : AV) : Option (List (List DC)) :=
  match td with
  | .slice _ => srcOf s y
  | .string => srcStr y
  | _ => none

def appF (T : Tab) (d t tx : Nat) (s : ASt) (y x : AV) : Option (Prop × AV × ASt) :=
  match T t, T tx with
  | some ti, some tix => match ti.desc with
    | .slice e => match T e with
      | some te => match srcT tix.desc s y with
        | some ys => match x with
          | .c .nil => some (s.free d = true ∧ ys.length ≤ 1099511627776 ∧ te.bytes ≤ 128 ∧ 0 < te.size ∧ ∀ z, z ∈ ys → z.length = te.size, .c (.row d), ⟨s.tmps, (d, .arr e te.size ys false) :: s.rows⟩)
          | .c (.row id) => match find s.rows id with
            | some (.arr e' sz xs fl) => some (e' = e ∧ sz = te.size ∧ xs.length + ys.length ≤ 1099511627776 ∧ te.bytes ≤ 128 ∧ 0 < te.size ∧ ∀ z, z ∈ ys → z.length = te.size, .c (.row id),
                ⟨(s.kill id).tmps, (id, .arr e te.size (xs ++ ys) fl) :: (s.kill id).rows⟩)
            | _ => none
          | _ => none
        | none => none
      | none => none
    | _ => none
  | _, _ => none

def wF (T : Tab) (d : Nat) (s : ASt) : Op → Option (Prop × AV × ASt)
  | .store t x y => match storeF T t s (s.ev y) (s.ev x) with
    | some (c, s') => some (c, .tup [], s')
    | none => none
  | .range t x => match T t, s.ev x with
    | some ti, .c (.d (.sc (.string str))) => match ti.desc with
      | .string => some (s.free d = true, .c (.ptr d 0), ⟨s.tmps, (d, .iter str 0) :: s.rows⟩)
      | _ => none
    | _, _ => none
  | .next x true => match s.ev x with
    | .c (.ptr id 0) => match find s.rows id with
      | some (.iter str pos) => if pos < str.size then some (True, .tup [sbool true, sint .i64 pos, sint .i32 (Utf8.decode str pos).1], ⟨s.tmps, (id, .iter str (pos + (Utf8.decode str pos).2)) :: s.rows⟩)
        else some (True, .tup [sbool false], s)
      | _ => none
    | _ => none
  | .call c => match c.callee with
    | .builtin .append => match c.args.toList, c.argTypes.toList with
      | [x, y], [t, tx] => appF T d t tx s (s.ev y) (s.ev x)
      | _, _ => none
    | _ => none
  | _ => none

def ASt.put (s : ASt) (d : Option Nat) (v : AV) : ASt :=
  match d with
  | some i => ⟨(i, v) :: s.tmps, s.rows⟩
  | none => s

def ASt.add (s : ASt) (rows : List (Nat × ARow)) : ASt := ⟨s.tmps, rows ++ s.rows⟩

def nodupK : List (Nat × ARow) → Bool
  | [] => true
  | (k, _) :: l => (find l k).isNone && nodupK l

def okIds (s : ASt) (l : List (Nat × ARow)) : Prop := l.all (fun p => s.free p.1) = true ∧ nodupK l = true

/-- Behind a call: the side conditions, and how it goes on. -/
def callK (s : ASt) (d : Option Nat) (xs : List AV) (K : ASt → Prop) (r : Res) : Prop :=
  ((dvsOf false s.rows xs).isSome = true ∨ r.flat = true) ∧ okIds s (rowsRes (d.getD 0) r) ∧ K ((s.add (rowsRes (d.getD 0) r)).put d (avRes (d.getD 0) r))

/-- A type that depends on a term keeps the walk's reckoning out of the term. -/
def Tie {α : Type} (_x : α) : Type := Bool
def tie {α : Type} (x : α) : Tie x := true
/-- A call. The walk does not reckon with what comes behind before the result is known. -/
inductive CallA (P : Program) (f : Nat) (dvs : List DV) (s : ASt) (d : Option Nat) (xs : List AV) (K : ASt → Prop) (t : Tie K) : Prop
  | mk (r : Res) (h : Gives P f dvs r) (hK : callK s d xs K r) : CallA P f dvs s d xs K t

/-- A CALL THAT MAY TURN THE CALLER's OWN ROWS: function f, called in state s with these values, leaves state s' and gives v. -/
def Meth (P : Program) (f : FuncId) (s : ASt) (xs : List AV) (s' : ASt) (v : AV) : Prop :=
  ∀ (S : Nat → Nat → Prop) (w0 : World) (N : Fm) (g : Gh) (a : Act) (w : World), N.calm = true → Rel S w0 N g s a w → ∀ vs : List Value, All2 (RelV (Sf w0.heap.size S s.rows g) w s.rows g) vs xs →
    CallF P f vs.toArray w fun e w' => ∃ u g', e = .returned u ∧ Rel S w0 N g' s' a w' ∧ RelV (Sf w0.heap.size S s'.rows g') w' s'.rows g' u v

inductive MethA (P : Program) (f : Nat) (s : ASt) (d : Option Nat) (xs : List AV) (K : ASt → Prop) (t : Tie K) : Prop
  | mk (s' : ASt) (v : AV) (h : Meth P f s xs s' v) (hK : K (s'.put d v)) : MethA P f s d xs K t

/-- m: whether a call may turn the caller's own rows. -/
def stepA (m : Bool) (P : Program) (T : Tab) (o : Oper) (K : ASt → Prop) (s : ASt) : Prop :=
  match wF T (o.dst.getD 0) s o.op with
  | some (c, v, s') => c ∧ K (s'.put o.dst v)
  | none => match callOf s o.op with
    | some (f, xs) => match dvsOf true s.rows xs with
      | some dvs => CallA P f dvs s o.dst xs K (tie _)
      | none => match m with
        | true => MethA P f s o.dst xs K (tie _)
        | false => False
    | none => match effF T (o.dst.getD 0) o.op s with
      | .ok c v rows => c ∧ K ((s.add rows).put o.dst v)
      | .no => False

section
variable {S : Nat → Nat → Prop} {w0 : World} {N : Fm} {g : Gh} {st : ASt} {a : Act} {w : World} {rows : List (Nat × ARow)}

theorem Rel.put' (h : Rel S w0 N g st a w) {d : Option Nat} (hd : ∀ i, d = some i → i < N.n) {v : Value} {x : AV} (hv : RelV (Sf w0.heap.size S st.rows g) w st.rows g v x) :
    Rel S w0 N g (st.put d x) (a.put d v) w := by
  have := h.put hd hv
  cases d <;> exact this

theorem scalars_sound (h : Rel S w0 N g st a w) : ∀ {l : List Operand} {vs : List Value}, scalars st l = some vs → l.map a.eval = vs
  | [], vs, hs => by simp [scalars] at hs; simp [hs]
  | x :: l, vs, hs => by
    simp only [scalars] at hs
    split at hs
    · rename_i v vs' h1 h2
      cases hs
      have hx := h.ev x
      rw [h1] at hx
      rw [List.map_cons, relV_sc hx, scalars_sound h h2]
    · cases hs

theorem dptrs_sound (h : Rel S w0 N g st a w) : ∀ {l : List Operand} {xs : List (List DC)}, dptrs st l = some xs → xs.length = l.length ∧ ∀ (i : Nat) (x : List DC), xs[i]? = some x → ∃ b o, ∃ us : Nat → Value,
      (l.map a.eval)[i]? = some (.pointer (some ⟨b, o, none⟩)) ∧ ∀ (j : Nat) (d : DC), x[j]? = some d → Sf w0.heap.size S st.rows g b (o + j) ∧ cl w b (o + j) = some (us j) ∧ RelC (Sf w0.heap.size S st.rows g) w (us j) d
  | [], xs, hs => by simp [dptrs] at hs; subst hs; exact ⟨rfl, fun i x hx => by simp at hx⟩
  | y :: l, xs, hs => by
    simp only [dptrs] at hs
    split at hs
    · rename_i z ys h1 h2
      cases hs
      have hx := h.ev y
      rw [h1] at hx
      unfold RelV at hx
      obtain ⟨_, b, o, us, h3, h4⟩ := hx
      obtain ⟨h5, h6⟩ := dptrs_sound h h2
      refine ⟨by simp [h5], fun i x hx => ?_⟩
      cases i with
      | zero =>
        simp at hx; subst hx
        exact ⟨b, o, us, by simp [h3], h4⟩
      | succ i =>
        simp at hx
        obtain ⟨b, o, us, h7, h8⟩ := h6 i x hx
        exact ⟨b, o, us, by simpa using h7, h8⟩
    · cases hs

theorem dptrs_all (h : Rel S w0 N g st a w) {l : List Operand} {xs : List (List DC)} (hs : dptrs st l = some xs) : All2 (DPtr (Sf w0.heap.size S st.rows g) w) (l.map a.eval) xs := by
  obtain ⟨h1, h2⟩ := dptrs_sound h hs
  refine All2.of_get (by simp [h1]) fun i u x hu hx => ?_
  obtain ⟨b, o, us, h3, h4⟩ := h2 i x hx
  rw [hu] at h3; cases h3
  exact ⟨b, o, us, rfl, h4⟩
theorem caps_sound (h : Rel S w0 N g st a w) : ∀ {l : List Operand} {pre post : List (List DC)} {id : Nat}, capsOf st l = some (pre, id, post) →
    ∃ b c, ∃ vs ws : List Value, g id = some (b, c) ∧ l.map a.eval = vs ++ .pointer (some ⟨b, 0, none⟩) :: ws ∧ All2 (DPtr (Sf w0.heap.size S st.rows g) w) vs pre ∧ All2 (DPtr (Sf w0.heap.size S st.rows g) w) ws post
  | [], pre, post, id, hs => by simp [capsOf] at hs
  | y :: l, pre, post, id, hs => by
    simp only [capsOf] at hs
    split at hs
    · rename_i z he
      split at hs
      · rename_i pre' id' post' hc
        cases hs
        obtain ⟨b, c, vs, ws, h1, h2, h3, h4⟩ := caps_sound h hc
        have hx := h.ev y
        rw [he] at hx
        unfold RelV at hx
        exact ⟨b, c, a.eval y :: vs, ws, h1, by simp [h2], .cons hx.2 h3, h4⟩
      · cases hs
    · rename_i id' he
      split at hs
      · rename_i post' hd
        cases hs
        have hx := h.ev y
        rw [he] at hx
        unfold RelV at hx
        obtain ⟨_, b, c, h1, h2⟩ := hx
        exact ⟨b, c, [], l.map a.eval, h1, by simp [h2], .nil, dptrs_all h hd⟩
      · cases hs
    · cases hs

/-- Captured pointers to data, as a function value bears them. -/
theorem clo_of {F : Nat → Nat → Prop} {cs : List Value} {xs : List (List DC)} {f : Nat} (hl : xs.length = cs.length) (h : ∀ (i : Nat) (x : List DC), xs[i]? = some x → ∃ b o, ∃ us : Nat → Value,
      cs[i]? = some (.pointer (some ⟨b, o, none⟩)) ∧ ∀ (j : Nat) (d : DC), x[j]? = some d → F b (o + j) ∧ cl w b (o + j) = some (us j) ∧ RelC F w (us j) d) :
    RelC F w (.func (.func f) #[] cs.toArray) (.clo f xs) := by
  have h' : ∀ i : Nat, ∃ p : Nat × Nat × (Nat → Value), ∀ x, xs[i]? = some x → cs[i]? = some (.pointer (some ⟨p.1, p.2.1, none⟩)) ∧ ∀ (j : Nat) (d : DC), x[j]? = some d → F p.1 (p.2.1 + j) ∧ cl w p.1 (p.2.1 + j) = some (p.2.2 j) ∧ RelC F w (p.2.2 j) d := by
    intro i
    cases hx : xs[i]? with
    | none => exact ⟨(0, 0, fun _ => undef), fun x hx => by cases hx⟩
    | some x =>
      obtain ⟨b, o, us, h1, h2⟩ := h i x hx
      exact ⟨(b, o, us), fun y hy => by cases hy; exact ⟨h1, h2⟩⟩
  obtain ⟨p, hp⟩ := Classical.axiomOfChoice h'
  have e : cs = (List.range xs.length).map fun i => Value.pointer (some ⟨(p i).1, (p i).2.1, none⟩) := by
    apply List.ext_getElem?
    intro i
    by_cases hi : i < xs.length
    · rw [(hp i _ (List.getElem?_eq_getElem hi)).1]
      simp [hi]
    · rw [List.getElem?_eq_none (by omega), List.getElem?_eq_none (by simp; omega)]
  rw [e]
  exact .clo f xs (fun i => (p i).1) (fun i => (p i).2.1) (fun i j => (p i).2.2 j) (fun i j x d hx hd => ⟨((hp i x hx).2 j d hd).1, ((hp i x hx).2 j d hd).2.1⟩) (fun i j x d hx hd => ((hp i x hx).2 j d hd).2.2)

/-- What a function value with captured pointers to data is. -/
theorem clo_inv {F : Nat → Nat → Prop} {u : Value} {xs : List (List DC)} {f : Nat} (h : RelC F w u (.clo f xs)) : ∃ cs : List Value, u = .func (.func f) #[] cs.toArray ∧ All2 (fun v x => v.oneCell' = true ∧ RelAC F w rows g v (.dptr x)) cs xs := by
  cases h with
  | clo f xs bs os us h1 h2 =>
    refine ⟨_, rfl, All2.of_get (by simp) fun i x y hx hy => ?_⟩
    have hi : i < xs.length := (List.getElem?_eq_some_iff.1 hy).1
    have : x = Value.pointer (some ⟨bs i, os i, none⟩) := by simpa [hi] using hx.symm
    subst this
    exact ⟨rfl, bs i, os i, us i, rfl, fun j d hd => ⟨(h1 i j y d hy hd).1, (h1 i j y d hy hd).2, h2 i j y d hy hd⟩⟩

theorem eff_sound {P : Program} {T : Tab} (hT : TabOk P T) (h : Rel S w0 N g st a w) (o : Oper) {c : Prop} {v : AV} {rows : List (Nat × ARow)} (he : effF T (o.dst.getD 0) o.op st = .ok c v rows) (hc : c) :
    ∃ u w' g', (execOp a.eval o).run P w = .ok (.value u) w' ∧ Rel S w0 N g' (st.add rows) a w' ∧ RelV (Sf w0.heap.size S (rows ++ st.rows) g') w' (rows ++ st.rows) g' u v := by
  obtain ⟨dst, op, ty, pos, after, guard⟩ := o
  simp only at he
  -- an operation that leaves memory as it is
  have plain : ∀ {s : Sem Value}, rows = [] → (execOp a.eval ⟨dst, op, ty, pos, after, guard⟩) = (do pure (.value (← s)) : Sem Next) → (∃ u, s.run P w = .ok u w ∧ RelV (Sf w0.heap.size S st.rows g) w st.rows g u v) →
      ∃ u w' g', (execOp a.eval ⟨dst, op, ty, pos, after, guard⟩).run P w = .ok (.value u) w' ∧ Rel S w0 N g' (st.add rows) a w' ∧ RelV (Sf w0.heap.size S (rows ++ st.rows) g') w' (rows ++ st.rows) g' u v := by
    intro s hr hex ⟨u, hu, hv⟩
    subst hr
    refine ⟨u, w, g, ?_, h, hv⟩
    rw [hex]
    simp [hu]
  have made : ∀ {s : Sem Value} {u : Value} {w' : World}, (execOp a.eval ⟨dst, op, ty, pos, after, guard⟩) = (do pure (.value (← s)) : Sem Next) → s.run P w = .ok u w' →
      (execOp a.eval ⟨dst, op, ty, pos, after, guard⟩).run P w = .ok (.value u) w' := by
    intro s u w' hex hs
    rw [hex]
    simp [hs]
  unfold effF at he
  split at he
  · rename_i x
    cases he
    exact plain (s := pure (a.eval x)) rfl (by simp [execOp]) ⟨_, rfl, h.ev x⟩
  · rename_i x
    cases he
    exact plain (s := pure (a.eval x)) rfl (by simp [execOp]) ⟨_, rfl, h.ev x⟩
  · rename_i x y z
    split at he
    · rename_i t hx
      cases he
      have hcx := h.ev x
      rw [hx] at hcx
      have hcx' := relV_sc hcx
      cases t
      · exact ⟨a.eval z, w, g, by simp [execOp, hcx', asBool], h, h.ev z⟩
      · exact ⟨a.eval y, w, g, by simp [execOp, hcx', asBool], h, h.ev y⟩
    · cases he
  · rename_i t
    split at he
    · rename_i ti ht
      cases he
      obtain ⟨u, w', h1, h2, h3⟩ := alloc_sound hT h t (dst.getD 0) ht hc
      refine ⟨u, w', _, ?_, h2, ?_⟩
      · simp only [execOp, Sem.run_bind, h1, Result.andThen_ok, Sem.run_pure]
      · unfold RelV
        exact ⟨by rw [h3]; rfl, _, _, updG_eq _ _ _, h3⟩
    · cases he
  · rename_i t x
    split at he
    · rename_i ti cs ht hx
      cases he
      obtain ⟨u, w', h1, h2, h3⟩ := box_sound (P := P) h t (dst.getD 0) x hx hc.2
      refine ⟨u, w', _, ?_, h2, ?_⟩
      · simp only [execOp, Sem.run_bind, h1, Result.andThen_ok, Sem.run_pure]
      · unfold RelV
        exact ⟨by rw [h3]; rfl, _, _, updG_eq _ _ _, h3⟩
    · cases he
  · rename_i t parts
    split at he
    · rename_i ti ht
      split at he
      · rename_i fs hd
        split at he
        · rename_i cs hb
          cases he
          exact plain rfl rfl (build_sound hT h t parts ht hd hb)
        · cases he
      · rename_i m e hd
        split at he
        · rename_i te hte
          split at he
          · rename_i cs hb
            cases he
            exact plain rfl rfl (build_arr_sound hT h t parts ht hd hte hb)
          · cases he
        · cases he
      · cases he
    · cases he
  · rename_i t n parts
    split at he
    · rename_i ti ht
      split at he
      · rename_i e hd
        split at he
        · rename_i te hte
          split at he
          · rename_i xs hb
            cases he
            obtain ⟨u, w', h1, h2, h3⟩ := buildSlice_sound hT h t n (dst.getD 0) parts ht hd hte hb hc.1 hc.2.1 hc.2.2
            refine ⟨u, w', _, ?_, h2, ?_⟩
            · exact made rfl h1
            · unfold RelV
              exact ⟨by rw [h3]; rfl, _, _, _, _, find_set_eq, by rw [updG_eq]; exact h3⟩
          · cases he
        · cases he
      · cases he
    · cases he
  · rename_i t l c
    split at he
    · rename_i ti kn n km m ht hl hcc
      split at he
      · rename_i e hd
        split at he
        · rename_i te hte
          cases he
          have hl' := h.ev l
          rw [hl] at hl'
          have hc' := h.ev c
          rw [hcc] at hc'
          obtain ⟨h1, h2, h3, h4, h5, h6⟩ := hc
          obtain ⟨u, w', h7, h8, h9⟩ := makeSlice_sound hT h t (dst.getD 0) ht hd hte kn km n m h1 h2 h3 h4 h5 h6
          refine ⟨u, w', _, ?_, h8, ?_⟩
          · simp only [execOp, relV_sc hl', relV_sc hc', Sem.run_bind, h7, Result.andThen_ok, Sem.run_pure]
          · unfold RelV
            exact ⟨by rw [h9]; rfl, _, _, _, _, find_set_eq, by rw [updG_eq]; exact h9⟩
        · cases he
      · cases he
    · cases he
  · rename_i t x
    split at he
    · rename_i v' hv'
      cases he
      exact plain rfl rfl (load_sound hT h t x hv')
    · cases he
  · rename_i t x f
    obtain ⟨hr, hx⟩ := fieldAddr_sound hT h t f x he hc
    exact plain hr rfl hx
  · rename_i t x f
    split at he
    · rename_i v' hv'
      cases he
      exact plain rfl rfl (field_sound hT h t f x hv')
    · cases he
  · rename_i t x i
    obtain ⟨hr, hx⟩ := indexAddr_sound hT h t x i he hc
    exact plain hr rfl hx
  · rename_i t x i
    obtain ⟨hr, hx⟩ := index_sound hT h t x i he hc
    exact plain hr rfl hx
  · rename_i op' t x y _
    obtain ⟨hr, hx⟩ := bin_sound hT h op' t x y he hc
    exact plain hr rfl hx
  · rename_i op' t x
    obtain ⟨hr, hx⟩ := un_sound (P := P) h op' x he hc
    exact plain hr rfl hx
  · rename_i x
    split at he
    · rename_i id off hx
      cases he
      have hxx := h.ev x
      rw [hx] at hxx
      have hxy := hxx
      unfold RelV at hxx
      obtain ⟨_, b, c', _, hu⟩ := hxx
      exact ⟨a.eval x, w, g, by simp [execOp, hu], h, hxy⟩
    · rename_i id i off hx
      cases he
      have hxx := h.ev x
      rw [hx] at hxx
      have hxy := hxx
      unfold RelV at hxx
      obtain ⟨_, b, c', e', sz', xs', fl', _, _, hu⟩ := hxx
      exact ⟨a.eval x, w, g, by simp [execOp, hu], h, hxy⟩
    · rename_i xs hx
      cases he
      have hxx := h.ev x
      rw [hx] at hxx
      have hxy := hxx
      unfold RelV at hxx
      obtain ⟨_, b, o', us, hu, _⟩ := hxx
      exact ⟨a.eval x, w, g, by simp [execOp, hu], h, hxy⟩
    · cases he
  · rename_i src dst' x
    obtain ⟨hr, hx⟩ := conv_sound hT h src dst' x he hc
    exact plain hr rfl hx
  · rename_i t x lo hi mx
    split at he
    · rename_i lo' hi' mx' h1 h2 h3
      obtain ⟨hr, hx⟩ := slice_sound hT h t x lo hi mx h1 h2 h3 he hc
      exact plain hr rfl hx
    · cases he
  · rename_i x i
    split at he
    · rename_i xs hx
      split at he
      · rename_i v' hv'
        cases he
        have hxx := h.ev x
        rw [hx] at hxx
        unfold RelV at hxx
        obtain ⟨vs, hvs, hall⟩ := hxx
        have key : ∀ (i : Nat) (us : List Value) (ys : List AV) (z : AV), RelVL (Sf w0.heap.size S st.rows g) w st.rows g us ys → ys[i]? = some z → ∃ u, us[i]? = some u ∧ RelV (Sf w0.heap.size S st.rows g) w st.rows g u z := by
          intro i
          induction i with
          | zero =>
            intro us ys z hl hz
            cases ys with
            | nil => simp at hz
            | cons y ys => cases us with
              | nil => unfold RelVL at hl; exact hl.elim
              | cons u us => unfold RelVL at hl; simp at hz; subst hz; exact ⟨u, by simp, hl.1⟩
          | succ i ih =>
            intro us ys z hl hz
            cases ys with
            | nil => simp at hz
            | cons y ys => cases us with
              | nil => unfold RelVL at hl; exact hl.elim
              | cons u us => unfold RelVL at hl; obtain ⟨u', hu', hr⟩ := ih us ys z hl.2 (by simpa using hz); exact ⟨u', by simpa using hu', hr⟩
        obtain ⟨u, hu, hr⟩ := key i _ _ _ hall hv'
        refine plain rfl rfl ⟨u, ?_, hr⟩
        have : vs[i]? = some u := by simpa using hu
        simp [Instr.extract, hvs, this]
      · cases he
    · cases he
  · rename_i fn first captured
    split at he
    · rename_i f' c' h1 h2
      cases he
      refine plain rfl rfl ⟨.func fn (first.map a.eval) (captured.map a.eval), rfl, ?_⟩
      have e1 : first.map a.eval = f'.toArray := by apply Array.ext'; simpa using scalars_sound h h1
      have e2 : captured.map a.eval = c'.toArray := by apply Array.ext'; simpa using scalars_sound h h2
      rw [e1, e2]
      unfold RelV
      exact ⟨rfl, .sc _ rfl⟩
    · rename_i h1 h2
      split at he
      · rename_i f
        have e1 : first.map a.eval = #[] := by apply Array.ext'; simpa using scalars_sound h h1
        have e2 : captured.map a.eval = (captured.toList.map a.eval).toArray := by apply Array.ext'; simp
        split at he
        · rename_i xs h3
          cases he
          refine plain rfl rfl ⟨.func (.func f) (first.map a.eval) (captured.map a.eval), rfl, ?_⟩
          obtain ⟨h4, h5⟩ := dptrs_sound h h3
          rw [e1, e2]
          unfold RelV
          exact ⟨rfl, clo_of (by simpa using h4) h5⟩
        · split at he
          · rename_i pre id post h3
            cases he
            refine plain rfl rfl ⟨.func (.func f) (first.map a.eval) (captured.map a.eval), rfl, ?_⟩
            obtain ⟨b, c, vs, ws, h4, h5, h6, h7⟩ := caps_sound h h3
            rw [e1, e2, h5]
            unfold RelV
            exact ⟨rfl, b, c, vs, ws, h4, rfl, h6, h7⟩
          · cases he
      · cases he
    · cases he
  · rename_i c
    split at he
    · rename_i hcal
      split at he
      · rename_i x t hargs htys
        split at he
        · rename_i ti ht
          have hA : c.args = #[x] := by apply Array.ext'; simpa using hargs
          have hTy : c.argTypes = #[t] := by apply Array.ext'; simpa using htys
          have hex : (execOp a.eval ⟨dst, .call c, ty, pos, after, guard⟩) = (do pure (.value (← Builtin.len_ #[t] ty #[a.eval x])) : Sem Next) := by
            simp [execOp, resolve, hcal, hA, hTy, invoke, builtin]
          split at he
          · rename_i e hd
            obtain ⟨hr, hx⟩ := len_sound (P := P) hT h t ty ht hd x he hc
            exact plain hr hex hx
          · rename_i hd
            obtain ⟨hr, hx⟩ := lenS_sound (P := P) hT h t ty ht hd x he hc
            exact plain hr hex hx
          · cases he
        · cases he
      · cases he
    · rename_i hcal
      split at he
      · rename_i x y hargs
        split at he
        · rename_i k n1 k' n2 h1 h2
          cases he
          have hA : c.args = #[x, y] := by apply Array.ext'; simpa using hargs
          have hx := h.ev x
          rw [h1] at hx
          have hy := h.ev y
          rw [h2] at hy
          refine plain (s := Builtin.max_ c.argTypes ty #[a.eval x, a.eval y]) rfl (by simp [execOp, resolve, hcal, hA, invoke, builtin]) ⟨.int k (max n1 n2), ?_, rel_sint _ _ _ _ _ _⟩
          rw [relV_sc hx, relV_sc hy, run_max_int2]
          congr 2; omega
        · cases he
      · cases he
    · rename_i hcal
      split at he
      · rename_i x y hargs
        split at he
        · rename_i k n1 k' n2 h1 h2
          cases he
          have hA : c.args = #[x, y] := by apply Array.ext'; simpa using hargs
          have hx := h.ev x
          rw [h1] at hx
          have hy := h.ev y
          rw [h2] at hy
          refine plain (s := Builtin.min_ c.argTypes ty #[a.eval x, a.eval y]) rfl (by simp [execOp, resolve, hcal, hA, invoke, builtin]) ⟨.int k (min n1 n2), ?_, rel_sint _ _ _ _ _ _⟩
          rw [relV_sc hx, relV_sc hy, run_min_int2]
          congr 2; omega
        · cases he
      · cases he
    · cases he
  · cases he

end
end Go.Abs
