/-
  One operation: the abstract step and its soundness.
-/
import Derived.Test.YtldgcpdpebhndaaDoorAbsJ
import Derived.Laws.BytesString
import Derived.TacticsIn
import Derived.OrdersIn
set_option linter.unusedSimpArgs false
set_option linter.unusedVariables false
namespace Go.Abs
open Go.RowKit

def scAV (v : Value) : AV := .c (.d (.sc v))

def callOf (s : ASt) : Op → Option (Nat × List AV)
  | .call c => match c.callee with
    | .value x => match s.ev x with
      | .c (.d (.sc (.func (.func f) first cap))) => match (first.toList ++ cap.toList).all (·.oneCell') with
        | true => some (f, first.toList.map scAV ++ c.args.toList.map s.ev ++ cap.toList.map scAV)
        | false => none
      | .c (.d (.clo f xs)) => some (f, c.args.toList.map s.ev ++ xs.map fun x => .c (.dptr x))
      | .c (.d (.rc f)) => some (f, c.args.toList.map s.ev ++ [.c (.dptr [.rc f])])
      | .c (.pclo f pre id post) => some (f, c.args.toList.map s.ev ++ ((pre.map fun x => .c (.dptr x)) ++ .c (.ptr id 0) :: post.map fun x => .c (.dptr x)))
      | _ => none
    | _ => none
  | _ => none

def srcOf (s : ASt) : AV → Option (List (List DC))
  | .c (.d (.sl ys)) => some ys
  | .c .nil => some []
  | .c (.d (.sc (.slice _ 0 _))) => some []
  | .c (.row id) => match find s.rows id with | some (.arr _ _ ys _) => some ys | _ => none
  | _ => none

def bytesD (l : List UInt8) : List (List DC) := l.map fun c => [.sc (.int .u8 c.toNat)]
def srcStr : AV → Option (List (List DC))
  | .c (.d (.sc (.string s))) => some (bytesD s.data.toList)
  | _ => none
def srcT (td : TD) (s : ASt) (y : AV) : Option (List (List DC)) :=
  match td with
  | .slice _ => srcOf s y
  | .string => srcStr y
  | _ => none

def appF (T : Tab) (d t tx : Nat) (s : ASt) (y x : AV) : Option (Prop × AV × ASt) :=
  match T t, T tx with
  | some ti, some tix => match ti.desc with
    | .slice e => match T e with
      | some te => match srcT tix.desc s y with
        | some ys => match x with
          | .c .nil => some (s.free d = true ∧ ys.length ≤ 1099511627776 ∧ te.bytes ≤ 128 ∧ 0 < te.size ∧ ∀ z, z ∈ ys → z.length = te.size, .c (.row d), ⟨s.tmps, (d, .arr e te.size ys false) :: s.rows⟩)
          | .c (.row id) => match find s.rows id with
            | some (.arr e' sz xs fl) => some (e' = e ∧ sz = te.size ∧ xs.length + ys.length ≤ 1099511627776 ∧ te.bytes ≤ 128 ∧ 0 < te.size ∧ ∀ z, z ∈ ys → z.length = te.size, .c (.row id),
                ⟨(s.kill id).tmps, (id, .arr e te.size (xs ++ ys) fl) :: (s.kill id).rows⟩)
            | _ => none
          | _ => none
        | none => none
      | none => none
    | _ => none
  | _, _ => none

/-- Copying into an own row, from a slice of the same length. -/
def copyF (T : Tab) (t : Nat) (s : ASt) (y x : AV) : Option (Prop × AV × ASt) :=
  match T t with
  | some ti => match ti.desc with
    | .slice e => match T e with
      | some te => match srcOf s y with
        | some ys => match x with
          | .c (.row id) => match find s.rows id with
            | some (.arr e' sz xs false) => some (e' = e ∧ sz = te.size ∧ 0 < te.size ∧ ys.length = xs.length ∧ ∀ z, z ∈ ys → z.length = te.size, sint .i64 xs.length,
                ⟨s.tmps, (id, .arr e te.size ys false) :: s.rows⟩)
            | _ => none
          | _ => none
        | none => none
      | none => none
    | _ => none
  | none => none

def wF (T : Tab) (d : Nat) (s : ASt) : Op → Option (Prop × AV × ASt)
  | .store t x y => match storeF T t s (s.ev y) (s.ev x) with
    | some (c, s') => some (c, .tup [], s')
    | none => none
  | .range t x => match T t, s.ev x with
    | some ti, .c (.d (.sc (.string str))) => match ti.desc with
      | .string => some (s.free d = true, .c (.ptr d 0), ⟨s.tmps, (d, .iter str 0) :: s.rows⟩)
      | _ => none
    | _, _ => none
  | .next x true => match s.ev x with
    | .c (.ptr id 0) => match find s.rows id with
      | some (.iter str pos) => if pos < str.size then some (True, .tup [sbool true, sint .i64 pos, sint .i32 (Utf8.decode str pos).1], ⟨s.tmps, (id, .iter str (pos + (Utf8.decode str pos).2)) :: s.rows⟩)
        else some (True, .tup [sbool false], s)
      | _ => none
    | _ => none
  | .call c => match c.callee with
    | .builtin .append => match c.args.toList, c.argTypes.toList with
      | [.const (.slice none 0 0), _], [_, _] => none
      | [x, y], [t, tx] => appF T d t tx s (s.ev y) (s.ev x)
      | _, _ => none
    | .builtin .copy => match c.args.toList, c.argTypes.toList with
      | [x, y], [t, _] => copyF T t s (s.ev y) (s.ev x)
      | _, _ => none
    | _ => none
  | _ => none

def ASt.put (s : ASt) (d : Option Nat) (v : AV) : ASt :=
  match d with
  | some i => ⟨(i, v) :: s.tmps, s.rows⟩
  | none => s

def ASt.add (s : ASt) (rows : List (Nat × ARow)) : ASt := ⟨s.tmps, rows ++ s.rows⟩

def nodupK : List (Nat × ARow) → Bool
  | [] => true
  | (k, _) :: l => (find l k).isNone && nodupK l

def okIds (s : ASt) (l : List (Nat × ARow)) : Prop := l.all (fun p => s.free p.1) = true ∧ nodupK l = true

/-- Behind a call: the side conditions, and how it goes on. -/
def callK (s : ASt) (d : Option Nat) (xs : List AV) (K : ASt → Prop) (r : Res) : Prop :=
  ((dvsOf false s.rows xs).isSome = true ∨ r.flat = true) ∧ okIds s (rowsRes (d.getD 0) r) ∧ K ((s.add (rowsRes (d.getD 0) r)).put d (avRes (d.getD 0) r))

/-- A type that depends on a term keeps the walk's reckoning out of the term. -/
def Tie {α : Type} (_x : α) : Type := Bool
def tie {α : Type} (x : α) : Tie x := true
/-- A call. The walk does not reckon with what comes behind before the result is known. -/
inductive CallA (P : Program) (f : Nat) (dvs : List DV) (s : ASt) (d : Option Nat) (xs : List AV) (K : ASt → Prop) (t : Tie K) : Prop
  | mk (r : Res) (h : Gives P f dvs r) (hK : callK s d xs K r) : CallA P f dvs s d xs K t

/-- A CALL THAT MAY TURN THE CALLER's OWN ROWS: function f, called in state s with these values, leaves state s' and gives v. -/
def Meth (P : Program) (f : FuncId) (s : ASt) (xs : List AV) (s' : ASt) (v : AV) : Prop :=
  ∀ (S : Nat → Nat → Prop) (w0 : World) (N : Fm) (g : Gh) (a : Act) (w : World), N.calm = true → Rel S w0 N g s a w → ∀ vs : List Value, All2 (RelV (Sf w0.heap.size S s.rows g) w s.rows g) vs xs →
    CallF P f vs.toArray w fun e w' => ∃ u g', e = .returned u ∧ Rel S w0 N g' s' a w' ∧ RelV (Sf w0.heap.size S s'.rows g') w' s'.rows g' u v

inductive MethA (P : Program) (f : Nat) (s : ASt) (d : Option Nat) (xs : List AV) (K : ASt → Prop) (t : Tie K) : Prop
  | mk (s' : ASt) (v : AV) (h : Meth P f s xs s' v) (hK : K (s'.put d v)) : MethA P f s d xs K t

/-- m: whether a call may turn the caller's own rows. -/
def stepA (m : Bool) (P : Program) (T : Tab) (o : Oper) (K : ASt → Prop) (s : ASt) : Prop :=
  match wF T (o.dst.getD 0) s o.op with
  | some (c, v, s') => c ∧ K (s'.put o.dst v)
  | none => match callOf s o.op with
    | some (f, xs) => match dvsOf true s.rows xs with
      | some dvs => CallA P f dvs s o.dst xs K (tie _)
      | none => match m with
        | true => MethA P f s o.dst xs K (tie _)
        | false => False
    | none => match effF T (o.dst.getD 0) o.op s with
      | .ok c v rows => c ∧ K ((s.add rows).put o.dst v)
      | .no => False

section
variable {S : Nat → Nat → Prop} {w0 : World} {N : Fm} {g : Gh} {st : ASt} {a : Act} {w : World} {rows : List (Nat × ARow)}

theorem Rel.put' (h : Rel S w0 N g st a w) {d : Option Nat} (hd : ∀ i, d = some i → i < N.n) {v : Value} {x : AV} (hv : RelV (Sf w0.heap.size S st.rows g) w st.rows g v x) :
    Rel S w0 N g (st.put d x) (a.put d v) w := by
  have := h.put hd hv
  cases d <;> exact this

theorem scalars_sound (h : Rel S w0 N g st a w) : ∀ {l : List Operand} {vs : List Value}, scalars st l = some vs → l.map a.eval = vs
  | [], vs, hs => by simp [scalars] at hs; simp [hs]
  | x :: l, vs, hs => by
    simp only [scalars] at hs
    split at hs
    · rename_i v vs' h1 h2
      cases hs
      have hx := h.ev x
      rw [h1] at hx
      rw [List.map_cons, relV_sc hx, scalars_sound h h2]
    · cases hs

theorem dptrs_sound (h : Rel S w0 N g st a w) : ∀ {l : List Operand} {xs : List (List DC)}, dptrs st l = some xs → xs.length = l.length ∧ ∀ (i : Nat) (x : List DC), xs[i]? = some x → ∃ b o, ∃ us : Nat → Value,
      (l.map a.eval)[i]? = some (.pointer (some ⟨b, o, none⟩)) ∧ ∀ (j : Nat) (d : DC), x[j]? = some d → Sf w0.heap.size S st.rows g b (o + j) ∧ cl w b (o + j) = some (us j) ∧ RelC (Sf w0.heap.size S st.rows g) w (us j) d
  | [], xs, hs => by simp [dptrs] at hs; subst hs; exact ⟨rfl, fun i x hx => by simp at hx⟩
  | y :: l, xs, hs => by
    simp only [dptrs] at hs
    split at hs
    · rename_i z ys h1 h2
      cases hs
      have hx := h.ev y
      rw [h1] at hx
      unfold RelV at hx
      obtain ⟨_, b, o, us, h3, h4⟩ := hx
      obtain ⟨h5, h6⟩ := dptrs_sound h h2
      refine ⟨by simp [h5], fun i x hx => ?_⟩
      cases i with
      | zero =>
        simp at hx; subst hx
        exact ⟨b, o, us, by simp [h3], h4⟩
      | succ i =>
        simp at hx
        obtain ⟨b, o, us, h7, h8⟩ := h6 i x hx
        exact ⟨b, o, us, by simpa using h7, h8⟩
    · cases hs

theorem dptrs_all (h : Rel S w0 N g st a w) {l : List Operand} {xs : List (List DC)} (hs : dptrs st l = some xs) : All2 (DPtr (Sf w0.heap.size S st.rows g) w) (l.map a.eval) xs := by
  obtain ⟨h1, h2⟩ := dptrs_sound h hs
  refine All2.of_get (by simp [h1]) fun i u x hu hx => ?_
  obtain ⟨b, o, us, h3, h4⟩ := h2 i x hx
  rw [hu] at h3; cases h3
  exact ⟨b, o, us, rfl, h4⟩
theorem caps_sound (h : Rel S w0 N g st a w) : ∀ {l : List Operand} {pre post : List (List DC)} {id : Nat}, capsOf st l = some (pre, id, post) →
    ∃ b c, ∃ vs ws : List Value, g id = some (b, c) ∧ l.map a.eval = vs ++ .pointer (some ⟨b, 0, none⟩) :: ws ∧ All2 (DPtr (Sf w0.heap.size S st.rows g) w) vs pre ∧ All2 (DPtr (Sf w0.heap.size S st.rows g) w) ws post
  | [], pre, post, id, hs => by simp [capsOf] at hs
  | y :: l, pre, post, id, hs => by
    simp only [capsOf] at hs
    split at hs
    · rename_i z he
      split at hs
      · rename_i pre' id' post' hc
        cases hs
        obtain ⟨b, c, vs, ws, h1, h2, h3, h4⟩ := caps_sound h hc
        have hx := h.ev y
        rw [he] at hx
        unfold RelV at hx
        exact ⟨b, c, a.eval y :: vs, ws, h1, by simp [h2], .cons hx.2 h3, h4⟩
      · cases hs
    · rename_i id' he
      split at hs
      · rename_i post' hd
        cases hs
        have hx := h.ev y
        rw [he] at hx
        unfold RelV at hx
        obtain ⟨_, b, c, h1, h2⟩ := hx
        exact ⟨b, c, [], l.map a.eval, h1, by simp [h2], .nil, dptrs_all h hd⟩
      · cases hs
    · cases hs

/-- Captured pointers to data, as a function value bears them. -/
theorem clo_of {F : Nat → Nat → Prop} {cs : List Value} {xs : List (List DC)} {f : Nat} (hl : xs.length = cs.length) (h : ∀ (i : Nat) (x : List DC), xs[i]? = some x → ∃ b o, ∃ us : Nat → Value,
      cs[i]? = some (.pointer (some ⟨b, o, none⟩)) ∧ ∀ (j : Nat) (d : DC), x[j]? = some d → F b (o + j) ∧ cl w b (o + j) = some (us j) ∧ RelC F w (us j) d) :
    RelC F w (.func (.func f) #[] cs.toArray) (.clo f xs) := by
  have h' : ∀ i : Nat, ∃ p : Nat × Nat × (Nat → Value), ∀ x, xs[i]? = some x → cs[i]? = some (.pointer (some ⟨p.1, p.2.1, none⟩)) ∧ ∀ (j : Nat) (d : DC), x[j]? = some d → F p.1 (p.2.1 + j) ∧ cl w p.1 (p.2.1 + j) = some (p.2.2 j) ∧ RelC F w (p.2.2 j) d := by
    intro i
    cases hx : xs[i]? with
    | none => exact ⟨(0, 0, fun _ => undef), fun x hx => by cases hx⟩
    | some x =>
      obtain ⟨b, o, us, h1, h2⟩ := h i x hx
      exact ⟨(b, o, us), fun y hy => by cases hy; exact ⟨h1, h2⟩⟩
  obtain ⟨p, hp⟩ := Classical.axiomOfChoice h'
  have e : cs = (List.range xs.length).map fun i => Value.pointer (some ⟨(p i).1, (p i).2.1, none⟩) := by
    apply List.ext_getElem?
    intro i
    by_cases hi : i < xs.length
    · rw [(hp i _ (List.getElem?_eq_getElem hi)).1]
      simp [hi]
    · rw [List.getElem?_eq_none (by omega), List.getElem?_eq_none (by simp; omega)]
  rw [e]
  exact .clo f xs (fun i => (p i).1) (fun i => (p i).2.1) (fun i j => (p i).2.2 j) (fun i j x d hx hd => ⟨((hp i x hx).2 j d hd).1, ((hp i x hx).2 j d hd).2.1⟩) (fun i j x d hx hd => ((hp i x hx).2 j d hd).2.2)

/-- What a function value with captured pointers to data is. -/
theorem clo_inv {F : Nat → Nat → Prop} {u : Value} {xs : List (List DC)} {f : Nat} (h : RelC F w u (.clo f xs)) : ∃ cs : List Value, u = .func (.func f) #[] cs.toArray ∧ All2 (fun v x => v.oneCell' = true ∧ RelAC F w rows g v (.dptr x)) cs xs := by
  cases h with
  | clo f xs bs os us h1 h2 =>
    refine ⟨_, rfl, All2.of_get (by simp) fun i x y hx hy => ?_⟩
    have hi : i < xs.length := (List.getElem?_eq_some_iff.1 hy).1
    have : x = Value.pointer (some ⟨bs i, os i, none⟩) := by simpa [hi] using hx.symm
    subst this
    exact ⟨rfl, bs i, os i, us i, rfl, fun j d hd => ⟨(h1 i j y d hy hd).1, (h1 i j y d hy hd).2, h2 i j y d hy hd⟩⟩

def numD : List DC → Int
  | [.sc (.int .u8 n)] => n
  | _ => 0
theorem isByte_eq {y : List DC} (h : isByte y = true) : y = [.sc (.int .u8 (numD y))] := by
  unfold isByte at h
  split at h
  · rfl
  · cases h
theorem byteD_eq {y : List DC} (h : isByte y = true) : byteD y = UInt8.ofNat (numD y).toNat := by rw [isByte_eq h]; rfl
theorem fold_bytes : ∀ (ys : List (List DC)) (s : ByteArray), ys.all isByte = true → (ys.map numD).foldl (fun r n => r.push (UInt8.ofNat n.toNat)) s = ⟨s.data ++ (ys.map byteD).toArray⟩
  | [], s, _ => by simp
  | y :: ys, s, h => by
    simp only [List.all_cons, Bool.and_eq_true] at h
    rw [List.map_cons, List.foldl_cons, fold_bytes ys _ h.2, List.map_cons, byteD_eq h.1]
    congr 1
    apply Array.ext'
    simp [ByteArray.push]
theorem bytes_run {P : Program} {F : Nat → Nat → Prop} {ys : List (List DC)} {news : List Value} {base : Option Addr} {cap : Nat} (hs : Src P 1 ys.length w (.slice base ys.length cap) news) (hel : Elems F w 1 news ys) (hb : ys.all isByte = true) :
    (Conv.bytesToString (.slice base ys.length cap)).run P w = .ok (.string (bytesS ys)) w := by
  have hn : news = (ys.map numD).map (Value.int .u8) := by
    apply List.ext_getElem?
    intro i
    have hsz := hs.size
    by_cases hi : i < ys.length
    · have hy := List.getElem?_eq_getElem hi
      have hby := isByte_eq (List.all_eq_true.1 hb _ (List.getElem_mem hi))
      obtain ⟨u, hu, hr⟩ := hel i 0 _ (.sc (.int .u8 (numD ys[i]))) hy (by rw [hby]; rfl)
      rw [Nat.mul_one, Nat.add_zero] at hu
      cases hr
      rw [hu]
      simp [hi]
    · rw [List.getElem?_eq_none (by omega), List.getElem?_eq_none (by simp; omega)]
  cases base with
  | none =>
    have h1 := hs.cells w rfl
    simp [Builtin.firstCells] at h1
    have h2 : ys = [] := List.eq_nil_of_length_eq_zero (by have := hs.size; rw [h1] at this; simpa using this.symm)
    subst h2
    simp [Conv.bytesToString, bytesS]
    rfl
  | some ad =>
    have h1 := hs.cells w rfl
    simp only [Builtin.firstCells, Nat.mul_one] at h1
    rw [hn] at h1
    rw [run_bytesToString w ad ys.length cap (ys.map numD) h1, fold_bytes _ _ hb]
    have : (⟨ByteArray.empty.data ++ (ys.map byteD).toArray⟩ : ByteArray) = bytesS ys := by
      unfold bytesS
      congr 1
      apply Array.ext'
      rw [Array.toList_append]
      rfl
    rw [this]
theorem bytes_sound {P : Program} {T : Tab} (hT : TabOk P T) (h : Rel S w0 N g st a w) (src dst : Nat) (x : Operand) {c : Prop} {b : ByteArray} (hb : bytesF T src dst st.rows (st.ev x) = some (c, b)) (hc : c) :
    ∃ u, (convert src dst (a.eval x)).run P w = .ok u w ∧ RelV (Sf w0.heap.size S st.rows g) w st.rows g u (sstr b) := by
  unfold bytesF at hb
  split at hb
  · rename_i ys hys
    split at hb
    · rename_i ts ti hts hti
      split at hb
      · rename_i e hd1 hd2
        split at hb
        · rename_i te hte
          split at hb
          · rename_i hd3
            cases hb
            obtain ⟨h1, h2⟩ := hc
            have hus := (hT src ts hts).under
            rw [hd1] at hus
            simp only at hus
            have hud := (hT dst ti hti).under
            rw [hd2] at hud
            simp only at hud
            have hue := (hT e te hte).under
            rw [hd3] at hue
            simp only at hue
            have hlen : ∀ z, z ∈ ys → z.length = 1 := fun z hz => by rw [isByte_eq (List.all_eq_true.1 h2 z hz)]; rfl
            have key : ∃ base cap news, a.eval x = .slice base ys.length cap ∧ Src P 1 ys.length w (a.eval x) news ∧ Elems (Sf w0.heap.size S st.rows g) w 1 news ys := by
              have hx := h.ev x
              unfold rowOf at hys
              split at hys
              · rename_i zs he
                rw [he] at hx
                cases hys
                unfold RelV at hx
                obtain ⟨news, hs, hel⟩ := src_sl P hx.2 (by decide) hlen
                have hx2 : RelC (Sf w0.heap.size S st.rows g) w (a.eval x) (.sl ys) := hx.2
                generalize a.eval x = v at hs hx2 ⊢
                cases hx2 with
                | emp ad c => exact ⟨ad, c, news, rfl, hs, hel⟩
                | sl b o c sz xs us hc hm hsz hS hr => exact ⟨_, _, news, rfl, hs, hel⟩
              · rename_i id he
                rw [he] at hx
                split at hys
                · rename_i e2 sz2 zs fl hf
                  cases hys
                  unfold RelV at hx
                  obtain ⟨_, e3, sz3, xs3, fl3, hf3, hu3⟩ := hx
                  rw [hf] at hf3
                  cases hf3
                  have hsz : sz2 = 1 ∨ ys = [] := by
                    rcases ys with _ | ⟨y, l⟩
                    · exact .inr rfl
                    · left
                      have q1 := (h.rows id _ hf).1 0 y (by simp)
                      rw [← q1]; exact hlen y (by simp)
                  rcases hsz with hsz | hsz
                  · subst hsz
                    obtain ⟨news, hs, hel⟩ := src_row P h hf (by decide)
                    rw [hu3]
                    cases hg : g id with
                    | none =>
                      rw [hg] at hs
                      obtain ⟨_, hrow⟩ := h.rows id _ hf
                      rcases hrow with ⟨_, hy⟩ | ⟨b, cap, cur, hg2, _⟩
                      · subst hy; exact ⟨none, 0, news, rfl, hs, hel⟩
                      · rw [hg] at hg2; cases hg2
                    | some p => rw [hg] at hs; exact ⟨_, _, news, rfl, hs, hel⟩
                  · subst hsz
                    rw [hu3]
                    cases hg : g id with
                    | none => exact ⟨none, 0, [], rfl, src_nil P 1 w none 0, fun i j x d hx => by simp at hx⟩
                    | some p => exact ⟨some ⟨p.1, 0, none⟩, p.2, [], rfl, src_nil P 1 w _ _, fun i j x d hx => by simp at hx⟩
                · cases hys
              · cases hys
            obtain ⟨base, cap, news, e1, hs, hel⟩ := key
            rw [e1] at hs
            refine ⟨.string (bytesS ys), ?_, rel_sstr _ _ _ _ _⟩
            rw [e1, ← bytes_run hs hel h2]
            simp [convert, run_underlying hus, run_underlying hud, run_underlying hue]
          · cases hb
        · cases hb
      · cases hb
    · cases hb
  · cases hb

theorem eff_sound {P : Program} {T : Tab} (hT : TabOk P T) (h : Rel S w0 N g st a w) (o : Oper) {c : Prop} {v : AV} {rows : List (Nat × ARow)} (he : effF T (o.dst.getD 0) o.op st = .ok c v rows) (hc : c) :
    ∃ u w' g', (execOp a.eval o).run P w = .ok (.value u) w' ∧ Rel S w0 N g' (st.add rows) a w' ∧ RelV (Sf w0.heap.size S (rows ++ st.rows) g') w' (rows ++ st.rows) g' u v := by
  obtain ⟨dst, op, ty, pos, after, guard⟩ := o
  simp only at he
  -- an operation that leaves memory as it is
  have plain : ∀ {s : Sem Value}, rows = [] → (execOp a.eval ⟨dst, op, ty, pos, after, guard⟩) = (do pure (.value (← s)) : Sem Next) → (∃ u, s.run P w = .ok u w ∧ RelV (Sf w0.heap.size S st.rows g) w st.rows g u v) →
      ∃ u w' g', (execOp a.eval ⟨dst, op, ty, pos, after, guard⟩).run P w = .ok (.value u) w' ∧ Rel S w0 N g' (st.add rows) a w' ∧ RelV (Sf w0.heap.size S (rows ++ st.rows) g') w' (rows ++ st.rows) g' u v := by
    intro s hr hex ⟨u, hu, hv⟩
    subst hr
    refine ⟨u, w, g, ?_, h, hv⟩
    rw [hex]
    simp [hu]
  have made : ∀ {s : Sem Value} {u : Value} {w' : World}, (execOp a.eval ⟨dst, op, ty, pos, after, guard⟩) = (do pure (.value (← s)) : Sem Next) → s.run P w = .ok u w' →
      (execOp a.eval ⟨dst, op, ty, pos, after, guard⟩).run P w = .ok (.value u) w' := by
    intro s u w' hex hs
    rw [hex]
    simp [hs]
  unfold effF at he
  split at he
  · rename_i x
    cases he
    exact plain (s := pure (a.eval x)) rfl (by simp [execOp]) ⟨_, rfl, h.ev x⟩
  · rename_i x
    cases he
    exact plain (s := pure (a.eval x)) rfl (by simp [execOp]) ⟨_, rfl, h.ev x⟩
  · rename_i x y z
    split at he
    · rename_i t hx
      cases he
      have hcx := h.ev x
      rw [hx] at hcx
      have hcx' := relV_sc hcx
      cases t
      · exact ⟨a.eval z, w, g, by simp [execOp, hcx', asBool], h, h.ev z⟩
      · exact ⟨a.eval y, w, g, by simp [execOp, hcx', asBool], h, h.ev y⟩
    · cases he
  · rename_i t
    split at he
    · rename_i ti ht
      cases he
      obtain ⟨u, w', h1, h2, h3⟩ := alloc_sound hT h t (dst.getD 0) ht hc
      refine ⟨u, w', _, ?_, h2, ?_⟩
      · simp only [execOp, Sem.run_bind, h1, Result.andThen_ok, Sem.run_pure]
      · unfold RelV
        exact ⟨by rw [h3]; rfl, _, _, updG_eq _ _ _, h3⟩
    · cases he
  · rename_i t x
    split at he
    · rename_i ti cs ht hx
      cases he
      obtain ⟨u, w', h1, h2, h3⟩ := box_sound (P := P) h t (dst.getD 0) x hx hc.2
      refine ⟨u, w', _, ?_, h2, ?_⟩
      · simp only [execOp, Sem.run_bind, h1, Result.andThen_ok, Sem.run_pure]
      · unfold RelV
        exact ⟨by rw [h3]; rfl, _, _, updG_eq _ _ _, h3⟩
    · cases he
  · rename_i t parts
    split at he
    · rename_i ti ht
      split at he
      · rename_i fs hd
        split at he
        · rename_i cs hb
          cases he
          exact plain rfl rfl (build_sound hT h t parts ht hd hb)
        · cases he
      · rename_i m e hd
        split at he
        · rename_i te hte
          split at he
          · rename_i cs hb
            cases he
            exact plain rfl rfl (build_arr_sound hT h t parts ht hd hte hb)
          · cases he
        · cases he
      · cases he
    · cases he
  · rename_i t n parts
    split at he
    · rename_i ti ht
      split at he
      · rename_i e hd
        split at he
        · rename_i te hte
          split at he
          · rename_i xs hb
            split at he
            · rename_i hfa
              cases he
              obtain ⟨u, w', h1, h2, h3, _⟩ := buildSlice_sound hT h t n (dst.getD 0) parts ht hd hte hb hc.1 hc.2.1 hc.2.2
              rw [hfa] at h2
              refine ⟨u, w', _, ?_, h2, ?_⟩
              · exact made rfl h1
              · unfold RelV
                exact ⟨by rw [h3]; rfl, _, _, _, _, find_set_eq, by rw [updG_eq]; exact h3⟩
            · rename_i hfa
              split at he
              · cases he
                obtain ⟨u, w', h1, h2, h3, h4⟩ := buildSlice_sound hT h t 0 (dst.getD 0) parts ht hd hte hb hc.1 (by omega) hc.2
                rw [hfa] at h2
                refine ⟨u, w', _, made rfl h1, h2, ?_⟩
                unfold RelV
                exact ⟨some ⟨w.heap.size, 0, none⟩, by rw [h3, h4]; rfl⟩
              · cases he
                obtain ⟨u, w', h1, h2, h3, _⟩ := buildSlice_sound hT h t _ (dst.getD 0) parts ht hd hte hb hc.1 hc.2.1 hc.2.2
                rw [hfa] at h2
                refine ⟨u, w', _, ?_, h2, ?_⟩
                · exact made rfl h1
                · unfold RelV
                  exact ⟨by rw [h3]; rfl, _, _, _, _, find_set_eq, by rw [updG_eq]; exact h3⟩
          · cases he
        · cases he
      · cases he
    · cases he
  · rename_i t l c
    split at he
    · rename_i ti kn n km m ht hl hcc
      split at he
      · rename_i e hd
        split at he
        · rename_i te hte
          cases he
          have hl' := h.ev l
          rw [hl] at hl'
          have hc' := h.ev c
          rw [hcc] at hc'
          obtain ⟨h1, h2, h3, h4, h5, h6⟩ := hc
          obtain ⟨u, w', h7, h8, h9⟩ := makeSlice_sound hT h t (dst.getD 0) ht hd hte kn km n m h1 h2 h3 h4 h5 h6
          refine ⟨u, w', _, ?_, h8, ?_⟩
          · simp only [execOp, relV_sc hl', relV_sc hc', Sem.run_bind, h7, Result.andThen_ok, Sem.run_pure]
          · unfold RelV
            exact ⟨by rw [h9]; rfl, _, _, _, _, find_set_eq, by rw [updG_eq]; exact h9⟩
        · cases he
      · cases he
    · cases he
  · rename_i t x
    split at he
    · rename_i v' hv'
      cases he
      exact plain rfl rfl (load_sound hT h t x hv')
    · cases he
  · rename_i t x f
    obtain ⟨hr, hx⟩ := fieldAddr_sound hT h t f x he hc
    exact plain hr rfl hx
  · rename_i t x f
    split at he
    · rename_i v' hv'
      cases he
      exact plain rfl rfl (field_sound hT h t f x hv')
    · cases he
  · rename_i t x i
    obtain ⟨hr, hx⟩ := indexAddr_sound hT h t x i he hc
    exact plain hr rfl hx
  · rename_i t x i
    obtain ⟨hr, hx⟩ := index_sound hT h t x i he hc
    exact plain hr rfl hx
  · rename_i op' t x y _
    obtain ⟨hr, hx⟩ := bin_sound hT h op' t x y he hc
    exact plain hr rfl hx
  · rename_i op' t x
    obtain ⟨hr, hx⟩ := un_sound (P := P) h op' x he hc
    exact plain hr rfl hx
  · rename_i x
    split at he
    · rename_i id off hx
      cases he
      have hxx := h.ev x
      rw [hx] at hxx
      have hxy := hxx
      unfold RelV at hxx
      obtain ⟨_, b, c', _, hu⟩ := hxx
      exact ⟨a.eval x, w, g, by simp [execOp, hu], h, hxy⟩
    · rename_i id i off hx
      cases he
      have hxx := h.ev x
      rw [hx] at hxx
      have hxy := hxx
      unfold RelV at hxx
      obtain ⟨_, b, c', e', sz', xs', fl', _, _, hu⟩ := hxx
      exact ⟨a.eval x, w, g, by simp [execOp, hu], h, hxy⟩
    · rename_i xs hx
      cases he
      have hxx := h.ev x
      rw [hx] at hxx
      have hxy := hxx
      unfold RelV at hxx
      obtain ⟨_, b, o', us, hu, _⟩ := hxx
      exact ⟨a.eval x, w, g, by simp [execOp, hu], h, hxy⟩
    · cases he
  · rename_i src dst' x
    split at he
    · rename_i c' b hb
      cases he
      exact plain rfl rfl (bytes_sound hT h src dst' x hb hc)
    · obtain ⟨hr, hx⟩ := conv_sound hT h src dst' x he hc
      exact plain hr rfl hx
  · rename_i t x lo hi mx
    split at he
    · rename_i lo' hi' mx' h1 h2 h3
      obtain ⟨hr, hx⟩ := slice_sound hT h t x lo hi mx h1 h2 h3 he hc
      exact plain hr rfl hx
    · cases he
  · rename_i x i
    split at he
    · rename_i xs hx
      split at he
      · rename_i v' hv'
        cases he
        have hxx := h.ev x
        rw [hx] at hxx
        unfold RelV at hxx
        obtain ⟨vs, hvs, hall⟩ := hxx
        have key : ∀ (i : Nat) (us : List Value) (ys : List AV) (z : AV), RelVL (Sf w0.heap.size S st.rows g) w st.rows g us ys → ys[i]? = some z → ∃ u, us[i]? = some u ∧ RelV (Sf w0.heap.size S st.rows g) w st.rows g u z := by
          intro i
          induction i with
          | zero =>
            intro us ys z hl hz
            cases ys with
            | nil => simp at hz
            | cons y ys => cases us with
              | nil => unfold RelVL at hl; exact hl.elim
              | cons u us => unfold RelVL at hl; simp at hz; subst hz; exact ⟨u, by simp, hl.1⟩
          | succ i ih =>
            intro us ys z hl hz
            cases ys with
            | nil => simp at hz
            | cons y ys => cases us with
              | nil => unfold RelVL at hl; exact hl.elim
              | cons u us => unfold RelVL at hl; obtain ⟨u', hu', hr⟩ := ih us ys z hl.2 (by simpa using hz); exact ⟨u', by simpa using hu', hr⟩
        obtain ⟨u, hu, hr⟩ := key i _ _ _ hall hv'
        refine plain rfl rfl ⟨u, ?_, hr⟩
        have : vs[i]? = some u := by simpa using hu
        simp [Instr.extract, hvs, this]
      · cases he
    · cases he
  · rename_i fn first captured
    split at he
    · rename_i f' c' h1 h2
      cases he
      refine plain rfl rfl ⟨.func fn (first.map a.eval) (captured.map a.eval), rfl, ?_⟩
      have e1 : first.map a.eval = f'.toArray := by apply Array.ext'; simpa using scalars_sound h h1
      have e2 : captured.map a.eval = c'.toArray := by apply Array.ext'; simpa using scalars_sound h h2
      rw [e1, e2]
      unfold RelV
      exact ⟨rfl, .sc _ rfl⟩
    · rename_i h1 h2
      split at he
      · rename_i f
        have e1 : first.map a.eval = #[] := by apply Array.ext'; simpa using scalars_sound h h1
        have e2 : captured.map a.eval = (captured.toList.map a.eval).toArray := by apply Array.ext'; simp
        split at he
        · rename_i xs h3
          cases he
          refine plain rfl rfl ⟨.func (.func f) (first.map a.eval) (captured.map a.eval), rfl, ?_⟩
          obtain ⟨h4, h5⟩ := dptrs_sound h h3
          rw [e1, e2]
          unfold RelV
          exact ⟨rfl, clo_of (by simpa using h4) h5⟩
        · split at he
          · rename_i pre id post h3
            cases he
            refine plain rfl rfl ⟨.func (.func f) (first.map a.eval) (captured.map a.eval), rfl, ?_⟩
            obtain ⟨b, c, vs, ws, h4, h5, h6, h7⟩ := caps_sound h h3
            rw [e1, e2, h5]
            unfold RelV
            exact ⟨rfl, b, c, vs, ws, h4, rfl, h6, h7⟩
          · cases he
      · cases he
    · cases he
  · rename_i c
    split at he
    · rename_i hcal
      split at he
      · rename_i x t hargs htys
        split at he
        · rename_i ti ht
          have hA : c.args = #[x] := by apply Array.ext'; simpa using hargs
          have hTy : c.argTypes = #[t] := by apply Array.ext'; simpa using htys
          have hex : (execOp a.eval ⟨dst, .call c, ty, pos, after, guard⟩) = (do pure (.value (← Builtin.len_ #[t] ty #[a.eval x])) : Sem Next) := by
            simp [execOp, resolve, hcal, hA, hTy, invoke, builtin]
          split at he
          · rename_i e hd
            obtain ⟨hr, hx⟩ := len_sound (P := P) hT h t ty ht hd x he hc
            exact plain hr hex hx
          · rename_i hd
            obtain ⟨hr, hx⟩ := lenS_sound (P := P) hT h t ty ht hd x he hc
            exact plain hr hex hx
          · cases he
        · cases he
      · cases he
    · rename_i hcal
      split at he
      · rename_i x y hargs
        split at he
        · rename_i k n1 k' n2 h1 h2
          cases he
          have hA : c.args = #[x, y] := by apply Array.ext'; simpa using hargs
          have hx := h.ev x
          rw [h1] at hx
          have hy := h.ev y
          rw [h2] at hy
          refine plain (s := Builtin.max_ c.argTypes ty #[a.eval x, a.eval y]) rfl (by simp [execOp, resolve, hcal, hA, invoke, builtin]) ⟨.int k (max n1 n2), ?_, rel_sint _ _ _ _ _ _⟩
          rw [relV_sc hx, relV_sc hy, run_max_int2]
          congr 2; omega
        · cases he
      · cases he
    · rename_i hcal
      split at he
      · rename_i x y hargs
        split at he
        · rename_i k n1 k' n2 h1 h2
          cases he
          have hA : c.args = #[x, y] := by apply Array.ext'; simpa using hargs
          have hx := h.ev x
          rw [h1] at hx
          have hy := h.ev y
          rw [h2] at hy
          refine plain (s := Builtin.min_ c.argTypes ty #[a.eval x, a.eval y]) rfl (by simp [execOp, resolve, hcal, hA, invoke, builtin]) ⟨.int k (min n1 n2), ?_, rel_sint _ _ _ _ _ _⟩
          rw [relV_sc hx, relV_sc hy, run_min_int2]
          congr 2; omega
        · cases he
      · cases he
    · rename_i hcal
      split at he
      · rename_i y t tx hargs htys
        split at he
        · rename_i ti tix ys ht htx hey
          split at he
          · rename_i e e2 hd hdx
            split at he
            · rename_i te hte
              cases he
              obtain ⟨h1, h2, h3, h4, h5⟩ := hc
              have hu := (hT t ti ht).under
              rw [hd] at hu
              simp only at hu
              have hux := (hT tx tix htx).under
              rw [hdx] at hux
              simp only at hux
              obtain ⟨i, z, hi, hs, hb, hz, hzc⟩ := (hT e te hte).info'
              have hzl : z.cells.size = te.size := by rw [← Array.length_toList, hzc, (hT e te hte).len]
              have hA : c.args = #[.const (.slice none 0 0), y] := by apply Array.ext'; simpa using hargs
              have hTy : c.argTypes = #[t, tx] := by apply Array.ext'; simpa using htys
              have hy := h.ev y
              rw [hey] at hy
              unfold RelV at hy
              obtain ⟨news, hsrc, hel⟩ := src_sl P hy.2 h4 h5
              have hm : st.nomen (dst.getD 0) := ⟨fun i x hx => find_free_tmp h1 hx, fun i r hr => (find_free_row h1 hr).2⟩
              obtain ⟨v', w', g', h6, h7, h8⟩ := h.app (P := P) (ty := ty) (fl := true) (v := .slice none 0 0) (xs := []) hm hu hux (.inl ⟨e2, rfl⟩) hi hz hs hzl h4 (.inl ⟨rfl, rfl⟩) hsrc hel h5 (by simpa using h2) (by rw [hb]; exact h3)
              refine ⟨v', w', g', ?_, h8, ?_⟩
              · refine made (s := Builtin.append_ #[t, tx] ty #[.slice none 0 0, a.eval y]) ?_ h6
                simp [execOp, resolve, hcal, hA, hTy, invoke, builtin, Act.eval]
              · unfold RelV
                refine ⟨?_, e, te.size, ys, true, find_set_eq, by simpa using h7⟩
                rw [h7]; unfold gsl; split <;> rfl
            · cases he
          · cases he
        · cases he
      · rename_i x y t tx _ hargs htys
        split at he
        · rename_i hex
          split at he
          · rename_i ti tix ys ht htx hey
            split at he
            · rename_i e e2 hd hdx
              split at he
              · rename_i te hte
                cases he
                obtain ⟨h1, h2, h3, h4, h5⟩ := hc
                have hu := (hT t ti ht).under
                rw [hd] at hu
                simp only at hu
                have hux := (hT tx tix htx).under
                rw [hdx] at hux
                simp only at hux
                obtain ⟨i, z, hi, hs, hb, hz, hzc⟩ := (hT e te hte).info'
                have hzl : z.cells.size = te.size := by rw [← Array.length_toList, hzc, (hT e te hte).len]
                have hA : c.args = #[x, y] := by apply Array.ext'; simpa using hargs
                have hTy : c.argTypes = #[t, tx] := by apply Array.ext'; simpa using htys
                have hx := h.ev x
                rw [hex] at hx
                unfold RelV at hx
                obtain ⟨p, hp⟩ := hx
                have hy := h.ev y
                rw [hey] at hy
                unfold RelV at hy
                obtain ⟨news, hsrc, hel⟩ := src_sl P hy.2 h4 h5
                have hm : st.nomen (dst.getD 0) := ⟨fun i x hx => find_free_tmp h1 hx, fun i r hr => (find_free_row h1 hr).2⟩
                obtain ⟨v', w', g', h6, h7, h8⟩ := h.appE (P := P) (ty := ty) (fl := true) hm hu hux (.inl ⟨e2, rfl⟩) hi hz hs hzl h4 p hsrc hel h5 h2 (by rw [hb]; exact h3)
                refine ⟨v', w', g', ?_, h8, ?_⟩
                · refine made (s := Builtin.append_ #[t, tx] ty #[.slice p 0 0, a.eval y]) ?_ h6
                  simp [execOp, resolve, hcal, hA, hTy, invoke, builtin, hp]
                · have hfz := row_frozen h8 (find_set_eq (id := dst.getD 0))
                  unfold RelV
                  rcases h7 with ⟨hys, h7⟩ | h7
                  · subst hys
                    rw [h7]
                    exact ⟨rfl, .emp _ _⟩
                  · rw [h7]
                    exact ⟨by unfold gsl; split <;> rfl, hfz⟩
              · cases he
            · cases he
          · cases he
        · cases he
      · cases he
    · cases he
  · cases he

end
end Go.Abs

set_option linter.unusedSimpArgs false
set_option linter.unusedVariables false
namespace Go.Abs
open Go.RowKit

section
variable {S : Nat → Nat → Prop} {w0 : World} {N : Fm} {g : Gh} {st : ASt} {a : Act} {w : World}

theorem src_sound (P : Program) (h : Rel S w0 N g st a w) (y : Operand) {ys : List (List DC)} (hs : srcOf st (st.ev y) = some ys) {sz : Nat} (hsz : 0 < sz) (hl : ∀ z, z ∈ ys → z.length = sz) :
    ∃ news, Src P sz ys.length w (a.eval y) news ∧ Elems (Sf w0.heap.size S st.rows g) w sz news ys := by
  have hy := h.ev y
  unfold srcOf at hs
  split at hs
  · rename_i zs he
    rw [he] at hy
    cases hs
    unfold RelV at hy
    exact src_sl P hy.2 hsz hl
  · rename_i he
    rw [he] at hy
    cases hs
    unfold RelV at hy
    have : a.eval y = .slice none 0 0 := hy.2
    rw [this]
    exact ⟨[], src_nil P sz w none 0, fun i j x d hx => by simp at hx⟩
  · rename_i ad cp he
    rw [he] at hy
    cases hs
    have : a.eval y = .slice ad 0 cp := relV_sc hy
    rw [this]
    exact ⟨[], src_nil P sz w ad cp, fun i j x d hx => by simp at hx⟩
  · rename_i id he
    rw [he] at hy
    split at hs
    · rename_i e' sz' zs fl hf
      cases hs
      unfold RelV at hy
      obtain ⟨_, e2, sz2, zs2, fl2, hf2, hu⟩ := hy
      rw [hf] at hf2
      cases hf2
      rw [hu]
      obtain ⟨hlx, _⟩ := h.rows id _ hf
      by_cases hz : ys = []
      · subst hz
        unfold gsl
        cases g id with
        | none => exact ⟨[], src_nil P sz w none 0, fun i j x d hx => by simp at hx⟩
        | some p => exact ⟨[], src_nil P sz w _ _, fun i j x d hx => by simp at hx⟩
      · obtain ⟨z, zs, rfl⟩ := List.exists_cons_of_ne_nil hz
        have e1 : sz' = sz := by rw [← hlx 0 z (by simp)]; exact hl z (by simp)
        subst e1
        exact src_row P h hf hsz
    · cases hs
  · cases hs

theorem srcT_sound (P : Program) {T : Tab} (hT : TabOk P T) (h : Rel S w0 N g st a w) {tx : Nat} {tix : TI} (htx : T tx = some tix) (y : Operand) {ys : List (List DC)} (hs : srcT tix.desc st (st.ev y) = some ys) :
    ∃ dx, P.underlying tx = some dx ∧ ((∃ e2, dx = .slice e2) ∨ dx = .string) ∧ ∀ {sz : Nat}, 0 < sz → (∀ z, z ∈ ys → z.length = sz) → ∃ news, Src P sz ys.length w (a.eval y) news ∧ Elems (Sf w0.heap.size S st.rows g) w sz news ys := by
  have hux := (hT tx tix htx).under
  unfold srcT at hs
  split at hs
  · rename_i e2 hd
    rw [hd] at hux
    exact ⟨_, hux, .inl ⟨e2, rfl⟩, fun h0 hl => src_sound P h y hs h0 hl⟩
  · rename_i hd
    rw [hd] at hux
    refine ⟨_, hux, .inr rfl, fun {sz} h0 hl => ?_⟩
    unfold srcStr at hs
    split at hs
    · rename_i s he
      cases hs
      have hy := h.ev y
      rw [he] at hy
      have hy' := relV_sc hy
      have hlen : (bytesD s.data.toList).length = s.size := by simp [bytesD]
      refine ⟨s.data.toList.map fun b => Value.int .u8 b.toNat, ⟨?_, fun w' _ => ?_, ?_, ?_⟩, ?_⟩
      · rw [hlen, hy']; rfl
      · rw [hlen, hy']
        simp only [Builtin.firstCells, Sem.run_pure]
        congr 1
        have : (s.extract 0 s.size).data = s.data := by rw [show s.extract 0 s.size = s from ByteArray.extract_zero_size]
        rw [this]
        apply Array.ext'
        simp
      · rw [hlen]
        by_cases hz : s.data.toList = []
        · have : s.size = 0 := by rw [← hlen, hz]; rfl
          simp [hz, this]
        · obtain ⟨c, l, hc⟩ := List.exists_cons_of_ne_nil hz
          have : sz = 1 := by
            have := hl [.sc (.int .u8 c.toNat)] (by simp [bytesD, hc])
            simpa using this.symm
          subst this
          simp
      · intro u hu
        obtain ⟨c, _, rfl⟩ := List.mem_map.1 hu
        rfl
      · intro i j x d hx hd
        simp only [bytesD, List.getElem?_map] at hx
        obtain ⟨c, hc, rfl⟩ := Option.map_eq_some_iff.1 hx
        cases j with
        | zero =>
          simp at hd
          subst hd
          have : sz = 1 := by
            have := hl [.sc (.int .u8 c.toNat)] (List.mem_map.2 ⟨c, List.mem_of_getElem? hc, rfl⟩)
            simpa using this.symm
          subst this
          exact ⟨.int .u8 c.toNat, by simp [hc], .sc _ rfl⟩
        | succ j => simp at hd
    · cases hs
  · cases hs

theorem app_sound {P : Program} {T : Tab} (hT : TabOk P T) (h : Rel S w0 N g st a w) (d t tx ty : Nat) (x y : Operand) {c : Prop} {v : AV} {st' : ASt} (hv : appF T d t tx st (st.ev y) (st.ev x) = some (c, v, st')) (hc : c) :
    ∃ u w' g', (Builtin.append_ #[t, tx] ty #[a.eval x, a.eval y]).run P w = .ok u w' ∧ Rel S w0 N g' st' a w' ∧ RelV (Sf w0.heap.size S st'.rows g') w' st'.rows g' u v := by
  have hx := h.ev x
  unfold appF at hv
  split at hv
  · rename_i ti tix ht htx
    split at hv
    · rename_i e hd
      have hu := (hT t ti ht).under
      rw [hd] at hu
      simp only at hu
      split at hv
      · rename_i te hte
        obtain ⟨i, z, hi, hs, hb, hz, hzc⟩ := (hT e te hte).info'
        have hzl : z.cells.size = te.size := by rw [← Array.length_toList, hzc, (hT e te hte).len]
        split at hv
        · rename_i ys hys
          obtain ⟨dx, hux, hdx, hsrcs⟩ := srcT_sound P hT h htx y hys
          split at hv
          · rename_i he
            rw [he] at hx
            cases hv
            obtain ⟨h1, h2, h3, h4, h5⟩ := hc
            obtain ⟨news, hsrc, hel⟩ := hsrcs h4 h5
            unfold RelV at hx
            have hxn : a.eval x = .slice none 0 0 := hx.2
            have hm : st.nomen d := ⟨fun i x hx => find_free_tmp h1 hx, fun i r hr => (find_free_row h1 hr).2⟩
            obtain ⟨v', w', g', h6, h7, h8⟩ := h.app (P := P) (ty := ty) (fl := false) (v := a.eval x) (xs := []) hm hu hux hdx hi hz hs hzl h4 (.inl ⟨hxn, rfl⟩) hsrc hel h5 (by simpa using h2) (by rw [hb]; exact h3)
            refine ⟨v', w', g', h6, h8, ?_⟩
            unfold RelV
            refine ⟨?_, e, te.size, ys, false, find_set_eq, by simpa using h7⟩
            rw [h7]; unfold gsl; split <;> rfl
          · rename_i id he
            rw [he] at hx
            split at hv
            · rename_i e' sz xs fl hf
              cases hv
              obtain ⟨h1, h2, h3, h4, h5, h6⟩ := hc
              subst h1; subst h2
              obtain ⟨news, hsrc, hel⟩ := hsrcs h5 h6
              have hk := h.kill id
              have hfk : find (st.kill id).rows id = some (.arr e' te.size xs fl) := by simp [ASt.kill, find_mapV, hf, ARow.kill]
              unfold RelV at hx
              obtain ⟨_, e3, sz3, xs3, fl3, hf3, hu3⟩ := hx
              rw [hf] at hf3
              cases hf3
              have hsafe : ∀ b o, Sf w0.heap.size S st.rows g b o → Sf w0.heap.size S (st.kill id).rows g b o := by
                intro b o hso
                rcases hso with hso | ⟨q1, q2⟩
                · exact .inl hso
                · refine .inr ⟨q1, fun i r c hr hg => ?_⟩
                  simp only [ASt.kill, find_mapV] at hr
                  obtain ⟨r0, hr0, rfl⟩ := Option.map_eq_some_iff.1 hr
                  have := q2 i r0 c hr0 hg
                  cases r0 <;> exact this
              have helk : Elems (Sf w0.heap.size S (st.kill id).rows g) w te.size news ys := fun i j x d hx hd => by
                obtain ⟨u, hu, hr⟩ := hel i j x d hx hd
                exact ⟨u, hu, hr.sub hsafe⟩
              have hvv : (a.eval x = .slice none 0 0 ∧ xs = []) ∨ ∃ b cap, a.eval x = .slice (some ⟨b, 0, none⟩) xs.length cap ∧ g id = some (b, cap) ∧ find (st.kill id).rows id = some (.arr e' te.size xs fl) := by
                obtain ⟨_, hrow⟩ := h.rows id _ hf
                rcases hrow with ⟨q1, q2⟩ | ⟨b, cap, cur, q1, _⟩
                · left; rw [hu3, q1]; exact ⟨by simp [gsl, q2], q2⟩
                · right; exact ⟨b, cap, by rw [hu3, q1]; simp [gsl], q1, hfk⟩
              obtain ⟨v', w', g', h7, h8, h9⟩ := hk.app (P := P) (ty := ty) (kill_nomen st id) hu hux hdx hi hz hs hzl h5 hvv hsrc helk h6 h3 (by rw [hb]; exact h4)
              refine ⟨v', w', g', h7, h9, ?_⟩
              unfold RelV
              refine ⟨?_, e', te.size, _, fl, find_set_eq, h8⟩
              rw [h8]; unfold gsl; split <;> rfl
            · cases hv
          · cases hv
        · cases hv
      · cases hv
    · cases hv
  · cases hv

/-- The same rows, told another way. -/
theorem Rel.again (h : Rel S w0 N g st a w) {rows' : List (Nat × ARow)} (he : ∀ i, find rows' i = find st.rows i) : Rel S w0 N g ⟨st.tmps, rows'⟩ a w := by
  have hF : ∀ b o, Sf w0.heap.size S st.rows g b o → Sf w0.heap.size S rows' g b o := by
    intro b o hs
    rcases hs with hs | ⟨q1, q2⟩
    · exact .inl hs
    · exact .inr ⟨q1, fun id r c hf hg => q2 id r c ((he id).symm.trans hf) hg⟩
  have hc : ∀ b o, Sf w0.heap.size S st.rows g b o → b < w.heap.size → Sf w0.heap.size S rows' g b o ∧ cl w b o = cl w b o := fun b o hs _ => ⟨hF b o hs, rfl⟩
  refine ⟨h.below, h.size, h.calm, h.good, h.defers, fun id r b c hf hg => h.blk id r b c ((he id).symm.trans hf) hg, fun id id' r r' b c c' hf hf' hg hg' => h.inj id id' r r' b c c' ((he id).symm.trans hf) ((he id').symm.trans hf') hg hg', fun id r hf => ?_, fun i x hx => ?_⟩
  · exact (h.rows id r ((he id).symm.trans hf)).carry hc rfl (fun _ _ _ => rfl) (NonC.refl _) fun id2 hm => ⟨rfl, fun e sz xs fl hf2 => ⟨xs, fl, (he id2).trans hf2, rfl⟩⟩
  · obtain ⟨v, hv, hr⟩ := h.tmps i x hx
    exact ⟨v, hv, hr.carry hc fun id2 hm => ⟨rfl, fun e sz xs fl hf2 => ⟨xs, fl, (he id2).trans hf2, rfl⟩⟩⟩

theorem copy_sound {P : Program} {T : Tab} (hT : TabOk P T) (h : Rel S w0 N g st a w) (t tx ty : Nat) (x y : Operand) {c : Prop} {v : AV} {st' : ASt} (hv : copyF T t st (st.ev y) (st.ev x) = some (c, v, st')) (hc : c) :
    ∃ u w', (Builtin.copy_ #[t, tx] ty #[a.eval x, a.eval y]).run P w = .ok u w' ∧ Rel S w0 N g st' a w' ∧ RelV (Sf w0.heap.size S st'.rows g) w' st'.rows g u v := by
  have hx := h.ev x
  unfold copyF at hv
  split at hv
  · rename_i ti ht
    split at hv
    · rename_i e hd
      have hu := (hT t ti ht).under
      rw [hd] at hu
      simp only at hu
      split at hv
      · rename_i te hte
        obtain ⟨i, z, hi, hs, hb, hz, hzc⟩ := (hT e te hte).info'
        split at hv
        · rename_i ys hys
          split at hv
          · rename_i id he
            rw [he] at hx
            split at hv
            · rename_i e' sz xs hf
              cases hv
              obtain ⟨h1, h2, h3, h4, h5⟩ := hc
              subst h1; subst h2
              obtain ⟨news, hsrc, hel⟩ := src_sound P h y hys h3 h5
              unfold RelV at hx
              obtain ⟨_, e3, sz3, xs3, fl3, hf3, hu3⟩ := hx
              rw [hf] at hf3
              cases hf3
              obtain ⟨hlx, hrow⟩ := h.rows id _ hf
              have hly : ∀ (i' : Nat) (x : List DC), ys[i']? = some x → x.length = te.size := fun i' x hx => h5 x (List.mem_of_getElem? hx)
              rcases hrow with ⟨q1, q2⟩ | ⟨b, cap, cur, q1, q2, q3, q4, q5, q6⟩
              · subst q2
                have hy0 : ys = [] := List.eq_nil_of_length_eq_zero (by simpa using h4)
                subst hy0
                have hnews : news = [] := List.eq_nil_of_length_eq_zero (by simpa using hsrc.size)
                refine ⟨goInt 0, w, ?_, ?_, rel_sint _ _ _ _ _ _⟩
                · have hcl := hsrc.cells w rfl
                  have hl := hsrc.len
                  simp only [List.length_nil] at hcl hl
                  rw [hu3, q1]
                  simp [Builtin.copy_, run_underlying hu, gsl, sizeOf, typeInfo, hi, hs, hl, hcl, hnews]
                · exact h.again (fun i => by
                    by_cases hi : i = id
                    · subst hi; rw [find_set_eq, hf]
                    · rw [find_set_ne hi])
              · have hfit : 0 + 0 + news.length ≤ cur.size := by
                  rw [hsrc.size, h4, q5]
                  have := Nat.mul_le_mul_right te.size q3
                  omega
                have hrun := run_storeCells_at P b 0 e' news 0 cur w q2 hfit hsrc.one
                simp only [Nat.zero_add, List.take_zero, List.nil_append] at hrun
                refine ⟨goInt xs.length, w.setRow b (news ++ List.drop news.length cur.toList).toArray, ?_, ?_, rel_sint _ _ _ _ _ _⟩
                · have hcl := hsrc.cells w rfl
                  have hl := hsrc.len
                  rw [hu3, q1]
                  simp only [gsl]
                  rw [h4] at hl hcl
                  simp [Builtin.copy_, run_underlying hu, sizeOf, typeInfo, hi, hs, hl, hcl, hrun]
                · refine h.store hf q1 (fun o hs => by simp [ARow.safe] at hs) (fun e2 sz2 xs2 fl2 he2 => ?_) ⟨cur, q2⟩ (fun F' w' rows' hcy hky hb' => ?_)
                  · cases he2; exact ⟨ys, false, rfl, h4⟩
                  · refine ⟨hly, .inr ⟨b, cap, _, q1, hb', by omega, q4, ?_, fun i' j x d hx hd => ?_⟩⟩
                    · simp only [List.size_toArray, List.length_append, List.length_drop, Array.length_toList]
                      omega
                    · obtain ⟨u, hu', hr⟩ := hel i' j x d hx hd
                      refine ⟨u, ?_, hr.mono hcy⟩
                      have hlt := (List.getElem?_eq_some_iff.1 hu').1
                      simp only [List.getElem?_toArray]
                      rw [List.getElem?_append_left hlt]
                      exact hu'
            · cases hv
          · cases hv
        · cases hv
      · cases hv
    · cases hv
  · cases hv

theorem nodupK_uniq : ∀ {l : List (Nat × ARow)}, nodupK l = true → ∀ id r, (id, r) ∈ l → find l id = some r
  | [], _, id, r, hm => by simp at hm
  | (k, v) :: l, h, id, r, hm => by
    simp only [nodupK, Bool.and_eq_true] at h
    simp only [List.mem_cons, Prod.mk.injEq] at hm
    rcases hm with ⟨rfl, rfl⟩ | hm
    · exact find_set_eq
    · have := nodupK_uniq h.2 id r hm
      by_cases hk : id = k
      · subst hk
        rw [this] at h; simp at h
      · rw [find_set_ne hk]; exact this

theorem find_okIds {l : List (Nat × ARow)} (h : l.all (fun p => st.free p.1) = true) {id : Nat} {r : ARow} (hf : find l id = some r) : st.free id = true :=
  List.all_eq_true.1 h _ (find_mem hf)

/-- A fence that lets everything in, for an activation of a function or for a round. -/
def Fr (ro : Option Nat) : Fence := { fn := fun _ => True, depth := none, alive := false, round := ro }
theorem callsIn_fr {ro : Option Nat} {n : Nat} {P : Program} {f : FuncId} {args : Array Value} {w : World} {R : Ending → World → Prop} (h : Calls P f args w R) : CallsIn (Fr ro) n P f args w R :=
  (callsIn_wide (n := n)).2 h
theorem wpIn_op {ro : Option Nat} {P : Program} {o : Oper} {a : Act} {w : World} {next : Act → World → Prop} {Q : Exit → Act → World → Prop} (hd : ∀ c, o.op ≠ .defer c) {r : Result Next} (hr : (execOp a.eval o).run P w = r)
    (h : o.uponIn (Fr ro) 0 P a next Q r) : o.wpIn (Fr ro) 0 P a w next Q := by
  refine ⟨fun _ _ => trivial, ?_⟩
  rw [Oper.semAt_eq _ _ _ hd, hr]
  exact h

/-- What a call of a function value hands over. -/
theorem call_args (h : Rel S w0 N g st a w) (o : Oper) {f : Nat} {xs : List AV} (hcall : callOf st o.op = some (f, xs)) :
    (∀ c, o.op ≠ .defer c) ∧ ∃ args : List Value, execOp a.eval o = callFunc f args.toArray ∧ All2 (RelV (Sf w0.heap.size S st.rows g) w st.rows g) args xs := by
  unfold callOf at hcall
  split at hcall
  · rename_i c' hop
    split at hcall
    · rename_i x hcal
      refine ⟨by simp [hop], ?_⟩
      have hevs : ∀ (l : List Operand), All2 (RelV (Sf w0.heap.size S st.rows g) w st.rows g) (l.map a.eval) (l.map st.ev) := by
        intro l
        induction l with
        | nil => exact .nil
        | cons x l ih => exact .cons (h.ev x) ih
      split at hcall
      · rename_i f' first cap hx
        split at hcall
        · rename_i hone
          cases hcall
          have hxv := h.ev x
          rw [hx] at hxv
          have hxe := relV_sc hxv
          have hscs : ∀ (l : List Value), (∀ v ∈ l, v.oneCell' = true) → All2 (RelV (Sf w0.heap.size S st.rows g) w st.rows g) l (l.map scAV) := by
            intro l hl
            refine All2.map_r ?_
            induction l with
            | nil => exact .nil
            | cons v l ih => exact .cons (by unfold scAV RelV; exact ⟨hl v (by simp), .sc _ (hl v (by simp))⟩) (ih fun u hu => hl u (List.mem_cons_of_mem _ hu))
          rw [List.all_append, Bool.and_eq_true, List.all_eq_true, List.all_eq_true] at hone
          refine ⟨first.toList ++ c'.args.toList.map a.eval ++ cap.toList, ?_, ((hscs _ hone.1).app (hevs c'.args.toList)).app (hscs _ hone.2)⟩
          have harr : (first.toList ++ c'.args.toList.map a.eval ++ cap.toList).toArray = (first ++ c'.args.map a.eval) ++ cap := by
            apply Array.ext'; simp
          rw [harr]
          simp [execOp, hop, resolve, hcal, hxe, Deferred.ofValue, invoke]
        · cases hcall
      · rename_i f' xs' hx
        cases hcall
        have hxv := h.ev x
        rw [hx] at hxv
        unfold RelV at hxv
        obtain ⟨cs, hcs, hall⟩ := clo_inv (rows := st.rows) (g := g) hxv.2
        refine ⟨c'.args.toList.map a.eval ++ cs, ?_, (hevs c'.args.toList).app (All2.map_r (hall.mono fun v y hv => by unfold RelV; exact hv))⟩
        have harr : (c'.args.toList.map a.eval ++ cs).toArray = (#[] ++ c'.args.map a.eval) ++ cs.toArray := by
          apply Array.ext'; simp
        rw [harr]
        simp [execOp, hop, resolve, hcal, hcs, Deferred.ofValue, invoke]
      · rename_i f' hx
        cases hcall
        have hxv := h.ev x
        rw [hx] at hxv
        unfold RelV at hxv
        generalize hu : a.eval x = u at hxv
        obtain ⟨_, hxv⟩ := hxv
        cases hxv with
        | rc _ b o hS hc =>
          refine ⟨c'.args.toList.map a.eval ++ [.pointer (some ⟨b, o, none⟩)], ?_, (hevs c'.args.toList).app (.cons ?_ .nil)⟩
          · have harr : (c'.args.toList.map a.eval ++ [Value.pointer (some ⟨b, o, none⟩)]).toArray = (#[] ++ c'.args.map a.eval) ++ #[Value.pointer (some ⟨b, o, none⟩)] := by
              apply Array.ext'; simp
            rw [harr]
            simp [execOp, hop, resolve, hcal, hu, Deferred.ofValue, invoke]
          · unfold RelV
            refine ⟨rfl, b, o, fun _ => .func (.func f) #[] #[.pointer (some ⟨b, o, none⟩)], rfl, fun j d hd => ?_⟩
            cases j with
            | zero => simp at hd; subst hd; exact ⟨hS, hc, .rc f b o hS hc⟩
            | succ j => simp at hd
      · rename_i f' pre id post hx
        cases hcall
        have hxv := h.ev x
        rw [hx] at hxv
        unfold RelV at hxv
        obtain ⟨_, b, c2, vs, ws, hg, hcs, h3, h4⟩ := hxv
        have hp : ∀ {vs : List Value} {pre : List (List DC)}, All2 (DPtr (Sf w0.heap.size S st.rows g) w) vs pre → All2 (RelV (Sf w0.heap.size S st.rows g) w st.rows g) vs (pre.map fun x => .c (.dptr x)) := by
          intro vs pre h
          exact All2.map_r (h.mono fun v y hv => by
            unfold RelV
            refine ⟨?_, hv⟩
            obtain ⟨b, o, us, h1, _⟩ := hv
            rw [h1]; rfl)
        refine ⟨c'.args.toList.map a.eval ++ (vs ++ .pointer (some ⟨b, 0, none⟩) :: ws), ?_, (hevs c'.args.toList).app ((hp h3).app (.cons (by unfold RelV; exact ⟨rfl, b, c2, hg, rfl⟩) (hp h4)))⟩
        have harr : (c'.args.toList.map a.eval ++ (vs ++ Value.pointer (some ⟨b, 0, none⟩) :: ws)).toArray = (#[] ++ c'.args.map a.eval) ++ (vs ++ Value.pointer (some ⟨b, 0, none⟩) :: ws).toArray := by
          apply Array.ext'; simp
        rw [harr]
        simp [execOp, hop, resolve, hcal, hcs, Deferred.ofValue, invoke]
      · cases hcall
    · cases hcall
  · cases hcall

theorem step_sound {m : Bool} (hm : m = true → N.calm = true) {ro : Option Nat} {P : Program} {T : Tab} (hT : TabOk P T) (h : Rel S w0 N g st a w) (o : Oper) (hd : ∀ i, o.dst = some i → i < N.n) {K : ASt → Prop} (hK : stepA m P T o K st) {Q : Exit → Act → World → Prop} :
    o.wpIn (Fr ro) 0 P a w (fun a' w' => ∃ g' st', Rel S w0 N g' st' a' w' ∧ K st') Q := by
  unfold stepA at hK
  split at hK
  · rename_i c v s' hw
    obtain ⟨hc, hK⟩ := hK
    unfold wF at hw
    split at hw
    · rename_i t x y hop
      split at hw
      · rename_i c' s2 hst
        cases hw
        obtain ⟨w', h1, h2⟩ := store_sound (P := P) hT h t x y hst hc
        have hrun : (execOp a.eval o).run P w = .ok .skip w' := by
          simp [execOp, hop, h1]
        refine wpIn_op (by simp [hop]) hrun ?_
        rw [Oper.uponIn_skip]
        refine ⟨g, _, h2.put' hd ?_, hK⟩
        unfold RelV
        exact ⟨#[], rfl, by unfold RelVL; trivial⟩
      · cases hw
    · rename_i t x hop
      split at hw
      · rename_i ti str ht hx
        split at hw
        · rename_i hdesc
          cases hw
          have hu := (hT t ti ht).under
          rw [hdesc] at hu
          simp only at hu
          have hxe : a.eval x = .string str := by have := h.ev x; rw [hx] at this; exact relV_sc this
          have hrun : (execOp a.eval o).run P w = .ok (.value (.pointer (some ⟨w.heap.size, 0, none⟩))) (w.alloc (.stringIter str 0)) := by
            have h1 : (Instr.range t (.string str)).run P w = .ok (.pointer (some ⟨w.heap.size, 0, none⟩)) (w.alloc (.stringIter str 0)) := by
              simp only [Instr.range, Sem.run_bind]
              simp [underlying, hu]
            simp [execOp, hop, hxe, h1]
          refine wpIn_op (by simp [hop]) hrun ?_
          rw [Oper.uponIn_value]
          obtain ⟨d, hdd⟩ : ∃ d, d = o.dst.getD 0 := ⟨_, rfl⟩
          rw [← hdd] at hc hK
          have hnews := (h.news (w' := w.alloc (.stringIter str 0)) (Below.alloc (Below.refl _ _) (Nat.le_refl _) _) (ns := [(d, .iter str 0)]) (gN := fun _ => some (w.heap.size, 0)) (g' := updG g d (some (w.heap.size, 0)))
            (fun id => by by_cases hid : id = d <;> simp [find, updG, hid]) (fun id r hf => by simp only [find] at hf; split at hf; (rename_i e; subst e; exact hc); cases hf)
            (fun id r b c hf hg => by cases hg; exact ⟨Nat.le_refl _, by simp⟩)
            (fun id id' r r' b c c' hf hf' _ _ => by simp only [find] at hf hf'; split at hf; (split at hf'; (rename_i e e'; rw [e, e']); cases hf'); cases hf)
            (fun id r hf => by
              simp only [find] at hf
              split at hf
              · rename_i e; cases hf; subst e
                exact ⟨_, _, updG_eq _ _ _, heap_alloc_new w _⟩
              · cases hf)).2
          refine ⟨_, _, hnews.put' hd ?_, hK⟩
          unfold RelV
          exact ⟨rfl, _, _, updG_eq _ _ _, rfl⟩
        · cases hw
      · cases hw
    · rename_i x hop
      split at hw
      · rename_i id hx
        split at hw
        · rename_i str pos hf
          have hxv := h.ev x
          rw [hx] at hxv
          unfold RelV at hxv
          obtain ⟨_, b, cp, hgid, hxe⟩ := hxv
          obtain ⟨b', c', hg', hh⟩ := h.rows id _ hf
          rw [hgid] at hg'; cases hg'
          have hlt := (Array.getElem?_eq_some_iff.1 hh).1
          split at hw
          · rename_i hps
            cases hw
            have hrun : (execOp a.eval o).run P w = .ok (.value (.tuple #[.bool true, .int .i64 pos, .int .i32 (Utf8.decode str pos).1])) (w.putObj b (.stringIter str (pos + (Utf8.decode str pos).2))) := by
              have h1 : ∀ ty, (Instr.next (.pointer (some ⟨b, 0, none⟩)) true ty).run P w = .ok (.tuple #[.bool true, .int .i64 pos, .int .i32 (Utf8.decode str pos).1]) (w.putObj b (.stringIter str (pos + (Utf8.decode str pos).2))) := fun ty => by
                simp only [Instr.next, getObj, setObj, Sem.run_bind, Sem.run, hh, Result.andThen, hps, if_true]
                simp [goInt, Sem.run, hh, World.putObj]
              simp [execOp, hop, hxe, h1]
            refine wpIn_op (by simp [hop]) hrun ?_
            rw [Oper.uponIn_value]
            refine ⟨g, _, (h.goOn (pos' := pos + (Utf8.decode str pos).2) hf hgid).put' hd ?_, hK⟩
            unfold RelV
            refine ⟨_, rfl, ?_⟩
            refine ⟨?_, ?_, ?_, trivial⟩ <;> unfold RelV <;> exact ⟨rfl, .sc _ rfl⟩
          · rename_i hps
            cases hw
            have hrun : (execOp a.eval o).run P w = .ok (.value (.tuple #[.bool false])) w := by
              have h1 : ∀ ty, (Instr.next (.pointer (some ⟨b, 0, none⟩)) true ty).run P w = .ok (.tuple #[.bool false]) w := fun ty => by
                simp [Instr.next, getObj, Sem.run, hh, hps]
              simp [execOp, hop, hxe, h1]
            refine wpIn_op (by simp [hop]) hrun ?_
            rw [Oper.uponIn_value]
            refine ⟨g, _, h.put' hd ?_, hK⟩
            unfold RelV
            refine ⟨_, rfl, ?_⟩
            refine ⟨?_, trivial⟩
            unfold RelV; exact ⟨rfl, .sc _ rfl⟩
        · cases hw
      · cases hw
    · rename_i c' hop
      split at hw
      · rename_i hcal
        split at hw
        · cases hw
        · rename_i x y t tx hne hargs htys
          have hA : c'.args = #[x, y] := by apply Array.ext'; simpa using hargs
          have hTy : c'.argTypes = #[t, tx] := by apply Array.ext'; simpa using htys
          obtain ⟨u, w', g', h1, h2, h3⟩ := app_sound (P := P) hT h (o.dst.getD 0) t tx o.type x y hw hc
          have hrun : (execOp a.eval o).run P w = .ok (.value u) w' := by
            simp [execOp, hop, resolve, hcal, hA, hTy, invoke, builtin, h1]
          refine wpIn_op (by simp [hop]) hrun ?_
          rw [Oper.uponIn_value]
          exact ⟨g', _, h2.put' hd h3, hK⟩
        · cases hw
      · rename_i hcal
        split at hw
        · rename_i x y t tx hargs htys
          have hA : c'.args = #[x, y] := by apply Array.ext'; simpa using hargs
          have hTy : c'.argTypes = #[t, tx] := by apply Array.ext'; simpa using htys
          obtain ⟨u, w', h1, h2, h3⟩ := copy_sound (P := P) hT h t tx o.type x y hw hc
          have hrun : (execOp a.eval o).run P w = .ok (.value u) w' := by
            simp [execOp, hop, resolve, hcal, hA, hTy, invoke, builtin, h1]
          refine wpIn_op (by simp [hop]) hrun ?_
          rw [Oper.uponIn_value]
          exact ⟨g, _, h2.put' hd h3, hK⟩
        · cases hw
      · cases hw
    · cases hw
  · split at hK
    · rename_i f xs hcall
      obtain ⟨hnd0, args, hexec, hall⟩ := call_args h o hcall
      split at hK
      · rename_i dvs hdvs
        obtain ⟨r, hpure, hcall2⟩ := hK
        obtain ⟨hlent, ⟨hfree, hnd⟩, hK⟩ := hcall2
        have hdv := dvs_sound' (lent := true) h hall hdvs
        -- the safe places that the call is told of
        have key : ∃ F0 : Nat → Nat → Prop, TabGood F0 w ∧ All2 (RelDV F0 w) args dvs ∧ (r.flat = true ∨ ∀ b o, F0 b o → Sf w0.heap.size S st.rows g b o) := by
          rcases hlent with hl | hl
          · obtain ⟨dvs', hdvs'⟩ := Option.isSome_iff_exists.1 hl
            have := dvsOf_lent hdvs'
            rw [hdvs] at this
            cases this
            exact ⟨_, h.goodW.sub fun _ _ hb => .inr hb, dvs_sound' (lent := false) h hall hdvs', .inr fun b o hb => by simpa using hb⟩
          · exact ⟨_, h.goodW.sub fun _ _ hb => .inr hb, hdv, .inl hl⟩
        obtain ⟨F0, hgood, hdv0, hF0⟩ := key
        have hcf := hpure F0 w _ hgood hdv0
        have fin : ∀ e w', Post F0 w r e w' → ∃ v, e = .returned v ∧ ∃ g' st', Rel S w0 N g' st' (a.put o.dst v) w' ∧ K st' := by
          intro e w' hpost
          obtain ⟨v, fb, rfl, hb, hblk, hinj, hrr⟩ := hpost
          obtain ⟨g', h1, h2⟩ := h.call hF0 hb hblk hinj hrr (fun id r' hf => find_okIds hfree hf) (fun id r' hm => nodupK_uniq hnd id r' hm)
          exact ⟨v, rfl, g', _, h1.put' hd h2, hK⟩
        rcases hcf with ⟨hrun, hcalls⟩ | ⟨v, w', hrun, hpost⟩
        · refine wpIn_op hnd0 (hexec ▸ hrun) ?_
          rw [Oper.uponIn_enter]
          refine ⟨fun hx => by simp [Fr] at hx, callsIn_fr (hcalls.mono fun e w' hpost => ?_)⟩
          obtain ⟨v, rfl, hfin⟩ := fin e w' hpost
          exact hfin
        · refine wpIn_op hnd0 (hexec ▸ hrun) ?_
          rw [Oper.uponIn_value]
          obtain ⟨v', he, hfin⟩ := fin _ w' hpost
          cases he
          exact hfin
      · split at hK
        · obtain ⟨s', v, hmeth, hK⟩ := hK
          rcases hmeth S w0 N g a w (hm rfl) h args hall with ⟨hrun, hcalls⟩ | ⟨u, w', hrun, u', g', he, h1, h2⟩
          · refine wpIn_op hnd0 (hexec ▸ hrun) ?_
            rw [Oper.uponIn_enter]
            refine ⟨fun hx => by simp [Fr] at hx, callsIn_fr (hcalls.mono fun e w' hpost => ?_)⟩
            obtain ⟨u, g', rfl, h1, h2⟩ := hpost
            exact ⟨g', _, h1.put' hd h2, hK⟩
          · cases he
            refine wpIn_op hnd0 (hexec ▸ hrun) ?_
            rw [Oper.uponIn_value]
            exact ⟨g', _, h1.put' hd h2, hK⟩
        · exact hK.elim
    · split at hK
      · rename_i c v rows he
        obtain ⟨hc, hK⟩ := hK
        obtain ⟨u, w', g', h1, h2, h3⟩ := eff_sound (P := P) hT h o he hc
        refine wpIn_op (fun c' hc' => ?_) h1 ?_
        · rw [hc'] at he; simp [effF] at he
        · rw [Oper.uponIn_value]
          exact ⟨g', _, h2.put' hd h3, hK⟩
      · exact hK.elim

end
end Go.Abs

