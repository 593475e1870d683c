/-
  A calculus for walking Go functions whose slices are read as lists: abstract cells, their relation to memory, and how that relation is carried over a change of memory.
-/
import Derived.WalkKit
import Derived.RangeFuncOwn
import Derived.Test.YtncglcfhbhbaoaaAbsGood
namespace Go.Abs
open Go.RowKit

/-- A cell of pure data: a scalar, a slice whose elements are rows of cells, or a function that has captured pointers to data. -/
inductive DC where
  | sc (v : Value)
  | sl (xs : List (List DC))
  | clo (f : Nat) (xs : List (List DC))
  | rc (f : Nat)

/-- A cell as a frame sees it. -/
inductive AC where
  | d (x : DC)
  | nil
  | row (id : Nat)
  | ptr (id off : Nat)
  | eptr (id i off : Nat)
  | dptr (xs : List DC)
  | pclo (f : Nat) (pre : List (List DC)) (id : Nat) (post : List (List DC))
  | dead

/-- A value in a slot. -/
inductive AV where
  | c (x : AC)
  | agg (xs : List AC)
  | tup (xs : List AV)
  | any

/-- A row of memory that the call itself has made. -/
inductive ARow where
  | box (T : Nat) (cs : List AC)
  | arr (e sz : Nat) (xs : List (List DC)) (fl : Bool)
  | ghost (v : Value) (x : AV)
  | held (l : List (Nat × Obj))
  | gone
  | iter (s : ByteArray) (pos : Nat)

/-- A row that is a string's iterator. -/
def ARow.isIter : ARow → Bool
  | .iter _ _ => true
  | _ => false
def oIter : Obj → Bool
  | .stringIter _ _ => true
  | _ => false
/-- What no step of a walk turns: no cells, and no iterator. -/
def oStill (o : Obj) : Bool := !o.isCells && !oIter o

def find {α : Type} : List (Nat × α) → Nat → Option α
  | [], _ => none
  | (k, v) :: l, i => if i = k then some v else find l i

theorem find_cons {α : Type} (k : Nat) (v : α) (l : List (Nat × α)) (i : Nat) : find ((k, v) :: l) i = if i = k then some v else find l i := rfl
theorem find_nil {α : Type} (i : Nat) : find ([] : List (Nat × α)) i = none := rfl
theorem find_mem {α : Type} {l : List (Nat × α)} {i : Nat} {v : α} (h : find l i = some v) : (i, v) ∈ l := by
  induction l with
  | nil => simp [find] at h
  | cons p l ih =>
    obtain ⟨k, u⟩ := p
    simp only [find] at h
    split at h
    · rename_i e; cases h; subst e; simp
    · exact List.mem_cons_of_mem _ (ih h)

structure ASt where
  tmps : List (Nat × AV)
  rows : List (Nat × ARow)

/-- One cell of memory. -/
def cl (w : World) (b o : Nat) : Option Value := w.cell? ⟨b, o, none⟩

theorem cl_lt {w : World} {b o : Nat} {v : Value} (h : cl w b o = some v) : b < w.heap.size := World.block_lt_of_cell? w ⟨b, o, none⟩ h

theorem cl_of_block {w w' : World} {b : Nat} (h : w'.heap[b]? = w.heap[b]?) (o : Nat) : cl w' b o = cl w b o :=
  World.cell?_of_block (a := ⟨b, o, none⟩) h

theorem cl_row {w : World} {b : Nat} {cs : Array Value} {t : TypeId} {fr : Nat × Nat} (h : w.heap[b]? = some (.cells cs t fr)) (o : Nat) : cl w b o = cs[o]? := by
  simp [cl, World.cell?, h]

/-- Value u is cell x, all memory that it leads to lying at places of S. -/
inductive RelC (S : Nat → Nat → Prop) (w : World) : Value → DC → Prop
  | sc (v : Value) (h : v.oneCell' = true) : RelC S w v (.sc v)
  | emp (a : Option Addr) (c : Nat) : RelC S w (.slice a 0 c) (.sl [])
  | sl (b o c sz : Nat) (xs : List (List DC)) (us : Nat → Nat → Value) (hc : xs.length ≤ c) (hm : c ≤ maxLen)
      (hsz : ∀ (i : Nat) (x : List DC), xs[i]? = some x → x.length = sz)
      (hS : ∀ (i j : Nat) (x : List DC) (d : DC), xs[i]? = some x → x[j]? = some d → S b (o + i * sz + j) ∧ cl w b (o + i * sz + j) = some (us i j))
      (hr : ∀ (i j : Nat) (x : List DC) (d : DC), xs[i]? = some x → x[j]? = some d → RelC S w (us i j) d) :
      RelC S w (.slice (some ⟨b, o, none⟩) xs.length c) (.sl xs)
  | clo (f : Nat) (xs : List (List DC)) (bs os : Nat → Nat) (us : Nat → Nat → Value)
      (hS : ∀ (i j : Nat) (x : List DC) (d : DC), xs[i]? = some x → x[j]? = some d → S (bs i) (os i + j) ∧ cl w (bs i) (os i + j) = some (us i j))
      (hr : ∀ (i j : Nat) (x : List DC) (d : DC), xs[i]? = some x → x[j]? = some d → RelC S w (us i j) d) :
      RelC S w (.func (.func f) #[] ((List.range xs.length).map fun i => Value.pointer (some ⟨bs i, os i, none⟩)).toArray) (.clo f xs)
  | rc (f b o : Nat) (hS : S b o) (hc : cl w b o = some (.func (.func f) #[] #[.pointer (some ⟨b, o, none⟩)])) : RelC S w (.func (.func f) #[] #[.pointer (some ⟨b, o, none⟩)]) (.rc f)

theorem RelC.one {S : Nat → Nat → Prop} {w : World} {u : Value} {x : DC} (h : RelC S w u x) : u.oneCell' = true := by
  cases h <;> first | rfl | assumption

theorem RelC.mono {S S' : Nat → Nat → Prop} {w w' : World} (hS : ∀ b o, S b o → b < w.heap.size → S' b o ∧ cl w' b o = cl w b o) {u : Value} {x : DC} (h : RelC S w u x) : RelC S' w' u x := by
  induction h with
  | sc v h => exact .sc v h
  | emp a c => exact .emp a c
  | sl b o c sz xs us hc hm hsz hcell _ ih =>
    refine .sl b o c sz xs us hc hm hsz (fun i j x d hx hd => ?_) ih
    obtain ⟨h1, h2⟩ := hcell i j x d hx hd
    obtain ⟨h3, h4⟩ := hS _ _ h1 (cl_lt h2)
    exact ⟨h3, h4.trans h2⟩
  | clo f xs bs os us hcell _ ih =>
    refine .clo f xs bs os us (fun i j x d hx hd => ?_) ih
    obtain ⟨h1, h2⟩ := hcell i j x d hx hd
    obtain ⟨h3, h4⟩ := hS _ _ h1 (cl_lt h2)
    exact ⟨h3, h4.trans h2⟩
  | rc f b o h1 h2 =>
    obtain ⟨h3, h4⟩ := hS _ _ h1 (cl_lt h2)
    exact .rc f b o h3 (h4.trans h2)

theorem RelC.sub {S S' : Nat → Nat → Prop} {w : World} (hS : ∀ b o, S b o → S' b o) {u : Value} {x : DC} (h : RelC S w u x) : RelC S' w u x :=
  h.mono fun b o hb _ => ⟨hS b o hb, rfl⟩

/-- The slice value of a row of n elements. -/
def gsl (g : Option (Nat × Nat)) (n : Nat) : Value :=
  match g with
  | none => .slice none 0 0
  | some (b, c) => .slice (some ⟨b, 0, none⟩) n c

/-- Which row a cell leads to. -/
def AC.id? : AC → Option Nat
  | .row id | .ptr id _ | .eptr id _ _ | .pclo _ _ id _ => some id
  | _ => none

def AC.ment (x : AC) (id : Nat) : Bool := x.id? == some id

mutual
def AV.ment (id : Nat) : AV → Bool
  | .c x => x.ment id
  | .agg xs => xs.any (·.ment id)
  | .tup xs => mentL id xs
  | .any => false
def mentL (id : Nat) : List AV → Bool
  | [] => false
  | x :: xs => x.ment id || mentL id xs
end

def ARow.ment (id : Nat) : ARow → Bool
  | .box _ cs => cs.any (·.ment id)
  | .arr .. => false
  | .ghost _ x => x.ment id
  | .held _ => false
  | .gone => false
  | .iter _ _ => false

/-- Which places of a row's block hold data for good. -/
def ARow.safe : ARow → Nat → Prop
  | .box _ _, _ => False
  | .arr _ sz xs fl, o => fl = true ∧ o < xs.length * sz
  | .ghost _ _, _ => False
  | .held _, _ => False
  | .gone, _ => True
  | .iter _ _, _ => False

abbrev Gh := Nat → Option (Nat × Nat)

/-- The places that hold data for good. -/
def Sf (B : Nat) (S : Nat → Nat → Prop) (rows : List (Nat × ARow)) (g : Gh) (b o : Nat) : Prop :=
  (b < B ∧ S b o) ∨ (B ≤ b ∧ ∀ id r c, find rows id = some r → g id = some (b, c) → r.safe o)

inductive All2 {α β : Type} (R : α → β → Prop) : List α → List β → Prop
  | nil : All2 R [] []
  | cons {a : α} {b : β} {l : List α} {m : List β} (h : R a b) (t : All2 R l m) : All2 R (a :: l) (b :: m)

section
variable {α β : Type} {R R' : α → β → Prop}
theorem All2.len {l : List α} {m : List β} (h : All2 R l m) : l.length = m.length := by
  induction h with
  | nil => rfl
  | cons _ _ ih => simp [ih]
theorem All2.get {l : List α} {m : List β} (h : All2 R l m) : ∀ {i : Nat} {y : β}, m[i]? = some y → ∃ x, l[i]? = some x ∧ R x y := by
  induction h with
  | nil => intro i y hy; simp at hy
  | cons h _ ih =>
    intro i y hy
    cases i with
    | zero => simp at hy; subst hy; exact ⟨_, by simp, h⟩
    | succ i => simp at hy; obtain ⟨x, hx, hr⟩ := ih hy; exact ⟨x, by simpa using hx, hr⟩
theorem All2.get' {l : List α} {m : List β} (h : All2 R l m) : ∀ {i : Nat} {x : α}, l[i]? = some x → ∃ y, m[i]? = some y ∧ R x y := by
  induction h with
  | nil => intro i y hy; simp at hy
  | cons h _ ih =>
    intro i y hy
    cases i with
    | zero => simp at hy; subst hy; exact ⟨_, by simp, h⟩
    | succ i => simp at hy; obtain ⟨x, hx, hr⟩ := ih hy; exact ⟨x, by simpa using hx, hr⟩
theorem All2.of_get : ∀ {l : List α} {m : List β}, l.length = m.length → (∀ (i : Nat) (x : α) (y : β), l[i]? = some x → m[i]? = some y → R x y) → All2 R l m
  | [], [], _, _ => .nil
  | a :: l, b :: m, hl, h => .cons (h 0 a b (by simp) (by simp)) (All2.of_get (by simpa using hl) fun i x y hx hy => h (i + 1) x y (by simpa using hx) (by simpa using hy))
  | [], b :: m, hl, _ => by simp at hl
  | a :: l, [], hl, _ => by simp at hl
theorem All2.mono (hR : ∀ a b, R a b → R' a b) {l : List α} {m : List β} (h : All2 R l m) : All2 R' l m := by
  induction h with
  | nil => exact .nil
  | cons h _ ih => exact .cons (hR _ _ h) ih
theorem All2.mono' {l : List α} {m : List β} (h : All2 R l m) (hR : ∀ a b, b ∈ m → R a b → R' a b) : All2 R' l m := by
  induction h with
  | nil => exact .nil
  | cons h _ ih => exact .cons (hR _ _ (by simp) h) (ih fun a b hb => hR a b (List.mem_cons_of_mem _ hb))
theorem All2.app {l l' : List α} {m m' : List β} (h : All2 R l m) (h' : All2 R l' m') : All2 R (l ++ l') (m ++ m') := by
  induction h with
  | nil => exact h'
  | cons h _ ih => exact .cons h ih
theorem All2.take {l : List α} {m : List β} (h : All2 R l m) : ∀ n, All2 R (l.take n) (m.take n) := by
  induction h with
  | nil => intro n; simp; exact .nil
  | cons h _ ih => intro n; cases n with
    | zero => exact .nil
    | succ n => exact .cons h (ih n)
theorem All2.drop {l : List α} {m : List β} (h : All2 R l m) : ∀ n, All2 R (l.drop n) (m.drop n) := by
  induction h with
  | nil => intro n; simp; exact .nil
  | cons h t ih => intro n; cases n with
    | zero => exact .cons h t
    | succ n => exact ih n
theorem All2.map_r {γ : Type} {f : γ → β} {l : List α} {m : List γ} (h : All2 (fun a c => R a (f c)) l m) : All2 R l (m.map f) := by
  induction h with
  | nil => exact .nil
  | cons h _ ih => exact .cons h ih
theorem All2.of_map_r {γ : Type} {f : γ → β} : ∀ {l : List α} {m : List γ}, All2 R l (m.map f) → All2 (fun a c => R a (f c)) l m
  | _, [], h => by cases h; exact .nil
  | _, c :: m, h => by cases h with | cons h t => exact .cons h (All2.of_map_r t)
theorem All2.set {l : List α} {m : List β} (h : All2 R l m) : ∀ {i : Nat} {a : α} {b : β}, R a b → All2 R (l.set i a) (m.set i b) := by
  induction h with
  | nil => intro i a b _; exact .nil
  | cons h t ih => intro i a b hab; cases i with
    | zero => exact .cons hab t
    | succ i => exact .cons h (ih hab)
end

/-- A pointer to data. -/
def DPtr (F : Nat → Nat → Prop) (w : World) (u : Value) (xs : List DC) : Prop := ∃ b o, ∃ us : Nat → Value, u = .pointer (some ⟨b, o, none⟩) ∧ ∀ (j : Nat) (d : DC), xs[j]? = some d → F b (o + j) ∧ cl w b (o + j) = some (us j) ∧ RelC F w (us j) d
theorem DPtr.mono {F F' : Nat → Nat → Prop} {w w' : World} (hS : ∀ b o, F b o → b < w.heap.size → F' b o ∧ cl w' b o = cl w b o) {u : Value} {xs : List DC} (h : DPtr F w u xs) : DPtr F' w' u xs := by
  obtain ⟨b, o, us, h1, h2⟩ := h
  refine ⟨b, o, us, h1, fun j d hd => ?_⟩
  obtain ⟨h3, h4, h5⟩ := h2 j d hd
  obtain ⟨h6, h7⟩ := hS _ _ h3 (cl_lt h4)
  exact ⟨h6, h7.trans h4, h5.mono hS⟩

/-- A frame's cell. F: the safe places. -/
def RelAC (F : Nat → Nat → Prop) (w : World) (rows : List (Nat × ARow)) (g : Gh) (u : Value) : AC → Prop
  | .d x => RelC F w u x
  | .nil => u = .slice none 0 0
  | .row id => ∃ e sz xs fl, find rows id = some (.arr e sz xs fl) ∧ u = gsl (g id) xs.length
  | .ptr id off => ∃ b c, g id = some (b, c) ∧ u = .pointer (some ⟨b, off, none⟩)
  | .eptr id i off => ∃ b c e sz xs fl, g id = some (b, c) ∧ find rows id = some (.arr e sz xs fl) ∧ u = .pointer (some ⟨b, i * sz + off, none⟩)
  | .dptr xs => ∃ b o, ∃ us : Nat → Value, u = .pointer (some ⟨b, o, none⟩) ∧ ∀ (j : Nat) (d : DC), xs[j]? = some d → F b (o + j) ∧ cl w b (o + j) = some (us j) ∧ RelC F w (us j) d
  | .pclo f pre id post => ∃ b c, ∃ vs ws : List Value, g id = some (b, c) ∧ u = .func (.func f) #[] (vs ++ .pointer (some ⟨b, 0, none⟩) :: ws).toArray ∧ All2 (DPtr F w) vs pre ∧ All2 (DPtr F w) ws post
  | .dead => True

mutual
def RelV (F : Nat → Nat → Prop) (w : World) (rows : List (Nat × ARow)) (g : Gh) : Value → AV → Prop
  | v, .c x => v.oneCell' = true ∧ RelAC F w rows g v x
  | v, .agg xs => ∃ cs, v = .agg cs ∧ All2 (fun u x => u.oneCell' = true ∧ RelAC F w rows g u x) cs.toList xs
  | v, .tup xs => ∃ vs, v = .tuple vs ∧ RelVL F w rows g vs.toList xs
  | _, .any => True
def RelVL (F : Nat → Nat → Prop) (w : World) (rows : List (Nat × ARow)) (g : Gh) : List Value → List AV → Prop
  | [], [] => True
  | v :: vs, x :: xs => RelV F w rows g v x ∧ RelVL F w rows g vs xs
  | _, _ => False
end

/-- A row of memory. -/
def RelRow (F : Nat → Nat → Prop) (w : World) (rows : List (Nat × ARow)) (g : Gh) (id : Nat) : ARow → Prop
  | .box T cs => ∃ b c cur, g id = some (b, c) ∧ w.heap[b]? = some (.cells cur T (0, 0)) ∧ All2 (fun u x => u.oneCell' = true ∧ RelAC F w rows g u x) cur.toList cs
  | .arr e sz xs _ => (∀ (i : Nat) (x : List DC), xs[i]? = some x → x.length = sz) ∧ ((g id = none ∧ xs = []) ∨
      ∃ b cap cur, g id = some (b, cap) ∧ w.heap[b]? = some (.cells cur e (0, 0)) ∧ xs.length ≤ cap ∧ cap ≤ maxLen ∧ cur.size = cap * sz ∧
        ∀ (i j : Nat) (x : List DC) (d : DC), xs[i]? = some x → x[j]? = some d → ∃ u, cur[i * sz + j]? = some u ∧ RelC F w u d)
  | .ghost v x => g id = none ∧ RelV F w rows g v x
  | .held l => g id = none ∧ ∀ p, p ∈ l → oStill p.2 = true ∧ w.heap[p.1]? = some p.2
  | .gone => ∃ b c cur T, g id = some (b, c) ∧ w.heap[b]? = some (.cells cur T (0, 0))
  | .iter s pos => ∃ b c, g id = some (b, c) ∧ w.heap[b]? = some (.stringIter s pos)

/-- What is no cells lies as it lay. -/
def NonC (w w' : World) : Prop := ∀ (k : Nat) (o : Obj), w.heap[k]? = some o → oStill o = true → w'.heap[k]? = some o
theorem NonC.refl (w : World) : NonC w w := fun _ _ h _ => h
theorem NonC.of_heap {w w' : World} (h : w'.heap = w.heap) : NonC w w' := fun _ _ hk _ => by rw [h]; exact hk
theorem NonC.of_old {w w' : World} (h : ∀ k, k < w.heap.size → w'.heap[k]? = w.heap[k]?) : NonC w w' := fun k _ hk _ => (h k (Array.getElem?_eq_some_iff.1 hk).1).trans hk

/-- The deferred calls: marks of ranges over functions, whose blocks hold no call. -/
def DefOk (n : Nat) (ds : List Deferred) (w : World) : Prop := ds.Nodup ∧ ∀ d, d ∈ ds → ∃ D, d = { target := .collected D, args := #[] } ∧ n ≤ D ∧ w.heap[D]? = some (.deferred (some []))

theorem DefOk.nil (n : Nat) (w : World) : DefOk n [] w := ⟨List.nodup_nil, fun d hd => by simp at hd⟩
theorem DefOk.carry {n : Nat} {ds : List Deferred} {w w' : World} (h : DefOk n ds w) (hk : NonC w w') : DefOk n ds w' :=
  ⟨h.1, fun d hd => let ⟨D, h1, h2, h3⟩ := h.2 d hd; ⟨D, h1, h2, hk D _ h3 rfl⟩⟩

/-- The package-level tables that the library's contracts read lie in memory, in places that hold data for good. -/
def TabGood (S : Nat → Nat → Prop) (w : World) : Prop := ∀ p, p ∈ goodTab → (∀ j, j < p.2.length → S p.1 j) ∧ ∃ T fr, w.heap[p.1]? = some (.cells p.2.toArray T fr)

/-- A frame: how many slots; whether no mark of a range over a function is made in it. -/
structure Fm where
  n : Nat
  calm : Bool

/-- The state. P is not named: only memory is. B: where the call's own blocks begin; N: the number of slots. -/
structure Rel (S : Nat → Nat → Prop) (w0 : World) (N : Fm) (g : Gh) (st : ASt) (a : Act) (w : World) : Prop where
  below : Below w0.heap.size w0 w
  size : a.tmps.size = N.n
  calm : N.calm = true → a.defers = []
  good : TabGood S w0
  defers : DefOk w0.heap.size a.defers w
  blk : ∀ id r b c, find st.rows id = some r → g id = some (b, c) → w0.heap.size ≤ b ∧ b < w.heap.size
  inj : ∀ id id' r r' b c c', find st.rows id = some r → find st.rows id' = some r' → g id = some (b, c) → g id' = some (b, c') → id = id'
  rows : ∀ id r, find st.rows id = some r → RelRow (Sf w0.heap.size S st.rows g) w st.rows g id r
  tmps : ∀ i x, find st.tmps i = some x → ∃ v, a.tmps[i]? = some v ∧ RelV (Sf w0.heap.size S st.rows g) w st.rows g v x

theorem Rel.goodW {S : Nat → Nat → Prop} {w0 : World} {N : Fm} {g : Gh} {st : ASt} {a : Act} {w : World} (h : Rel S w0 N g st a w) : TabGood (Sf w0.heap.size S st.rows g) w := by
  intro p hp
  obtain ⟨h1, T, fr, h2⟩ := h.good p hp
  have hlt := (Array.getElem?_eq_some_iff.1 h2).1
  exact ⟨fun j hj => .inl ⟨hlt, h1 j hj⟩, T, fr, by rw [h.below.block _ hlt]; exact h2⟩
theorem TabGood.sub {S S' : Nat → Nat → Prop} {w : World} (h : TabGood S w) (hs : ∀ b o, S b o → S' b o) : TabGood S' w := fun p hp => ⟨fun j hj => hs _ _ ((h p hp).1 j hj), (h p hp).2⟩

theorem Rel.row_cells {S : Nat → Nat → Prop} {w0 : World} {N : Fm} {g : Gh} {st : ASt} {a : Act} {w : World} (h : Rel S w0 N g st a w) {id : Nat} {r : ARow} (hf : find st.rows id = some r) (hni : r.isIter = false) {b c : Nat} (hg : g id = some (b, c)) :
    ∃ cur T fr, w.heap[b]? = some (.cells cur T fr) := by
  have := h.rows id r hf
  cases r with
  | box T cs =>
    obtain ⟨b', c', cur, h1, h2, _⟩ := this
    rw [hg] at h1; cases h1
    exact ⟨_, _, _, h2⟩
  | arr e sz xs fl =>
    obtain ⟨_, ⟨h1, _⟩ | ⟨b', cap, cur, h1, h2, _⟩⟩ := this
    · rw [hg] at h1; cases h1
    · rw [hg] at h1; cases h1
      exact ⟨_, _, _, h2⟩
  | ghost v x => rw [this.1] at hg; cases hg
  | held l => rw [this.1] at hg; cases hg
  | gone =>
    obtain ⟨b', c', cur, T, h1, h2⟩ := this
    rw [hg] at h1; cases h1
    exact ⟨_, _, _, h2⟩
  | iter s pos => cases hni

theorem Rel.row_obj {S : Nat → Nat → Prop} {w0 : World} {N : Fm} {g : Gh} {st : ASt} {a : Act} {w : World} (h : Rel S w0 N g st a w) {id : Nat} {r : ARow} (hf : find st.rows id = some r) {b c : Nat} (hg : g id = some (b, c)) :
    ∃ o, w.heap[b]? = some o ∧ (o.isCells = true ∨ oIter o = true) := by
  cases hi : r.isIter with
  | false =>
    obtain ⟨cur, T, fr, h1⟩ := h.row_cells hf hi hg
    exact ⟨_, h1, .inl rfl⟩
  | true =>
    cases r with
    | iter s pos =>
      obtain ⟨b', c', h1, h2⟩ := h.rows id _ hf
      rw [hg] at h1; cases h1
      exact ⟨_, h2, .inr rfl⟩
    | _ => cases hi

/-- Carrying a cell over a change. -/
theorem RelAC.carry {F F' : Nat → Nat → Prop} {w w' : World} {rows rows' : List (Nat × ARow)} {g g' : Gh}
    (hS : ∀ b o, F b o → b < w.heap.size → F' b o ∧ cl w' b o = cl w b o) {u : Value} {x : AC}
    (hx : ∀ id, x.id? = some id → g' id = g id ∧ ∀ e sz xs fl, find rows id = some (.arr e sz xs fl) → ∃ xs' fl', find rows' id = some (.arr e sz xs' fl') ∧ xs'.length = xs.length)
    (h : RelAC F w rows g u x) : RelAC F' w' rows' g' u x := by
  cases x with
  | d x => exact RelC.mono hS h
  | nil => exact h
  | row id =>
    obtain ⟨e, sz, xs, fl, h1, h2⟩ := h
    obtain ⟨hg, hr⟩ := hx id rfl
    obtain ⟨xs', fl', h3, h4⟩ := hr _ _ _ _ h1
    exact ⟨e, sz, xs', fl', h3, by rw [h2, hg, h4]⟩
  | ptr id off =>
    obtain ⟨b, c, h1, h2⟩ := h
    exact ⟨b, c, by rw [(hx id rfl).1]; exact h1, h2⟩
  | eptr id i off =>
    obtain ⟨b, c, e, sz, xs, fl, h1, h2, h3⟩ := h
    obtain ⟨hg, hr⟩ := hx id rfl
    obtain ⟨xs', fl', h5, _⟩ := hr _ _ _ _ h2
    exact ⟨b, c, e, sz, xs', fl', by rw [hg]; exact h1, h5, h3⟩
  | dptr xs =>
    obtain ⟨b, o, us, h1, h2⟩ := h
    refine ⟨b, o, us, h1, fun j d hd => ?_⟩
    obtain ⟨h3, h4, h5⟩ := h2 j d hd
    obtain ⟨h6, h7⟩ := hS _ _ h3 (cl_lt h4)
    exact ⟨h6, h7.trans h4, h5.mono hS⟩
  | pclo f pre id post =>
    obtain ⟨b, c, vs, ws, h1, h2, h3, h4⟩ := h
    exact ⟨b, c, vs, ws, by rw [(hx id rfl).1]; exact h1, h2, h3.mono fun _ _ h => h.mono hS, h4.mono fun _ _ h => h.mono hS⟩
  | dead => trivial

mutual
theorem RelV.carry {F F' : Nat → Nat → Prop} {w w' : World} {rows rows' : List (Nat × ARow)} {g g' : Gh}
    (hS : ∀ b o, F b o → b < w.heap.size → F' b o ∧ cl w' b o = cl w b o) : ∀ {v : Value} {x : AV},
    (∀ id, x.ment id = true → g' id = g id ∧ ∀ e sz xs fl, find rows id = some (.arr e sz xs fl) → ∃ xs' fl', find rows' id = some (.arr e sz xs' fl') ∧ xs'.length = xs.length) →
    RelV F w rows g v x → RelV F' w' rows' g' v x
  | v, .c x, hx, h => by
    unfold RelV at h ⊢
    exact ⟨h.1, h.2.carry hS fun id hid => hx id (by unfold AV.ment; simp [AC.ment, hid])⟩
  | v, .agg xs, hx, h => by
    unfold RelV at h ⊢
    obtain ⟨cs, h1, h2⟩ := h
    refine ⟨cs, h1, h2.mono' fun u y hy hu => ⟨hu.1, hu.2.carry hS fun id hid => hx id ?_⟩⟩
    unfold AV.ment
    exact List.any_eq_true.2 ⟨y, hy, by simp [AC.ment, hid]⟩
  | v, .tup xs, hx, h => by
    unfold RelV at h ⊢
    obtain ⟨vs, h1, h2⟩ := h
    exact ⟨vs, h1, RelVL.carry hS (fun id hid => hx id (by unfold AV.ment; exact hid)) h2⟩
  | v, .any, _, _ => by unfold RelV; trivial
theorem RelVL.carry {F F' : Nat → Nat → Prop} {w w' : World} {rows rows' : List (Nat × ARow)} {g g' : Gh}
    (hS : ∀ b o, F b o → b < w.heap.size → F' b o ∧ cl w' b o = cl w b o) : ∀ {vs : List Value} {xs : List AV},
    (∀ id, mentL id xs = true → g' id = g id ∧ ∀ e sz xs fl, find rows id = some (.arr e sz xs fl) → ∃ xs' fl', find rows' id = some (.arr e sz xs' fl') ∧ xs'.length = xs.length) →
    RelVL F w rows g vs xs → RelVL F' w' rows' g' vs xs
  | [], [], _, _ => by unfold RelVL; trivial
  | v :: vs, x :: xs, hx, h => by
    unfold RelVL at h ⊢
    exact ⟨RelV.carry hS (fun id hid => hx id (by unfold mentL; simp [hid])) h.1, RelVL.carry hS (fun id hid => hx id (by unfold mentL; simp [hid])) h.2⟩
  | [], _ :: _, _, h => by unfold RelVL at h; exact h.elim
  | _ :: _, [], _, h => by unfold RelVL at h; exact h.elim
end

theorem RelRow.carry {F F' : Nat → Nat → Prop} {w w' : World} {rows rows' : List (Nat × ARow)} {g g' : Gh} {id : Nat} {r : ARow}
    (hS : ∀ b o, F b o → b < w.heap.size → F' b o ∧ cl w' b o = cl w b o) (hg : g' id = g id)
    (hb : ∀ b c, g id = some (b, c) → w'.heap[b]? = w.heap[b]?) (hn : NonC w w')
    (hx : ∀ id', r.ment id' = true → g' id' = g id' ∧ ∀ e sz xs fl, find rows id' = some (.arr e sz xs fl) → ∃ xs' fl', find rows' id' = some (.arr e sz xs' fl') ∧ xs'.length = xs.length)
    (h : RelRow F w rows g id r) : RelRow F' w' rows' g' id r := by
  cases r with
  | box T cs =>
    obtain ⟨b, c, cur, h1, h2, h3⟩ := h
    refine ⟨b, c, cur, by rw [hg]; exact h1, by rw [hb b c h1]; exact h2, h3.mono' fun u y hy hu => ⟨hu.1, hu.2.carry hS fun id' hid => hx id' ?_⟩⟩
    exact List.any_eq_true.2 ⟨y, hy, by simp [AC.ment, hid]⟩
  | arr e sz xs fl =>
    obtain ⟨h0, h⟩ := h
    refine ⟨h0, ?_⟩
    rcases h with ⟨h1, h2⟩ | ⟨b, cap, cur, h1, h2, h3, h4, h5, h6⟩
    · exact .inl ⟨by rw [hg]; exact h1, h2⟩
    · refine .inr ⟨b, cap, cur, by rw [hg]; exact h1, by rw [hb b cap h1]; exact h2, h3, h4, h5, fun i j x d hx hd => ?_⟩
      obtain ⟨u, hu, hr⟩ := h6 i j x d hx hd
      exact ⟨u, hu, hr.mono hS⟩
  | ghost v x => exact ⟨by rw [hg]; exact h.1, h.2.carry hS fun id' hid => hx id' hid⟩
  | held l => exact ⟨by rw [hg]; exact h.1, fun p hp => ⟨(h.2 p hp).1, hn _ _ (h.2 p hp).2 (h.2 p hp).1⟩⟩
  | gone =>
    obtain ⟨b, c, cur, T, h1, h2⟩ := h
    exact ⟨b, c, cur, T, by rw [hg]; exact h1, by rw [hb b c h1]; exact h2⟩
  | iter s pos =>
    obtain ⟨b, c, h1, h2⟩ := h
    exact ⟨b, c, by rw [hg]; exact h1, by rw [hb b c h1]; exact h2⟩

theorem find_set_ne {α : Type} {rows : List (Nat × α)} {id id' : Nat} {r : α} (h : id' ≠ id) : find ((id, r) :: rows) id' = find rows id' := by
  simp [find, h]
theorem find_set_eq {α : Type} {rows : List (Nat × α)} {id : Nat} {r : α} : find ((id, r) :: rows) id = some r := by
  simp [find]

end Go.Abs
