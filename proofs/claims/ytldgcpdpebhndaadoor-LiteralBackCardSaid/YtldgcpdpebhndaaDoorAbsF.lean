/-
  A calculus for walking Go functions whose slices are read as lists: abstract cells, their relation to memory, and how that relation is carried over a change of memory.
-/
import Derived.WalkKit
import Derived.RangeFuncOwn
import Derived.Test.YtldgcpdpebhndaaDoorAbsGood
import Derived.Laws.StructEq
import Derived.ChangeKeysEq
namespace Go.Abs
open Go.RowKit

/-- A cell of pure data: a scalar, a slice whose elements are rows of cells, or a function that has captured pointers to data. -/
inductive DC where
  | sc (v : Value)
  | sl (xs : List (List DC))
  | clo (f : Nat) (xs : List (List DC))
  | rc (f : Nat)

/-- A cell as a frame sees it. -/
inductive AC where
  | d (x : DC)
  | nil
  | row (id : Nat)
  | ptr (id off : Nat)
  | eptr (id i off : Nat)
  | dptr (xs : List DC)
  | pclo (f : Nat) (pre : List (List DC)) (id : Nat) (post : List (List DC))
  | dead

/-- A value in a slot. -/
inductive AV where
  | c (x : AC)
  | agg (xs : List AC)
  | tup (xs : List AV)
  | any
  /-- An empty slice without room. -/
  | emp

/-- A row of memory that the call itself has made. -/
inductive ARow where
  | box (T : Nat) (cs : List AC)
  | arr (e sz : Nat) (xs : List (List DC)) (fl : Bool)
  | ghost (v : Value) (x : AV)
  | held (l : List (Nat × Obj))
  | gone
  | iter (s : ByteArray) (pos : Nat)

/-- A row that is a string's iterator. -/
def ARow.isIter : ARow → Bool
  | .iter _ _ => true
  | _ => false
def oIter : Obj → Bool
  | .stringIter _ _ => true
  | _ => false
/-- What no step of a walk turns: no cells, and no iterator. -/
def oStill (o : Obj) : Bool := !o.isCells && !oIter o

def find {α : Type} : List (Nat × α) → Nat → Option α
  | [], _ => none
  | (k, v) :: l, i => if i = k then some v else find l i

theorem find_cons {α : Type} (k : Nat) (v : α) (l : List (Nat × α)) (i : Nat) : find ((k, v) :: l) i = if i = k then some v else find l i := rfl
theorem find_nil {α : Type} (i : Nat) : find ([] : List (Nat × α)) i = none := rfl
theorem find_mem {α : Type} {l : List (Nat × α)} {i : Nat} {v : α} (h : find l i = some v) : (i, v) ∈ l := by
  induction l with
  | nil => simp [find] at h
  | cons p l ih =>
    obtain ⟨k, u⟩ := p
    simp only [find] at h
    split at h
    · rename_i e; cases h; subst e; simp
    · exact List.mem_cons_of_mem _ (ih h)

structure ASt where
  tmps : List (Nat × AV)
  rows : List (Nat × ARow)

/-- One cell of memory. -/
def cl (w : World) (b o : Nat) : Option Value := w.cell? ⟨b, o, none⟩

theorem cl_lt {w : World} {b o : Nat} {v : Value} (h : cl w b o = some v) : b < w.heap.size := World.block_lt_of_cell? w ⟨b, o, none⟩ h

theorem cl_of_block {w w' : World} {b : Nat} (h : w'.heap[b]? = w.heap[b]?) (o : Nat) : cl w' b o = cl w b o :=
  World.cell?_of_block (a := ⟨b, o, none⟩) h

theorem cl_row {w : World} {b : Nat} {cs : Array Value} {t : TypeId} {fr : Nat × Nat} (h : w.heap[b]? = some (.cells cs t fr)) (o : Nat) : cl w b o = cs[o]? := by
  simp [cl, World.cell?, h]

/-- Value u is cell x, all memory that it leads to lying at places of S. -/
inductive RelC (S : Nat → Nat → Prop) (w : World) : Value → DC → Prop
  | sc (v : Value) (h : v.oneCell' = true) : RelC S w v (.sc v)
  | emp (a : Option Addr) (c : Nat) : RelC S w (.slice a 0 c) (.sl [])
  | sl (b o c sz : Nat) (xs : List (List DC)) (us : Nat → Nat → Value) (hc : xs.length ≤ c) (hm : c ≤ maxLen)
      (hsz : ∀ (i : Nat) (x : List DC), xs[i]? = some x → x.length = sz)
      (hS : ∀ (i j : Nat) (x : List DC) (d : DC), xs[i]? = some x → x[j]? = some d → S b (o + i * sz + j) ∧ cl w b (o + i * sz + j) = some (us i j))
      (hr : ∀ (i j : Nat) (x : List DC) (d : DC), xs[i]? = some x → x[j]? = some d → RelC S w (us i j) d) :
      RelC S w (.slice (some ⟨b, o, none⟩) xs.length c) (.sl xs)
  | clo (f : Nat) (xs : List (List DC)) (bs os : Nat → Nat) (us : Nat → Nat → Value)
      (hS : ∀ (i j : Nat) (x : List DC) (d : DC), xs[i]? = some x → x[j]? = some d → S (bs i) (os i + j) ∧ cl w (bs i) (os i + j) = some (us i j))
      (hr : ∀ (i j : Nat) (x : List DC) (d : DC), xs[i]? = some x → x[j]? = some d → RelC S w (us i j) d) :
      RelC S w (.func (.func f) #[] ((List.range xs.length).map fun i => Value.pointer (some ⟨bs i, os i, none⟩)).toArray) (.clo f xs)
  | rc (f b o : Nat) (hS : S b o) (hc : cl w b o = some (.func (.func f) #[] #[.pointer (some ⟨b, o, none⟩)])) : RelC S w (.func (.func f) #[] #[.pointer (some ⟨b, o, none⟩)]) (.rc f)

theorem RelC.one {S : Nat → Nat → Prop} {w : World} {u : Value} {x : DC} (h : RelC S w u x) : u.oneCell' = true := by
  cases h <;> first | rfl | assumption

theorem RelC.mono {S S' : Nat → Nat → Prop} {w w' : World} (hS : ∀ b o, S b o → b < w.heap.size → S' b o ∧ cl w' b o = cl w b o) {u : Value} {x : DC} (h : RelC S w u x) : RelC S' w' u x := by
  induction h with
  | sc v h => exact .sc v h
  | emp a c => exact .emp a c
  | sl b o c sz xs us hc hm hsz hcell _ ih =>
    refine .sl b o c sz xs us hc hm hsz (fun i j x d hx hd => ?_) ih
    obtain ⟨h1, h2⟩ := hcell i j x d hx hd
    obtain ⟨h3, h4⟩ := hS _ _ h1 (cl_lt h2)
    exact ⟨h3, h4.trans h2⟩
  | clo f xs bs os us hcell _ ih =>
    refine .clo f xs bs os us (fun i j x d hx hd => ?_) ih
    obtain ⟨h1, h2⟩ := hcell i j x d hx hd
    obtain ⟨h3, h4⟩ := hS _ _ h1 (cl_lt h2)
    exact ⟨h3, h4.trans h2⟩
  | rc f b o h1 h2 =>
    obtain ⟨h3, h4⟩ := hS _ _ h1 (cl_lt h2)
    exact .rc f b o h3 (h4.trans h2)

theorem RelC.sub {S S' : Nat → Nat → Prop} {w : World} (hS : ∀ b o, S b o → S' b o) {u : Value} {x : DC} (h : RelC S w u x) : RelC S' w u x :=
  h.mono fun b o hb _ => ⟨hS b o hb, rfl⟩

/-- The slice value of a row of n elements. -/
def gsl (g : Option (Nat × Nat)) (n : Nat) : Value :=
  match g with
  | none => .slice none 0 0
  | some (b, c) => .slice (some ⟨b, 0, none⟩) n c

/-- Which row a cell leads to. -/
def AC.id? : AC → Option Nat
  | .row id | .ptr id _ | .eptr id _ _ | .pclo _ _ id _ => some id
  | _ => none

def AC.ment (x : AC) (id : Nat) : Bool := x.id? == some id

mutual
def AV.ment (id : Nat) : AV → Bool
  | .c x => x.ment id
  | .agg xs => xs.any (·.ment id)
  | .tup xs => mentL id xs
  | .any => false
  | .emp => false
def mentL (id : Nat) : List AV → Bool
  | [] => false
  | x :: xs => x.ment id || mentL id xs
end

def ARow.ment (id : Nat) : ARow → Bool
  | .box _ cs => cs.any (·.ment id)
  | .arr .. => false
  | .ghost _ x => x.ment id
  | .held _ => false
  | .gone => false
  | .iter _ _ => false

/-- Which places of a row's block hold data for good. -/
def ARow.safe : ARow → Nat → Prop
  | .box _ _, _ => False
  | .arr _ sz xs fl, o => fl = true ∧ o < xs.length * sz
  | .ghost _ _, _ => False
  | .held _, _ => False
  | .gone, _ => True
  | .iter _ _, _ => False

abbrev Gh := Nat → Option (Nat × Nat)

/-- The places that hold data for good. -/
def Sf (B : Nat) (S : Nat → Nat → Prop) (rows : List (Nat × ARow)) (g : Gh) (b o : Nat) : Prop :=
  (b < B ∧ S b o) ∨ (B ≤ b ∧ ∀ id r c, find rows id = some r → g id = some (b, c) → r.safe o)

inductive All2 {α β : Type} (R : α → β → Prop) : List α → List β → Prop
  | nil : All2 R [] []
  | cons {a : α} {b : β} {l : List α} {m : List β} (h : R a b) (t : All2 R l m) : All2 R (a :: l) (b :: m)

section
variable {α β : Type} {R R' : α → β → Prop}
theorem All2.len {l : List α} {m : List β} (h : All2 R l m) : l.length = m.length := by
  induction h with
  | nil => rfl
  | cons _ _ ih => simp [ih]
theorem All2.get {l : List α} {m : List β} (h : All2 R l m) : ∀ {i : Nat} {y : β}, m[i]? = some y → ∃ x, l[i]? = some x ∧ R x y := by
  induction h with
  | nil => intro i y hy; simp at hy
  | cons h _ ih =>
    intro i y hy
    cases i with
    | zero => simp at hy; subst hy; exact ⟨_, by simp, h⟩
    | succ i => simp at hy; obtain ⟨x, hx, hr⟩ := ih hy; exact ⟨x, by simpa using hx, hr⟩
theorem All2.get' {l : List α} {m : List β} (h : All2 R l m) : ∀ {i : Nat} {x : α}, l[i]? = some x → ∃ y, m[i]? = some y ∧ R x y := by
  induction h with
  | nil => intro i y hy; simp at hy
  | cons h _ ih =>
    intro i y hy
    cases i with
    | zero => simp at hy; subst hy; exact ⟨_, by simp, h⟩
    | succ i => simp at hy; obtain ⟨x, hx, hr⟩ := ih hy; exact ⟨x, by simpa using hx, hr⟩
theorem All2.of_get : ∀ {l : List α} {m : List β}, l.length = m.length → (∀ (i : Nat) (x : α) (y : β), l[i]? = some x → m[i]? = some y → R x y) → All2 R l m
  | [], [], _, _ => .nil
  | a :: l, b :: m, hl, h => .cons (h 0 a b (by simp) (by simp)) (All2.of_get (by simpa using hl) fun i x y hx hy => h (i + 1) x y (by simpa using hx) (by simpa using hy))
  | [], b :: m, hl, _ => by simp at hl
  | a :: l, [], hl, _ => by simp at hl
theorem All2.mono (hR : ∀ a b, R a b → R' a b) {l : List α} {m : List β} (h : All2 R l m) : All2 R' l m := by
  induction h with
  | nil => exact .nil
  | cons h _ ih => exact .cons (hR _ _ h) ih
theorem All2.mono' {l : List α} {m : List β} (h : All2 R l m) (hR : ∀ a b, b ∈ m → R a b → R' a b) : All2 R' l m := by
  induction h with
  | nil => exact .nil
  | cons h _ ih => exact .cons (hR _ _ (by simp) h) (ih fun a b hb => hR a b (List.mem_cons_of_mem _ hb))
theorem All2.app {l l' : List α} {m m' : List β} (h : All2 R l m) (h' : All2 R l' m') : All2 R (l ++ l') (m ++ m') := by
  induction h with
  | nil => exact h'
  | cons h _ ih => exact .cons h ih
theorem All2.take {l : List α} {m : List β} (h : All2 R l m) : ∀ n, All2 R (l.take n) (m.take n) := by
  induction h with
  | nil => intro n; simp; exact .nil
  | cons h _ ih => intro n; cases n with
    | zero => exact .nil
    | succ n => exact .cons h (ih n)
theorem All2.drop {l : List α} {m : List β} (h : All2 R l m) : ∀ n, All2 R (l.drop n) (m.drop n) := by
  induction h with
  | nil => intro n; simp; exact .nil
  | cons h t ih => intro n; cases n with
    | zero => exact .cons h t
    | succ n => exact ih n
theorem All2.map_r {γ : Type} {f : γ → β} {l : List α} {m : List γ} (h : All2 (fun a c => R a (f c)) l m) : All2 R l (m.map f) := by
  induction h with
  | nil => exact .nil
  | cons h _ ih => exact .cons h ih
theorem All2.of_map_r {γ : Type} {f : γ → β} : ∀ {l : List α} {m : List γ}, All2 R l (m.map f) → All2 (fun a c => R a (f c)) l m
  | _, [], h => by cases h; exact .nil
  | _, c :: m, h => by cases h with | cons h t => exact .cons h (All2.of_map_r t)
theorem All2.set {l : List α} {m : List β} (h : All2 R l m) : ∀ {i : Nat} {a : α} {b : β}, R a b → All2 R (l.set i a) (m.set i b) := by
  induction h with
  | nil => intro i a b _; exact .nil
  | cons h t ih => intro i a b hab; cases i with
    | zero => exact .cons hab t
    | succ i => exact .cons h (ih hab)
end

/-- A pointer to data. -/
def DPtr (F : Nat → Nat → Prop) (w : World) (u : Value) (xs : List DC) : Prop := ∃ b o, ∃ us : Nat → Value, u = .pointer (some ⟨b, o, none⟩) ∧ ∀ (j : Nat) (d : DC), xs[j]? = some d → F b (o + j) ∧ cl w b (o + j) = some (us j) ∧ RelC F w (us j) d
theorem DPtr.mono {F F' : Nat → Nat → Prop} {w w' : World} (hS : ∀ b o, F b o → b < w.heap.size → F' b o ∧ cl w' b o = cl w b o) {u : Value} {xs : List DC} (h : DPtr F w u xs) : DPtr F' w' u xs := by
  obtain ⟨b, o, us, h1, h2⟩ := h
  refine ⟨b, o, us, h1, fun j d hd => ?_⟩
  obtain ⟨h3, h4, h5⟩ := h2 j d hd
  obtain ⟨h6, h7⟩ := hS _ _ h3 (cl_lt h4)
  exact ⟨h6, h7.trans h4, h5.mono hS⟩

/-- A frame's cell. F: the safe places. -/
def RelAC (F : Nat → Nat → Prop) (w : World) (rows : List (Nat × ARow)) (g : Gh) (u : Value) : AC → Prop
  | .d x => RelC F w u x
  | .nil => u = .slice none 0 0
  | .row id => ∃ e sz xs fl, find rows id = some (.arr e sz xs fl) ∧ u = gsl (g id) xs.length
  | .ptr id off => ∃ b c, g id = some (b, c) ∧ u = .pointer (some ⟨b, off, none⟩)
  | .eptr id i off => ∃ b c e sz xs fl, g id = some (b, c) ∧ find rows id = some (.arr e sz xs fl) ∧ u = .pointer (some ⟨b, i * sz + off, none⟩)
  | .dptr xs => ∃ b o, ∃ us : Nat → Value, u = .pointer (some ⟨b, o, none⟩) ∧ ∀ (j : Nat) (d : DC), xs[j]? = some d → F b (o + j) ∧ cl w b (o + j) = some (us j) ∧ RelC F w (us j) d
  | .pclo f pre id post => ∃ b c, ∃ vs ws : List Value, g id = some (b, c) ∧ u = .func (.func f) #[] (vs ++ .pointer (some ⟨b, 0, none⟩) :: ws).toArray ∧ All2 (DPtr F w) vs pre ∧ All2 (DPtr F w) ws post
  | .dead => True

mutual
def RelV (F : Nat → Nat → Prop) (w : World) (rows : List (Nat × ARow)) (g : Gh) : Value → AV → Prop
  | v, .c x => v.oneCell' = true ∧ RelAC F w rows g v x
  | v, .agg xs => ∃ cs, v = .agg cs ∧ All2 (fun u x => u.oneCell' = true ∧ RelAC F w rows g u x) cs.toList xs
  | v, .tup xs => ∃ vs, v = .tuple vs ∧ RelVL F w rows g vs.toList xs
  | _, .any => True
  | v, .emp => ∃ p, v = .slice p 0 0
def RelVL (F : Nat → Nat → Prop) (w : World) (rows : List (Nat × ARow)) (g : Gh) : List Value → List AV → Prop
  | [], [] => True
  | v :: vs, x :: xs => RelV F w rows g v x ∧ RelVL F w rows g vs xs
  | _, _ => False
end

/-- A row of memory. -/
def RelRow (F : Nat → Nat → Prop) (w : World) (rows : List (Nat × ARow)) (g : Gh) (id : Nat) : ARow → Prop
  | .box T cs => ∃ b c cur, g id = some (b, c) ∧ w.heap[b]? = some (.cells cur T (0, 0)) ∧ All2 (fun u x => u.oneCell' = true ∧ RelAC F w rows g u x) cur.toList cs
  | .arr e sz xs _ => (∀ (i : Nat) (x : List DC), xs[i]? = some x → x.length = sz) ∧ ((g id = none ∧ xs = []) ∨
      ∃ b cap cur, g id = some (b, cap) ∧ w.heap[b]? = some (.cells cur e (0, 0)) ∧ xs.length ≤ cap ∧ cap ≤ maxLen ∧ cur.size = cap * sz ∧
        ∀ (i j : Nat) (x : List DC) (d : DC), xs[i]? = some x → x[j]? = some d → ∃ u, cur[i * sz + j]? = some u ∧ RelC F w u d)
  | .ghost v x => g id = none ∧ RelV F w rows g v x
  | .held l => g id = none ∧ ∀ p, p ∈ l → oStill p.2 = true ∧ w.heap[p.1]? = some p.2
  | .gone => ∃ b c cur T, g id = some (b, c) ∧ w.heap[b]? = some (.cells cur T (0, 0))
  | .iter s pos => ∃ b c, g id = some (b, c) ∧ w.heap[b]? = some (.stringIter s pos)

/-- What is no cells lies as it lay. -/
def NonC (w w' : World) : Prop := ∀ (k : Nat) (o : Obj), w.heap[k]? = some o → oStill o = true → w'.heap[k]? = some o
theorem NonC.refl (w : World) : NonC w w := fun _ _ h _ => h
theorem NonC.of_heap {w w' : World} (h : w'.heap = w.heap) : NonC w w' := fun _ _ hk _ => by rw [h]; exact hk
theorem NonC.of_old {w w' : World} (h : ∀ k, k < w.heap.size → w'.heap[k]? = w.heap[k]?) : NonC w w' := fun k _ hk _ => (h k (Array.getElem?_eq_some_iff.1 hk).1).trans hk

/-- The deferred calls: marks of ranges over functions, whose blocks hold no call. -/
def DefOk (n : Nat) (ds : List Deferred) (w : World) : Prop := ds.Nodup ∧ ∀ d, d ∈ ds → ∃ D, d = { target := .collected D, args := #[] } ∧ n ≤ D ∧ w.heap[D]? = some (.deferred (some []))

theorem DefOk.nil (n : Nat) (w : World) : DefOk n [] w := ⟨List.nodup_nil, fun d hd => by simp at hd⟩
theorem DefOk.carry {n : Nat} {ds : List Deferred} {w w' : World} (h : DefOk n ds w) (hk : NonC w w') : DefOk n ds w' :=
  ⟨h.1, fun d hd => let ⟨D, h1, h2, h3⟩ := h.2 d hd; ⟨D, h1, h2, hk D _ h3 rfl⟩⟩

/-- The package-level tables that the library's contracts read lie in memory, in places that hold data for good. -/
def TabGood (S : Nat → Nat → Prop) (w : World) : Prop := ∀ p, p ∈ goodTab → (∀ j, j < p.2.length → S p.1 j) ∧ ∃ T fr, w.heap[p.1]? = some (.cells p.2.toArray T fr)

/-- A frame: how many slots; whether no mark of a range over a function is made in it. -/
structure Fm where
  n : Nat
  calm : Bool

/-- The state. P is not named: only memory is. B: where the call's own blocks begin; N: the number of slots. -/
structure Rel (S : Nat → Nat → Prop) (w0 : World) (N : Fm) (g : Gh) (st : ASt) (a : Act) (w : World) : Prop where
  below : Below w0.heap.size w0 w
  size : a.tmps.size = N.n
  calm : N.calm = true → a.defers = []
  good : TabGood S w0
  defers : DefOk w0.heap.size a.defers w
  blk : ∀ id r b c, find st.rows id = some r → g id = some (b, c) → w0.heap.size ≤ b ∧ b < w.heap.size
  inj : ∀ id id' r r' b c c', find st.rows id = some r → find st.rows id' = some r' → g id = some (b, c) → g id' = some (b, c') → id = id'
  rows : ∀ id r, find st.rows id = some r → RelRow (Sf w0.heap.size S st.rows g) w st.rows g id r
  tmps : ∀ i x, find st.tmps i = some x → ∃ v, a.tmps[i]? = some v ∧ RelV (Sf w0.heap.size S st.rows g) w st.rows g v x

theorem Rel.goodW {S : Nat → Nat → Prop} {w0 : World} {N : Fm} {g : Gh} {st : ASt} {a : Act} {w : World} (h : Rel S w0 N g st a w) : TabGood (Sf w0.heap.size S st.rows g) w := by
  intro p hp
  obtain ⟨h1, T, fr, h2⟩ := h.good p hp
  have hlt := (Array.getElem?_eq_some_iff.1 h2).1
  exact ⟨fun j hj => .inl ⟨hlt, h1 j hj⟩, T, fr, by rw [h.below.block _ hlt]; exact h2⟩
theorem TabGood.sub {S S' : Nat → Nat → Prop} {w : World} (h : TabGood S w) (hs : ∀ b o, S b o → S' b o) : TabGood S' w := fun p hp => ⟨fun j hj => hs _ _ ((h p hp).1 j hj), (h p hp).2⟩

theorem Rel.row_cells {S : Nat → Nat → Prop} {w0 : World} {N : Fm} {g : Gh} {st : ASt} {a : Act} {w : World} (h : Rel S w0 N g st a w) {id : Nat} {r : ARow} (hf : find st.rows id = some r) (hni : r.isIter = false) {b c : Nat} (hg : g id = some (b, c)) :
    ∃ cur T fr, w.heap[b]? = some (.cells cur T fr) := by
  have := h.rows id r hf
  cases r with
  | box T cs =>
    obtain ⟨b', c', cur, h1, h2, _⟩ := this
    rw [hg] at h1; cases h1
    exact ⟨_, _, _, h2⟩
  | arr e sz xs fl =>
    obtain ⟨_, ⟨h1, _⟩ | ⟨b', cap, cur, h1, h2, _⟩⟩ := this
    · rw [hg] at h1; cases h1
    · rw [hg] at h1; cases h1
      exact ⟨_, _, _, h2⟩
  | ghost v x => rw [this.1] at hg; cases hg
  | held l => rw [this.1] at hg; cases hg
  | gone =>
    obtain ⟨b', c', cur, T, h1, h2⟩ := this
    rw [hg] at h1; cases h1
    exact ⟨_, _, _, h2⟩
  | iter s pos => cases hni

theorem Rel.row_obj {S : Nat → Nat → Prop} {w0 : World} {N : Fm} {g : Gh} {st : ASt} {a : Act} {w : World} (h : Rel S w0 N g st a w) {id : Nat} {r : ARow} (hf : find st.rows id = some r) {b c : Nat} (hg : g id = some (b, c)) :
    ∃ o, w.heap[b]? = some o ∧ (o.isCells = true ∨ oIter o = true) := by
  cases hi : r.isIter with
  | false =>
    obtain ⟨cur, T, fr, h1⟩ := h.row_cells hf hi hg
    exact ⟨_, h1, .inl rfl⟩
  | true =>
    cases r with
    | iter s pos =>
      obtain ⟨b', c', h1, h2⟩ := h.rows id _ hf
      rw [hg] at h1; cases h1
      exact ⟨_, h2, .inr rfl⟩
    | _ => cases hi

/-- Carrying a cell over a change. -/
theorem RelAC.carry {F F' : Nat → Nat → Prop} {w w' : World} {rows rows' : List (Nat × ARow)} {g g' : Gh}
    (hS : ∀ b o, F b o → b < w.heap.size → F' b o ∧ cl w' b o = cl w b o) {u : Value} {x : AC}
    (hx : ∀ id, x.id? = some id → g' id = g id ∧ ∀ e sz xs fl, find rows id = some (.arr e sz xs fl) → ∃ xs' fl', find rows' id = some (.arr e sz xs' fl') ∧ xs'.length = xs.length)
    (h : RelAC F w rows g u x) : RelAC F' w' rows' g' u x := by
  cases x with
  | d x => exact RelC.mono hS h
  | nil => exact h
  | row id =>
    obtain ⟨e, sz, xs, fl, h1, h2⟩ := h
    obtain ⟨hg, hr⟩ := hx id rfl
    obtain ⟨xs', fl', h3, h4⟩ := hr _ _ _ _ h1
    exact ⟨e, sz, xs', fl', h3, by rw [h2, hg, h4]⟩
  | ptr id off =>
    obtain ⟨b, c, h1, h2⟩ := h
    exact ⟨b, c, by rw [(hx id rfl).1]; exact h1, h2⟩
  | eptr id i off =>
    obtain ⟨b, c, e, sz, xs, fl, h1, h2, h3⟩ := h
    obtain ⟨hg, hr⟩ := hx id rfl
    obtain ⟨xs', fl', h5, _⟩ := hr _ _ _ _ h2
    exact ⟨b, c, e, sz, xs', fl', by rw [hg]; exact h1, h5, h3⟩
  | dptr xs =>
    obtain ⟨b, o, us, h1, h2⟩ := h
    refine ⟨b, o, us, h1, fun j d hd => ?_⟩
    obtain ⟨h3, h4, h5⟩ := h2 j d hd
    obtain ⟨h6, h7⟩ := hS _ _ h3 (cl_lt h4)
    exact ⟨h6, h7.trans h4, h5.mono hS⟩
  | pclo f pre id post =>
    obtain ⟨b, c, vs, ws, h1, h2, h3, h4⟩ := h
    exact ⟨b, c, vs, ws, by rw [(hx id rfl).1]; exact h1, h2, h3.mono fun _ _ h => h.mono hS, h4.mono fun _ _ h => h.mono hS⟩
  | dead => trivial

mutual
theorem RelV.carry {F F' : Nat → Nat → Prop} {w w' : World} {rows rows' : List (Nat × ARow)} {g g' : Gh}
    (hS : ∀ b o, F b o → b < w.heap.size → F' b o ∧ cl w' b o = cl w b o) : ∀ {v : Value} {x : AV},
    (∀ id, x.ment id = true → g' id = g id ∧ ∀ e sz xs fl, find rows id = some (.arr e sz xs fl) → ∃ xs' fl', find rows' id = some (.arr e sz xs' fl') ∧ xs'.length = xs.length) →
    RelV F w rows g v x → RelV F' w' rows' g' v x
  | v, .c x, hx, h => by
    unfold RelV at h ⊢
    exact ⟨h.1, h.2.carry hS fun id hid => hx id (by unfold AV.ment; simp [AC.ment, hid])⟩
  | v, .agg xs, hx, h => by
    unfold RelV at h ⊢
    obtain ⟨cs, h1, h2⟩ := h
    refine ⟨cs, h1, h2.mono' fun u y hy hu => ⟨hu.1, hu.2.carry hS fun id hid => hx id ?_⟩⟩
    unfold AV.ment
    exact List.any_eq_true.2 ⟨y, hy, by simp [AC.ment, hid]⟩
  | v, .tup xs, hx, h => by
    unfold RelV at h ⊢
    obtain ⟨vs, h1, h2⟩ := h
    exact ⟨vs, h1, RelVL.carry hS (fun id hid => hx id (by unfold AV.ment; exact hid)) h2⟩
  | v, .any, _, _ => by unfold RelV; trivial
  | v, .emp, _, h => by unfold RelV at h ⊢; exact h
theorem RelVL.carry {F F' : Nat → Nat → Prop} {w w' : World} {rows rows' : List (Nat × ARow)} {g g' : Gh}
    (hS : ∀ b o, F b o → b < w.heap.size → F' b o ∧ cl w' b o = cl w b o) : ∀ {vs : List Value} {xs : List AV},
    (∀ id, mentL id xs = true → g' id = g id ∧ ∀ e sz xs fl, find rows id = some (.arr e sz xs fl) → ∃ xs' fl', find rows' id = some (.arr e sz xs' fl') ∧ xs'.length = xs.length) →
    RelVL F w rows g vs xs → RelVL F' w' rows' g' vs xs
  | [], [], _, _ => by unfold RelVL; trivial
  | v :: vs, x :: xs, hx, h => by
    unfold RelVL at h ⊢
    exact ⟨RelV.carry hS (fun id hid => hx id (by unfold mentL; simp [hid])) h.1, RelVL.carry hS (fun id hid => hx id (by unfold mentL; simp [hid])) h.2⟩
  | [], _ :: _, _, h => by unfold RelVL at h; exact h.elim
  | _ :: _, [], _, h => by unfold RelVL at h; exact h.elim
end

theorem RelRow.carry {F F' : Nat → Nat → Prop} {w w' : World} {rows rows' : List (Nat × ARow)} {g g' : Gh} {id : Nat} {r : ARow}
    (hS : ∀ b o, F b o → b < w.heap.size → F' b o ∧ cl w' b o = cl w b o) (hg : g' id = g id)
    (hb : ∀ b c, g id = some (b, c) → w'.heap[b]? = w.heap[b]?) (hn : NonC w w')
    (hx : ∀ id', r.ment id' = true → g' id' = g id' ∧ ∀ e sz xs fl, find rows id' = some (.arr e sz xs fl) → ∃ xs' fl', find rows' id' = some (.arr e sz xs' fl') ∧ xs'.length = xs.length)
    (h : RelRow F w rows g id r) : RelRow F' w' rows' g' id r := by
  cases r with
  | box T cs =>
    obtain ⟨b, c, cur, h1, h2, h3⟩ := h
    refine ⟨b, c, cur, by rw [hg]; exact h1, by rw [hb b c h1]; exact h2, h3.mono' fun u y hy hu => ⟨hu.1, hu.2.carry hS fun id' hid => hx id' ?_⟩⟩
    exact List.any_eq_true.2 ⟨y, hy, by simp [AC.ment, hid]⟩
  | arr e sz xs fl =>
    obtain ⟨h0, h⟩ := h
    refine ⟨h0, ?_⟩
    rcases h with ⟨h1, h2⟩ | ⟨b, cap, cur, h1, h2, h3, h4, h5, h6⟩
    · exact .inl ⟨by rw [hg]; exact h1, h2⟩
    · refine .inr ⟨b, cap, cur, by rw [hg]; exact h1, by rw [hb b cap h1]; exact h2, h3, h4, h5, fun i j x d hx hd => ?_⟩
      obtain ⟨u, hu, hr⟩ := h6 i j x d hx hd
      exact ⟨u, hu, hr.mono hS⟩
  | ghost v x => exact ⟨by rw [hg]; exact h.1, h.2.carry hS fun id' hid => hx id' hid⟩
  | held l => exact ⟨by rw [hg]; exact h.1, fun p hp => ⟨(h.2 p hp).1, hn _ _ (h.2 p hp).2 (h.2 p hp).1⟩⟩
  | gone =>
    obtain ⟨b, c, cur, T, h1, h2⟩ := h
    exact ⟨b, c, cur, T, by rw [hg]; exact h1, by rw [hb b c h1]; exact h2⟩
  | iter s pos =>
    obtain ⟨b, c, h1, h2⟩ := h
    exact ⟨b, c, by rw [hg]; exact h1, by rw [hb b c h1]; exact h2⟩

theorem find_set_ne {α : Type} {rows : List (Nat × α)} {id id' : Nat} {r : α} (h : id' ≠ id) : find ((id, r) :: rows) id' = find rows id' := by
  simp [find, h]
theorem find_set_eq {α : Type} {rows : List (Nat × α)} {id : Nat} {r : α} : find ((id, r) :: rows) id = some r := by
  simp [find]

end Go.Abs

namespace Go.Abs
open Go.RowKit

inductive TD where
  | int (k : IntKind)
  | bool
  | string
  | func
  | slice (e : Nat)
  | struct (fs : List (Nat × Nat × Bool))
  | array (n e : Nat)

/-- What the calculus knows of a type. -/
structure TI where
  desc : TD
  size : Nat
  bytes : Nat
  zero : List Value
  eq : Bool
  /-- Rows that are built of this type are never written: a wish of the walk. -/
  fast : Bool := false

def TI.agg (t : TI) : Bool := match t.desc with | .struct _ => true | .array _ _ => true | _ => false

abbrev Tab := Nat → Option TI

def aggB (P : Program) (t : TypeId) : Bool := match P.underlying t with | some (.struct _) | some (.array _ _) => true | _ => false

def structFs (P : Program) (t : TypeId) : Option (Option (List (Nat × Nat × Bool))) :=
  (P.underlying t).map (fun d => match d with | .struct F => (if F.toList.all (fun f => (P.underlying f.type).isSome) then some (F.toList.map (fun f => (f.offset, ((P.info? f.type).map (·.size)).getD 0, aggB P f.type))) else none) | _ => none)
def funcB (P : Program) (t : TypeId) : Option Bool := (P.underlying t).map (fun d => match d with | .func _ _ _ => true | _ => false)

/-- Values of the type are made of integers alone, and compared one by one. -/
def EqOk (P : Program) (t n : Nat) : Prop := P.eqGuardType P.depth t = false ∧ ∀ (w : World) (l : List (IntKind × Int × Int)), l.length = n →
  (Op.equalIn 10000 t (.agg (l.map fun p => .int p.1 p.2.1).toArray) (.agg (l.map fun p => .int p.1 p.2.2).toArray)).run P w = .ok (l.all fun p => decide (p.2.1 = p.2.2)) w

def intB (P : Program) (t : TypeId) : Bool := match P.underlying t with | some (.int _) => true | _ => false
def eqB (P : Program) (t n : Nat) : Bool := match P.underlying t with
  | some (.struct fs) => fs.size == n && (List.range n).all (fun i => match fs[i]? with | some f => f.offset == i && f.name != "_" && intB P f.type | none => false) && !P.stoodInHeld t && !P.eqGuardType P.depth t
  | some (.array m e) => m == n && intB P e && (match P.info? e with | some i => i.size == 1 | none => false) && !P.eqGuardType P.depth t
  | _ => false

structure TIok (P : Program) (t : Nat) (ti : TI) : Prop where
  info : (P.info? t).map (fun i => (i.size, i.bytes, i.zero.map (·.cells.toList))) = some (ti.size, ti.bytes, some ti.zero)
  under : match ti.desc with
    | .int k => P.underlying t = some (.int k)
    | .bool => P.underlying t = some .bool
    | .string => P.underlying t = some .string
    | .slice e => P.underlying t = some (.slice e)
    | .func => funcB P t = some true
    | .struct fs => structFs P t = some (some fs)
    | .array n e => P.underlying t = some (.array n e)
  len : ti.zero.length = ti.size
  one : ti.zero.all (·.oneCell') = true
  eqs : (!ti.eq || eqB P t ti.size) = true

def TabOk (P : Program) (T : Tab) : Prop := ∀ t ti, T t = some ti → TIok P t ti
/-- The same types; rows that are built are never written. -/
def fastT (T : Tab) : Tab := fun t => match T t with
  | some ti => some { ti with fast := true }
  | none => none
theorem fastT_eq (T : Tab) (t : Nat) : fastT T t = match T t with
  | some ti => some { ti with fast := true }
  | none => none := rfl
theorem TabOk.fast {P : Program} {T : Tab} (h : TabOk P T) : TabOk P (fastT T) := by
  intro t ti ht
  unfold fastT at ht
  split at ht
  · rename_i ti' h'
    cases ht
    obtain ⟨h1, h2, h3, h4, h5⟩ := h t ti' h'
    exact ⟨h1, h2, h3, h4, h5⟩
  · cases ht

section
variable {P : Program} {t : Nat} {ti : TI}
theorem TIok.info' (h : TIok P t ti) : ∃ i z, P.info? t = some i ∧ i.size = ti.size ∧ i.bytes = ti.bytes ∧ i.zero = some z ∧ z.cells.toList = ti.zero := by
  have := h.info
  obtain ⟨i, hi, he⟩ := Option.map_eq_some_iff.1 this
  simp only [Prod.mk.injEq] at he
  obtain ⟨h1, h2, h3⟩ := he
  obtain ⟨z, hz, hz'⟩ := Option.map_eq_some_iff.1 h3
  exact ⟨i, z, hi, h1, h2, hz, hz'⟩
theorem TIok.strc (h : TIok P t ti) {fs : List (Nat × Nat × Bool)} (hd : ti.desc = .struct fs) :
    ∃ F : Array Field, P.underlying t = some (.struct F) ∧ F.toList.map (fun f => (f.offset, ((P.info? f.type).map (·.size)).getD 0, aggB P f.type)) = fs ∧ ∀ f ∈ F.toList, ∃ d, P.underlying f.type = some d := by
  have := h.under
  rw [hd] at this
  unfold structFs at this
  obtain ⟨d, h1, h2⟩ := Option.map_eq_some_iff.1 this
  cases d <;> simp only [reduceCtorEq] at h2
  split at h2
  · rename_i hall
    rw [List.all_eq_true] at hall
    exact ⟨_, h1, Option.some.inj h2, fun f hf => Option.isSome_iff_exists.1 (hall f hf)⟩
  · cases h2
theorem TIok.agg (h : TIok P t ti) : aggB P t = ti.agg := by
  have := h.under
  cases hd : ti.desc <;> rw [hd] at this <;> simp only [] at this
  all_goals try (simp [aggB, this, TI.agg, hd]; done)
  · unfold funcB at this
    obtain ⟨d, h1, h2⟩ := Option.map_eq_some_iff.1 this
    cases d <;> simp at h2
    simp [aggB, h1, TI.agg, hd]
  · obtain ⟨F, h1, _, _⟩ := h.strc hd
    simp [aggB, h1, TI.agg, hd]
theorem TIok.isSome (h : TIok P t ti) : ∃ d, P.underlying t = some d := by
  have := h.under
  cases hd : ti.desc <;> rw [hd] at this <;> simp only [] at this
  all_goals first | exact ⟨_, this⟩ | (first | unfold funcB at this | unfold structFs at this); (obtain ⟨d, h1, _⟩ := Option.map_eq_some_iff.1 this; exact ⟨d, h1⟩)
theorem run_isAgg {d : TypeDesc} (h : P.underlying t = some d) (w : World) : (isAgg t).run P w = .ok (aggB P t) w := by
  unfold isAgg aggB
  cases d <;> simp [run_underlying h, h]
end

def AV.cells : AV → Option (List AC)
  | .c x => some [x]
  | .agg xs => some xs
  | _ => none

def zac : Value → AC
  | .slice none 0 0 => .nil
  | v => .d (.sc v)

def zdc : Value → DC
  | .slice none 0 0 => .sl []
  | v => .sc v

def cst : Value → AV
  | .slice none 0 0 => .c .nil
  | .int k n => .c (.d (.sc (.int k n)))
  | .bool b => .c (.d (.sc (.bool b)))
  | .string s => .c (.d (.sc (.string s)))
  | .func f x y => .c (.d (.sc (.func f x y)))
  | .nilFunc => .c (.d (.sc .nilFunc))
  | _ => .any

/-- A package-level table: a pointer to data. -/
def goodAV (g : Nat) : AV :=
  match find goodTab g with
  | some vs => .c (.dptr (vs.map .sc))
  | none => .any
theorem goodAV_ment (g id : Nat) : (goodAV g).ment id = false := by
  unfold goodAV
  split <;> unfold AV.ment <;> rfl

def ASt.ev (s : ASt) : Operand → AV
  | .tmp t => match find s.tmps t with | some x => x | none => .any
  | .const v => cst v
  | .func f => .c (.d (.sc (.func (.func f) #[] #[])))
  | .global g => goodAV g

def takeAV (agg : Bool) (cs : List AC) (off n : Nat) : Option AV :=
  match agg with
  | true => if off + n ≤ cs.length then some (.agg ((cs.drop off).take n)) else none
  | false => match cs[off]? with | some x => some (.c x) | none => none

/-- A cell as pure data; a row of the call's own only if it is frozen or merely lent. -/
def dcOf (lent : Bool) (rows : List (Nat × ARow)) : AC → Option DC
  | .d x => some x
  | .nil => some (.sl [])
  | .row id => match find rows id with
    | some (.arr _ _ xs fl) => if fl || lent then some (.sl xs) else none
    | _ => none
  | _ => none

def dcsOf (lent : Bool) (rows : List (Nat × ARow)) : List AC → Option (List DC)
  | [] => some []
  | x :: xs => match dcOf lent rows x, dcsOf lent rows xs with
    | some y, some ys => some (y :: ys)
    | _, _ => none

/-- A value as it is handed to a function. -/
inductive DV where
  | c (x : DC)
  | agg (xs : List DC)
  | ptr (xs : List DC)

def dvOf (lent : Bool) (rows : List (Nat × ARow)) : AV → Option DV
  | .c (.dptr xs) => some (.ptr xs)
  | .c x => match dcOf lent rows x with | some y => some (.c y) | none => none
  | .agg xs => match dcsOf lent rows xs with | some ys => some (.agg ys) | none => none
  | _ => none

def dvsOf (lent : Bool) (rows : List (Nat × ARow)) : List AV → Option (List DV)
  | [] => some []
  | x :: xs => match dvOf lent rows x, dvsOf lent rows xs with
    | some y, some ys => some (y :: ys)
    | _, _ => none

/-- The result of a step: a side condition, a value, the rows that it makes. -/
inductive ER where
  | no
  | ok (c : Prop) (v : AV) (rows : List (Nat × ARow))

def sint (k : IntKind) (n : Int) : AV := .c (.d (.sc (.int k n)))
def sbool (b : Bool) : AV := .c (.d (.sc (.bool b)))
def sstr (s : ByteArray) : AV := .c (.d (.sc (.string s)))

def intF (op : BinOp) (k : IntKind) (a b : Int) : ER :=
  match op with
  | .add => .ok True (sint k (k.wrap (a + b))) []
  | .sub => .ok True (sint k (k.wrap (a - b))) []
  | .mul => .ok True (sint k (k.wrap (a * b))) []
  | .quo => .ok (b ≠ 0) (sint k (k.wrap (a.tdiv b))) []
  | .rem => .ok (b ≠ 0) (sint k (a.tmod b)) []
  | .eql => .ok True (sbool (decide (a = b))) []
  | .neq => .ok True (sbool (!decide (a = b))) []
  | .lss => .ok True (sbool (decide (a < b))) []
  | .leq => .ok True (sbool (decide (a ≤ b))) []
  | .gtr => .ok True (sbool (decide (a > b))) []
  | .geq => .ok True (sbool (decide (a ≥ b))) []
  | .and => .ok True (sint k (k.wrap (BitVec.ofInt k.bits a &&& BitVec.ofInt k.bits b).toNat)) []
  | .or => .ok True (sint k (k.wrap (BitVec.ofInt k.bits a ||| BitVec.ofInt k.bits b).toNat)) []
  | .xor => .ok True (sint k (k.wrap (BitVec.ofInt k.bits a ^^^ BitVec.ofInt k.bits b).toNat)) []
  | .andNot => .ok True (sint k (k.wrap (BitVec.ofInt k.bits a &&& ~~~BitVec.ofInt k.bits b).toNat)) []
  | _ => .no

def shF (op : BinOp) (k : IntKind) (a b : Int) : ER :=
  match op with
  | .shl => .ok (0 ≤ b) (sint k (k.wrap (a * 2 ^ (min b.toNat k.bits)))) []
  | .shr => .ok (0 ≤ b) (sint k (a.fdiv (2 ^ (min b.toNat k.bits)))) []
  | _ => .no

def isSh (op : BinOp) : Bool := match op with | .shl | .shr => true | _ => false

def boolF (op : BinOp) (a b : Bool) : ER :=
  match op with
  | .eql => .ok True (sbool (a == b)) []
  | .neq => .ok True (sbool (!(a == b))) []
  | _ => .no

def eqF (op : BinOp) (r : Bool) : ER :=
  match op with
  | .eql => .ok True (sbool r) []
  | .neq => .ok True (sbool (!r)) []
  | _ => .no

def strF (op : BinOp) (a b : ByteArray) : ER :=
  match op with
  | .add => .ok (a.size + b.size ≤ maxLen) (sstr (a ++ b)) []
  | .eql => .ok True (sbool (a.toList == b.toList)) []
  | .neq => .ok True (sbool (!(a.toList == b.toList))) []
  | _ => .no

/-- Two structs of integers alone. -/
def aggEq : List AC → List AC → Option Bool
  | [], [] => some true
  | .d (.sc (.int k a)) :: xs, .d (.sc (.int k' b)) :: ys => match aggEq xs ys with | some r => if k = k' then some (decide (a = b) && r) else none | none => none
  | _, _ => none

def nilF (op : BinOp) (c : Prop) (r : Bool) : ER :=
  match op with
  | .eql => .ok c (sbool r) []
  | .neq => .ok c (sbool (!r)) []
  | _ => .no
def isSl (T : Tab) (t : Nat) : Bool := match T t with | some ti => (match ti.desc with | .slice _ => true | _ => false) | none => false

def binF (T : Tab) (op : BinOp) (t : Nat) : AV → AV → ER
  | .c (.d (.sc (.int k a))), .c (.d (.sc (.int k' b))) => if isSh op = true then shF op k a b else if k = k' then intF op k a b else .no
  | .c (.d (.sc (.bool a))), .c (.d (.sc (.bool b))) => match T t with | some ti => (match ti.desc with | .bool => boolF op a b | _ => .no) | none => .no
  | .agg xs, .agg ys => match T t, aggEq xs ys with
    | some ti, some r => if ti.eq = true ∧ xs.length = ti.size then eqF op r else .no
    | _, _ => .no
  | .c (.d (.sc (.string a))), .c (.d (.sc (.string b))) => strF op a b
  | .c (.d (.sl xs)), .c .nil => if isSl T t then nilF op (xs ≠ []) false else .no
  | .c (.d (.sc (.slice a _ _))), .c .nil => if isSl T t then nilF op True a.isNone else .no
  | _, _ => .no

def unF (op : UnOp) : AV → ER
  | .c (.d (.sc (.int k a))) => match op with | .neg => .ok True (sint k (k.wrap (0 - a))) [] | _ => .no
  | .c (.d (.sc (.bool b))) => match op with | .not => .ok True (sbool (!b)) [] | _ => .no
  | _ => .no

def lenS : AV → ER
  | .c (.d (.sc (.string s))) => .ok True (sint .i64 s.size) []
  | _ => .no

def lenF : AV → List (Nat × ARow) → ER
  | .c (.d (.sl xs)), _ => .ok True (sint .i64 xs.length) []
  | .c .nil, _ => .ok True (sint .i64 0) []
  | .c (.row id), rows => match find rows id with | some (.arr _ _ xs _) => .ok True (sint .i64 xs.length) [] | _ => .no
  | _, _ => .no

def ASt.free (s : ASt) (id : Nat) : Bool := s.tmps.all (fun p => !p.2.ment id) && s.rows.all (fun p => p.1 != id && !p.2.ment id)

def loadF (T : Tab) (t : Nat) (rows : List (Nat × ARow)) : AV → Option AV
  | .c (.ptr id off) => match T t, find rows id with | some ti, some (.box _ cs) => takeAV ti.agg cs off ti.size | _, _ => none
  | .c (.eptr id i off) => match T t, find rows id with
    | some ti, some (.arr _ _ xs _) => match xs[i]? with | some x => takeAV ti.agg (x.map .d) off ti.size | none => none
    | _, _ => none
  | .c (.dptr xs) => match T t with | some ti => takeAV ti.agg (xs.map .d) 0 ti.size | none => none
  | _ => none

def fieldAddrF (T : Tab) (t f : Nat) (x : AV) : ER :=
    match T t with
    | some ti => match ti.desc with
      | .struct fs => match fs[f]? with
        | some (off', sz, _) => match x with
          | .c (.ptr id off) => .ok (sz ≠ 0) (.c (.ptr id (off + off'))) []
          | .c (.eptr id i off) => .ok (sz ≠ 0) (.c (.eptr id i (off + off'))) []
          | .c (.dptr xs) => .ok (sz ≠ 0) (.c (.dptr (xs.drop off'))) []
          | _ => .no
        | none => .no
      | _ => .no
    | none => .no

def fieldF (T : Tab) (t f : Nat) : AV → Option AV
  | .agg xs => match T t with
    | some ti => match ti.desc with
      | .struct fs => match fs[f]? with
        | some (off, sz, ag) => takeAV ag xs off sz
        | none => none
      | _ => none
    | none => none
  | _ => none

def indexAddrF (T : Tab) (t : Nat) (rows : List (Nat × ARow)) (x : AV) : AV → ER
  | .c (.d (.sc (.int _ n))) => match T t with
    | some ti => match ti.desc with
      | .slice e => match T e with
        | some te => match x with
          | .c (.d (.sl xs)) => match xs[n.toNat]? with
            | some y => .ok (0 ≤ n ∧ y.length = te.size) (.c (.dptr y)) []
            | none => .no
          | .c (.row id) => match find rows id with
            | some (.arr _ sz xs _) => .ok (0 ≤ n ∧ n < xs.length ∧ sz = te.size) (.c (.eptr id n.toNat 0)) []
            | _ => .no
          | _ => .no
        | none => .no
      | .array m e => match T e with
        | some te => match x with
          | .c (.ptr id off) => .ok (0 ≤ n ∧ n < m) (.c (.ptr id (off + n.toNat * te.size))) []
          | .c (.eptr id i off) => .ok (0 ≤ n ∧ n < m) (.c (.eptr id i (off + n.toNat * te.size))) []
          | .c (.dptr xs) => .ok (0 ≤ n ∧ n < m) (.c (.dptr (xs.drop (n.toNat * te.size)))) []
          | _ => .no
        | none => .no
      | _ => .no
    | none => .no
  | _ => .no

def indexF (T : Tab) (t : Nat) : AV → AV → ER
  | .c (.d (.sc (.string s))), .c (.d (.sc (.int _ n))) => match T t with
    | some ti => match ti.desc with
      | .string => match s.data.toList[n.toNat]? with
        | some b => .ok (0 ≤ n) (sint .u8 b.toNat) []
        | none => .no
      | _ => .no
    | none => .no
  | .agg xs, .c (.d (.sc (.int _ n))) => match T t with
    | some ti => match ti.desc with
      | .array m e => match T e with
        | some te => match takeAV te.agg xs (n.toNat * te.size) te.size with
          | some v => .ok (0 ≤ n ∧ n < m) v []
          | none => .no
        | none => .no
      | _ => .no
    | none => .no
  | _, _ => .no

def convF (T : Tab) (src dst : Nat) : AV → ER
  | .c (.d (.sc (.int _ n))) => match T src, T dst with
    | some _, some ti => match ti.desc with | .int k => .ok True (sint k (k.wrap n)) [] | .string => .ok True (sstr (Utf8.encode n)) [] | _ => .no
    | _, _ => .no
  | .c (.d (.sc (.string s))) => match T src, T dst with
    | some _, some ti => match ti.desc with | .string => .ok True (sstr s) [] | _ => .no
    | _, _ => .no
  | _ => .no

/-- Bytes as a string. -/
def byteD : List DC → UInt8
  | [.sc (.int .u8 n)] => UInt8.ofNat n.toNat
  | _ => 0
def isByte : List DC → Bool
  | [.sc (.int .u8 _)] => true
  | _ => false
def bytesS (ys : List (List DC)) : ByteArray := ⟨(ys.map byteD).toArray⟩
def rowOf (rows : List (Nat × ARow)) : AV → Option (List (List DC))
  | .c (.d (.sl ys)) => some ys
  | .c (.row id) => match find rows id with
    | some (.arr _ _ ys _) => some ys
    | _ => none
  | _ => none
def bytesF (T : Tab) (src dst : Nat) (rows : List (Nat × ARow)) (v : AV) : Option (Prop × ByteArray) :=
  match rowOf rows v with
  | some ys => match T src, T dst with
    | some ts, some ti => match ts.desc, ti.desc with
      | .slice e, .string => match T e with
        | some te => match te.desc with
          | .int .u8 => some (te.size = 1 ∧ ys.all isByte = true, bytesS ys)
          | _ => none
        | none => none
      | _, _ => none
    | _, _ => none
  | none => none

/-- Cells replaced from a place on. -/
def splice (cs : List AC) (off : Nat) (xs : List AC) : List AC := cs.take off ++ xs ++ cs.drop (off + xs.length)

def buildF (fs : List (Nat × Nat × Bool)) (s : ASt) : List AC → List (Nat × Operand) → Option (List AC)
  | cs, [] => some cs
  | cs, (i, x) :: rest => match fs[i]?, (s.ev x).cells with
    | some (off, sz, _), some xs => if xs.length = sz ∧ off + sz ≤ cs.length then buildF fs s (splice cs off xs) rest else none
    | _, _ => none

/-- The places of an array's elements. -/
def arrFs (sz : Nat) : Nat → Nat → List (Nat × Nat × Bool)
  | 0, _ => []
  | n + 1, off => (off, sz, false) :: arrFs sz n (off + sz)
theorem arrFs_get {sz : Nat} : ∀ {n off i : Nat} {p : Nat × Nat × Bool}, (arrFs sz n off)[i]? = some p → p = (off + i * sz, sz, false)
  | 0, off, i, p, h => by simp [arrFs] at h
  | n + 1, off, 0, p, h => by simp [arrFs] at h; simp [← h]
  | n + 1, off, i + 1, p, h => by
    simp only [arrFs, List.getElem?_cons_succ] at h
    rw [arrFs_get h, Nat.succ_mul]
    simp only [Prod.mk.injEq, and_true]
    omega

def buildSliceF (sz : Nat) (s : ASt) : List (List DC) → List (Nat × Operand) → Option (List (List DC))
  | xs, [] => some xs
  | xs, (i, x) :: rest => match (s.ev x).cells with
    | some cs => match dcsOf false s.rows cs with
      | some y => if y.length = sz ∧ i < xs.length then buildSliceF sz s (xs.set i y) rest else none
      | none => none
    | none => none

def optEv (s : ASt) : Option Operand → Option (Option Int)
  | none => some none
  | some x => match s.ev x with | .c (.d (.sc (.int _ n))) => some (some n) | _ => none

/-- A cut: bounds lo, hi, and where there is a third, it is no less than hi and no more than the length. -/
def cutF (len : Nat) (lo hi mx : Option Int) : Prop × Nat × Nat :=
  let h := hi.getD len
  let l := lo.getD 0
  ((0 ≤ l ∧ l ≤ h ∧ h ≤ len ∧ (∀ m, mx = some m → h ≤ m ∧ m ≤ len ∧ hi.isSome = true)), l.toNat, h.toNat)

def sliceF (T : Tab) (t : Nat) (rows : List (Nat × ARow)) (lo hi mx : Option Int) : AV → ER
  | .c (.d (.sc (.string s))) => match T t with
    | some ti => match ti.desc with
      | .string => .ok ((cutF s.size lo hi mx).1 ∧ mx = none) (sstr (s.extract (cutF s.size lo hi mx).2.1 (cutF s.size lo hi mx).2.2)) []
      | _ => .no
    | none => .no
  | .c (.dptr xs) => match T t with
    | some ti => match ti.desc with
      | .array m e => match T e with
        | some te => .ok ((cutF m lo hi mx).1 ∧ xs.length = m ∧ te.size = 1 ∧ m ≤ 1000000 ∧ mx = none) (.c (.d (.sl (((xs.map fun y => [y]).take (cutF m lo hi mx).2.2).drop (cutF m lo hi mx).2.1)))) []
        | none => .no
      | _ => .no
    | none => .no
  | .c x => match T t with
    | some ti => match ti.desc with
      | .slice e => match T e with
        | some te => match dcOf false rows x with
          | some (.sl xs) => .ok ((cutF xs.length lo hi mx).1 ∧ (∀ y, y ∈ xs → y.length = te.size)) (.c (.d (.sl ((xs.take (cutF xs.length lo hi mx).2.2).drop (cutF xs.length lo hi mx).2.1)))) []
          | _ => .no
        | none => .no
      | _ => .no
    | none => .no
  | _ => .no

def scalars (s : ASt) : List Operand → Option (List Value)
  | [] => some []
  | x :: xs => match s.ev x, scalars s xs with
    | .c (.d (.sc v)), some vs => some (v :: vs)
    | _, _ => none

def dptrs (s : ASt) : List Operand → Option (List (List DC))
  | [] => some []
  | x :: xs => match s.ev x, dptrs s xs with
    | .c (.dptr y), some ys => some (y :: ys)
    | _, _ => none

/-- Captured pointers, one of them to a row of the frame's own. -/
def capsOf (s : ASt) : List Operand → Option (List (List DC) × Nat × List (List DC))
  | [] => none
  | x :: xs => match s.ev x with
    | .c (.dptr y) => match capsOf s xs with | some (pre, id, post) => some (y :: pre, id, post) | none => none
    | .c (.ptr id 0) => match dptrs s xs with | some post => some ([], id, post) | none => none
    | _ => none

def effF (T : Tab) (d : Nat) (op : Op) (s : ASt) : ER :=
  match op with
  | .move x | .assign x => .ok True (s.ev x) []
  | .pick c a b => match s.ev c with
    | .c (.d (.sc (.bool t))) => .ok True (match t with | true => s.ev a | false => s.ev b) []
    | _ => .no
  | .alloc t => match T t with
    | some ti => .ok (s.free d = true) (.c (.ptr d 0)) [(d, .box t (ti.zero.map zac))]
    | none => .no
  | .box t x => match T t, (s.ev x).cells with
    | some ti, some cs => .ok (cs.length = ti.size ∧ s.free d = true) (.c (.ptr d 0)) [(d, .box t cs)]
    | _, _ => .no
  | .build t parts => match T t with
    | some ti => match ti.desc with
      | .struct fs => match buildF fs s (ti.zero.map zac) parts.toList with
        | some cs => .ok True (.agg cs) []
        | none => .no
      | .array m e => match T e with
        | some te => match buildF (arrFs te.size m 0) s (ti.zero.map zac) parts.toList with
          | some cs => .ok True (.agg cs) []
          | none => .no
        | none => .no
      | _ => .no
    | none => .no
  | .buildSlice t n parts => match T t with
    | some ti => match ti.desc with
      | .slice e => match T e with
        | some te => match buildSliceF te.size s (List.replicate n (te.zero.map zdc)) parts.toList with
          | some xs => match ti.fast with
            | false => .ok (s.free d = true ∧ n * te.size ≤ 2 ^ 24 ∧ 0 < te.size) (.c (.row d)) [(d, .arr e te.size xs false)]
            | true => match n with
              | 0 => .ok (s.free d = true ∧ 0 < te.size) .emp [(d, .arr e te.size xs true)]
              | _ + 1 => .ok (s.free d = true ∧ n * te.size ≤ 2 ^ 24 ∧ 0 < te.size) (.c (.row d)) [(d, .arr e te.size xs true)]
          | none => .no
        | none => .no
      | _ => .no
    | none => .no
  | .makeSlice t l c => match T t, s.ev l, s.ev c with
    | some ti, .c (.d (.sc (.int _ n))), .c (.d (.sc (.int _ m))) => match ti.desc with
      | .slice e => match T e with
        | some te => .ok (s.free d = true ∧ 0 ≤ n ∧ n ≤ m ∧ m ≤ 2 ^ 40 ∧ te.bytes ≤ 256 ∧ 0 < te.size) (.c (.row d)) [(d, .arr e te.size (List.replicate n.toNat (te.zero.map zdc)) false)]
        | none => .no
      | _ => .no
    | _, _, _ => .no
  | .load t x => match loadF T t s.rows (s.ev x) with | some v => .ok True v [] | none => .no
  | .fieldAddr t x f => fieldAddrF T t f (s.ev x)
  | .field t x f => match fieldF T t f (s.ev x) with | some v => .ok True v [] | none => .no
  | .indexAddr t x i => indexAddrF T t s.rows (s.ev x) (s.ev i)
  | .index t x i => indexF T t (s.ev x) (s.ev i)
  | .binOp op t x y _ => binF T op t (s.ev x) (s.ev y)
  | .unOp op _ x => unF op (s.ev x)
  | .nilCheck x => match s.ev x with
    | .c (.ptr id off) => .ok True (.c (.ptr id off)) []
    | .c (.eptr id i off) => .ok True (.c (.eptr id i off)) []
    | .c (.dptr xs) => .ok True (.c (.dptr xs)) []
    | _ => .no
  | .convert src dst x => match bytesF T src dst s.rows (s.ev x) with
    | some (c, b) => .ok c (sstr b) []
    | none => convF T src dst (s.ev x)
  | .slice t x lo hi mx => match optEv s lo, optEv s hi, optEv s mx with
    | some lo, some hi, some mx => sliceF T t s.rows lo hi mx (s.ev x)
    | _, _, _ => .no
  | .extract x i => match s.ev x with
    | .tup xs => match xs[i]? with | some v => .ok True v [] | none => .no
    | _ => .no
  | .makeFunc fn first captured => match scalars s first.toList, scalars s captured.toList with
    | some f, some c => .ok True (.c (.d (.sc (.func fn f.toArray c.toArray)))) []
    | some [], none => match fn with
      | .func f => match dptrs s captured.toList with
        | some xs => .ok True (.c (.d (.clo f xs))) []
        | none => match capsOf s captured.toList with
          | some (pre, id, post) => .ok True (.c (.pclo f pre id post)) []
          | none => .no
      | _ => .no
    | _, _ => .no
  | .call c => match c.callee with
    | .builtin .len => match c.args.toList, c.argTypes.toList with
      | [x], [t] => match T t with
        | some ti => match ti.desc with
          | .slice _ => lenF (s.ev x) s.rows
          | .string => lenS (s.ev x)
          | _ => .no
        | none => .no
      | _, _ => .no
    | .builtin .max => match c.args.toList with
      | [x, y] => match s.ev x, s.ev y with
        | .c (.d (.sc (.int k a))), .c (.d (.sc (.int _ b))) => .ok True (sint k (max a b)) []
        | _, _ => .no
      | _ => .no
    | .builtin .min => match c.args.toList with
      | [x, y] => match s.ev x, s.ev y with
        | .c (.d (.sc (.int k a))), .c (.d (.sc (.int _ b))) => .ok True (sint k (min a b)) []
        | _, _ => .no
      | _ => .no
    | .builtin .append => match c.args.toList, c.argTypes.toList with
      | [.const (.slice none 0 0), y], [t, tx] => match T t, T tx, s.ev y with
        | some ti, some tix, .c (.d (.sl ys)) => match ti.desc, tix.desc with
          | .slice e, .slice _ => match T e with
            | some te => .ok (s.free d = true ∧ ys.length ≤ 1099511627776 ∧ te.bytes ≤ 128 ∧ 0 < te.size ∧ ∀ z, z ∈ ys → z.length = te.size) (.c (.row d)) [(d, .arr e te.size ys true)]
            | none => .no
          | _, _ => .no
        | _, _, _ => .no
      | [x, y], [t, tx] => match s.ev x with
        | .emp => match T t, T tx, s.ev y with
          | some ti, some tix, .c (.d (.sl ys)) => match ti.desc, tix.desc with
            | .slice e, .slice _ => match T e with
              | some te => .ok (s.free d = true ∧ ys.length ≤ 1099511627776 ∧ te.bytes ≤ 128 ∧ 0 < te.size ∧ ∀ z, z ∈ ys → z.length = te.size) (.c (.d (.sl ys))) [(d, .arr e te.size ys true)]
              | none => .no
            | _, _ => .no
          | _, _, _ => .no
        | _ => .no
      | _, _ => .no
    | _ => .no
  | _ => .no

end Go.Abs

set_option linter.unusedSimpArgs false
set_option linter.unusedVariables false
namespace Go.Abs
open Go.RowKit

section
variable {S : Nat → Nat → Prop} {w0 : World} {N : Fm} {g : Gh} {st : ASt} {a : Act} {w : World}

theorem cst_sound (F : Nat → Nat → Prop) (w : World) (rows : List (Nat × ARow)) (g : Gh) (v : Value) : RelV F w rows g v (cst v) := by
  unfold cst
  split <;> unfold RelV <;> first | trivial | exact ⟨rfl, rfl⟩ | exact ⟨rfl, .sc _ rfl⟩

theorem Rel.ev (h : Rel S w0 N g st a w) (x : Operand) : RelV (Sf w0.heap.size S st.rows g) w st.rows g (a.eval x) (st.ev x) := by
  cases x with
  | tmp t =>
    simp only [ASt.ev]
    cases hf : find st.tmps t with
    | none => unfold RelV; trivial
    | some x =>
      obtain ⟨v, hv, hr⟩ := h.tmps t x hf
      have : a.eval (.tmp t) = v := by simp [Act.eval, hv]
      rw [this]; exact hr
  | const v => exact cst_sound _ _ _ _ v
  | func f =>
    simp only [ASt.ev]; unfold RelV
    exact ⟨rfl, .sc _ rfl⟩
  | global k =>
    simp only [ASt.ev, goodAV]
    cases hf : find goodTab k with
    | none => unfold RelV; trivial
    | some vs =>
      simp only
      obtain ⟨h1, T, fr, h2⟩ := h.goodW (k, vs) (find_mem hf)
      have hone := List.all_eq_true.1 goodOk (k, vs) (find_mem hf)
      unfold RelV
      refine ⟨rfl, k, 0, fun j => (vs[j]?).getD undef, rfl, fun j d hd => ?_⟩
      rw [List.getElem?_map] at hd
      obtain ⟨v, hv, rfl⟩ := Option.map_eq_some_iff.1 hd
      have hlt := (List.getElem?_eq_some_iff.1 hv).1
      refine ⟨by rw [Nat.zero_add]; exact h1 j hlt, ?_, ?_⟩
      · rw [Nat.zero_add, cl_row h2]; simp [hv]
      · simp only [hv, Option.getD_some]
        exact .sc _ (List.all_eq_true.1 hone v (List.mem_of_getElem? hv))


/-- Cells that lie at b, o and on. -/
def Win (F : Nat → Nat → Prop) (w : World) (rows : List (Nat × ARow)) (g : Gh) (b o : Nat) (cs : List AC) : Prop :=
  ∀ (j : Nat) (x : AC), cs[j]? = some x → ∃ u, cl w b (o + j) = some u ∧ u.oneCell' = true ∧ RelAC F w rows g u x

theorem load_win {P : Program} {t : Nat} {ti : TI} (hT : TIok P t ti) {F : Nat → Nat → Prop} {rows : List (Nat × ARow)} {b o off : Nat} {cs : List AC} (hw : Win F w rows g b o cs) {v : AV}
    (hv : takeAV ti.agg cs off ti.size = some v) : ∃ u, (loadVar t ⟨b, o + off, none⟩).run P w = .ok u w ∧ RelV F w rows g u v := by
  obtain ⟨d, hd⟩ := hT.isSome
  have hag := run_isAgg hd w
  rw [hT.agg] at hag
  obtain ⟨i, z, hi, hs, _, _, _⟩ := hT.info'
  unfold takeAV at hv
  cases hg : ti.agg with
  | false =>
    rw [hg] at hv hag
    simp only at hv
    cases hc : cs[off]? with
    | none => simp [hc] at hv
    | some x =>
      simp [hc] at hv
      subst hv
      obtain ⟨u, h1, h2, h3⟩ := hw off x hc
      refine ⟨u, ?_, ?_⟩
      · have hl : w.cell? ⟨b, o + off, none⟩ = some u := h1
        simp [loadVar, hag, run_load, hl]
      · unfold RelV; exact ⟨h2, h3⟩
  | true =>
    rw [hg] at hv hag
    simp only at hv
    split at hv
    · rename_i hle
      cases hv
      have hsel : ∀ j, ∃ u, (j < ti.size → cl w b (o + (off + j)) = some u ∧ u.oneCell' = true ∧ ∀ x, cs[off + j]? = some x → RelAC F w rows g u x) := by
        intro j
        by_cases hj : j < ti.size
        · have hlt : off + j < cs.length := by omega
          obtain ⟨u, h1, h2, h3⟩ := hw (off + j) cs[off + j] (List.getElem?_eq_getElem hlt)
          exact ⟨u, fun _ => ⟨h1, h2, fun x hx => by rw [List.getElem?_eq_getElem hlt] at hx; cases hx; exact h3⟩⟩
        · exact ⟨undef, fun h => absurd h hj⟩
      have hf : ∃ f : Nat → Value, ∀ j, j < ti.size → cl w b (o + (off + j)) = some (f j) ∧ (f j).oneCell' = true ∧ ∀ x, cs[off + j]? = some x → RelAC F w rows g (f j) x :=
        ⟨fun j => Classical.choose (hsel j), fun j => Classical.choose_spec (hsel j)⟩
      obtain ⟨f, hf⟩ := hf
      have hrun := run_loadCells (P := P) w ⟨b, o + off, none⟩ ti.size f (fun j hj => by
        rw [Addr.add_lit, Nat.add_assoc]; exact (hf j hj).1)
      refine ⟨.agg ((List.range ti.size).map f).toArray, ?_, ?_⟩
      · simp [loadVar, hag, sizeOf, typeInfo, hi, hs, hrun]
      · unfold RelV
        refine ⟨_, rfl, ?_⟩
        refine All2.of_get (by simp; omega) fun j u x hu hx => ?_
        simp only [List.getElem?_map] at hu
        rw [List.getElem?_take, List.getElem?_drop] at hx
        split at hx
        · rename_i hj
          rw [List.getElem?_range hj] at hu
          simp at hu
          subst hu
          obtain ⟨_, h2, h3⟩ := hf j hj
          exact ⟨h2, h3 x hx⟩
        · cases hx
    · cases hv

theorem Rel.box (h : Rel S w0 N g st a w) {id T : Nat} {cs : List AC} (hf : find st.rows id = some (.box T cs)) :
    ∃ b c cur, g id = some (b, c) ∧ w.heap[b]? = some (.cells cur T (0, 0)) ∧ cur.size = cs.length ∧ Win (Sf w0.heap.size S st.rows g) w st.rows g b 0 cs ∧
      All2 (fun u x => u.oneCell' = true ∧ RelAC (Sf w0.heap.size S st.rows g) w st.rows g u x) cur.toList cs := by
  obtain ⟨b, c, cur, h1, h2, h3⟩ := h.rows id _ hf
  refine ⟨b, c, cur, h1, h2, by simpa using h3.len, fun j x hx => ?_, h3⟩
  obtain ⟨u, hu, h4, h5⟩ := h3.get hx
  refine ⟨u, ?_, h4, h5⟩
  rw [Nat.zero_add, cl_row h2]
  simpa using hu

theorem Rel.arr (h : Rel S w0 N g st a w) {id e sz : Nat} {xs : List (List DC)} {fl : Bool} (hf : find st.rows id = some (.arr e sz xs fl)) {b c : Nat} (hg : g id = some (b, c)) {i : Nat} {x : List DC} (hx : xs[i]? = some x) :
    Win (Sf w0.heap.size S st.rows g) w st.rows g b (i * sz) (x.map .d) := by
  obtain ⟨_, h0⟩ := h.rows id _ hf
  rcases h0 with ⟨h1, _⟩ | ⟨b', cap, cur, h1, h2, _, _, _, h3⟩
  · rw [h1] at hg; cases hg
  · rw [h1] at hg
    cases hg
    intro j y hy
    rw [List.getElem?_map] at hy
    obtain ⟨d, hd, rfl⟩ := Option.map_eq_some_iff.1 hy
    obtain ⟨u, hu, hr⟩ := h3 i j x d hx hd
    exact ⟨u, by rw [cl_row h2]; exact hu, hr.one, hr⟩

theorem win_dptr {F : Nat → Nat → Prop} {rows : List (Nat × ARow)} {xs : List DC} {b o : Nat} {us : Nat → Value}
    (h : ∀ (j : Nat) (d : DC), xs[j]? = some d → F b (o + j) ∧ cl w b (o + j) = some (us j) ∧ RelC F w (us j) d) : Win F w rows g b o (xs.map .d) := by
  intro j y hy
  rw [List.getElem?_map] at hy
  obtain ⟨d, hd, rfl⟩ := Option.map_eq_some_iff.1 hy
  obtain ⟨_, h2, h3⟩ := h j d hd
  exact ⟨_, h2, h3.one, h3⟩

theorem load_sound {P : Program} {T : Tab} (hT : TabOk P T) (h : Rel S w0 N g st a w) (t : Nat) (x : Operand) {v : AV} (hv : loadF T t st.rows (st.ev x) = some v) :
    ∃ u, (Instr.loadAt t (a.eval x)).run P w = .ok u w ∧ RelV (Sf w0.heap.size S st.rows g) w st.rows g u v := by
  have hx := h.ev x
  unfold loadF at hv
  split at hv
  · rename_i id off he
    rw [he] at hx
    unfold RelV at hx
    obtain ⟨_, b, c, hg, hu⟩ := hx
    split at hv
    · rename_i ti T0 cs ht hf
      obtain ⟨b', c', cur, h1, _, _, hwin, _⟩ := h.box hf
      rw [h1] at hg; cases hg
      have := load_win (hT t ti ht) hwin hv
      rw [Nat.zero_add] at this
      obtain ⟨u, h4, h5⟩ := this
      exact ⟨u, by simp [Instr.loadAt, hu, Instr.sureAddr, h4], h5⟩
    · cases hv
  · rename_i id i off he
    rw [he] at hx
    unfold RelV at hx
    obtain ⟨_, b, c, e, sz, xs, fl, hg, hf, hu⟩ := hx
    split at hv
    · rename_i ti e' sz' xs' fl' ht hf'
      rw [hf'] at hf
      cases hf
      split at hv
      · rename_i y hy
        have hwin := h.arr hf' hg hy
        obtain ⟨u, h4, h5⟩ := load_win (hT t ti ht) hwin hv
        exact ⟨u, by simp [Instr.loadAt, hu, Instr.sureAddr, h4], h5⟩
      · cases hv
    · cases hv
  · rename_i xs he
    rw [he] at hx
    unfold RelV at hx
    obtain ⟨_, b, o, us, hu, hall⟩ := hx
    split at hv
    · rename_i ti ht
      obtain ⟨u, h4, h5⟩ := load_win (off := 0) (hT t ti ht) (win_dptr hall) hv
      exact ⟨u, by simp [Instr.loadAt, hu, Instr.sureAddr] at h4 ⊢; exact h4, h5⟩
    · cases hv
  · cases hv

theorem run_fieldAt {P : Program} {t : Nat} {F : Array Field} (hu : P.underlying t = some (.struct F)) {f : Nat} {off sz : Nat} {ag : Bool}
    (hf : (F.toList.map (fun f => (f.offset, ((P.info? f.type).map (·.size)).getD 0, aggB P f.type)))[f]? = some (off, sz, ag)) (hz : sz ≠ 0) (b o : Nat) (w : World) :
    (Instr.fieldAt t (.pointer (some ⟨b, o, none⟩)) f).run P w = .ok (.pointer (some ⟨b, o + off, none⟩)) w := by
  rw [List.getElem?_map] at hf
  obtain ⟨fd, h1, h2⟩ := Option.map_eq_some_iff.1 hf
  simp only [Prod.mk.injEq] at h2
  obtain ⟨h2, h3, _⟩ := h2
  have hF : F[f]? = some fd := by simpa using h1
  cases hi : P.info? fd.type with
  | none => rw [hi] at h3; simp at h3; omega
  | some i =>
    rw [hi] at h3
    simp at h3
    have hsz : i.size ≠ 0 := by omega
    simp [Instr.fieldAt, run_underlying hu, hF, Instr.sureAddr, fieldPlace, sizeOf, typeInfo, hi, hsz, Addr.add_lit, h2]

theorem fieldAddr_sound {P : Program} {T : Tab} (hT : TabOk P T) (h : Rel S w0 N g st a w) (t f : Nat) (x : Operand) {c : Prop} {v : AV} {rs : List (Nat × ARow)} (hv : fieldAddrF T t f (st.ev x) = .ok c v rs) (hc : c) :
    rs = [] ∧ ∃ u, (Instr.fieldAt t (a.eval x) f).run P w = .ok u w ∧ RelV (Sf w0.heap.size S st.rows g) w st.rows g u v := by
  have hx := h.ev x
  unfold fieldAddrF at hv
  split at hv
  · rename_i ti ht
    split at hv
    · rename_i fs hd
      obtain ⟨F, hu, hF, _⟩ := (hT t ti ht).strc hd
      split at hv
      · rename_i off' sz ag hf
        rw [← hF] at hf
        split at hv
        · rename_i id off he
          rw [he] at hx
          cases hv
          unfold RelV at hx
          obtain ⟨_, b, c, hg, hu'⟩ := hx
          refine ⟨rfl, _, by rw [hu']; exact run_fieldAt hu hf hc b off w, ?_⟩
          unfold RelV
          exact ⟨rfl, b, c, hg, rfl⟩
        · rename_i id i off he
          rw [he] at hx
          cases hv
          unfold RelV at hx
          obtain ⟨_, b, c, e, sz', xs, fl, hg, hr, hu'⟩ := hx
          refine ⟨rfl, _, by rw [hu']; exact run_fieldAt hu hf hc b _ w, ?_⟩
          unfold RelV
          exact ⟨rfl, b, c, e, sz', xs, fl, hg, hr, by rw [Nat.add_assoc]⟩
        · rename_i xs he
          rw [he] at hx
          cases hv
          unfold RelV at hx
          obtain ⟨_, b, o, us, hu', hall⟩ := hx
          refine ⟨rfl, _, by rw [hu']; exact run_fieldAt hu hf hc b _ w, ?_⟩
          unfold RelV
          refine ⟨rfl, b, o + off', fun j => us (off' + j), rfl, fun j d hd => ?_⟩
          rw [List.getElem?_drop] at hd
          have := hall (off' + j) d hd
          rw [Nat.add_assoc]
          exact this
        · cases hv
      · cases hv
    · cases hv
  · cases hv

theorem field_sound {P : Program} {T : Tab} (hT : TabOk P T) (h : Rel S w0 N g st a w) (t f : Nat) (x : Operand) {v : AV} (hv : fieldF T t f (st.ev x) = some v) :
    ∃ u, (Instr.field t (a.eval x) f).run P w = .ok u w ∧ RelV (Sf w0.heap.size S st.rows g) w st.rows g u v := by
  have hx := h.ev x
  unfold fieldF at hv
  split at hv
  · rename_i xs he
    rw [he] at hx
    unfold RelV at hx
    obtain ⟨cs, hu, hall⟩ := hx
    split at hv
    · rename_i ti ht
      split at hv
      · rename_i fs hd
        obtain ⟨F, hF1, hF, hsome⟩ := (hT t ti ht).strc hd
        split at hv
        · rename_i off sz ag hf
          rw [← hF, List.getElem?_map] at hf
          obtain ⟨fd, h1, h2⟩ := Option.map_eq_some_iff.1 hf
          simp only [Prod.mk.injEq] at h2
          obtain ⟨h2, h3, h4⟩ := h2
          have hFd : F[f]? = some fd := by simpa using h1
          unfold takeAV at hv
          cases ag with
          | true =>
            simp only at hv
            split at hv
            · cases hv
              have hagg : ∃ d, P.underlying fd.type = some d := by
                unfold aggB at h4
                cases hq : P.underlying fd.type with
                | none => simp [hq] at h4
                | some d => exact ⟨d, rfl⟩
              obtain ⟨d, hd'⟩ := hagg
              have hinfo : ∃ i, P.info? fd.type = some i := by
                unfold Program.underlying at hd'
                cases hq : P.info? fd.type with
                | none => simp [hq] at hd'
                | some i => exact ⟨i, rfl⟩
              obtain ⟨i, hi⟩ := hinfo
              rw [hi] at h3
              simp at h3
              refine ⟨.agg (cs.extract off (off + sz)), ?_, ?_⟩
              · simp [Instr.field, run_underlying hF1, hFd, hu, asAgg, part, run_isAgg hd' w, h4, sizeOf, typeInfo, hi, h3, h2]
              · unfold RelV
                refine ⟨_, rfl, ?_⟩
                have := (hall.drop off).take sz
                simpa [List.extract_eq_take_drop] using this
            · cases hv
          | false =>
            simp only at hv
            split at hv
            · rename_i y hy
              cases hv
              obtain ⟨u, hu1, hu2, hu3⟩ := hall.get hy
              have hcu : cs[off]? = some u := by simpa using hu1
              refine ⟨u, ?_, by unfold RelV; exact ⟨hu2, hu3⟩⟩
              obtain ⟨d, hq⟩ := hsome fd (List.mem_of_getElem? h1)
              simp [Instr.field, run_underlying hF1, hFd, hu, asAgg, part, run_isAgg hq w, h4, h2, hcu]
            · cases hv
        · cases hv
      · cases hv
    · cases hv
  · cases hv


theorem indexAddr_sound {P : Program} {T : Tab} (hT : TabOk P T) (h : Rel S w0 N g st a w) (t : Nat) (x i : Operand) {c : Prop} {v : AV} {rs : List (Nat × ARow)}
    (hv : indexAddrF T t st.rows (st.ev x) (st.ev i) = .ok c v rs) (hc : c) :
    rs = [] ∧ ∃ u, (Instr.indexAt t (a.eval x) (a.eval i)).run P w = .ok u w ∧ RelV (Sf w0.heap.size S st.rows g) w st.rows g u v := by
  have hx := h.ev x
  have hi := h.ev i
  unfold indexAddrF at hv
  split at hv
  · rename_i k n he
    rw [he] at hi
    unfold RelV at hi
    obtain ⟨_, hi⟩ := hi
    cases hi' : a.eval i <;> rw [hi'] at hi <;> cases hi
    split at hv
    · rename_i ti ht
      split at hv
      · rename_i e hd
        have hu := (hT t ti ht).under
        rw [hd] at hu
        simp only at hu
        split at hv
        · rename_i te hte
          obtain ⟨ie, ze, hie, hse, _, _, _⟩ := (hT e te hte).info'
          split at hv
          · rename_i xs hex
            rw [hex] at hx
            unfold RelV at hx
            obtain ⟨_, hx⟩ := hx
            split at hv
            · rename_i y hy
              cases hv
              obtain ⟨h0, hlen⟩ := hc
              generalize a.eval x = u at hx
              cases hx with
              | emp => simp at hy
              | sl b o c' sz xs us hcap hm hsz hS hr =>
                have hsz' : sz = te.size := by rw [← hlen]; exact (hsz _ _ hy).symm
                have hlt : n.toNat < xs.length := (List.getElem?_eq_some_iff.1 hy).1
                refine ⟨rfl, .pointer (some ⟨b, o + n.toNat * te.size, none⟩), ?_, ?_⟩
                · have : (0 ≤ n ∧ n < (xs.length : Int)) := ⟨h0, by omega⟩
                  simp [Instr.indexAt, run_underlying hu, asIntOf, this, sizeOf, typeInfo, hie, hse, Addr.add_lit]
                · unfold RelV
                  refine ⟨rfl, b, _, fun j => us n.toNat j, rfl, fun j d hd => ?_⟩
                  subst hsz'
                  obtain ⟨h1, h2⟩ := hS _ j y d hy hd
                  exact ⟨h1, h2, hr _ j y d hy hd⟩
            · cases hv
          · rename_i id hex
            rw [hex] at hx
            unfold RelV at hx
            obtain ⟨_, e', sz', xs', fl', hf', hu'⟩ := hx
            split at hv
            · rename_i e2 sz xs fl hf
              rw [hf] at hf'
              cases hf'
              cases hv
              obtain ⟨h0, hlt, hsz⟩ := hc
              obtain ⟨_, hrow⟩ := h.rows id _ hf
              rcases hrow with ⟨hg, hnil⟩ | ⟨b, cap, cur, hg, hh, hcap, hm, hcs, hcells⟩
              · subst hnil; simp at hlt; omega
              · rw [hg] at hu'
                simp only [gsl] at hu'
                refine ⟨rfl, .pointer (some ⟨b, n.toNat * te.size, none⟩), ?_, ?_⟩
                · simp [Instr.indexAt, run_underlying hu, asIntOf, hu', h0, hlt, sizeOf, typeInfo, hie, hse, Addr.add_lit]
                · unfold RelV
                  exact ⟨rfl, b, cap, _, _, _, _, hg, hf, by rw [hsz]; rfl⟩
            · cases hv
          · cases hv
        · cases hv
      · rename_i m e hd
        have hu := (hT t ti ht).under
        rw [hd] at hu
        simp only at hu
        split at hv
        · rename_i te hte
          obtain ⟨ie, ze, hie, hse, _, _, _⟩ := (hT e te hte).info'
          split at hv
          · rename_i id off hex
            rw [hex] at hx
            cases hv
            unfold RelV at hx
            obtain ⟨_, b, c', hg, hu'⟩ := hx
            refine ⟨rfl, .pointer (some ⟨b, off + n.toNat * te.size, none⟩), ?_, ?_⟩
            · simp [Instr.indexAt, run_underlying hu, asIntOf, hu', hc, Instr.sureAddr, sizeOf, typeInfo, hie, hse, Addr.add_lit]
            · unfold RelV
              exact ⟨rfl, b, c', hg, rfl⟩
          · rename_i id i' off hex
            rw [hex] at hx
            cases hv
            unfold RelV at hx
            obtain ⟨_, b, c', e', sz', xs', fl', hg, hf, hu'⟩ := hx
            refine ⟨rfl, .pointer (some ⟨b, i' * sz' + off + n.toNat * te.size, none⟩), ?_, ?_⟩
            · simp [Instr.indexAt, run_underlying hu, asIntOf, hu', hc, Instr.sureAddr, sizeOf, typeInfo, hie, hse, Addr.add_lit]
            · unfold RelV
              exact ⟨rfl, b, c', e', sz', xs', fl', hg, hf, by rw [Nat.add_assoc]⟩
          · rename_i xs hex
            rw [hex] at hx
            cases hv
            unfold RelV at hx
            obtain ⟨_, b, o, us, hu', hall⟩ := hx
            refine ⟨rfl, .pointer (some ⟨b, o + n.toNat * te.size, none⟩), ?_, ?_⟩
            · simp [Instr.indexAt, run_underlying hu, asIntOf, hu', hc, Instr.sureAddr, sizeOf, typeInfo, hie, hse, Addr.add_lit]
            · unfold RelV
              refine ⟨rfl, b, o + n.toNat * te.size, fun j => us (n.toNat * te.size + j), rfl, fun j d hd => ?_⟩
              rw [List.getElem?_drop] at hd
              have := hall (n.toNat * te.size + j) d hd
              rw [Nat.add_assoc]
              exact this
          · cases hv
        · cases hv
      · cases hv
    · cases hv
  · cases hv

theorem index_sound {P : Program} {T : Tab} (hT : TabOk P T) (h : Rel S w0 N g st a w) (t : Nat) (x i : Operand) {c : Prop} {v : AV} {rs : List (Nat × ARow)}
    (hv : indexF T t (st.ev x) (st.ev i) = .ok c v rs) (hc : c) :
    rs = [] ∧ ∃ u, (Instr.index t (a.eval x) (a.eval i)).run P w = .ok u w ∧ RelV (Sf w0.heap.size S st.rows g) w st.rows g u v := by
  have hx := h.ev x
  have hi := h.ev i
  unfold indexF at hv
  split at hv
  · rename_i s k n hex hei
    rw [hex] at hx
    rw [hei] at hi
    unfold RelV at hx hi
    obtain ⟨_, hx⟩ := hx
    obtain ⟨_, hi⟩ := hi
    cases hi' : a.eval i <;> rw [hi'] at hi <;> cases hi
    cases hx' : a.eval x <;> rw [hx'] at hx <;> cases hx
    split at hv
    · rename_i ti ht
      split at hv
      · rename_i hd
        have hu := (hT t ti ht).under
        rw [hd] at hu
        simp only at hu
        split at hv
        · rename_i b hb
          cases hv
          have hlt : n.toNat < s.size := by
            have := (List.getElem?_eq_some_iff.1 hb).1
            simpa using this
          have hbb : s[n.toNat] = b := by
            have := (List.getElem?_eq_some_iff.1 hb).2
            rw [← this]; rfl
          refine ⟨rfl, .int .u8 b.toNat, ?_, ?_⟩
          · rw [run_index_string (w := w) t s k n hu]
            rw [dif_pos ⟨hc, by omega⟩, hbb]
          · unfold sint RelV
            exact ⟨rfl, .sc _ rfl⟩
        · cases hv
      · cases hv
    · cases hv
  · rename_i xs k n hex hei
    rw [hex] at hx
    rw [hei] at hi
    unfold RelV at hx hi
    obtain ⟨cs, hu, hall⟩ := hx
    obtain ⟨_, hi⟩ := hi
    cases hi' : a.eval i <;> rw [hi'] at hi <;> cases hi
    split at hv
    · rename_i ti ht
      split at hv
      · rename_i m e hd
        have hun := (hT t ti ht).under
        rw [hd] at hun
        simp only at hun
        split at hv
        · rename_i te hte
          obtain ⟨ie, ze, hie, hse, _⟩ := (hT e te hte).info'
          obtain ⟨d, hq⟩ := (hT e te hte).isSome
          have hagg := (hT e te hte).agg
          split at hv
          · rename_i v' hv'
            cases hv
            refine ⟨rfl, ?_⟩
            have hc' : 0 ≤ n ∧ n < (m : Int) := hc
            unfold takeAV at hv'
            cases ag : te.agg with
            | true =>
              rw [ag] at hv' hagg
              simp only at hv'
              split at hv'
              · cases hv'
                refine ⟨.agg (cs.extract (n.toNat * te.size) (n.toNat * te.size + te.size)), ?_, ?_⟩
                · simp [Instr.index, run_underlying hun, hu, asIntOf, part, run_isAgg hq w, hagg, sizeOf, typeInfo, hie, hse, hc']
                · unfold RelV
                  refine ⟨_, rfl, ?_⟩
                  have := (hall.drop (n.toNat * te.size)).take te.size
                  simpa [List.extract_eq_take_drop] using this
              · cases hv'
            | false =>
              rw [ag] at hv' hagg
              simp only at hv'
              split at hv'
              · rename_i y hy
                cases hv'
                obtain ⟨u, hu1, hu2, hu3⟩ := hall.get hy
                have hcu : cs[n.toNat * te.size]? = some u := by simpa using hu1
                refine ⟨u, ?_, by unfold RelV; exact ⟨hu2, hu3⟩⟩
                simp [Instr.index, run_underlying hun, hu, asIntOf, part, run_isAgg hq w, hagg, sizeOf, typeInfo, hie, hse, hc', hcu]
              · cases hv'
          · cases hv
        · cases hv
      · cases hv
    · cases hv
  · cases hv

theorem rel_sint (F : Nat → Nat → Prop) (w : World) (rows : List (Nat × ARow)) (g : Gh) (k : IntKind) (n : Int) : RelV F w rows g (.int k n) (sint k n) := by
  unfold sint RelV; exact ⟨rfl, .sc _ rfl⟩
theorem rel_sbool (F : Nat → Nat → Prop) (w : World) (rows : List (Nat × ARow)) (g : Gh) (b : Bool) : RelV F w rows g (.bool b) (sbool b) := by
  unfold sbool RelV; exact ⟨rfl, .sc _ rfl⟩
theorem rel_sstr (F : Nat → Nat → Prop) (w : World) (rows : List (Nat × ARow)) (g : Gh) (s : ByteArray) : RelV F w rows g (.string s) (sstr s) := by
  unfold sstr RelV; exact ⟨rfl, .sc _ rfl⟩

/-- A scalar cell stands for itself. -/
theorem relV_sc {F : Nat → Nat → Prop} {w : World} {rows : List (Nat × ARow)} {g : Gh} {u v : Value} (h : RelV F w rows g u (.c (.d (.sc v)))) : u = v := by
  unfold RelV at h
  obtain ⟨_, h⟩ := h
  cases h; rfl

theorem eqFields_ints {P : Program} {w : World} {l : List (IntKind × Int × Int)} : ∀ (fs : List Field) (k : Nat), (∀ i f, fs[i]? = some f → f.offset = k + i ∧ f.name ≠ "_" ∧ intB P f.type = true) → fs.length + k = l.length →
    (Op.eqFields 9999 (l.map fun p => Value.int p.1 p.2.1).toArray (l.map fun p => Value.int p.1 p.2.2).toArray fs).run P w = .ok ((l.drop k).all fun p => decide (p.2.1 = p.2.2)) w
  | [], k, _, hl => by
    rw [List.drop_of_length_le (by simp at hl; omega)]
    simp [Op.eqFields]
  | f :: fs, k, h, hl => by
    obtain ⟨h1, h2, h3⟩ := h 0 f rfl
    have hk : k < l.length := by simp at hl; omega
    have hu : ∃ kk, P.underlying f.type = some (.int kk) := by
      unfold intB at h3
      split at h3
      · rename_i kk hkk; exact ⟨kk, hkk⟩
      · cases h3
    obtain ⟨kk, hu⟩ := hu
    have hp : ∀ (vs : Array Value) (v : Value), vs[f.offset]? = some v → (part f.type vs f.offset).run P w = .ok v w := by
      intro vs v hv
      simp [part, isAgg, run_underlying hu, hv]
    have ho : f.offset = k := by simpa using h1
    have hx : (part f.type (l.map fun p => Value.int p.1 p.2.1).toArray f.offset).run P w = .ok (.int (l[k]).1 (l[k]).2.1) w := hp _ _ (by rw [ho]; simp [hk])
    have hy : (part f.type (l.map fun p => Value.int p.1 p.2.2).toArray f.offset).run P w = .ok (.int (l[k]).1 (l[k]).2.2) w := hp _ _ (by rw [ho]; simp [hk])
    have ih := eqFields_ints (P := P) (w := w) (l := l) fs (k + 1) (fun i g hg => by
      have := h (i + 1) g (by simpa using hg)
      exact ⟨by omega, this.2⟩) (by simp at hl ⊢; omega)
    have hd : l.drop k = l[k] :: l.drop (k + 1) := List.drop_eq_getElem_cons hk
    simp only [Op.eqFields, h2, ne_eq, not_false_eq_true, if_true, Sem.run_bind, hx, hy, Result.andThen_ok, run_equalIn_int w 9998 f.type _ kk _ _ hu, hd, List.all_cons]
    by_cases he : (l[k]).2.1 = (l[k]).2.2
    · simp [he, ih]
    · simp [he]

theorem eqItems_ints {P : Program} {w : World} {l : List (IntKind × Int × Int)} {e : TypeId} {kk : IntKind} (hu : P.underlying e = some (.int kk)) : ∀ (n k : Nat), n + k = l.length →
    (Op.eqItems 9999 e 1 (l.map fun p => Value.int p.1 p.2.1).toArray (l.map fun p => Value.int p.1 p.2.2).toArray (List.range' k n)).run P w = .ok ((l.drop k).all fun p => decide (p.2.1 = p.2.2)) w
  | 0, k, hl => by
    rw [List.drop_of_length_le (by omega)]
    simp [Op.eqItems]
  | n + 1, k, hl => by
    have hk : k < l.length := by omega
    have hp : ∀ (vs : Array Value) (v : Value), vs[k * 1]? = some v → (part e vs (k * 1)).run P w = .ok v w := by
      intro vs v hv
      rw [Nat.mul_one] at hv
      simp [part, isAgg, run_underlying hu, hv]
    have hx : (part e (l.map fun p => Value.int p.1 p.2.1).toArray (k * 1)).run P w = .ok (.int (l[k]).1 (l[k]).2.1) w := hp _ _ (by simp [hk])
    have hy : (part e (l.map fun p => Value.int p.1 p.2.2).toArray (k * 1)).run P w = .ok (.int (l[k]).1 (l[k]).2.2) w := hp _ _ (by simp [hk])
    have ih := eqItems_ints (P := P) (w := w) (l := l) hu n (k + 1) (by omega)
    have hd : l.drop k = l[k] :: l.drop (k + 1) := List.drop_eq_getElem_cons hk
    rw [List.range'_succ]
    simp only [Op.eqItems, Sem.run_bind, hx, hy, Result.andThen_ok, run_equalIn_int w 9998 e _ kk _ _ hu, hd, List.all_cons]
    by_cases he : (l[k]).2.1 = (l[k]).2.2
    · simp [he, ih]
    · simp [he]

theorem eqOk_of {P : Program} {t n : Nat} (h : eqB P t n = true) : EqOk P t n := by
  unfold eqB at h
  split at h
  · rename_i fs hu
    simp only [Bool.and_eq_true, Bool.not_eq_true', List.all_eq_true, List.mem_range, beq_iff_eq] at h
    obtain ⟨⟨⟨h1, h2⟩, h3⟩, h4⟩ := h
    refine ⟨h4, fun w l hl => ?_⟩
    have hf : P.fieldsOf t = fs := by simp [Program.fieldsOf, hu]
    rw [run_equalIn_struct w 9999 t _ _ (by rw [hf]; exact hu) h3, hf]
    have := eqFields_ints (P := P) (w := w) (l := l) fs.toList 0 (fun i f hi => ?_) (by simp; omega)
    · simpa using this
    · have hlt : i < fs.size := by
        have := (List.getElem?_eq_some_iff.1 hi).1
        simpa using this
      have h5 := h2 i (by omega)
      have hi' : fs[i]? = some f := by simpa using hi
      rw [hi'] at h5
      simp only [Bool.and_eq_true, beq_iff_eq, bne_iff_ne, ne_eq] at h5
      exact ⟨by omega, h5.1.2, h5.2⟩
  · rename_i m e hu
    simp only [Bool.and_eq_true, Bool.not_eq_true', beq_iff_eq] at h
    obtain ⟨⟨⟨h1, h2⟩, h3⟩, h4⟩ := h
    refine ⟨h4, fun w l hl => ?_⟩
    have hue : ∃ kk, P.underlying e = some (.int kk) := by
      unfold intB at h2
      split at h2
      · rename_i kk hkk; exact ⟨kk, hkk⟩
      · cases h2
    obtain ⟨kk, hue⟩ := hue
    split at h3
    · rename_i i hi
      have hc : P.cellsOf e = 1 := by
        unfold Program.cellsOf
        rw [hi]
        simpa using h3
      rw [run_equalIn_array w 9999 _ _ hu hi, hc, h1, List.range_eq_range']
      have := eqItems_ints (P := P) (w := w) (l := l) hue n 0 (by omega)
      simpa using this
    · cases h3
  · cases h

theorem aggEq_sound {F : Nat → Nat → Prop} {w : World} {rows : List (Nat × ARow)} {g : Gh} : ∀ {xs ys : List AC} {us vs : List Value} {r : Bool}, aggEq xs ys = some r →
    All2 (fun u x => u.oneCell' = true ∧ RelAC F w rows g u x) us xs → All2 (fun u x => u.oneCell' = true ∧ RelAC F w rows g u x) vs ys →
    ∃ l : List (IntKind × Int × Int), l.length = xs.length ∧ us = l.map (fun p => .int p.1 p.2.1) ∧ vs = l.map (fun p => .int p.1 p.2.2) ∧ r = l.all fun p => decide (p.2.1 = p.2.2) := by
  intro xs
  induction xs with
  | nil =>
    intro ys us vs r h hx hy
    cases ys with
    | nil => cases hx; cases hy; simp only [aggEq] at h; cases h; exact ⟨[], rfl, rfl, rfl, rfl⟩
    | cons y ys => simp [aggEq] at h
  | cons x xs ih =>
    intro ys us vs r h hx hy
    unfold aggEq at h
    split at h
    · rename_i hh; cases hh
    · rename_i k a xs' k' b ys' he
      cases he
      cases hr : aggEq xs ys' with
      | none => rw [hr] at h; cases h
      | some r' =>
        rw [hr] at h
        simp only at h
        split at h
        · rename_i hk
          subst hk
          cases h
          cases hx with
          | cons hx1 hx2 =>
            cases hy with
            | cons hy1 hy2 =>
              obtain ⟨l, h1, h2, h3, h4⟩ := ih hr hx2 hy2
              refine ⟨(k, a, b) :: l, by simp [h1], ?_, ?_, by simp [h4]⟩
              · have := hx1.2
                cases this
                simp [h2]
              · have := hy1.2
                cases this
                simp [h3]
        · cases h
    · cases h

theorem nil_bin {P : Program} {T : Tab} (hT : TabOk P T) {op : BinOp} {t : Nat} {x y : Operand} {ad : Option Addr} {n cp : Nat} {c0 c : Prop} {v : AV} {rs : List (Nat × ARow)} {b : Bool}
    (hsl : isSl T t = true) (hx : a.eval x = .slice ad n cp) (hy : a.eval y = .slice none 0 0) (hv : nilF op c0 b = .ok c v rs) (hb : b = ad.isNone) :
    rs = [] ∧ ∃ u, (do eqGuard op t x y (a.eval x) (a.eval y); binOp op t (a.eval x) (a.eval y) : Sem Value).run P w = .ok u w ∧ RelV (Sf w0.heap.size S st.rows g) w st.rows g u v := by
  rw [hx, hy]
  unfold isSl at hsl
  split at hsl
  · rename_i ti ht
    split at hsl
    · rename_i e hd
      have hu := (hT t ti ht).under
      rw [hd] at hu
      simp only at hu
      have hg : (eqGuard op t x y (.slice ad n cp) (.slice none 0 0)).run P w = .ok () w := by cases op <;> simp [eqGuard]
      have heq : ∀ d, (Op.equalIn (d + 1) t (.slice ad n cp) (.slice none 0 0)).run P w = .ok ad.isNone w := by
        intro d
        cases ad <;> simp [Op.equalIn, run_underlying hu]
      have key : ∃ u, v = .c (.d (.sc u)) ∧ u.oneCell' = true ∧ rs = [] ∧ (do eqGuard op t x y (.slice ad n cp) (.slice none 0 0); binOp op t (.slice ad n cp) (.slice none 0 0) : Sem Value).run P w = .ok u w := by
        rw [Sem.run_bind, hg]
        unfold nilF at hv
        subst hb
        cases op <;> simp only at hv <;> cases hv
        all_goals refine ⟨_, rfl, rfl, rfl, ?_⟩
        all_goals (simp only [Result.andThen_ok, binOp]; simp [Op.equal, Op.maxDepth, heq 9999])
      obtain ⟨u, rfl, h1, h2, h3⟩ := key
      exact ⟨h2, u, h3, by unfold RelV; exact ⟨h1, .sc _ h1⟩⟩
    · cases hsl
  · cases hsl

theorem bin_sound {P : Program} {T : Tab} (hT : TabOk P T) (h : Rel S w0 N g st a w) (op : BinOp) (t : Nat) (x y : Operand) {c : Prop} {v : AV} {rs : List (Nat × ARow)}
    (hv : binF T op t (st.ev x) (st.ev y) = .ok c v rs) (hc : c) :
    rs = [] ∧ ∃ u, (do eqGuard op t x y (a.eval x) (a.eval y); binOp op t (a.eval x) (a.eval y) : Sem Value).run P w = .ok u w ∧ RelV (Sf w0.heap.size S st.rows g) w st.rows g u v := by
  have hx := h.ev x
  have hy := h.ev y
  unfold binF at hv
  split at hv
  · rename_i k a1 k' b1 hex hey
    rw [hex] at hx
    rw [hey] at hy
    rw [relV_sc hx, relV_sc hy]
    have hg : (eqGuard op t x y (.int k a1) (.int k' b1)).run P w = .ok () w := by cases op <;> simp [eqGuard]
    split at hv
    · rename_i hsh
      have key : ∃ u, v = .c (.d (.sc u)) ∧ u.oneCell' = true ∧ rs = [] ∧ (do eqGuard op t x y (.int k a1) (.int k' b1); binOp op t (.int k a1) (.int k' b1) : Sem Value).run P w = .ok u w := by
        rw [Sem.run_bind, hg]
        unfold shF at hv
        cases op <;> simp only at hv <;> cases hv
        all_goals refine ⟨_, rfl, rfl, rfl, ?_⟩
        all_goals (have hc' : ¬ b1 < 0 := by omega)
        all_goals first
          | (simp [binOp, Op.shift, hc']; done)
          | (simp [binOp, Op.shift, hc']; rfl)
      obtain ⟨u, rfl, h1, h2, h3⟩ := key
      exact ⟨h2, u, h3, by unfold RelV; exact ⟨h1, .sc _ h1⟩⟩
    · rename_i hsh
      split at hv
      · rename_i hk
        subst hk
        have key : ∃ u, v = .c (.d (.sc u)) ∧ u.oneCell' = true ∧ rs = [] ∧ (do eqGuard op t x y (.int k a1) (.int k b1); binOp op t (.int k a1) (.int k b1) : Sem Value).run P w = .ok u w := by
          rw [Sem.run_bind, hg]
          unfold intF at hv
          cases op <;> simp only at hv <;> cases hv
          all_goals refine ⟨_, rfl, rfl, rfl, ?_⟩
          all_goals first
            | (simp [binOp, Op.intArith, Op.intCmp, Op.intDiv, Op.intBits, hc]; done)
            | (simp [binOp, Op.intArith, Op.intCmp, Op.intDiv, hc, bne]; done)
            | (simp [binOp, Op.intArith, Op.intCmp, Op.intDiv, Op.intBits, hc]; rfl)
            | (simp only [binOp, Op.intBits, Result.andThen_ok, ne_eq, not_true_eq_false, if_false]; rfl)
        obtain ⟨u, rfl, h1, h2, h3⟩ := key
        exact ⟨h2, u, h3, by unfold RelV; exact ⟨h1, .sc _ h1⟩⟩
      · cases hv
  · rename_i a1 b1 hex hey
    rw [hex] at hx
    rw [hey] at hy
    rw [relV_sc hx, relV_sc hy]
    cases ht : T t with
    | none => rw [ht] at hv; cases hv
    | some ti =>
      rw [ht] at hv
      simp only at hv
      split at hv
      · rename_i hb
        have hu : P.underlying t = some .bool := by
          have := (hT t ti ht).under
          rw [hb] at this
          exact this
        have hg : (eqGuard op t x y (.bool a1) (.bool b1)).run P w = .ok () w := by cases op <;> simp [eqGuard]
        have key : ∃ u, v = .c (.d (.sc u)) ∧ u.oneCell' = true ∧ rs = [] ∧ (do eqGuard op t x y (.bool a1) (.bool b1); binOp op t (.bool a1) (.bool b1) : Sem Value).run P w = .ok u w := by
          rw [Sem.run_bind, hg]
          unfold boolF at hv
          cases op <;> simp only at hv <;> cases hv
          all_goals refine ⟨_, rfl, rfl, rfl, ?_⟩
          all_goals (simp [binOp, Op.equal, Op.maxDepth, run_equalIn_bool w 9999 t a1 b1 hu])
        obtain ⟨u, rfl, h1, h2, h3⟩ := key
        exact ⟨h2, u, h3, by unfold RelV; exact ⟨h1, .sc _ h1⟩⟩
      · cases hv
  · rename_i xs ys hex hey
    rw [hex] at hx
    rw [hey] at hy
    split at hv
    · rename_i ti r ht hr
      split at hv
      · rename_i hq
        have heq : EqOk P t ti.size := eqOk_of (by
          have := (hT t ti ht).eqs
          rw [hq.1] at this
          simpa using this)
        unfold RelV at hx hy
        obtain ⟨cs, hcx, hx2⟩ := hx
        obtain ⟨ds, hcy, hy2⟩ := hy
        obtain ⟨l, l1, l2, l3, l4⟩ := aggEq_sound hr hx2 hy2
        have hrun := heq.2 w l (by rw [l1]; exact hq.2)
        have e1 : cs = (l.map fun p => Value.int p.1 p.2.1).toArray := by rw [← l2]
        have e2 : ds = (l.map fun p => Value.int p.1 p.2.2).toArray := by rw [← l3]
        rw [hcx, hcy, e1, e2]
        have hg : (eqGuard op t x y (.agg (l.map fun p => Value.int p.1 p.2.1).toArray) (.agg (l.map fun p => Value.int p.1 p.2.2).toArray)).run P w = .ok () w := run_eqGuard_agg w op t x y _ _ heq.1
        have key : ∃ u, v = .c (.d (.sc u)) ∧ u.oneCell' = true ∧ rs = [] ∧ (do eqGuard op t x y (.agg (l.map fun p => Value.int p.1 p.2.1).toArray) (.agg (l.map fun p => Value.int p.1 p.2.2).toArray); binOp op t (.agg (l.map fun p => Value.int p.1 p.2.1).toArray) (.agg (l.map fun p => Value.int p.1 p.2.2).toArray) : Sem Value).run P w = .ok u w := by
          rw [Sem.run_bind, hg]
          unfold eqF at hv
          cases op <;> simp only at hv <;> cases hv
          all_goals refine ⟨_, rfl, rfl, rfl, ?_⟩
          · rw [Result.andThen_ok, run_eql_struct, hrun, l4]; rfl
          · rw [Result.andThen_ok, run_neq_struct, hrun, l4]; rfl
        obtain ⟨u, rfl, h1, h2, h3⟩ := key
        exact ⟨h2, u, h3, by unfold RelV; exact ⟨h1, .sc _ h1⟩⟩
      · cases hv
    · cases hv
  · rename_i a1 b1 hex hey
    rw [hex] at hx
    rw [hey] at hy
    rw [relV_sc hx, relV_sc hy]
    have hg : (eqGuard op t x y (.string a1) (.string b1)).run P w = .ok () w := by cases op <;> simp [eqGuard]
    have key : ∃ u, v = .c (.d (.sc u)) ∧ u.oneCell' = true ∧ rs = [] ∧ (do eqGuard op t x y (.string a1) (.string b1); binOp op t (.string a1) (.string b1) : Sem Value).run P w = .ok u w := by
      rw [Sem.run_bind, hg]
      unfold strF at hv
      cases op <;> simp only at hv <;> cases hv
      all_goals refine ⟨_, rfl, rfl, rfl, ?_⟩
      · have : ¬ ((a1.size + b1.size : Nat) : Int) > IntKind.i64.max := by
          unfold maxLen at hc
          have : IntKind.i64.max = 9223372036854775807 := rfl
          omega
        simp only [Result.andThen_ok, binOp, Op.stringOp, this, if_false]
        rfl
      · simp [binOp, Op.stringOp]
      · simp [binOp, Op.stringOp]
    obtain ⟨u, rfl, h1, h2, h3⟩ := key
    exact ⟨h2, u, h3, by unfold RelV; exact ⟨h1, .sc _ h1⟩⟩
  · rename_i xs hex hey
    rw [hex] at hx
    rw [hey] at hy
    split at hv
    · rename_i hsl
      unfold RelV at hx hy
      have hy' : a.eval y = .slice none 0 0 := hy.2
      have hx' : c → ∃ ad n cp, a.eval x = .slice (some ad) n cp := by
        intro hcc
        have hnn : xs ≠ [] := by
          unfold nilF at hv
          cases op <;> simp only at hv <;> cases hv <;> exact hcc
        have h2 := hx.2
        generalize a.eval x = u at h2
        cases h2 with
        | emp => exact absurd rfl hnn
        | sl b o cp sz xs us h1 h2 h3 h4 h5 => exact ⟨_, _, _, rfl⟩
      obtain ⟨ad, n, cp, hxe⟩ := hx' hc
      exact nil_bin hT hsl hxe hy' hv rfl
    · cases hv
  · rename_i ad n cp hex hey
    rw [hex] at hx
    rw [hey] at hy
    split at hv
    · rename_i hsl
      unfold RelV at hy
      have hy' : a.eval y = .slice none 0 0 := hy.2
      exact nil_bin hT hsl (relV_sc hx) hy' hv rfl
    · cases hv
  · cases hv

theorem un_sound {P : Program} (h : Rel S w0 N g st a w) (op : UnOp) (x : Operand) {c : Prop} {v : AV} {rs : List (Nat × ARow)}
    (hv : unF op (st.ev x) = .ok c v rs) (_hc : c) :
    rs = [] ∧ ∃ u, (Op.unary op (a.eval x)).run P w = .ok u w ∧ RelV (Sf w0.heap.size S st.rows g) w st.rows g u v := by
  have hx := h.ev x
  unfold unF at hv
  split at hv
  · rename_i k a1 hex
    rw [hex] at hx
    rw [relV_sc hx]
    split at hv
    · cases hv
      exact ⟨rfl, _, by simp [Op.unary, Op.intArith]; first | done | rfl, rel_sint _ _ _ _ _ _⟩
    · cases hv
  · rename_i b hex
    rw [hex] at hx
    rw [relV_sc hx]
    split at hv
    · cases hv
      exact ⟨rfl, _, by simp [Op.unary]; first | done | rfl, rel_sbool _ _ _ _ _⟩
    · cases hv
  · cases hv

theorem conv_sound {P : Program} {T : Tab} (hT : TabOk P T) (h : Rel S w0 N g st a w) (src dst : Nat) (x : Operand) {c : Prop} {v : AV} {rs : List (Nat × ARow)}
    (hv : convF T src dst (st.ev x) = .ok c v rs) (_hc : c) :
    rs = [] ∧ ∃ u, (convert src dst (a.eval x)).run P w = .ok u w ∧ RelV (Sf w0.heap.size S st.rows g) w st.rows g u v := by
  have hx := h.ev x
  unfold convF at hv
  split at hv
  · rename_i k n hex
    rw [hex] at hx
    rw [relV_sc hx]
    split at hv
    · rename_i ts ti hs ht
      split at hv
      · rename_i k' hd
        cases hv
        have hu := (hT dst ti ht).under
        rw [hd] at hu
        simp only at hu
        obtain ⟨ds, hds⟩ := (hT src ts hs).isSome
        exact ⟨rfl, _, by simp [convert, run_underlying hds, run_underlying hu, Conv.intToInt]; first | done | rfl, rel_sint _ _ _ _ _ _⟩
      · rename_i hd
        cases hv
        have hu := (hT dst ti ht).under
        rw [hd] at hu
        simp only at hu
        obtain ⟨ds, hds⟩ := (hT src ts hs).isSome
        exact ⟨rfl, _, by simp [convert, run_underlying hds, run_underlying hu, Conv.intToString]; first | done | rfl, rel_sstr _ _ _ _ _⟩
      · cases hv
    · cases hv
  · rename_i s hex
    rw [hex] at hx
    rw [relV_sc hx]
    split at hv
    · rename_i ts ti hs ht
      split at hv
      · rename_i hd
        cases hv
        have hu := (hT dst ti ht).under
        rw [hd] at hu
        simp only at hu
        obtain ⟨ds, hds⟩ := (hT src ts hs).isSome
        exact ⟨rfl, _, by simp [convert, run_underlying hds, run_underlying hu]; first | done | rfl, rel_sstr _ _ _ _ _⟩
      · cases hv
    · cases hv
  · cases hv

theorem lenS_sound {P : Program} {T : Tab} (hT : TabOk P T) (h : Rel S w0 N g st a w) (t ty : Nat) {ti : TI} (ht : T t = some ti) (hd : ti.desc = .string) (x : Operand)
    {c : Prop} {v : AV} {rs : List (Nat × ARow)} (hv : lenS (st.ev x) = .ok c v rs) (_hc : c) :
    rs = [] ∧ ∃ u, (Builtin.len_ #[t] ty #[a.eval x]).run P w = .ok u w ∧ RelV (Sf w0.heap.size S st.rows g) w st.rows g u v := by
  have hx := h.ev x
  have hu := (hT t ti ht).under
  unfold lenS at hv
  split at hv
  · rename_i s hex
    rw [hex] at hx
    rw [relV_sc hx]
    cases hv
    rw [hd] at hu
    simp only at hu
    exact ⟨rfl, .int .i64 s.size, by simp [Builtin.len_, run_underlying hu, goInt], rel_sint _ _ _ _ _ _⟩
  · cases hv

theorem len_sound {P : Program} {T : Tab} (hT : TabOk P T) (h : Rel S w0 N g st a w) (t ty : Nat) {ti : TI} (ht : T t = some ti) {e : Nat} (he : ti.desc = .slice e) (x : Operand)
    {c : Prop} {v : AV} {rs : List (Nat × ARow)} (hv : lenF (st.ev x) st.rows = .ok c v rs) (_hc : c) :
    rs = [] ∧ ∃ u, (Builtin.len_ #[t] ty #[a.eval x]).run P w = .ok u w ∧ RelV (Sf w0.heap.size S st.rows g) w st.rows g u v := by
  have hx := h.ev x
  have hu := (hT t ti ht).under
  rw [he] at hu
  simp only at hu
  unfold lenF at hv
  split at hv
  · rename_i xs hex
    rw [hex] at hx
    cases hv
    unfold RelV at hx
    obtain ⟨_, hx⟩ := hx
    refine ⟨rfl, .int .i64 xs.length, ?_, rel_sint _ _ _ _ _ _⟩
    generalize a.eval x = u at hx
    cases hx <;> simp [Builtin.len_, run_underlying hu, goInt]
  · rename_i hex
    rw [hex] at hx
    cases hv
    unfold RelV at hx
    obtain ⟨_, hx⟩ := hx
    have hx' : a.eval x = .slice none 0 0 := hx
    rw [hx']
    exact ⟨rfl, .int .i64 0, by simp [Builtin.len_, run_underlying hu, goInt], rel_sint _ _ _ _ _ _⟩
  · rename_i id hex
    rw [hex] at hx
    unfold RelV at hx
    obtain ⟨_, e', sz', xs', fl', hf', hu'⟩ := hx
    split at hv
    · rename_i e2 sz xs fl hf
      rw [hf] at hf'
      cases hf'
      cases hv
      rw [hu']
      refine ⟨rfl, _, ?_, rel_sint _ _ _ _ _ _⟩
      unfold gsl
      obtain ⟨_, hrow⟩ := h.rows id _ hf
      rcases hrow with ⟨hg, hnil⟩ | ⟨b, cap, cur, hg, _⟩
      · rw [hg]; simp [Builtin.len_, run_underlying hu, goInt, hnil]
      · rw [hg]; simp [Builtin.len_, run_underlying hu, goInt]
    · cases hv
  · cases hv

end
end Go.Abs

set_option linter.unusedSimpArgs false
set_option linter.unusedVariables false
namespace Go.Abs
open Go.RowKit

section
variable {S : Nat → Nat → Prop} {w0 : World} {N : Fm} {g : Gh} {st : ASt} {a : Act} {w : World}

theorem RelC.all {F : Nat → Nat → Prop} {u : Value} {x : DC} (h : RelC F w u x) : RelC (fun _ _ => True) w u x := h.sub fun _ _ _ => trivial

/-- A row of the call's own as data, its places being in F'. -/
theorem row_data (h : Rel S w0 N g st a w) {F' : Nat → Nat → Prop} (hF : ∀ b o, Sf w0.heap.size S st.rows g b o → F' b o) {id e sz : Nat} {xs : List (List DC)} {fl : Bool} (hf : find st.rows id = some (.arr e sz xs fl))
    (hown : ∀ b c o, g id = some (b, c) → o < xs.length * sz → F' b o) : RelC F' w (gsl (g id) xs.length) (.sl xs) := by
  obtain ⟨hsz, hrow⟩ := h.rows id _ hf
  rcases hrow with ⟨hg, hnil⟩ | ⟨b, cap, cur, hg, hh, hcap, hm, hcs, hcells⟩
  · rw [hg, hnil]; exact .emp _ _
  · rw [hg]
    simp only [gsl]
    refine .sl b 0 cap sz xs (fun i j => (cur[i * sz + j]?).getD undef) hcap hm hsz (fun i j x d hx hd => ?_) (fun i j x d hx hd => ?_)
    · obtain ⟨u, hu, _⟩ := hcells i j x d hx hd
      have hi : i < xs.length := (List.getElem?_eq_some_iff.1 hx).1
      have hj : j < x.length := (List.getElem?_eq_some_iff.1 hd).1
      rw [hsz i x hx] at hj
      have hlt : i * sz + j < xs.length * sz := by
        have : (i + 1) * sz ≤ xs.length * sz := Nat.mul_le_mul_right _ hi
        rw [Nat.add_mul, Nat.one_mul] at this
        omega
      refine ⟨by rw [Nat.zero_add]; exact hown b cap _ hg hlt, ?_⟩
      rw [Nat.zero_add, cl_row hh]
      simp [hu]
    · obtain ⟨u, hu, hr⟩ := hcells i j x d hx hd
      simp only [hu, Option.getD_some]
      exact hr.sub hF

theorem row_frozen (h : Rel S w0 N g st a w) {id e sz : Nat} {xs : List (List DC)} (hf : find st.rows id = some (.arr e sz xs true)) :
    RelC (Sf w0.heap.size S st.rows g) w (gsl (g id) xs.length) (.sl xs) := by
  refine row_data h (fun _ _ x => x) hf fun b c o hg ho => ?_
  have hb := (h.blk id _ b c hf hg).1
  refine .inr ⟨hb, fun id' r c' hr hg' => ?_⟩
  have := h.inj id id' _ r b c c' hf hr hg hg'
  subst this
  rw [hf] at hr
  cases hr
  exact ⟨rfl, ho⟩

theorem dc_sound (h : Rel S w0 N g st a w) {lent : Bool} {u : Value} {x : AC} {y : DC} (hr : RelAC (Sf w0.heap.size S st.rows g) w st.rows g u x) (hy : dcOf lent st.rows x = some y) :
    RelC (fun b o => lent = true ∨ Sf w0.heap.size S st.rows g b o) w u y := by
  unfold dcOf at hy
  split at hy
  · cases hy; exact RelC.sub (fun _ _ hb => .inr hb) hr
  · cases hy
    have hu : u = .slice none 0 0 := hr
    rw [hu]; exact .emp _ _
  · rename_i id
    obtain ⟨e, sz, xs, fl, hf, hu⟩ := hr
    rw [hf] at hy
    simp only at hy
    split at hy
    · rename_i hfl
      cases hy
      rw [hu]
      cases fl with
      | true => exact RelC.sub (fun _ _ hb => .inr hb) (row_frozen h hf)
      | false =>
        have hl : lent = true := by simpa using hfl
        exact row_data h (fun _ _ hb => .inr hb) hf (fun _ _ _ _ _ => .inl hl)
    · cases hy
  · cases hy

theorem dcs_sound (h : Rel S w0 N g st a w) {lent : Bool} : ∀ {us : List Value} {xs : List AC} {ys : List DC},
    All2 (fun u x => u.oneCell' = true ∧ RelAC (Sf w0.heap.size S st.rows g) w st.rows g u x) us xs → dcsOf lent st.rows xs = some ys →
    All2 (RelC (fun b o => lent = true ∨ Sf w0.heap.size S st.rows g b o) w) us ys
  | _, [], ys, hr, hy => by
    cases hr
    simp [dcsOf] at hy
    subst hy
    exact .nil
  | _, x :: xs, ys, hr, hy => by
    cases hr with
    | cons h1 h2 =>
      simp only [dcsOf] at hy
      split at hy
      · rename_i y ys' hy1 hy2
        cases hy
        exact .cons (dc_sound h h1.2 hy1) (dcs_sound h h2 hy2)
      · cases hy

/-- A value as it is handed to a function. -/
def RelDV (F : Nat → Nat → Prop) (w : World) : Value → DV → Prop
  | v, .c x => RelC F w v x
  | v, .agg xs => ∃ cs, v = .agg cs ∧ All2 (RelC F w) cs.toList xs
  | v, .ptr xs => ∃ b o, ∃ us : Nat → Value, v = .pointer (some ⟨b, o, none⟩) ∧ ∀ (j : Nat) (d : DC), xs[j]? = some d → F b (o + j) ∧ cl w b (o + j) = some (us j) ∧ RelC F w (us j) d

theorem RelDV.mono {F F' : Nat → Nat → Prop} {w w' : World} (hS : ∀ b o, F b o → b < w.heap.size → F' b o ∧ cl w' b o = cl w b o) {v : Value} {x : DV} (h : RelDV F w v x) : RelDV F' w' v x := by
  cases x with
  | c x => exact RelC.mono hS h
  | agg xs =>
    obtain ⟨cs, h1, h2⟩ := h
    exact ⟨cs, h1, h2.mono fun _ _ hr => hr.mono hS⟩
  | ptr xs =>
    obtain ⟨b, o, us, h1, h2⟩ := h
    refine ⟨b, o, us, h1, fun j d hd => ?_⟩
    obtain ⟨h3, h4, h5⟩ := h2 j d hd
    obtain ⟨h6, h7⟩ := hS _ _ h3 (cl_lt h4)
    exact ⟨h6, h7.trans h4, h5.mono hS⟩

theorem dv_sound (h : Rel S w0 N g st a w) {lent : Bool} {v : Value} {x : AV} {y : DV} (hr : RelV (Sf w0.heap.size S st.rows g) w st.rows g v x) (hy : dvOf lent st.rows x = some y) :
    RelDV (fun b o => lent = true ∨ Sf w0.heap.size S st.rows g b o) w v y := by
  unfold dvOf at hy
  split at hy
  · cases hy
    unfold RelV at hr
    obtain ⟨_, b, o, us, h1, h2⟩ := hr
    exact ⟨b, o, us, h1, fun j d hd => ⟨.inr (h2 j d hd).1, (h2 j d hd).2.1, RelC.sub (fun _ _ hb => .inr hb) (h2 j d hd).2.2⟩⟩
  · split at hy
    · rename_i y' hy'
      cases hy
      unfold RelV at hr
      exact dc_sound h hr.2 hy'
    · cases hy
  · split at hy
    · rename_i ys hy'
      cases hy
      unfold RelV at hr
      obtain ⟨cs, h1, h2⟩ := hr
      exact ⟨cs, h1, dcs_sound h h2 hy'⟩
    · cases hy
  · cases hy

theorem dvs_sound (h : Rel S w0 N g st a w) {lent : Bool} : ∀ {l : List Operand} {ys : List DV}, dvsOf lent st.rows (l.map st.ev) = some ys →
    All2 (RelDV (fun b o => lent = true ∨ Sf w0.heap.size S st.rows g b o) w) (l.map a.eval) ys
  | [], ys, hy => by
    simp [dvsOf] at hy
    subst hy
    exact .nil
  | x :: l, ys, hy => by
    simp only [List.map_cons, dvsOf] at hy
    split at hy
    · rename_i y ys' hy1 hy2
      cases hy
      exact .cons (dv_sound h (h.ev x) hy1) (dvs_sound h hy2)
    · cases hy

theorem optEv_sound (h : Rel S w0 N g st a w) {x : Option Operand} {y : Option Int} (hy : optEv st x = some y) :
    (x = none ∧ y = none) ∨ ∃ o k n, x = some o ∧ y = some n ∧ a.eval o = .int k n := by
  cases x with
  | none => simp [optEv] at hy; exact .inl ⟨rfl, hy.symm⟩
  | some o =>
    simp only [optEv] at hy
    split at hy
    · rename_i k n he
      cases hy
      have := h.ev o
      rw [he] at this
      exact .inr ⟨o, k, n, rfl, rfl, relV_sc this⟩
    · cases hy

theorem bound_ok {P : Program} (k : IntKind) (i : Int) (y : Nat) (code : BoundsCode) (h0 : 0 ≤ i) (h1 : i ≤ y) : (Instr.sliceBound (.int k i) y code).run P w = .ok i.toNat w := by
  simp [Instr.sliceBound, asIntOf, h0, h1]

/-- The bounds of a cut, where they hold. -/
theorem cut_bounds {P : Program} (isSlice : Bool) (len cap : Nat) (hc : len ≤ cap) {lo hi mx : Option Int} {vlo vhi vmx : Option Value}
    (hlo : (vlo = none ∧ lo = none) ∨ ∃ k n, vlo = some (.int k n) ∧ lo = some n) (hhi : (vhi = none ∧ hi = none) ∨ ∃ k n, vhi = some (.int k n) ∧ hi = some n)
    (hmx : (vmx = none ∧ mx = none) ∨ ∃ k n, vmx = some (.int k n) ∧ mx = some n) (hok : (cutF len lo hi mx).1) :
    ∃ m, (Instr.sliceBounds isSlice len cap vlo vhi vmx).run P w = .ok ((cutF len lo hi mx).2.1, (cutF len lo hi mx).2.2, m) w ∧ (cutF len lo hi mx).2.2 ≤ m ∧ m ≤ cap := by
  obtain ⟨h0, h1, h2, h3⟩ := hok
  rcases hlo with ⟨rfl, rfl⟩ | ⟨kl, l, rfl, rfl⟩ <;> rcases hhi with ⟨rfl, rfl⟩ | ⟨kh, hh, rfl, rfl⟩ <;> rcases hmx with ⟨rfl, rfl⟩ | ⟨km, m, rfl, rfl⟩ <;> simp only [cutF, Option.getD_none, Option.getD_some] at *
  · refine ⟨cap, ?_, by omega, by omega⟩
    simp [Instr.sliceBounds]
  · exact absurd (h3 m rfl).2.2 (by simp)
  · refine ⟨cap, ?_, by omega, by omega⟩
    simp only [Instr.sliceBounds, Sem.run_bind, Sem.run_pure, Result.andThen_ok]
    rw [bound_ok kh hh cap _ (by omega) (by omega)]
    simp
  · obtain ⟨h4, h5, _⟩ := h3 m rfl
    refine ⟨m.toNat, ?_, by omega, by omega⟩
    simp only [Instr.sliceBounds, Sem.run_bind, Sem.run_pure, Result.andThen_ok]
    rw [bound_ok km m cap _ (by omega) (by omega)]
    simp only [Result.andThen_ok, Sem.run_bind]
    rw [bound_ok kh hh m.toNat _ (by omega) (by omega)]
    simp
  · refine ⟨cap, ?_, by omega, by omega⟩
    simp only [Instr.sliceBounds, Sem.run_bind, Sem.run_pure, Result.andThen_ok]
    rw [bound_ok kl l len _ (by omega) (by omega)]
    simp
  · exact absurd (h3 m rfl).2.2 (by simp)
  · refine ⟨cap, ?_, by omega, by omega⟩
    simp only [Instr.sliceBounds, Sem.run_bind, Sem.run_pure, Result.andThen_ok]
    rw [bound_ok kh hh cap _ (by omega) (by omega)]
    simp only [Result.andThen_ok, Sem.run_bind]
    rw [bound_ok kl l hh.toNat _ (by omega) (by omega)]
    simp
  · obtain ⟨h4, h5, _⟩ := h3 m rfl
    refine ⟨m.toNat, ?_, by omega, by omega⟩
    simp only [Instr.sliceBounds, Sem.run_bind, Sem.run_pure, Result.andThen_ok]
    rw [bound_ok km m cap _ (by omega) (by omega)]
    simp only [Result.andThen_ok, Sem.run_bind]
    rw [bound_ok kh hh m.toNat _ (by omega) (by omega)]
    simp only [Result.andThen_ok, Sem.run_bind]
    rw [bound_ok kl l hh.toNat _ (by omega) (by omega)]
    simp

theorem cut_le {len : Nat} {lo hi mx : Option Int} (hok : (cutF len lo hi mx).1) : (cutF len lo hi mx).2.1 ≤ (cutF len lo hi mx).2.2 ∧ (cutF len lo hi mx).2.2 ≤ len := by
  obtain ⟨h0, h1, h2, _⟩ := hok
  simp only [cutF]
  omega

/-- A cut of a slice that is data. -/
theorem relC_cut {F : Nat → Nat → Prop} {u : Value} {xs : List (List DC)} (hr : RelC F w u (.sl xs)) (size l h m : Nat) (hsz : ∀ y, y ∈ xs → y.length = size) (h1 : l ≤ h) (h2 : h ≤ xs.length) :
    ∃ ad n c, u = .slice ad n c ∧ xs.length = n ∧ n ≤ c ∧ (h ≤ m → m ≤ c → RelC F w (.slice (if m = l then ad else ad.map (·.add (l * size))) (h - l) (m - l)) (.sl ((xs.take h).drop l))) := by
  cases hr with
  | emp ad c =>
    refine ⟨ad, 0, c, rfl, rfl, Nat.zero_le _, fun _ _ => ?_⟩
    simp at h2
    have : l = 0 := by omega
    subst this; subst h2
    simp
    exact .emp _ _
  | sl b o c sz xs us hc hm hs hS hrr =>
    refine ⟨_, _, c, rfl, rfl, hc, fun hm1 hm2 => ?_⟩
    by_cases hlt : l = h
    · subst hlt
      have : (xs.take l).drop l = [] := by simp
      rw [this, Nat.sub_self]
      exact .emp _ _
    · have hne : ¬ m = l := by omega
      rw [if_neg hne]
      have hszsz : sz = size := by
        have h0 : 0 < xs.length := by omega
        have hx := List.getElem?_eq_getElem h0
        rw [← hs 0 _ hx]
        exact hsz _ (List.mem_of_getElem? hx)
      subst hszsz
      have hlen : h - l = ((xs.take h).drop l).length := by simp; omega
      have hidx : ∀ (i : Nat) (x : List DC), ((xs.take h).drop l)[i]? = some x → xs[l + i]? = some x := by
        intro i x hx
        rw [List.getElem?_drop, List.getElem?_take] at hx
        split at hx
        · exact hx
        · cases hx
      simp only [Option.map_some, Addr.add_lit]
      rw [hlen]
      refine .sl b (o + l * sz) (m - l) sz _ (fun i j => us (l + i) j) (by omega) (by unfold maxLen at *; omega) (fun i x hx => hs _ x (hidx i x hx)) (fun i j x d hx hd => ?_) (fun i j x d hx hd => hrr _ j x d (hidx i x hx) hd)
      have := hS (l + i) j x d (hidx i x hx) hd
      have e : o + l * sz + i * sz + j = o + (l + i) * sz + j := by rw [Nat.add_mul]; omega
      rw [e]
      exact this

theorem slice_sound {P : Program} {T : Tab} (hT : TabOk P T) (h : Rel S w0 N g st a w) (t : Nat) (x : Operand) (lo hi mx : Option Operand) {lo' hi' mx' : Option Int}
    (elo : optEv st lo = some lo') (ehi : optEv st hi = some hi') (emx : optEv st mx = some mx') {c : Prop} {v : AV} {rs : List (Nat × ARow)}
    (hv : sliceF T t st.rows lo' hi' mx' (st.ev x) = .ok c v rs) (hc : c) :
    rs = [] ∧ ∃ u, (Instr.sliceAt t (a.eval x) (lo.map a.eval) (hi.map a.eval) (mx.map a.eval)).run P w = .ok u w ∧ RelV (Sf w0.heap.size S st.rows g) w st.rows g u v := by
  have conv : ∀ {y : Option Operand} {z : Option Int}, optEv st y = some z → (y.map a.eval = none ∧ z = none) ∨ ∃ k n, y.map a.eval = some (.int k n) ∧ z = some n := by
    intro y z hy
    rcases optEv_sound h hy with ⟨h1, h2⟩ | ⟨o, k, n, h1, h2, h3⟩
    · exact .inl ⟨by rw [h1]; rfl, h2⟩
    · exact .inr ⟨k, n, by rw [h1]; simp [h3], h2⟩
  have hlo := conv elo
  have hhi := conv ehi
  have hmx := conv emx
  have hx := h.ev x
  unfold sliceF at hv
  split at hv
  · rename_i s he
    rw [he] at hx
    have hx' := relV_sc hx
    split at hv
    · rename_i ti ht
      split at hv
      · rename_i hd
        have hu := (hT t ti ht).under
        rw [hd] at hu
        simp only at hu
        cases hv
        obtain ⟨hok, rfl⟩ := hc
        refine ⟨rfl, _, ?_, rel_sstr _ _ _ _ _⟩
        have hnone : mx.map a.eval = none := by rcases hmx with ⟨h1, _⟩ | ⟨k, n, _, h2⟩ <;> first | exact h1 | cases h2
        obtain ⟨m, hb, _, _⟩ := cut_bounds (P := P) (w := w) false s.size s.size (Nat.le_refl _) hlo hhi (.inl ⟨rfl, rfl⟩) hok
        simp [Instr.sliceAt, run_underlying hu, Instr.slice, hx', hnone, hb]
      · cases hv
    · cases hv
  · rename_i xs he
    rw [he] at hx
    split at hv
    · rename_i ti ht
      split at hv
      · rename_i m e hd
        have hu := (hT t ti ht).under
        rw [hd] at hu
        simp only at hu
        split at hv
        · rename_i te hte
          obtain ⟨ie, ze, hie, hse, _, _, _⟩ := (hT e te hte).info'
          cases hv
          obtain ⟨hok, hlen, hs1, hm, rfl⟩ := hc
          unfold RelV at hx
          obtain ⟨_, b, o, us, hu', hall⟩ := hx
          have hnone : mx.map a.eval = none := by rcases hmx with ⟨h1, _⟩ | ⟨k, n, _, h2⟩ <;> first | exact h1 | cases h2
          obtain ⟨hle1, hle2⟩ := cut_le hok
          obtain ⟨m', hb, hm1, hm2⟩ := cut_bounds (P := P) (w := w) false m m (Nat.le_refl _) hlo hhi (.inl ⟨rfl, rfl⟩) hok
          refine ⟨rfl, .slice (some ⟨b, o + (if m' = (cutF m lo' hi' none).2.1 then 0 else (cutF m lo' hi' none).2.1), none⟩) ((cutF m lo' hi' none).2.2 - (cutF m lo' hi' none).2.1) (m' - (cutF m lo' hi' none).2.1), ?_, ?_⟩
          · simp only [Instr.sliceAt, Sem.run_bind, run_underlying hu, Result.andThen_ok, hu', hnone, Instr.sureAddr, Sem.run_pure, hb]
            simp [sizeOf, typeInfo, hie, hse, hs1, Addr.add_lit]
            split <;> rfl
          · unfold RelV
            refine ⟨rfl, ?_⟩
            have hll : (((xs.map fun y => [y]).take (cutF m lo' hi' none).2.2).drop (cutF m lo' hi' none).2.1).length = (cutF m lo' hi' none).2.2 - (cutF m lo' hi' none).2.1 := by
              simp [hlen]; omega
            by_cases he0 : m' = (cutF m lo' hi' none).2.1
            · have hnil : (((xs.map fun y => [y]).take (cutF m lo' hi' none).2.2).drop (cutF m lo' hi' none).2.1) = [] := List.length_eq_zero_iff.1 (by rw [hll]; omega)
              rw [hnil, show (cutF m lo' hi' none).2.2 - (cutF m lo' hi' none).2.1 = 0 by omega]
              exact .emp _ _
            · rw [if_neg he0, ← hll]
              have hget : ∀ (i j : Nat) (x : List DC) (d : DC), (((xs.map fun y => [y]).take (cutF m lo' hi' none).2.2).drop (cutF m lo' hi' none).2.1)[i]? = some x → x[j]? = some d → j = 0 ∧ xs[(cutF m lo' hi' none).2.1 + i]? = some d := by
                intro i j x d hx hd
                rw [List.getElem?_drop, List.getElem?_take] at hx
                split at hx
                · rw [List.getElem?_map] at hx
                  obtain ⟨y, hy, rfl⟩ := Option.map_eq_some_iff.1 hx
                  cases j with
                  | zero => simp at hd; subst hd; exact ⟨rfl, hy⟩
                  | succ j => simp at hd
                · cases hx
              refine .sl b _ _ 1 _ (fun i j => us ((cutF m lo' hi' none).2.1 + i)) (by rw [hll]; omega) (by unfold maxLen; omega) (fun i x hx => ?_) (fun i j x d hx hd => ?_) (fun i j x d hx hd => ?_)
              · have hmem := List.mem_of_mem_drop (List.mem_of_getElem? hx)
                have hmem2 := List.mem_of_mem_take hmem
                obtain ⟨y, _, rfl⟩ := List.mem_map.1 hmem2
                rfl
              · obtain ⟨rfl, h2⟩ := hget i j x d hx hd
                have := hall _ d h2
                rw [show o + (cutF m lo' hi' none).2.1 + i * 1 + 0 = o + ((cutF m lo' hi' none).2.1 + i) by omega]
                exact ⟨this.1, this.2.1⟩
              · obtain ⟨rfl, h2⟩ := hget i j x d hx hd
                exact (hall _ d h2).2.2
        · cases hv
      · cases hv
    · cases hv
  · rename_i y _ _ he
    rw [he] at hx
    split at hv
    · rename_i ti ht
      split at hv
      · rename_i e hd
        have hu := (hT t ti ht).under
        rw [hd] at hu
        simp only at hu
        split at hv
        · rename_i te hte
          obtain ⟨ie, ze, hie, hse, _, _, _⟩ := (hT e te hte).info'
          split at hv
          · rename_i xs hxs
            cases hv
            obtain ⟨hok, hsz⟩ := hc
            unfold RelV at hx
            have hr := (dc_sound h hx.2 hxs).sub (S' := Sf w0.heap.size S st.rows g) (fun b o hb => by simpa using hb)
            obtain ⟨hle1, hle2⟩ := cut_le hok
            obtain ⟨ad, n, cap, hu1, hn, hncap, _⟩ := relC_cut hr te.size _ _ 0 hsz hle1 hle2
            subst hn
            obtain ⟨m, hb, hm1, hm2⟩ := cut_bounds (P := P) (w := w) true xs.length cap hncap hlo hhi hmx hok
            obtain ⟨ad', n', cap', hu2, hn', _, hrel⟩ := relC_cut hr te.size _ _ m hsz hle1 hle2
            rw [hu1] at hu2
            cases hu2
            refine ⟨rfl, .slice (if m = (cutF xs.length lo' hi' mx').2.1 then ad else ad.map (·.add ((cutF xs.length lo' hi' mx').2.1 * te.size))) ((cutF xs.length lo' hi' mx').2.2 - (cutF xs.length lo' hi' mx').2.1) (m - (cutF xs.length lo' hi' mx').2.1), ?_, ?_⟩
            · simp [Instr.sliceAt, run_underlying hu, Instr.slice, hu1, hb, sizeOf, typeInfo, hie, hse]
            · have := hrel hm1 hm2
              unfold RelV
              exact ⟨rfl, this⟩
          · cases hv
        · cases hv
      · cases hv
    · cases hv
  · cases hv

end
end Go.Abs

set_option linter.unusedSimpArgs false
set_option linter.unusedVariables false
namespace Go.Abs
open Go.RowKit

section
variable {S : Nat → Nat → Prop} {w0 : World} {N : Fm} {g : Gh} {st : ASt} {a : Act} {w : World}

/-- A row written anew: what happens to the safe places. -/
theorem safe_core {rows rows' : List (Nat × ARow)} {g g' : Gh} {B : Nat} {w' : World} {id b' : Nat} {cap : Nat} {r : ARow} (hr : find rows' id = some r)
    (hrows : ∀ id', id' ≠ id → ∀ r', find rows' id' = some r' → ∃ r0, find rows id' = some r0 ∧ ∀ o, r0.safe o → r'.safe o)
    (hg : ∀ b c, g' id = some (b, c) → b = b') (hgo : ∀ id', id' ≠ id → g' id' = g id')
    (hblk : ∀ b, b < w.heap.size → b ≠ b' → w'.heap[b]? = w.heap[b]?) (hB : B ≤ b')
    (hcell : ∀ o, Sf B S rows g b' o → b' < w.heap.size → r.safe o ∧ cl w' b' o = cl w b' o) :
    ∀ b o, Sf B S rows g b o → b < w.heap.size → Sf B S rows' g' b o ∧ cl w' b o = cl w b o := by
  intro b o hs hb
  by_cases hbb : b = b'
  · subst hbb
    obtain ⟨h1, h2⟩ := hcell o hs hb
    refine ⟨?_, h2⟩
    rcases hs with ⟨h3, _⟩ | ⟨h3, h4⟩
    · omega
    · refine .inr ⟨h3, fun id' r' c hf hg' => ?_⟩
      by_cases hid : id' = id
      · subst hid; rw [hr] at hf; cases hf; exact h1
      · obtain ⟨r0, hf0, hs0⟩ := hrows id' hid r' hf
        rw [hgo id' hid] at hg'
        exact hs0 o (h4 id' r0 c hf0 hg')
  · refine ⟨?_, cl_of_block (hblk b hb hbb) o⟩
    rcases hs with h3 | ⟨h3, h4⟩
    · exact .inl h3
    · refine .inr ⟨h3, fun id' r' c hf hg' => ?_⟩
      by_cases hid : id' = id
      · subst hid; exact absurd (hg _ _ hg') hbb
      · obtain ⟨r0, hf0, hs0⟩ := hrows id' hid r' hf
        rw [hgo id' hid] at hg'
        exact hs0 o (h4 id' r0 c hf0 hg')

theorem Rel.put (h : Rel S w0 N g st a w) {d : Option Nat} (hd : ∀ i, d = some i → i < N.n) {v : Value} {x : AV} (hv : RelV (Sf w0.heap.size S st.rows g) w st.rows g v x) :
    Rel S w0 N g ⟨match d with | some i => (i, x) :: st.tmps | none => st.tmps, st.rows⟩ (a.put d v) w := by
  cases d with
  | none => exact h
  | some i =>
    have hi : i < a.tmps.size := by rw [h.size]; exact hd i rfl
    refine ⟨h.below, by simp [Act.put, h.size], h.calm, h.good, h.defers, h.blk, h.inj, h.rows, fun j y hy => ?_⟩
    simp only [find] at hy
    split at hy
    · rename_i hij
      cases hy; subst hij
      exact ⟨v, by simp [Act.put, hi], hv⟩
    · rename_i hij
      obtain ⟨u, hu, hr⟩ := h.tmps j y hy
      exact ⟨u, by simp only [Act.put]; rw [Array.getElem?_setIfInBounds_ne (by omega)]; exact hu, hr⟩

/-- The state only looks at the heap. -/
theorem Rel.heap (h : Rel S w0 N g st a w) {w' : World} (hh : w'.heap = w.heap) (h1 : w'.os = w.os) (h2 : w'.tape = w.tape) (h3 : w'.output = w.output) : Rel S w0 N g st a w' := by
  have hc : ∀ b o, Sf w0.heap.size S st.rows g b o → b < w.heap.size → Sf w0.heap.size S st.rows g b o ∧ cl w' b o = cl w b o :=
    fun b o hs _ => ⟨hs, cl_of_block (by rw [hh]) o⟩
  have hk : ∀ id, g id = g id ∧ ∀ e sz xs fl, find st.rows id = some (.arr e sz xs fl) → ∃ xs' fl', find st.rows id = some (.arr e sz xs' fl') ∧ xs'.length = xs.length :=
    fun id => ⟨rfl, fun e sz xs fl hf => ⟨xs, fl, hf, rfl⟩⟩
  refine ⟨⟨h1.trans h.below.os, h2.trans h.below.tape, h3.trans h.below.output, by rw [hh]; exact h.below.size, fun k hk => by rw [hh]; exact h.below.block k hk⟩, h.size, h.calm, h.good, h.defers.carry (NonC.of_heap hh),
    fun id r b c hf hg => by rw [hh]; exact h.blk id r b c hf hg, h.inj, fun id r hf => (h.rows id r hf).carry hc rfl (fun b c _ => by rw [hh]) (NonC.of_heap hh) (fun id' _ => hk id'), fun i x hx => ?_⟩
  obtain ⟨v, hv, hr⟩ := h.tmps i x hx
  exact ⟨v, hv, hr.carry hc fun id _ => hk id⟩

theorem find_free_tmp {id : Nat} (hf : st.free id = true) {i : Nat} {x : AV} (hx : find st.tmps i = some x) : x.ment id = false := by
  unfold ASt.free at hf
  rw [Bool.and_eq_true, List.all_eq_true, List.all_eq_true] at hf
  have := hf.1 _ (find_mem hx)
  simpa using this
theorem find_free_row {id : Nat} (hf : st.free id = true) {i : Nat} {r : ARow} (hx : find st.rows i = some r) : i ≠ id ∧ r.ment id = false := by
  unfold ASt.free at hf
  rw [Bool.and_eq_true, List.all_eq_true, List.all_eq_true] at hf
  have := hf.2 _ (find_mem hx)
  simpa using this

def updG (g : Gh) (id : Nat) (x : Option (Nat × Nat)) : Gh := fun i => if i = id then x else g i
theorem updG_eq (g : Gh) (id : Nat) (x : Option (Nat × Nat)) : updG g id x id = x := by simp [updG]
theorem updG_ne (g : Gh) {id i : Nat} (x : Option (Nat × Nat)) (h : i ≠ id) : updG g id x i = g i := by simp [updG, h]

/-- What a new row does to the safe places. -/
theorem safe_new (h : Rel S w0 N g st a w) {id : Nat} (hf : st.free id = true) (r : ARow) (cells : Array Value) (T cap : Nat) :
    ∀ b o, Sf w0.heap.size S st.rows g b o → b < w.heap.size → Sf w0.heap.size S ((id, r) :: st.rows) (updG g id (some (w.heap.size, cap))) b o ∧ cl (w.alloc (.cells cells T)) b o = cl w b o := by
  refine safe_core (id := id) (b' := w.heap.size) (cap := cap) (r := r) find_set_eq (fun id' hid r' hr' => ?_) (fun b c hg => ?_) (fun id' hid => updG_ne _ _ hid) (fun b hb hne => ?_) h.below.size (fun o _ hlt => absurd hlt (Nat.lt_irrefl _))
  · rw [find_set_ne hid] at hr'
    exact ⟨r', hr', fun _ x => x⟩
  · rw [updG_eq] at hg; cases hg; rfl
  · exact heap_alloc_old w _ hb

theorem keep_new {id : Nat} (r : ARow) (x : Option (Nat × Nat)) {id' : Nat} (hne : id' ≠ id) :
    updG g id x id' = g id' ∧ ∀ e sz xs fl, find st.rows id' = some (.arr e sz xs fl) → ∃ xs' fl', find ((id, r) :: st.rows) id' = some (.arr e sz xs' fl') ∧ xs'.length = xs.length :=
  ⟨updG_ne _ _ hne, fun e sz xs fl hf => ⟨xs, fl, by rw [find_set_ne hne]; exact hf, rfl⟩⟩

/-- A new row in a new block. -/
theorem Rel.new (h : Rel S w0 N g st a w) {id : Nat} (hf : st.free id = true) {r : ARow} {cells : Array Value} {T cap : Nat}
    (hr : RelRow (Sf w0.heap.size S ((id, r) :: st.rows) (updG g id (some (w.heap.size, cap)))) (w.alloc (.cells cells T)) ((id, r) :: st.rows) (updG g id (some (w.heap.size, cap))) id r) :
    Rel S w0 N (updG g id (some (w.heap.size, cap))) ⟨st.tmps, (id, r) :: st.rows⟩ a (w.alloc (.cells cells T)) := by
  have hc := safe_new h hf r cells T cap
  refine ⟨h.below.alloc h.below.size _, h.size, h.calm, h.good, h.defers.carry (NonC.of_old fun k hk => Below.heap_alloc w _ k hk), fun id' r' b c hfr hg => ?_, fun id1 id2 r1 r2 b c1 c2 hf1 hf2 hg1 hg2 => ?_, fun id' r' hfr => ?_, fun i x hx => ?_⟩
  · by_cases hid : id' = id
    · subst hid; rw [updG_eq] at hg; cases hg
      exact ⟨h.below.size, by simp⟩
    · rw [updG_ne _ _ hid] at hg
      simp only [find_set_ne hid] at hfr
      have := h.blk id' r' b c hfr hg
      exact ⟨this.1, by simp; omega⟩
  · by_cases h1 : id1 = id <;> by_cases h2 : id2 = id
    · rw [h1, h2]
    · subst h1
      rw [updG_eq] at hg1; cases hg1
      rw [updG_ne _ _ h2] at hg2
      simp only [find_set_ne h2] at hf2
      have := (h.blk id2 r2 _ _ hf2 hg2).2
      omega
    · subst h2
      rw [updG_eq] at hg2; cases hg2
      rw [updG_ne _ _ h1] at hg1
      simp only [find_set_ne h1] at hf1
      have := (h.blk id1 r1 _ _ hf1 hg1).2
      omega
    · rw [updG_ne _ _ h1] at hg1
      rw [updG_ne _ _ h2] at hg2
      simp only [find_set_ne h1] at hf1
      simp only [find_set_ne h2] at hf2
      exact h.inj id1 id2 r1 r2 b c1 c2 hf1 hf2 hg1 hg2
  · by_cases hid : id' = id
    · subst hid
      simp only [find_set_eq] at hfr
      cases hfr
      exact hr
    · simp only [find_set_ne hid] at hfr
      obtain ⟨_, hm⟩ := find_free_row hf hfr
      refine (h.rows id' r' hfr).carry hc (updG_ne _ _ hid) (fun b c hg => heap_alloc_old w _ (h.blk id' r' b c hfr hg).2) (NonC.of_old fun k hk => Below.heap_alloc w _ k hk) (fun id2 hid2 => ?_)
      exact keep_new r _ (fun e => by subst e; rw [hm] at hid2; cases hid2)
  · obtain ⟨v, hv, hrv⟩ := h.tmps i x hx
    have hm := find_free_tmp hf hx
    exact ⟨v, hv, hrv.carry hc fun id2 hid2 => keep_new r _ (fun e => by subst e; rw [hm] at hid2; cases hid2)⟩

/-- A frame's value over a new row. -/
theorem relV_new (h : Rel S w0 N g st a w) {id : Nat} (hf : st.free id = true) (r : ARow) (cells : Array Value) (T cap : Nat) {v : Value} {x : AV} (hm : x.ment id = false)
    (hv : RelV (Sf w0.heap.size S st.rows g) w st.rows g v x) :
    RelV (Sf w0.heap.size S ((id, r) :: st.rows) (updG g id (some (w.heap.size, cap)))) (w.alloc (.cells cells T)) ((id, r) :: st.rows) (updG g id (some (w.heap.size, cap))) v x :=
  hv.carry (safe_new h hf r cells T cap) fun id2 hid2 => keep_new r _ (fun e => by subst e; rw [hm] at hid2; cases hid2)

theorem ev_free {id : Nat} (hf : st.free id = true) (x : Operand) : (st.ev x).ment id = false := by
  cases x with
  | tmp t =>
    simp only [ASt.ev]
    split
    · rename_i y hy; exact find_free_tmp hf hy
    · unfold AV.ment; rfl
  | const v => simp only [ASt.ev, cst]; split <;> unfold AV.ment <;> rfl
  | func f => simp only [ASt.ev]; unfold AV.ment; rfl
  | global g => simp only [ASt.ev]; exact goodAV_ment g id

/-- A box of cells. -/
theorem Rel.newBox (h : Rel S w0 N g st a w) {id : Nat} (hf : st.free id = true) {cs : List AC} {cells : Array Value} (T : Nat) (hm : cs.any (·.ment id) = false)
    (hr : All2 (fun u x => u.oneCell' = true ∧ RelAC (Sf w0.heap.size S st.rows g) w st.rows g u x) cells.toList cs) :
    Rel S w0 N (updG g id (some (w.heap.size, 0))) ⟨st.tmps, (id, .box T cs) :: st.rows⟩ a (w.alloc (.cells cells T)) := by
  refine h.new hf ⟨w.heap.size, 0, cells, updG_eq _ _ _, heap_alloc_new w _, hr.mono' fun u x hx hu => ⟨hu.1, hu.2.carry (safe_new h hf _ cells T 0) fun id2 hid2 => keep_new _ _ fun e => ?_⟩⟩
  subst e
  have := List.any_eq_false.1 hm x hx
  exact this (by simp [AC.ment, hid2])

/-- A row of elements, all pure data. -/
theorem Rel.newArr (h : Rel S w0 N g st a w) {id : Nat} (hf : st.free id = true) {e sz : Nat} {xs : List (List DC)} {fl : Bool} {cells : Array Value} {cap : Nat}
    (hsz : ∀ (i : Nat) (x : List DC), xs[i]? = some x → x.length = sz) (hcap : xs.length ≤ cap) (hm : cap ≤ maxLen) (hcs : cells.size = cap * sz)
    (hr : ∀ (i j : Nat) (x : List DC) (d : DC), xs[i]? = some x → x[j]? = some d → ∃ u, cells[i * sz + j]? = some u ∧ RelC (Sf w0.heap.size S st.rows g) w u d) :
    Rel S w0 N (updG g id (some (w.heap.size, cap))) ⟨st.tmps, (id, .arr e sz xs fl) :: st.rows⟩ a (w.alloc (.cells cells e)) := by
  refine h.new hf ⟨hsz, .inr ⟨w.heap.size, cap, cells, updG_eq _ _ _, heap_alloc_new w _, hcap, hm, hcs, fun i j x d hx hd => ?_⟩⟩
  obtain ⟨u, hu, hru⟩ := hr i j x d hx hd
  exact ⟨u, hu, hru.mono (safe_new h hf _ cells e cap)⟩

/-- A row whose block is written in place: as many elements as before, or a box. -/
theorem Rel.store (h : Rel S w0 N g st a w) {id b c : Nat} {r0 r : ARow} (hf : find st.rows id = some r0) (hg : g id = some (b, c)) (hns : ∀ o, ¬ r0.safe o)
    (hlen : ∀ e sz xs fl, r0 = .arr e sz xs fl → ∃ xs' fl', r = .arr e sz xs' fl' ∧ xs'.length = xs.length) {cur : Array Value} {T : Nat}
    (hh : ∃ cur0, w.heap[b]? = some (.cells cur0 T (0, 0)))
    (hr : ∀ F' w' rows', (∀ b' o, Sf w0.heap.size S st.rows g b' o → b' < w.heap.size → F' b' o ∧ cl w' b' o = cl w b' o) →
        (∀ id', ∀ e sz xs fl, find st.rows id' = some (.arr e sz xs fl) → ∃ xs' fl', find rows' id' = some (.arr e sz xs' fl') ∧ xs'.length = xs.length) →
        w'.heap[b]? = some (.cells cur T (0, 0)) → RelRow F' w' rows' g id r) :
    Rel S w0 N g ⟨st.tmps, (id, r) :: st.rows⟩ a (w.setRow b cur) := by
  obtain ⟨cur0, hh⟩ := hh
  obtain ⟨hb1, hb2⟩ := h.blk id r0 b c hf hg
  have hother : ∀ k, k ≠ b → (w.setRow b cur).heap[k]? = w.heap[k]? := fun k hk => setRow_other w b k _ (fun e => hk e)
  have hc : ∀ b' o, Sf w0.heap.size S st.rows g b' o → b' < w.heap.size → Sf w0.heap.size S ((id, r) :: st.rows) g b' o ∧ cl (w.setRow b cur) b' o = cl w b' o := by
    refine safe_core (id := id) (b' := b) (cap := c) (r := r) find_set_eq (fun id' hid r' hr' => ?_) (fun b2 c2 hg2 => ?_) (fun id' hid => rfl) (fun b2 hb hne => hother b2 hne) hb1 (fun o hs hlt => ?_)
    · rw [find_set_ne hid] at hr'
      exact ⟨r', hr', fun _ x => x⟩
    · rw [hg] at hg2; cases hg2; rfl
    · rcases hs with ⟨h3, _⟩ | ⟨h3, h4⟩
      · omega
      · exact absurd (h4 id r0 c hf hg) (hns o)
  have hk : ∀ id', ∀ e sz xs fl, find st.rows id' = some (.arr e sz xs fl) → ∃ xs' fl', find ((id, r) :: st.rows) id' = some (.arr e sz xs' fl') ∧ xs'.length = xs.length := by
    intro id' e sz xs fl hfi
    by_cases hid : id' = id
    · subst hid
      rw [hf] at hfi
      cases hfi
      obtain ⟨xs', fl', h1, h2⟩ := hlen e sz xs fl rfl
      exact ⟨xs', fl', by rw [find_set_eq, h1], h2⟩
    · exact ⟨xs, fl, by rw [find_set_ne hid]; exact hfi, rfl⟩
  have hnc : NonC w (w.setRow b cur) := fun D o hd ho => (hother D (fun e => by subst e; rw [hh] at hd; cases hd; simp [oStill, Obj.isCells] at ho)).trans hd
  refine ⟨⟨h.below.os, h.below.tape, h.below.output, by simpa using h.below.size, fun k hk => by rw [hother k (by omega)]; exact h.below.block k hk⟩, h.size, h.calm, h.good, h.defers.carry hnc, fun id' r' b2 c2 hfr hg2 => ?_, fun id1 id2 r1 r2 b2 c1 c2 hf1 hf2 hg1 hg2 => ?_, fun id' r' hfr => ?_, fun i x hx => ?_⟩
  · have : ∃ r1, find st.rows id' = some r1 := by
      by_cases hid : id' = id
      · subst hid; exact ⟨r0, hf⟩
      · exact ⟨r', by simpa only [find_set_ne hid] using hfr⟩
    obtain ⟨r1, hr1⟩ := this
    simpa using h.blk id' r1 b2 c2 hr1 hg2
  · have old : ∀ id' r', find ((id, r) :: st.rows) id' = some r' → ∃ r1, find st.rows id' = some r1 := by
      intro id' r' hfr
      by_cases hid : id' = id
      · subst hid; exact ⟨r0, hf⟩
      · exact ⟨r', by simpa only [find_set_ne hid] using hfr⟩
    obtain ⟨q1, hq1⟩ := old id1 r1 hf1
    obtain ⟨q2, hq2⟩ := old id2 r2 hf2
    exact h.inj id1 id2 q1 q2 b2 c1 c2 hq1 hq2 hg1 hg2
  · by_cases hid : id' = id
    · subst hid
      simp only [find_set_eq] at hfr
      cases hfr
      exact hr _ _ _ hc hk (setRow_heap w b cur0 _ T _ hh)
    · simp only [find_set_ne hid] at hfr
      refine (h.rows id' r' hfr).carry hc rfl (fun b2 c2 hg2 => hother b2 fun e => ?_) hnc (fun id2 _ => ⟨rfl, hk id2⟩)
      subst e
      exact hid (h.inj id' id r' r0 _ c2 c hfr hf hg2 hg)
  · obtain ⟨v, hv, hrv⟩ := h.tmps i x hx
    exact ⟨v, hv, hrv.carry hc fun id2 _ => ⟨rfl, hk id2⟩⟩

/-- An iterator goes on. -/
theorem Rel.goOn (h : Rel S w0 N g st a w) {id b c : Nat} {str : ByteArray} {pos pos' : Nat} (hf : find st.rows id = some (.iter str pos)) (hg : g id = some (b, c)) :
    Rel S w0 N g ⟨st.tmps, (id, .iter str pos') :: st.rows⟩ a (w.putObj b (.stringIter str pos')) := by
  have hh : w.heap[b]? = some (.stringIter str pos) := by
    obtain ⟨b', c', h1, h2⟩ := h.rows id _ hf
    rw [hg] at h1; cases h1; exact h2
  have hlt := (Array.getElem?_eq_some_iff.1 hh).1
  obtain ⟨hb1, hb2⟩ := h.blk id _ b c hf hg
  have hother : ∀ k, k ≠ b → (w.putObj b (.stringIter str pos')).heap[k]? = w.heap[k]? := fun k hk => World.putObj_heap_other hk
  have hcl : ∀ b' o, cl (w.putObj b (.stringIter str pos')) b' o = cl w b' o := by
    intro b' o
    by_cases hb : b' = b
    · subst hb
      unfold cl World.cell?
      rw [World.putObj_heap_same hlt, hh]
    · exact cl_of_block (hother b' hb) o
  have hc : ∀ b' o, Sf w0.heap.size S st.rows g b' o → b' < w.heap.size → Sf w0.heap.size S ((id, .iter str pos') :: st.rows) g b' o ∧ cl (w.putObj b (.stringIter str pos')) b' o = cl w b' o := by
    intro b' o hs _
    refine ⟨?_, hcl b' o⟩
    rcases hs with hs | ⟨q1, q2⟩
    · exact .inl hs
    · refine .inr ⟨q1, fun i r c' hfi hgi => ?_⟩
      by_cases hi : i = id
      · subst hi
        rw [find_set_eq] at hfi; cases hfi
        exact (q2 i (.iter str pos) c' hf hgi).elim
      · rw [find_set_ne hi] at hfi; exact q2 i r c' hfi hgi
  have hk : ∀ id', ∀ e sz xs fl, find st.rows id' = some (.arr e sz xs fl) → ∃ xs' fl', find ((id, ARow.iter str pos') :: st.rows) id' = some (.arr e sz xs' fl') ∧ xs'.length = xs.length := by
    intro id' e sz xs fl hfi
    refine ⟨xs, fl, ?_, rfl⟩
    rw [find_set_ne]
    · exact hfi
    · intro hi; subst hi; rw [hf] at hfi; cases hfi
  have hnc : NonC w (w.putObj b (.stringIter str pos')) := fun D o hd ho => (hother D (fun e => by subst e; rw [hh] at hd; cases hd; simp [oStill, oIter] at ho)).trans hd
  have old : ∀ id' r', find ((id, ARow.iter str pos') :: st.rows) id' = some r' → ∃ r1, find st.rows id' = some r1 := by
    intro id' r' hfr
    by_cases hid : id' = id
    · subst hid; exact ⟨_, hf⟩
    · exact ⟨r', by simpa only [find_set_ne hid] using hfr⟩
  refine ⟨⟨h.below.os, h.below.tape, h.below.output, by simpa using h.below.size, fun k hk => by rw [hother k (by omega)]; exact h.below.block k hk⟩, h.size, h.calm, h.good, h.defers.carry hnc, fun id' r' b2 c2 hfr hg2 => ?_, fun id1 id2 r1 r2 b2 c1 c2 hf1 hf2 hg1 hg2 => ?_, fun id' r' hfr => ?_, fun i x hx => ?_⟩
  · obtain ⟨r1, hr1⟩ := old id' r' hfr
    simpa using h.blk id' r1 b2 c2 hr1 hg2
  · obtain ⟨q1, hq1⟩ := old id1 r1 hf1
    obtain ⟨q2, hq2⟩ := old id2 r2 hf2
    exact h.inj id1 id2 q1 q2 b2 c1 c2 hq1 hq2 hg1 hg2
  · by_cases hid : id' = id
    · subst hid
      simp only [find_set_eq] at hfr
      cases hfr
      exact ⟨b, c, hg, World.putObj_heap_same hlt⟩
    · simp only [find_set_ne hid] at hfr
      refine (h.rows id' r' hfr).carry hc rfl (fun b2 c2 hg2 => hother b2 fun e => ?_) hnc (fun id2 _ => ⟨rfl, hk id2⟩)
      subst e
      exact hid (h.inj id' id r' _ _ c2 c hfr hf hg2 hg)
  · obtain ⟨v, hv, hrv⟩ := h.tmps i x hx
    exact ⟨v, hv, hrv.carry hc fun id2 _ => ⟨rfl, hk id2⟩⟩

end
end Go.Abs

set_option linter.unusedSimpArgs false
set_option linter.unusedVariables false
namespace Go.Abs
open Go.RowKit

def AC.kill (id : Nat) (x : AC) : AC := match x.ment id with | true => .dead | false => x
def AV.kill (id : Nat) : AV → AV
  | .c x => .c (x.kill id)
  | .agg xs => .agg (xs.map (AC.kill id))
  | .tup xs => match mentL id xs with | true => .any | false => .tup xs
  | .any => .any
  | .emp => .emp
def ARow.kill (id : Nat) : ARow → ARow
  | .ghost v x => .ghost v (x.kill id)
  | .box T cs => .box T (cs.map (AC.kill id))
  | r => r
def mapV {α β : Type} (f : α → β) : List (Nat × α) → List (Nat × β)
  | [] => []
  | (k, v) :: l => (k, f v) :: mapV f l
def ASt.kill (s : ASt) (id : Nat) : ASt := ⟨mapV (AV.kill id) s.tmps, mapV (ARow.kill id) s.rows⟩

theorem find_mapV {α β : Type} (f : α → β) : ∀ (l : List (Nat × α)) (i : Nat), find (mapV f l) i = (find l i).map f
  | [], i => rfl
  | (k, v) :: l, i => by
    simp only [mapV, find]
    split
    · rfl
    · exact find_mapV f l i

theorem AC.kill_ment (id : Nat) (x : AC) : (x.kill id).ment id = false := by
  unfold AC.kill
  cases h : x.ment id
  · exact h
  · rfl
theorem AV.kill_ment (id : Nat) (x : AV) : (x.kill id).ment id = false := by
  cases x with
  | c x => unfold AV.kill AV.ment; exact AC.kill_ment id x
  | agg xs =>
    unfold AV.kill AV.ment
    rw [List.any_eq_false]
    intro y hy
    obtain ⟨z, _, rfl⟩ := List.mem_map.1 hy
    simp [AC.kill_ment]
  | tup xs =>
    cases h : mentL id xs
    · rw [show AV.kill id (.tup xs) = .tup xs by simp only [AV.kill, h]]
      unfold AV.ment; exact h
    · rw [show AV.kill id (.tup xs) = .any by simp only [AV.kill, h]]
      unfold AV.ment; rfl
  | any => unfold AV.kill AV.ment; rfl
  | emp => unfold AV.kill AV.ment; rfl
theorem ARow.kill_ment (id : Nat) (r : ARow) : (r.kill id).ment id = false := by
  cases r with
  | box T cs =>
    unfold ARow.kill ARow.ment
    rw [List.any_eq_false]
    intro y hy
    obtain ⟨z, _, rfl⟩ := List.mem_map.1 hy
    simp [AC.kill_ment]
  | arr => rfl
  | ghost v x => exact AV.kill_ment id x
  | held => rfl
  | gone => rfl
  | iter => rfl

section
variable {S : Nat → Nat → Prop} {w0 : World} {N : Fm} {g : Gh} {st : ASt} {a : Act} {w : World}

theorem RelAC.kill {F : Nat → Nat → Prop} {rows rows' : List (Nat × ARow)} (hrows : ∀ id e sz xs fl, find rows id = some (.arr e sz xs fl) → find rows' id = some (.arr e sz xs fl)) (id : Nat) {u : Value} {x : AC}
    (h : RelAC F w rows g u x) : RelAC F w rows' g u (x.kill id) := by
  unfold AC.kill
  cases hm : x.ment id
  · exact h.carry (fun b o hb _ => ⟨hb, rfl⟩) fun i hi => ⟨rfl, fun e sz xs fl hf => ⟨xs, fl, hrows i e sz xs fl hf, rfl⟩⟩
  · trivial

theorem RelV.kill {F : Nat → Nat → Prop} {rows rows' : List (Nat × ARow)} (hrows : ∀ id e sz xs fl, find rows id = some (.arr e sz xs fl) → find rows' id = some (.arr e sz xs fl)) (id : Nat) {v : Value} {x : AV}
    (h : RelV F w rows g v x) : RelV F w rows' g v (x.kill id) := by
  cases x with
  | c x =>
    unfold AV.kill
    unfold RelV at h ⊢
    exact ⟨h.1, h.2.kill hrows id⟩
  | agg xs =>
    unfold AV.kill
    unfold RelV at h ⊢
    obtain ⟨cs, h1, h2⟩ := h
    exact ⟨cs, h1, All2.map_r (h2.mono fun u y hu => ⟨hu.1, hu.2.kill hrows id⟩)⟩
  | tup xs =>
    cases hm : mentL id xs
    · rw [show AV.kill id (.tup xs) = .tup xs by simp only [AV.kill, hm]]
      exact h.carry (fun b o hb _ => ⟨hb, rfl⟩) fun i _ => ⟨rfl, fun e sz ys fl hf => ⟨ys, fl, hrows i e sz ys fl hf, rfl⟩⟩
    · rw [show AV.kill id (.tup xs) = .any by simp only [AV.kill, hm]]
      unfold RelV; trivial
  | any => unfold AV.kill RelV; trivial
  | emp => unfold AV.kill; unfold RelV at h ⊢; exact h

theorem Rel.kill (h : Rel S w0 N g st a w) (id : Nat) : Rel S w0 N g (st.kill id) a w := by
  have hrows : ∀ i e sz xs fl, find st.rows i = some (.arr e sz xs fl) → find (st.kill id).rows i = some (.arr e sz xs fl) := by
    intro i e sz xs fl hf
    simp [ASt.kill, find_mapV, hf, ARow.kill]
  have hback : ∀ i r, find (st.kill id).rows i = some r → ∃ r0, find st.rows i = some r0 ∧ r = r0.kill id := by
    intro i r hr
    simp only [ASt.kill, find_mapV] at hr
    obtain ⟨r0, h1, h2⟩ := Option.map_eq_some_iff.1 hr
    exact ⟨r0, h1, h2.symm⟩
  have hsafe : ∀ b o, Sf w0.heap.size S st.rows g b o → Sf w0.heap.size S (st.kill id).rows g b o := by
    intro b o hs
    rcases hs with hs | ⟨h1, h2⟩
    · exact .inl hs
    · refine .inr ⟨h1, fun i r c hr hg => ?_⟩
      obtain ⟨r0, hr0, rfl⟩ := hback i r hr
      have := h2 i r0 c hr0 hg
      cases r0 <;> exact this
  have hc : ∀ b o, Sf w0.heap.size S st.rows g b o → b < w.heap.size → Sf w0.heap.size S (st.kill id).rows g b o ∧ cl w b o = cl w b o := fun b o hs _ => ⟨hsafe b o hs, rfl⟩
  have same : ∀ {rows : List (Nat × ARow)} i, g i = g i ∧ ∀ e sz xs fl, find rows i = some (.arr e sz xs fl) → ∃ xs' fl', find rows i = some (.arr e sz xs' fl') ∧ xs'.length = xs.length :=
    fun i => ⟨rfl, fun e sz xs fl hf => ⟨xs, fl, hf, rfl⟩⟩
  refine ⟨h.below, h.size, h.calm, h.good, h.defers, fun i r b c hr hg => ?_, fun i i' r r' b c c' hr hr' hg hg' => ?_, fun i r hr => ?_, fun i x hx => ?_⟩
  · obtain ⟨r0, hr0, _⟩ := hback i r hr
    exact h.blk i r0 b c hr0 hg
  · obtain ⟨r0, hr0, _⟩ := hback i r hr
    obtain ⟨r1, hr1, _⟩ := hback i' r' hr'
    exact h.inj i i' r0 r1 b c c' hr0 hr1 hg hg'
  · obtain ⟨r0, hr0, rfl⟩ := hback i r hr
    have := h.rows i r0 hr0
    cases r0 with
    | box T cs =>
      obtain ⟨b, c, cur, h1, h2, h3⟩ := this
      refine ⟨b, c, cur, h1, h2, All2.map_r (h3.mono fun u y hu => ⟨hu.1, ?_⟩)⟩
      exact (hu.2.kill hrows id).carry hc (fun i _ => same i)
    | arr e sz xs fl => exact this.carry hc rfl (fun _ _ _ => rfl) (NonC.refl _) (fun i hi => by cases hi)
    | ghost v x => exact ⟨this.1, (this.2.kill hrows id).carry hc fun i _ => same i⟩
    | held l => exact this.carry hc rfl (fun _ _ _ => rfl) (NonC.refl _) (fun i hi => by cases hi)
    | gone => exact this.carry hc rfl (fun _ _ _ => rfl) (NonC.refl _) (fun i hi => by cases hi)
    | iter s pos => exact this.carry hc rfl (fun _ _ _ => rfl) (NonC.refl _) (fun i hi => by cases hi)
  · simp only [ASt.kill, find_mapV] at hx
    obtain ⟨x0, h1, rfl⟩ := Option.map_eq_some_iff.1 hx
    obtain ⟨v, hv, hr⟩ := h.tmps i x0 h1
    exact ⟨v, hv, (hr.kill hrows id).carry hc fun i _ => same i⟩

/-- Nothing leads to row id. -/
def ASt.nomen (s : ASt) (id : Nat) : Prop := (∀ i x, find s.tmps i = some x → x.ment id = false) ∧ ∀ i r, find s.rows i = some r → r.ment id = false

theorem kill_nomen (s : ASt) (id : Nat) : (s.kill id).nomen id := by
  refine ⟨fun i x hx => ?_, fun i r hr => ?_⟩
  · simp only [ASt.kill, find_mapV] at hx
    obtain ⟨x0, _, rfl⟩ := Option.map_eq_some_iff.1 hx
    exact AV.kill_ment id x0
  · simp only [ASt.kill, find_mapV] at hr
    obtain ⟨r0, _, rfl⟩ := Option.map_eq_some_iff.1 hr
    exact ARow.kill_ment id r0

/-- Row id made anew, nothing leading to it. -/
theorem Rel.renew (h : Rel S w0 N g st a w) {id : Nat} (hm : st.nomen id) {w' : World} {x : Option (Nat × Nat)} {r : ARow}
    (h1 : w'.os = w.os) (h2 : w'.tape = w.tape) (h3 : w'.output = w.output) (h4 : w.heap.size ≤ w'.heap.size)
    (hblk : ∀ b, b < w.heap.size → (∀ cap, x ≠ some (b, cap)) → w'.heap[b]? = w.heap[b]?)
    (hx : ∀ b cap, x = some (b, cap) → w0.heap.size ≤ b ∧ b < w'.heap.size ∧ ((∃ r0 c0, find st.rows id = some r0 ∧ g id = some (b, c0) ∧ r0.isIter = false) ∨ w.heap.size ≤ b))
    (hcell : ∀ b cap o, x = some (b, cap) → Sf w0.heap.size S st.rows g b o → b < w.heap.size → r.safe o ∧ cl w' b o = cl w b o)
    (hr : (∀ b o, Sf w0.heap.size S st.rows g b o → b < w.heap.size → Sf w0.heap.size S ((id, r) :: st.rows) (updG g id x) b o ∧ cl w' b o = cl w b o) →
      RelRow (Sf w0.heap.size S ((id, r) :: st.rows) (updG g id x)) w' ((id, r) :: st.rows) (updG g id x) id r) :
    Rel S w0 N (updG g id x) ⟨st.tmps, (id, r) :: st.rows⟩ a w' := by
  have hc : ∀ b o, Sf w0.heap.size S st.rows g b o → b < w.heap.size → Sf w0.heap.size S ((id, r) :: st.rows) (updG g id x) b o ∧ cl w' b o = cl w b o := by
    cases x with
    | none =>
      intro b o hs hb
      refine ⟨?_, cl_of_block (hblk b hb (by simp)) o⟩
      rcases hs with hs | ⟨h5, h6⟩
      · exact .inl hs
      · refine .inr ⟨h5, fun id' r' c hf hg => ?_⟩
        by_cases hid : id' = id
        · subst hid; rw [updG_eq] at hg; cases hg
        · rw [find_set_ne hid] at hf; rw [updG_ne _ _ hid] at hg; exact h6 id' r' c hf hg
    | some p =>
      obtain ⟨b', cap⟩ := p
      refine safe_core (id := id) (b' := b') (cap := cap) (r := r) find_set_eq (fun id' hid r' hr' => ?_) (fun b c hg => ?_) (fun id' hid => updG_ne _ _ hid) (fun b hb hne => hblk b hb (fun c e => by cases e; exact hne rfl)) (hx b' cap rfl).1 (fun o hs hlt => hcell b' cap o rfl hs hlt)
      · rw [find_set_ne hid] at hr'
        exact ⟨r', hr', fun _ y => y⟩
      · rw [updG_eq] at hg; cases hg; rfl
  have other : ∀ id' r' b c, id' ≠ id → find st.rows id' = some r' → g id' = some (b, c) → ∀ cap, x ≠ some (b, cap) := by
    intro id' r' b c hid hf hg cap he
    rcases (hx b cap he).2.2 with ⟨r0, c0, hf0, hg0, hni0⟩ | hge
    · exact hid (h.inj id' id r' r0 b c c0 hf hf0 hg hg0)
    · have := (h.blk id' r' b c hf hg).2; omega
  have hnc : NonC w w' := fun D o hd ho => by
    refine (hblk D (Array.getElem?_eq_some_iff.1 hd).1 (fun cap he => ?_)).trans hd
    rcases (hx D cap he).2.2 with ⟨r0, c0, hf0, hg0, hni0⟩ | hge
    · obtain ⟨cur, T, fr, hc0⟩ := h.row_cells hf0 hni0 hg0
      rw [hc0] at hd; cases hd; simp [oStill, Obj.isCells] at ho
    · have := (Array.getElem?_eq_some_iff.1 hd).1
      omega
  refine ⟨⟨h1.trans h.below.os, h2.trans h.below.tape, h3.trans h.below.output, Nat.le_trans h.below.size h4, fun k hk => ?_⟩, h.size, h.calm, h.good, h.defers.carry hnc, fun id' r' b c hfr hg => ?_, fun id1 id2 r1 r2 b c1 c2 hf1 hf2 hg1 hg2 => ?_, fun id' r' hfr => ?_, fun i y hy => ?_⟩
  · rw [hblk k (by have := h.below.size; omega) (fun cap he => by have := (hx k cap he).1; omega)]
    exact h.below.block k hk
  · by_cases hid : id' = id
    · subst hid; rw [updG_eq] at hg
      exact ⟨(hx b c hg).1, (hx b c hg).2.1⟩
    · rw [updG_ne _ _ hid] at hg
      simp only [find_set_ne hid] at hfr
      have := h.blk id' r' b c hfr hg
      exact ⟨this.1, by omega⟩
  · by_cases e1 : id1 = id <;> by_cases e2 : id2 = id
    · rw [e1, e2]
    · subst e1
      rw [updG_eq] at hg1
      rw [updG_ne _ _ e2] at hg2
      simp only [find_set_ne e2] at hf2
      exact absurd hg1 (other id2 r2 b c2 e2 hf2 hg2 c1)
    · subst e2
      rw [updG_eq] at hg2
      rw [updG_ne _ _ e1] at hg1
      simp only [find_set_ne e1] at hf1
      exact absurd hg2 (other id1 r1 b c1 e1 hf1 hg1 c2)
    · rw [updG_ne _ _ e1] at hg1
      rw [updG_ne _ _ e2] at hg2
      simp only [find_set_ne e1] at hf1
      simp only [find_set_ne e2] at hf2
      exact h.inj id1 id2 r1 r2 b c1 c2 hf1 hf2 hg1 hg2
  · by_cases hid : id' = id
    · subst hid
      simp only [find_set_eq] at hfr
      cases hfr
      exact hr hc
    · simp only [find_set_ne hid] at hfr
      have hmr := hm.2 id' r' hfr
      refine (h.rows id' r' hfr).carry hc (updG_ne _ _ hid) (fun b c hg => hblk b (h.blk id' r' b c hfr hg).2 (other id' r' b c hid hfr hg)) hnc (fun id2 hid2 => ?_)
      exact keep_new r _ (fun e => by subst e; rw [hmr] at hid2; cases hid2)
  · obtain ⟨v, hv, hrv⟩ := h.tmps i y hy
    have hmy := hm.1 i y hy
    exact ⟨v, hv, hrv.carry hc fun id2 hid2 => keep_new r _ (fun e => by subst e; rw [hmy] at hid2; cases hid2)⟩

/-- What is appended: m elements, these cells. -/
structure Src (P : Program) (size m : Nat) (w : World) (x : Value) (news : List Value) : Prop where
  len : Builtin.lenOf x = pure m
  cells : ∀ w', w'.heap = w.heap → (Builtin.firstCells size m x).run P w' = .ok news.toArray w'
  size : news.length = m * size
  one : ∀ u ∈ news, u.oneCell' = true

theorem run_app_room {P : Program} (t tx ty e : TypeId) (i : TypeInfo) (ht : P.underlying t = some (.slice e)) {dx : TypeDesc} (htx : P.underlying tx = some dx) (hdx : (∃ e2, dx = .slice e2) ∨ dx = .string) (hi : P.info? e = some i)
    {x : Value} {m : Nat} {news : List Value} (hs : Src P i.size m w x news) (b n cap : Nat) (cur : Array Value) (hb : w.heap[b]? = some (.cells cur e (0, 0))) (hroom : n + m ≤ cap) (hfit : n * i.size + news.length ≤ cur.size) :
    (Builtin.append_ #[t, tx] ty #[.slice (some ⟨b, 0, none⟩) n cap, x]).run P w =
      .ok (.slice (some ⟨b, 0, none⟩) (n + m) cap) (w.setRow b (cur.toList.take (n * i.size) ++ news ++ cur.toList.drop (n * i.size + news.length)).toArray) := by
  have hst := run_storeCells_at P b (n * i.size) e news 0 cur w hb (by simpa using hfit) hs.one
  simp only [Nat.add_zero] at hst
  rcases hdx with ⟨e2, rfl⟩ | rfl <;> simp [Builtin.append_, run_underlying ht, run_underlying htx, sizeOf, typeInfo, hi, hs.len, hroom, hs.cells w rfl, Addr.add_lit, hst]

theorem run_app_grow {P : Program} (t tx ty e : TypeId) (i : TypeInfo) (z : Value) (ht : P.underlying t = some (.slice e)) {dx : TypeDesc} (htx : P.underlying tx = some dx) (hdx : (∃ e2, dx = .slice e2) ∨ dx = .string) (hi : P.info? e = some i) (hz0 : i.zero = some z)
    {x : Value} {m : Nat} {news : List Value} (hs : Src P i.size m w x news) (base : Option Addr) (n cap : Nat) (olds : List Value)
    (hold : ∀ w', w'.heap = w.heap → (Builtin.firstCells i.size n (.slice base n cap)).run P w' = .ok olds.toArray w') (hg : cap < n + m) (h63 : ((n + m : Nat) : Int) ≤ 9223372036854775807) (hfit : Builtin.nextslicecap (n + m) cap * i.bytes ≤ 281474976710656) :
    (Builtin.append_ #[t, tx] ty #[.slice base n cap, x]).run P w =
      .ok (.slice (some ⟨w.heap.size, 0, none⟩) (n + m) (grownCap w (n + m) cap e))
        (w.drew.alloc (.cells (olds.toArray ++ news.toArray ++ Builtin.zeroCells z.cells (grownCap w (n + m) cap e - (n + m))) e)) := by
  have hn : ¬ (n + m ≤ cap) := by omega
  have h63' : ¬ (9223372036854775807 < ((n : Int) + (m : Int))) := by omega
  have h48' : ¬ (281474976710656 < Builtin.nextslicecap (n + m) cap * i.bytes) := by omega
  rcases hdx with ⟨e2, rfl⟩ | rfl
  all_goals
    simp [Builtin.append_, run_underlying ht, run_underlying htx, sizeOf, typeInfo, zeroValue, hi, hz0, hs.len, hn, h63', h48', Question.forced, hs.cells w.drew rfl, hold w.drew rfl, newRow, grownCap]
    congr 2
    apply Array.ext'
    simp [List.append_assoc]

end
end Go.Abs

