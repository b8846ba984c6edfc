/- Da, Db, Dc: merged by merge.py. -/
import Derived.Test.YtggaemodkekeeaaCvA
import Derived.Test.YtggaemodkekeeaaGq

/- Canonical values: floats up to the bits of a NaN, lists by what they hold, the call's own blocks by a name; and what it means that a value of the model is one of them. -/
namespace Go.Dv
open Go.RowKit Go.Cv

/-- an interface's value: none; one of which nothing is known; a known one -/
abbrev Ifc := Option (Option (TypeId × Value))
def relI : Ifc → Value → Prop
  | none, y => y = .nilIface
  | some none, y => ∃ t v, y = .iface t v
  | some (some (t, v)), y => y = .iface t v

/-- the shape of data -/
inductive Sh where
  | fl (k : FloatKind)
  | int (k : IntKind)
  | bool
  | str
  | cx (k : FloatKind)
  | ifc
  | ls (e : Sh)
  | pair (a b : Sh)
  deriving DecidableEq

@[reducible] def Sh.Ty : Sh → Type
  | .fl _ => Nat
  | .int _ => Int
  | .bool => Bool
  | .str => ByteArray
  | .cx _ => Nat × Nat
  | .ifc => Ifc
  | .ls e => List e.Ty
  | .pair a b => a.Ty × b.Ty

def Sh.size : Sh → Nat
  | .pair a b => a.size + b.size
  | _ => 1

def Sh.dflt : (s : Sh) → s.Ty
  | .fl _ => (0 : Nat)
  | .int _ => (0 : Int)
  | .bool => false
  | .str => ByteArray.mk #[]
  | .cx _ => ((0 : Nat), (0 : Nat))
  | .ifc => (none : Ifc)
  | .ls _ => []
  | .pair a b => (a.dflt, b.dflt)

/-- a value of one cell -/
inductive CS where
  | any
  | v (x : Value)
  | fl (k : FloatKind) (n : Nat)
  | cx (k : FloatKind) (a b : Nat)
  | ifc (o : Ifc)
  | ptr (id off : Nat)
  | ip (n : Nat) (f : Nat → CS)
  | pe (id sz i k : Nat)
  | ls (bw : Bool) (e : Sh) (l : List e.Ty)
  | own (id n : Nat)
  | win (id sz lo n : Nat)
  | fn (f : Fn) (n : Nat) (c : Nat → CS)
  | agc (n : Nat) (c : Nat → CS)
  | arr (e : Sh) (l : List e.Ty)

/-- the cells of data; 'bw': the lists in it are borrowed -/
def cells (bw : Bool) : (s : Sh) → s.Ty → List CS
  | .fl k, n => [.fl k n]
  | .int k, n => [.v (.int k n)]
  | .bool, b => [.v (.bool b)]
  | .str, s => [.v (.string s)]
  | .cx k, x => [.cx k x.1 x.2]
  | .ifc, o => [.ifc o]
  | .ls e, l => [.ls bw e l]
  | .pair a b, x => cells bw a x.1 ++ cells bw b x.2

theorem cells_length (bw : Bool) : ∀ (s : Sh) (x : s.Ty), (cells bw s x).length = s.size
  | .fl _, _ | .int _, _ | .bool, _ | .str, _ | .cx _, _ | .ifc, _ | .ls _, _ => rfl
  | .pair a b, x => by simp [cells, Sh.size, cells_length bw a, cells_length bw b]

theorem size_pos : ∀ (s : Sh), 0 < s.size
  | .fl _ | .int _ | .bool | .str | .cx _ | .ifc | .ls _ => Nat.one_pos
  | .pair a b => by have := size_pos a; simp [Sh.size]; omega

/-- a value of one cell, or a struct -/
inductive CV1 where
  | s (c : CS)
  | agg (cs : List CS)

inductive CV where
  | one (c : CV1)
  | tup (vs : List CV1)

/-- which block a name stands for, and its capacity; which blocks nobody writes (for ever; for the time of this call), and what they hold -/
structure Gh where
  β : Nat → Option Nat
  cp : Nat → Nat
  im : Nat → Option Obj
  bi : Nat → Option Obj

def Gh.mem (g : Gh) (bw : Bool) : Nat → Option Obj := match bw with | true => g.bi | false => g.im

def CellAt (m : Nat → Option Obj) (b off : Nat) (u : Value) : Prop := ∃ arr T fr, m b = some (.cells arr T fr) ∧ arr[off]? = some u

/-- data as it lies in cells, lists in memory that nobody writes -/
def relT (m : Nat → Option Obj) : (s : Sh) → s.Ty → (Nat → Value → Prop) → Prop
  | .fl k, n, A => ∃ d, A 0 (.float k d) ∧ cn k d = n ∧ d < lim k
  | .int k, n, A => A 0 (.int k n)
  | .bool, b, A => A 0 (.bool b)
  | .str, s, A => A 0 (.string s)
  | .cx k, x, A => ∃ c d, A 0 (.complex k c d) ∧ cn k c = x.1 ∧ cn k d = x.2 ∧ c < lim k ∧ d < lim k
  | .ifc, o, A => ∃ u, A 0 u ∧ relI o u
  | .ls e, l, A => ∃ a cap, A 0 (.slice a l.length cap) ∧ l.length ≤ cap ∧ (a = none → cap = 0) ∧
      (0 < l.length → ∃ b off, a = some ⟨b, off, none⟩ ∧ ∀ i x, l[i]? = some x → relT m e x (fun k u => CellAt m b (off + i * e.size + k) u))
  | .pair a b, x, A => relT m a x.1 A ∧ relT m b x.2 (fun k u => A (a.size + k) u)

/-- a list's place -/
def relL (m : Nat → Option Obj) (e : Sh) (l : List e.Ty) (y : Value) : Prop :=
  ∃ a cap, y = .slice a l.length cap ∧ l.length ≤ cap ∧ (a = none → cap = 0) ∧
    (0 < l.length → ∃ b off, a = some ⟨b, off, none⟩ ∧ ∀ i x, l[i]? = some x → relT m e x (fun k u => CellAt m b (off + i * e.size + k) u))

def rel (g : Gh) : CS → Value → Prop
  | .any, _ => True
  | .v x, y => y = x
  | .fl k n, y => ∃ m, y = .float k m ∧ cn k m = n ∧ m < lim k
  | .cx k a b, y => ∃ c d, y = .complex k c d ∧ cn k c = a ∧ cn k d = b ∧ c < lim k ∧ d < lim k
  | .ifc o, y => relI o y
  | .ptr id off, y => ∃ b, g.β id = some b ∧ y = .pointer (some ⟨b, off, none⟩)
  | .ip n f, y => ∃ b off, y = .pointer (some ⟨b, off, none⟩) ∧ ∀ j, j < n → ∃ u, CellAt g.bi b (off + j) u ∧ rel g (f j) u
  | .pe id sz i k, y => ∃ b, g.β id = some b ∧ y = .pointer (some ⟨b, i * sz + k, none⟩)
  | .ls bw e l, y => relL (g.mem bw) e l y
  | .own id n, y => (n = 0 ∧ y = .slice none 0 0) ∨ ∃ b, g.β id = some b ∧ y = .slice (some ⟨b, 0, none⟩) n (g.cp id) ∧ n ≤ g.cp id
  | .win id sz lo n, y => ∃ a cap, y = .slice a n cap ∧ n ≤ cap ∧ (a = none → cap = 0) ∧ (0 < n → ∃ b, g.β id = some b ∧ a = some ⟨b, lo * sz, none⟩)
  | .fn f n c, y => ∃ arr : Array Value, y = .func f #[] arr ∧ arr.size = n ∧ ∀ j u, arr[j]? = some u → rel g (c j) u
  | .agc n c, y => ∃ arr : Array Value, y = .agg arr ∧ arr.size = n ∧ ∀ j u, arr[j]? = some u → rel g (c j) u
  | .arr _ _, _ => False

def rel1 (g : Gh) : CV1 → Value → Prop
  | .s c, y => rel g c y
  | .agg cs, y => ∃ arr : Array Value, y = .agg arr ∧ arr.size = cs.length ∧ ∀ (j : Nat) c u, cs[j]? = some c → arr[j]? = some u → rel g c u

def relV (g : Gh) : CV → Value → Prop
  | .one c, y => rel1 g c y
  | .tup cs, y => ∃ arr : Array Value, y = .tuple arr ∧ arr.size = cs.length ∧ ∀ (j : Nat) c u, cs[j]? = some c → arr[j]? = some u → rel1 g c u

/-! ### a later state of the names -/
structure Gh.le (g g' : Gh) : Prop where
  β : ∀ i b, g.β i = some b → g'.β i = some b ∧ g'.cp i = g.cp i
  im : ∀ k o, g.im k = some o → g'.im k = some o
  bi : ∀ k o, g.bi k = some o → g'.bi k = some o

theorem Gh.le_refl (g : Gh) : g.le g := ⟨fun _ _ h => ⟨h, rfl⟩, fun _ _ h => h, fun _ _ h => h⟩
theorem Gh.le_trans {a b c : Gh} (h : a.le b) (k : b.le c) : a.le c :=
  ⟨fun i b h1 => by
    obtain ⟨h2, h3⟩ := h.β i b h1
    obtain ⟨h4, h5⟩ := k.β i b h2
    exact ⟨h4, h5.trans h3⟩, fun i o h1 => k.im i o (h.im i o h1), fun i o h1 => k.bi i o (h.bi i o h1)⟩

theorem CellAt.mono {m m' : Nat → Option Obj} (h : ∀ k o, m k = some o → m' k = some o) {b off : Nat} {u : Value} (hc : CellAt m b off u) : CellAt m' b off u := by
  obtain ⟨arr, T, fr, h1, h2⟩ := hc
  exact ⟨arr, T, fr, h _ _ h1, h2⟩

theorem relT_mono {m m' : Nat → Option Obj} (h : ∀ k o, m k = some o → m' k = some o) : ∀ (s : Sh) (x : s.Ty) {A A' : Nat → Value → Prop}, (∀ k u, A k u → A' k u) → relT m s x A → relT m' s x A'
  | .fl _, _, _, _, hA, ⟨d, h1, h2⟩ => ⟨d, hA _ _ h1, h2⟩
  | .int _, _, _, _, hA, h1 => hA _ _ h1
  | .bool, _, _, _, hA, h1 => hA _ _ h1
  | .str, _, _, _, hA, h1 => hA _ _ h1
  | .cx _, _, _, _, hA, ⟨c, d, h1, h2⟩ => ⟨c, d, hA _ _ h1, h2⟩
  | .ifc, _, _, _, hA, ⟨u, h1, h2⟩ => ⟨u, hA _ _ h1, h2⟩
  | .ls e, _, _, _, hA, ⟨a, cap, h1, h2, hz, h3⟩ => ⟨a, cap, hA _ _ h1, h2, hz, fun h0 => by
      obtain ⟨b, off, h4, h5⟩ := h3 h0
      exact ⟨b, off, h4, fun i x hx => relT_mono h e x (fun k u hc => hc.mono h) (h5 i x hx)⟩⟩
  | .pair a b, x, _, _, hA, ⟨h1, h2⟩ => ⟨relT_mono h a x.1 hA h1, relT_mono h b x.2 (fun k u => hA _ u) h2⟩

theorem relL_mono {m m' : Nat → Option Obj} (h : ∀ k o, m k = some o → m' k = some o) {e : Sh} {l : List e.Ty} {y : Value} (hr : relL m e l y) : relL m' e l y := by
  obtain ⟨a, cap, h1, h2, hz, h3⟩ := hr
  refine ⟨a, cap, h1, h2, hz, fun h0 => ?_⟩
  obtain ⟨b, off, h4, h5⟩ := h3 h0
  exact ⟨b, off, h4, fun i x hx => relT_mono h e x (fun k u hc => hc.mono h) (h5 i x hx)⟩

theorem Gh.le_mem {g g' : Gh} (h : g.le g') (bw : Bool) : ∀ k o, g.mem bw k = some o → g'.mem bw k = some o := by
  cases bw
  · exact h.im
  · exact h.bi

theorem rel_mono {g g' : Gh} (h : g.le g') : ∀ (c : CS) (y : Value), rel g c y → rel g' c y := by
  intro c
  induction c with
  | any => intro y h; trivial
  | v x => intro y h; exact h
  | fl k n => intro y h; exact h
  | cx k a b => intro y h; exact h
  | ifc o => intro y h; exact h
  | ptr id off => rintro y ⟨b, hb, e⟩; exact ⟨b, (h.β _ _ hb).1, e⟩
  | ip n f ih =>
    rintro y ⟨b, off, e, hc⟩
    refine ⟨b, off, e, fun j hj => ?_⟩
    obtain ⟨u, h1, h2⟩ := hc j hj
    exact ⟨u, h1.mono h.bi, ih j u h2⟩
  | pe id sz i k => rintro y ⟨b, hb, e⟩; exact ⟨b, (h.β _ _ hb).1, e⟩
  | ls bw e l => intro y hy; exact relL_mono (Gh.le_mem h bw) hy
  | own id n =>
    rintro y (⟨h1, h2⟩ | ⟨b, h1, h2, h3⟩)
    · exact .inl ⟨h1, h2⟩
    · obtain ⟨h4, h5⟩ := h.β _ _ h1
      exact .inr ⟨b, h4, by rw [h5]; exact h2, by rw [h5]; exact h3⟩
  | win id sz lo n =>
    rintro y ⟨a, cap, h1, h2, h3, h4⟩
    refine ⟨a, cap, h1, h2, h3, fun h0 => ?_⟩
    obtain ⟨b, h5, h6⟩ := h4 h0
    exact ⟨b, (h.β _ _ h5).1, h6⟩
  | fn f n c ih => rintro y ⟨arr, e, hs, hc⟩; exact ⟨arr, e, hs, fun j u hu => ih j u (hc j u hu)⟩
  | agc n c ih => rintro y ⟨arr, e, hs, hc⟩; exact ⟨arr, e, hs, fun j u hu => ih j u (hc j u hu)⟩
  | arr e l => intro y h; exact h.elim

theorem rel1_mono {g g' : Gh} (h : g.le g') (c : CV1) (y : Value) (hr : rel1 g c y) : rel1 g' c y := by
  cases c with
  | s c => exact rel_mono h c y hr
  | agg cs => obtain ⟨arr, e, hs, hc⟩ := hr; exact ⟨arr, e, hs, fun j c u h1 h2 => rel_mono h c u (hc j c u h1 h2)⟩

theorem relV_mono {g g' : Gh} (h : g.le g') (c : CV) (y : Value) (hr : relV g c y) : relV g' c y := by
  cases c with
  | one c => exact rel1_mono h c y hr
  | tup cs => obtain ⟨arr, e, hs, hc⟩ := hr; exact ⟨arr, e, hs, fun j c u h1 h2 => rel1_mono h c u (hc j c u h1 h2)⟩

/-- data in cells, cell by cell -/
theorem relT_cells {g : Gh} {bw : Bool} : ∀ (s : Sh) (x : s.Ty) (A : Nat → Value → Prop), relT (g.mem bw) s x A ↔ ∀ j c, (cells bw s x)[j]? = some c → ∃ u, A j u ∧ rel g c u := by
  intro s
  induction s with
  | fl k =>
    intro x A
    constructor
    · rintro ⟨d, h1, h2, h3⟩ j c hj
      cases j with
      | zero => cases hj; exact ⟨_, h1, d, rfl, h2, h3⟩
      | succ j => simp [cells] at hj
    · intro h
      obtain ⟨u, h1, d, rfl, h2, h3⟩ := h 0 _ rfl
      exact ⟨d, h1, h2, h3⟩
  | int k =>
    intro x A
    constructor
    · intro h1 j c hj
      cases j with
      | zero => cases hj; exact ⟨_, h1, rfl⟩
      | succ j => simp [cells] at hj
    · intro h
      obtain ⟨u, h1, h2⟩ := h 0 _ rfl
      cases h2; exact h1
  | bool =>
    intro x A
    constructor
    · intro h1 j c hj
      cases j with
      | zero => cases hj; exact ⟨_, h1, rfl⟩
      | succ j => simp [cells] at hj
    · intro h
      obtain ⟨u, h1, h2⟩ := h 0 _ rfl
      cases h2; exact h1
  | str =>
    intro x A
    constructor
    · intro h1 j c hj
      cases j with
      | zero => cases hj; exact ⟨_, h1, rfl⟩
      | succ j => simp [cells] at hj
    · intro h
      obtain ⟨u, h1, h2⟩ := h 0 _ rfl
      cases h2; exact h1
  | cx k =>
    intro x A
    constructor
    · rintro ⟨c', d, h1, h2⟩ j c hj
      cases j with
      | zero => cases hj; exact ⟨_, h1, c', d, rfl, h2⟩
      | succ j => simp [cells] at hj
    · intro h
      obtain ⟨u, h1, c', d, rfl, h2⟩ := h 0 _ rfl
      exact ⟨c', d, h1, h2⟩
  | ifc =>
    intro x A
    constructor
    · rintro ⟨u, h1, h2⟩ j c hj
      cases j with
      | zero => cases hj; exact ⟨_, h1, h2⟩
      | succ j => simp [cells] at hj
    · intro h
      exact h 0 _ rfl
  | ls e _ =>
    intro x A
    constructor
    · rintro ⟨a, cap, h1, h2⟩ j c hj
      cases j with
      | zero => cases hj; exact ⟨_, h1, a, cap, rfl, h2⟩
      | succ j => simp [cells] at hj
    · intro h
      obtain ⟨u, h1, a, cap, rfl, h2⟩ := h 0 _ rfl
      exact ⟨a, cap, h1, h2⟩
  | pair a b iha ihb =>
    intro x A
    have e1 := cells_length bw a x.1
    constructor
    · rintro ⟨h1, h2⟩ j c hj
      simp only [cells] at hj
      rcases Nat.lt_or_ge j a.size with h | h
      · rw [List.getElem?_append_left (by omega)] at hj
        exact (iha x.1 A).1 h1 j c hj
      · rw [List.getElem?_append_right (by omega), e1] at hj
        obtain ⟨u, h3, h4⟩ := (ihb x.2 _).1 h2 _ c hj
        exact ⟨u, by have e2 : a.size + (j - a.size) = j := by omega
                     rw [e2] at h3; exact h3, h4⟩
    · intro h
      refine ⟨(iha x.1 A).2 fun j c hj => h j c ?_, (ihb x.2 _).2 fun j c hj => ?_⟩
      · simp only [cells]
        have : j < (cells bw a x.1).length := by
          rcases Nat.lt_or_ge j (cells bw a x.1).length with h | h
          · exact h
          · rw [List.getElem?_eq_none h] at hj; cases hj
        rw [List.getElem?_append_left this]; exact hj
      · refine h (a.size + j) c ?_
        simp only [cells]
        rw [List.getElem?_append_right (by omega), e1]
        have e2 : a.size + j - a.size = j := by omega
        rw [e2]; exact hj
end Go.Dv

/- The state of the evaluation; one operation on canonical values ('cop'). -/
namespace Go.Dv
open Go.RowKit Go.Cv

structure St where
  tm : Nat → CV
  hp : Nat → Nat → Option CS
  nx : Nat
  lo : Nat

def top : CV := .one (.s .any)

def upd (f : Nat → CV) (d : Option Nat) (x : CV) : Nat → CV :=
  match d with
  | none => f
  | some d => fun t => bif Nat.beq t d then x else f t

def St.put (s : St) (d : Option Nat) (x : CV) : St := { s with tm := upd s.tm d x }

theorem upd_same (f : Nat → CV) (d : Nat) (x : CV) : upd f (some d) x d = x := by simp [upd]
theorem upd_ne (f : Nat → CV) {d t : Nat} (x : CV) (h : t ≠ d) : upd f (some d) x t = f t := by
  unfold upd
  have : Nat.beq t d = false := by cases hb : Nat.beq t d; rfl; exact absurd (Nat.eq_of_beq_eq_true hb) h
  simp [this]

/-- a cell's content off a value: floats by their canonical word -/
def ofCell : Value → CS
  | .float k n => bif Nat.blt n (lim k) && !isNan k n then .fl k n else .v (.float k n)
  | .complex k a b => bif (Nat.blt a (lim k) && !isNan k a) && (Nat.blt b (lim k) && !isNan k b) then .cx k a b else .v (.complex k a b)
  | .func f fi ca => if fi.size = 0 then .fn f ca.size (fun j => .v (ca.getD j undef)) else .v (.func f fi ca)
  | x => .v x

theorem rel_ofCell (g : Gh) (x : Value) : rel g (ofCell x) x := by
  have lt : ∀ (k : FloatKind) n, (Nat.blt n (lim k) && !isNan k n) = true → n < lim k ∧ isNan k n = false := fun k n h => by
    rw [Bool.and_eq_true] at h
    exact ⟨Nat.le_of_ble_eq_true h.1, by simpa using h.2⟩
  cases x with
  | float k n =>
    show rel g (bif Nat.blt n (lim k) && !isNan k n then .fl k n else .v (.float k n)) _
    cases h : (Nat.blt n (lim k) && !isNan k n)
    · exact rfl
    · obtain ⟨h1, h2⟩ := lt k n h
      exact ⟨n, rfl, cn_of_not h2, h1⟩
  | complex k a b =>
    show rel g (bif (Nat.blt a (lim k) && !isNan k a) && (Nat.blt b (lim k) && !isNan k b) then .cx k a b else .v (.complex k a b)) _
    cases h : ((Nat.blt a (lim k) && !isNan k a) && (Nat.blt b (lim k) && !isNan k b))
    · exact rfl
    · rw [Bool.and_eq_true] at h
      obtain ⟨h1, h2⟩ := lt k a h.1
      obtain ⟨h3, h4⟩ := lt k b h.2
      exact ⟨a, b, rfl, cn_of_not h2, cn_of_not h4, h1, h3⟩
  | func f fi ca =>
    show rel g (if fi.size = 0 then .fn f ca.size (fun j => .v (ca.getD j undef)) else .v (.func f fi ca)) _
    by_cases h : fi.size = 0
    · rw [if_pos h]
      obtain rfl : fi = #[] := Array.eq_empty_of_size_eq_zero h
      exact ⟨ca, rfl, rfl, fun j u hu => by show u = _; simp [hu]⟩
    · rw [if_neg h]; exact rfl
  | _ => exact rfl

def ofValue : Value → CV
  | .agg cs => .one (.agg (cs.toList.map ofCell))
  | x => .one (.s (ofCell x))

theorem relV_ofValue (g : Gh) (x : Value) : relV g (ofValue x) x := by
  cases x <;> try exact rel_ofCell g _
  rename_i cs
  refine ⟨cs, rfl, by simp, fun j c u hc hu => ?_⟩
  simp at hc
  obtain ⟨a, ha, rfl⟩ := hc
  rw [ha] at hu; cases hu
  exact rel_ofCell g _

def St.ev (s : St) : Operand → CV
  | .tmp t => s.tm t
  | .const v => ofValue v
  | .func f => .one (.s (.fn (.func f) 0 (fun _ => .any)))
  | .global _ => top

/-- the cells of a value: one, or a struct's -/
def cellsOf : CV → Option (List CS)
  | .one (.s c) => some [c]
  | .one (.agg cs) => some cs
  | _ => none

/-- may lie in a cell -/
def plain : CS → Bool
  | .any => false
  | .arr _ _ => false
  | .agc _ _ => false
  | .v (.agg _) => false
  | .v (.tuple _) => false
  | _ => true

theorem relL_slice {m : Nat → Option Obj} {e : Sh} {l : List e.Ty} {y : Value} (h : relL m e l y) : ∃ a n cap, y = .slice a n cap := by
  obtain ⟨a, cap, rfl, _⟩ := h; exact ⟨_, _, _, rfl⟩

theorem plain_cells {g : Gh} {c : CS} {y : Value} (hp : plain c = true) (h : rel g c y) : y.cells = #[y] ∧ (∀ cs, y ≠ .agg cs) ∧ (∀ cs, y ≠ .tuple cs) := by
  cases c with
  | any => cases hp
  | arr e l => cases hp
  | agc n c => cases hp
  | v x =>
    obtain rfl : y = x := h
    cases y <;> first | (cases hp; done) | exact ⟨rfl, (fun _ h => nomatch h), (fun _ h => nomatch h)⟩
  | fl k n => obtain ⟨m, rfl, _⟩ := h; exact ⟨rfl, (fun _ h => nomatch h), (fun _ h => nomatch h)⟩
  | cx k a b => obtain ⟨c, d, rfl, _⟩ := h; exact ⟨rfl, (fun _ h => nomatch h), (fun _ h => nomatch h)⟩
  | ifc o =>
    match o, h with
    | none, h => obtain rfl : y = .nilIface := h; exact ⟨rfl, (fun _ h => nomatch h), (fun _ h => nomatch h)⟩
    | some none, ⟨t, v, h⟩ => subst h; exact ⟨rfl, (fun _ h => nomatch h), (fun _ h => nomatch h)⟩
    | some (some (t, v)), h => obtain rfl : y = .iface t v := h; exact ⟨rfl, (fun _ h => nomatch h), (fun _ h => nomatch h)⟩
  | ptr id off => obtain ⟨b, _, rfl⟩ := h; exact ⟨rfl, (fun _ h => nomatch h), (fun _ h => nomatch h)⟩
  | ip n f => obtain ⟨b, off, rfl, _⟩ := h; exact ⟨rfl, (fun _ h => nomatch h), (fun _ h => nomatch h)⟩
  | pe id sz i k => obtain ⟨b, _, rfl⟩ := h; exact ⟨rfl, (fun _ h => nomatch h), (fun _ h => nomatch h)⟩
  | ls bw e l => obtain ⟨a, n, cap, rfl⟩ := relL_slice h; exact ⟨rfl, (fun _ h => nomatch h), (fun _ h => nomatch h)⟩
  | own id n => obtain ⟨_, rfl⟩ | ⟨b, _, rfl, _⟩ := h <;> exact ⟨rfl, (fun _ h => nomatch h), (fun _ h => nomatch h)⟩
  | win id sz lo n => obtain ⟨a, cap, rfl, _⟩ := h; exact ⟨rfl, (fun _ h => nomatch h), (fun _ h => nomatch h)⟩
  | fn f n c => obtain ⟨arr, rfl, _⟩ := h; exact ⟨rfl, (fun _ h => nomatch h), (fun _ h => nomatch h)⟩

/-- the cells of related values are related, one by one, and each may lie in a cell -/
theorem cells_rel {g : Gh} {x : CV} {y : Value} {cs : List CS} (hc : cellsOf x = some cs) (hp : cs.all plain = true) (h : relV g x y) :
    y.cells.size = cs.length ∧ (∀ (j : Nat) c u, cs[j]? = some c → y.cells[j]? = some u → rel g c u ∧ plain c = true) := by
  cases x with
  | tup vs => cases hc
  | one c =>
    cases c with
    | s c =>
      cases hc
      simp at hp
      have h1 := plain_cells hp h
      rw [h1.1]
      refine ⟨rfl, fun j c u hj hu => ?_⟩
      cases j with
      | zero => simp at hj hu; subst hj hu; exact ⟨h, hp⟩
      | succ j => simp at hj
    | agg cs' =>
      cases hc
      obtain ⟨arr, rfl, hs, hr⟩ := h
      refine ⟨hs, fun j c u hj hu => ⟨hr j c u hj hu, ?_⟩⟩
      exact List.all_eq_true.1 hp c (List.mem_of_getElem? hj)

/-! ### ways, effects, contracts -/

abbrev Hp := Nat → Nat → Option CS
abbrev Dep := Nat × Nat × CS

/-- may it be called so; what it gives ('own k n': the k-th of the new arrays); the new arrays; the cells of the caller that it reads; those that it writes, and what they hold then -/
structure Res where
  pre : Bool
  cv : CV
  nw : List CS
  rd : List Dep
  wr : List Dep
  eat : Option Nat := none

abbrev FSpec := Hp → List CV1 → Option Res

inductive Eff where
  | val (cv : CV) (deps : List Dep)
  | new (cs : List CS)
  | put (id off : Nat) (cs : List CS)
  | mk (e : Sh) (l : List e.Ty)
  | gen (s : St)

/-- a way, or none -/
abbrev Tr (α : Type) := Option α
def brT {α : Type} (t : Bool) (A B : Tr α) : Tr α :=
  match t with
  | true => A
  | false => B
theorem brT_some {α : Type} {t : Bool} {A B : Tr α} {cv : α} (h : brT t A B = some cv) : (t = true ∧ A = some cv) ∨ (t = false ∧ B = some cv) := by
  cases t
  · exact .inr ⟨rfl, h⟩
  · exact .inl ⟨rfl, h⟩
theorem brT_req {α : Type} {t : Bool} {A : Tr α} {cv : α} (h : brT t A none = some cv) : t = true ∧ A = some cv := by
  cases t
  · cases h
  · exact ⟨rfl, h⟩
/-! ### reading and building -/

def readFrom (hp : Hp) (id off : Nat) : Nat → Option (List CS)
  | 0 => some []
  | n + 1 =>
    match hp id off with
    | some c =>
      match readFrom hp id (off + 1) n with
      | some cs => some (c :: cs)
      | none => none
    | none => none

def depsOf (id off : Nat) : List CS → List Dep
  | [] => []
  | c :: cs => (id, off, c) :: depsOf id (off + 1) cs

def mkVal (ag : Bool) (cs : List CS) : Option CV :=
  match ag with
  | true => some (.one (.agg cs))
  | false => match cs with
    | [c] => some (.one (.s c))
    | _ => none

/-- is the type a struct or an array; how many cells has it -/
def tyShape (P : Program) (T : TypeId) : Option (Bool × Nat) :=
  match P.underlying T, P.info? T with
  | some (.struct _), some i => some (true, i.size)
  | some (.array _ _), some i => some (true, i.size)
  | some _, some i => some (false, i.size)
  | _, _ => none

def zeroCells (P : Program) (T : TypeId) : Option (List CS) :=
  match P.info? T with
  | some i => match i.zero with
    | some z => some (z.cells.toList.map ofCell)
    | none => none
  | none => none

def fieldOff (P : Program) (T f : Nat) : Option Nat :=
  match P.underlying T with
  | some (.struct fields) => match fields[f]? with
    | some fd => match P.info? fd.type with
      | some i => if i.size = 0 then none else some fd.offset
      | none => none
    | none => none
  | _ => none

/-- a field of a struct value: where, whether it is a struct, how many cells -/
def fieldPart (P : Program) (T f : Nat) : Option (Nat × Bool × Nat) :=
  match P.underlying T with
  | some (.struct fields) => match fields[f]? with
    | some fd => match tyShape P fd.type with
      | some (ag, n) => some (fd.offset, ag, n)
      | none => none
    | none => none
  | _ => none

/-- where the parts of a struct or an array lie -/
def placesOf (P : Program) (T : TypeId) : Option (List (Nat × Nat)) :=
  match P.underlying T with
  | some (.struct fields) => fields.toList.mapM (fun f => (P.info? f.type).map fun i => (f.offset, i.size))
  | some (.array n e) => match P.info? e with
    | some i => bif Nat.ble n 16 then some ((List.range n).map fun j => (j * i.size, i.size)) else none
    | none => none
  | _ => none

def over (cells : List CS) (off : Nat) (cs : List CS) : List CS := cells.take off ++ cs ++ cells.drop (off + cs.length)

def fillC (places : List (Nat × Nat)) (cells : List CS) : List (Nat × List CS) → Option (List CS)
  | [] => some cells
  | (i, cs) :: rest =>
    match places[i]? with
    | some (off, size) => if cs.length = size ∧ off + cs.length ≤ cells.length then fillC places (over cells off cs) rest else none
    | none => none

def partsOf (ev : Operand → CV) : List (Nat × Operand) → Option (List (Nat × List CS))
  | [] => some []
  | (i, x) :: rest =>
    match cellsOf (ev x) with
    | some cs => if cs.all plain then
        match partsOf ev rest with
        | some ps => some ((i, cs) :: ps)
        | none => none
      else none
    | none => none

def tyFloat (P : Program) (T : TypeId) : Option FloatKind :=
  match P.underlying T with | some (.float k) => some k | _ => none
def tyInt (P : Program) (T : TypeId) : Option IntKind :=
  match P.underlying T with | some (.int k) => some k | _ => none
def tyCx (P : Program) (T : TypeId) : Option FloatKind :=
  match P.underlying T with | some (.complex k) => some k | _ => none
def tyKnown (P : Program) (T : TypeId) : Bool := (P.underlying T).isSome
/-- a slice's element: how many cells -/
def tyElem (P : Program) (T : TypeId) : Option Nat :=
  match P.underlying T with
  | some (.slice e) => match P.info? e with | some i => some i.size | none => none
  | _ => none
def tySlice (P : Program) (T : TypeId) : Bool := match P.underlying T with | some (.slice _) => true | _ => false
def tyString (P : Program) (T : TypeId) : Bool := match P.underlying T with | some .string => true | _ => false
def tyBool (P : Program) (T : TypeId) : Bool := match P.underlying T with | some .bool => true | _ => false

/-! ### shapes of types -/

def repSh (s : Sh) : Nat → Option Sh
  | 0 => none
  | 1 => some s
  | n + 2 => match repSh s (n + 1) with
    | some t => some (.pair s t)
    | none => none

def shFields (f : TypeId → Option Sh) : List Field → Option Sh
  | [] => none
  | [a] => f a.type
  | a :: b :: rest => match f a.type, shFields f (b :: rest) with
    | some x, some y => some (.pair x y)
    | _, _ => none

def shOf (P : Program) : Nat → TypeId → Option Sh
  | 0, _ => none
  | n + 1, T => match P.underlying T with
    | some (.float k) => some (.fl k)
    | some (.int k) => some (.int k)
    | some .bool => some .bool
    | some .string => some .str
    | some (.complex k) => some (.cx k)
    | some (.slice e) => (shOf P n e).map .ls
    | some (.struct fs) => shFields (shOf P n) fs.toList
    | some (.array k e) => match shOf P n e with
      | some s => repSh s k
      | none => none
    | _ => none

def shDepth : Nat := 6

/-- a slice's element: its shape -/
def elemSh (P : Program) (T : TypeId) : Option Sh :=
  match P.underlying T with
  | some (.slice e) => shOf P shDepth e
  | _ => none

/-- the zero of a shape, as the model has it -/
def zeroV : Sh → List Value
  | .fl k => [.float k 0]
  | .int k => [.int k 0]
  | .bool => [.bool false]
  | .str => [.string (ByteArray.mk #[])]
  | .cx k => [.complex k 0 0]
  | .ifc => [.nilIface]
  | .ls _ => [.slice none 0 0]
  | .pair a b => zeroV a ++ zeroV b

def eqK : FloatKind → FloatKind → Bool
  | .f32, .f32 => true
  | .f64, .f64 => true
  | _, _ => false
theorem eqK_spec {a b : FloatKind} (h : eqK a b = true) : a = b := by cases a <;> cases b <;> first | rfl | cases h
def eqI : IntKind → IntKind → Bool
  | .i8, .i8 | .i16, .i16 | .i32, .i32 | .i64, .i64 | .u8, .u8 | .u16, .u16 | .u32, .u32 | .u64, .u64 => true
  | _, _ => false
theorem eqI_spec {a b : IntKind} (h : eqI a b = true) : a = b := by cases a <;> cases b <;> first | rfl | cases h

/-- are these values the zeros of a shape -/
def eqZ : Value → Value → Bool
  | .float k a, .float k' b => eqK k k' && (Nat.beq a 0 && Nat.beq b 0)
  | .int k a, .int k' b => eqI k k' && (decide (a = 0) && decide (b = 0))
  | .bool a, .bool b => !a && !b
  | .string a, .string b => Nat.beq a.size 0 && Nat.beq b.size 0
  | .complex k a b, .complex k' c d => eqK k k' && ((Nat.beq a 0 && Nat.beq b 0) && (Nat.beq c 0 && Nat.beq d 0))
  | .slice none 0 0, .slice none 0 0 => true
  | .nilIface, .nilIface => true
  | _, _ => false
def eqZs : List Value → List Value → Bool
  | [], [] => true
  | a :: as, b :: bs => eqZ a b && eqZs as bs
  | _, _ => false

/-- an element type: its shape, size and zero fit -/
def elemOk (P : Program) (T : TypeId) (e : Sh) : Bool :=
  match P.underlying T with
  | some (.slice E) => match P.info? E with
    | some i => match i.zero with
      | some z => Nat.beq i.size e.size && (eqZs z.cells.toList (zeroV e) && Nat.ble i.bytes 4096)
      | none => false
    | none => false
  | _ => false

/-! ### data out of cells -/

def castLs (e' e : Sh) (l : List e'.Ty) : Option (List e.Ty) := if h : e' = e then some (h ▸ l) else none

/-- an interface's value out of a cell -/
def ifD : CS → Option Ifc
  | .ifc o => some o
  | .v .nilIface => some none
  | .v (.iface t v) => some (some (some (t, v)))
  | _ => none
theorem ifD_rel {g : Gh} {c : CS} {o : Ifc} {u : Value} (h : ifD c = some o) (hr : rel g c u) : relI o u := by
  unfold ifD at h
  split at h
  · cases h; exact hr
  · cases h; exact hr
  · cases h; exact hr
  · cases h

/-- data out of cells; borrowed lists only where 'bw' -/
def decD (bw : Bool) : (s : Sh) → (Nat → CS) → Option s.Ty
  | .fl k, f => match f 0 with
    | .fl k' n => bif eqK k' k then some n else none
    | _ => none
  | .int k, f => match f 0 with
    | .v (.int k' n) => bif eqI k' k then some n else none
    | _ => none
  | .bool, f => match f 0 with
    | .v (.bool b) => some b
    | _ => none
  | .str, f => match f 0 with
    | .v (.string s) => some s
    | _ => none
  | .cx k, f => match f 0 with
    | .cx k' a b => bif eqK k' k then some (a, b) else none
    | _ => none
  | .ifc, f => ifD (f 0)
  | .ls e, f => match f 0 with
    | .ls bw' e' l => bif bw || !bw' then castLs e' e l else none
    | .v (.slice none 0 0) => some []
    | _ => none
  | .pair a b, f => match decD bw a f, decD bw b (fun j => f (a.size + j)) with
    | some x, some y => some (x, y)
    | _, _ => none

def argsOf : List CV → Option (List CV1)
  | [] => some []
  | .one c :: rest => match argsOf rest with
    | some cs => some (c :: cs)
    | none => none
  | _ :: _ => none

/-- what a function catches: one value, a struct as one -/
def scalarsOf : List CV → Option (List CS)
  | [] => some []
  | .one (.s c) :: rest => match scalarsOf rest with
    | some cs => some (c :: cs)
    | none => none
  | .one (.agg l) :: rest => match scalarsOf rest with
    | some cs => some (.agc l.length (fun j => l.getD j .any) :: cs)
    | none => none
  | _ :: _ => none

/-- what was caught, as it is handed -/
def capV : CS → CV1
  | .agc n c => .agg ((List.range n).map c)
  | c => .s c
def ofAgg (l : List CS) : CS := .agc l.length (fun j => l.getD j .any)

theorem rel_capV {g : Gh} {c : CS} {u : Value} (h : rel g c u) : rel1 g (capV c) u := by
  cases c with
  | agc n c =>
    obtain ⟨arr, h1, h2, h3⟩ := h
    refine ⟨arr, h1, by simpa using h2, fun j c' u' hc hu => ?_⟩
    rw [List.getElem?_map] at hc
    have hj : j < n := by
      rcases Nat.lt_or_ge j n with h | h
      · exact h
      · rw [List.getElem?_eq_none (by simpa using h)] at hc; cases hc
    rw [List.getElem?_range hj] at hc
    cases hc
    exact h3 j u' hu
  | _ => exact h
theorem rel_ofAgg {g : Gh} {l : List CS} {u : Value} (h : rel1 g (.agg l) u) : rel g (ofAgg l) u := by
  obtain ⟨arr, h1, h2, h3⟩ := h
  refine ⟨arr, h1, h2, fun j u' hu => ?_⟩
  have hj : j < l.length := by
    rw [← h2]
    rcases Nat.lt_or_ge j arr.size with h | h
    · exact h
    · rw [Array.getElem?_eq_none h] at hu; cases hu
  have := h3 j _ u' (List.getElem?_eq_getElem hj) hu
  simpa [hj] using this

/-- a result that is exact -/
def ex (x : Value) : CV := .one (.s (.v x))
def exB (b : Bool) : CV := ex (.bool b)
def exI (n : Int) : CV := ex (.int .i64 n)
def fl (k : FloatKind) (n : Nat) : CV := .one (.s (.fl k n))
def sc (c : CS) : CV := .one (.s c)

def isCmp : BinOp → Bool
  | .eql | .neq | .lss | .leq | .gtr | .geq => true
  | _ => false

section
variable {α : Type}

def intBin (op : BinOp) (k : IntKind) (a b : Int) (K : Value → Tr α) : Tr α :=
  match op with
  | .add => K (.int k (k.wrap (a + b)))
  | .sub => K (.int k (k.wrap (a - b)))
  | .mul => K (.int k (k.wrap (a * b)))
  | .quo => brT (b == 0) none (K (.int k (k.wrap (a.tdiv b))))
  | .rem => brT (b == 0) none (K (.int k (a.tmod b)))
  | .eql => K (.bool (a == b))
  | .neq => K (.bool (a != b))
  | .lss => K (.bool (decide (a < b)))
  | .leq => K (.bool (decide (a ≤ b)))
  | .gtr => K (.bool (decide (a > b)))
  | .geq => K (.bool (decide (a ≥ b)))
  | .and => K (.int k (bits .and k a b))
  | .or => K (.int k (bits .or k a b))
  | .xor => K (.int k (bits .xor k a b))
  | .andNot => K (.int k (bits .andNot k a b))
  | _ => none

def shiftBin (op : BinOp) (k : IntKind) (a b : Int) (K : Value → Tr α) : Tr α :=
  match op with
  | .shl => brT (decide (0 ≤ b) && decide (b ≤ k.bits)) (K (.int k (k.wrap (a * 2 ^ b.toNat)))) none
  | .shr => brT (decide (0 ≤ b) && decide (b ≤ k.bits)) (K (.int k (a / 2 ^ b.toNat))) none
  | _ => none

def isShift : BinOp → Bool
  | .shl | .shr => true
  | _ => false

def boolBin (op : BinOp) (a b : Bool) (K : Value → Tr α) : Tr α :=
  match op with
  | .eql => K (.bool (a == b))
  | .neq => K (.bool (a != b))
  | _ => none

def strBin (op : BinOp) (a b : ByteArray) (K : Value → Tr α) : Tr α :=
  match op with
  | .add => brT (Nat.ble (a.size + b.size) 4611686018427387904) (K (.string (a ++ b))) none
  | .eql => K (.bool (a.toList == b.toList))
  | .neq => K (.bool (!(a.toList == b.toList)))
  | .lss => K (.bool (Op.bytesLess a.toList b.toList))
  | .leq => K (.bool (Op.bytesLess a.toList b.toList || a.toList == b.toList))
  | .gtr => K (.bool (!(Op.bytesLess a.toList b.toList || a.toList == b.toList)))
  | .geq => K (.bool (!Op.bytesLess a.toList b.toList))
  | _ => none

/-- complex numbers: sums, differences, equality -/
def cxBin (M : FOps) (op : BinOp) (k : FloatKind) (a b c d : Nat) (K : CV → Tr α) : Tr α :=
  match op with
  | .add => K (sc (.cx k (M.bin .add k a c) (M.bin .add k b d)))
  | .sub => K (sc (.cx k (M.bin .sub k a c) (M.bin .sub k b d)))
  | .eql => K (exB (M.cmp .eql k a c && M.cmp .eql k b d))
  | .neq => K (exB (!(M.cmp .eql k a c && M.cmp .eql k b d)))
  | _ => none

def cbin (M : FOps) (P : Program) (op : BinOp) (T : TypeId) (x y : CV) (K : Eff → Tr α) : Tr α :=
  match x, y with
  | .one (.s (.fl k a)), .one (.s (.fl k' b)) =>
    brT (eqK k k') (match arith op with
      | true => K (.val (fl k (M.bin op k a b)) [])
      | false => match isCmp op with
        | true => K (.val (exB (M.cmp op k a b)) [])
        | false => none) none
  | .one (.s (.v (.int k a))), .one (.s (.v (.int k' b))) =>
    match isShift op with
    | true => shiftBin op k a b fun v => K (.val (ex v) [])
    | false => brT (eqI k k') (intBin op k a b fun v => K (.val (ex v) [])) none
  | .one (.s (.v (.bool a))), .one (.s (.v (.bool b))) => brT (tyBool P T) (boolBin op a b fun v => K (.val (ex v) [])) none
  | .one (.s (.v (.string a))), .one (.s (.v (.string b))) => brT (tyString P T) (strBin op a b fun v => K (.val (ex v) [])) none
  | .one (.s (.cx k a b)), .one (.s (.cx k' c d)) => brT (eqK k k' && (match tyCx P T with | some _ => true | none => false)) (cxBin M op k a b c d fun v => K (.val v [])) none
  | _, _ => none

/-- is there nothing in an interface -/
def p_isNil : Ifc → Bool
  | none => true
  | some _ => false
def tyIface (P : Program) (T : TypeId) : Bool := match P.underlying T with | some (.interface _) => true | _ => false
def tyConc (P : Program) (T : TypeId) : Bool := match P.underlying T with | some (.interface _) => false | some _ => true | none => false
/-- an interface held against nothing -/
def cnil (P : Program) (op : BinOp) (T : TypeId) (x : CV) (K : Eff → Tr α) : Tr α :=
  match x with
  | .one (.s c) => match ifD c with
    | some o => brT (tyIface P T) (match op with
      | .eql => K (.val (exB (p_isNil o)) [])
      | .neq => K (.val (exB (!p_isNil o)) [])
      | _ => none) none
    | none => none
  | _ => none

def cun (M : FOps) (op : UnOp) (x : CV) (K : Eff → Tr α) : Tr α :=
  match op, x with
  | .not, .one (.s (.v (.bool b))) => K (.val (exB !b) [])
  | .neg, .one (.s (.fl k a)) => K (.val (fl k (M.neg k a)) [])
  | .neg, .one (.s (.v (.int k a))) => K (.val (ex (.int k (k.wrap (0 - a)))) [])
  | _, _ => none

def cconv (M : FOps) (P : Program) (src dst : TypeId) (x : CV) (K : Eff → Tr α) : Tr α :=
  brT (tyKnown P src) (match x with
  | .one (.s (.fl s a)) =>
    match tyFloat P dst with
    | some k => match s, k with
      | .f32, .f64 => K (.val (fl .f64 (M.wid a)) [])
      | .f64, .f32 => brT (M.narOk a) (K (.val (fl .f32 (M.nar a)) [])) none
      | .f32, .f32 => K (.val (fl .f32 a) [])
      | .f64, .f64 => K (.val (fl .f64 a) [])
    | none => match tyInt P dst with
      | some k => brT (M.toiOk s a k) (K (.val (ex (.int k (M.toi s a k))) [])) none
      | none => none
  | .one (.s (.v (.int _ n))) =>
    match tyFloat P dst with
    | some k => K (.val (fl k (M.ofi k n)) [])
    | none => match tyInt P dst with
      | some k => K (.val (ex (.int k (k.wrap n))) [])
      | none => none
  | .one (.s (.cx s a b)) =>
    match tyCx P dst with
    | some k => match s, k with
      | .f32, .f64 => K (.val (sc (.cx .f64 (M.wid a) (M.wid b))) [])
      | .f64, .f32 => brT (M.narOk a && M.narOk b) (K (.val (sc (.cx .f32 (M.nar a) (M.nar b))) [])) none
      | .f32, .f32 => K (.val (sc (.cx .f32 a b)) [])
      | .f64, .f64 => K (.val (sc (.cx .f64 a b)) [])
    | none => none
  | _ => none) none

/-! ### arrays of the call's own -/

/-- is a cell, not an array's content -/
def cellish : CS → Bool
  | .arr _ _ => false
  | _ => true
def notArr : Option CS → Bool
  | some (.arr _ _) => false
  | _ => true

/-- what a new name's array holds -/
def withArr (hp : Hp) (id : Nat) (c : CS) : Hp := fun i o => bif Nat.beq i id then (bif Nat.beq o 0 then some c else none) else hp i o

/-- a name's values are forgotten -/
def killC (id : Nat) : CS → CS
  | .own i n => bif Nat.beq i id then .any else .own i n
  | .win i sz lo n => bif Nat.beq i id then .any else .win i sz lo n
  | .pe i sz j k => bif Nat.beq i id then .any else .pe i sz j k
  | .ptr i o => bif Nat.beq i id then .any else .ptr i o
  | .ip n f => .ip n (fun j => killC id (f j))
  | .fn f n c => .fn f n (fun j => killC id (c j))
  | .agc n c => .agc n (fun j => killC id (c j))
  | c => c
def kill1 (id : Nat) : CV1 → CV1
  | .s c => .s (killC id c)
  | .agg cs => .agg (cs.map (killC id))
def killV (id : Nat) : CV → CV
  | .one c => .one (kill1 id c)
  | .tup vs => .tup (vs.map (kill1 id))

/-- the state behind an append: the name stands for the longer array, all else that named it is forgotten -/
def grownSt (s : St) (d : Option Nat) (id : Nat) (e : Sh) (l : List e.Ty) : St :=
  { tm := upd (fun t => killV id (s.tm t)) d (sc (.own id l.length)),
    hp := fun i o => bif Nat.beq i id then (bif Nat.beq o 0 then some (.arr e l) else none) else (match s.hp i o with | some c => some (killC id c) | none => none),
    nx := s.nx, lo := s.lo }
/-- a new array -/
def bornSt (s : St) (d : Option Nat) (e : Sh) (l : List e.Ty) : St :=
  { tm := upd s.tm d (sc (.own s.nx l.length)), hp := withArr s.hp s.nx (.arr e l), nx := s.nx + 1, lo := s.lo }

/-- a variable that is a long array: how many elements, of which type -/
def tyArr (P : Program) (T : TypeId) : Option (Nat × TypeId) :=
  match P.underlying T with
  | some (.array n E) => some (n, E)
  | _ => none
def longArr (P : Program) (T : TypeId) : Option (Nat × Sh) :=
  match tyArr P T with
  | some (n, E) => match Nat.blt 16 n, shOf P shDepth E with
    | true, some e => match Nat.beq e.size 1 with
      | true => some (n, e)
      | false => none
    | _, _ => none
  | none => none
/-- the same, however short -/
def shortArr (P : Program) (T : TypeId) : Option (Nat × Sh) :=
  match tyArr P T with
  | some (n, E) => match shOf P shDepth E with
    | some e => match Nat.beq e.size 1 with
      | true => some (n, e)
      | false => none
    | none => none
  | none => none
/-- its zero fits -/
def arrOk (P : Program) (T : TypeId) (e : Sh) (n : Nat) : Bool :=
  match P.info? T with
  | some i => match i.zero with
    | some z => Nat.beq z.cells.size n && z.cells.toList.all (fun v => eqZs [v] (zeroV e))
    | none => false
  | none => false
/-- an element of an array: how many cells -/
def arrElem (P : Program) (T : TypeId) : Option (Nat × Nat) :=
  match tyArr P T with
  | some (n, E) => match P.info? E with | some i => some (n, i.size) | none => none
  | none => none
/-- a new long array, by its address -/
def arrSt (s : St) (d : Option Nat) (e : Sh) (l : List e.Ty) : St :=
  { tm := upd s.tm d (sc (.pe s.nx e.size 0 0)), hp := withArr s.hp s.nx (.arr e l), nx := s.nx + 1, lo := s.lo }

/-- most elements that an array of the call's own may have -/
def mostLen : Nat := 1073741824

/-- an array's content by its name -/
def arrAt (hp : Hp) (id : Nat) (e : Sh) : Option (List e.Ty) :=
  match hp id 0 with
  | some (.arr e' l) => castLs e' e l
  | _ => none

/-- no lists in it -/
def flatSh : Sh → Bool
  | .ls _ => false
  | .pair a b => flatSh a && flatSh b
  | _ => true
theorem relT_flat {m m' : Nat → Option Obj} : ∀ (s : Sh) (x : s.Ty) {A : Nat → Value → Prop}, flatSh s = true → relT m s x A → relT m' s x A
  | .fl _, _, _, _, h => h
  | .int _, _, _, _, h => h
  | .bool, _, _, _, h => h
  | .str, _, _, _, h => h
  | .cx _, _, _, _, h => h
  | .ifc, _, _, _, h => h
  | .ls _, _, _, hf, _ => by cases hf
  | .pair a b, x, A, hf, ⟨h1, h2⟩ => by
    have hf : (flatSh a && flatSh b) = true := hf
    rw [Bool.and_eq_true] at hf
    exact ⟨relT_flat a x.1 hf.1 h1, relT_flat b x.2 (A := fun k u => A (a.size + k) u) hf.2 h2⟩

/-- what the last argument of an append yields -/
def srcOf (hp : Hp) (e : Sh) : CV → Option (List e.Ty × List Dep)
  | .one (.s (.ls bw e' l)) => match castLs e' e l with
    | some l => bif !bw || flatSh e then some (l, []) else none
    | none => none
  | .one (.s (.own id n)) => match arrAt hp id e with
    | some l => bif Nat.beq n l.length then some (l, [(id, 0, .arr e l)]) else none
    | none => none
  | .one (.s (.win id sz lo n)) => match arrAt hp id e with
    | some l => bif Nat.beq sz e.size && Nat.ble (lo + n) l.length then some ((l.drop lo).take n, [(id, 0, .arr e l)]) else none
    | none => none
  | .one (.s (.v (.slice none 0 0))) => some ([], [])
  | _ => none

/-- the same, the lengths' agreement told as a truth -/
def srcU (hp : Hp) (e : Sh) : CV → Option (List e.Ty × Bool)
  | .one (.s (.ls bw e' l)) => match castLs e' e l with
    | some l => some (l, !bw || flatSh e)
    | none => none
  | .one (.s (.own id n)) => match arrAt hp id e with
    | some l => some (l, Nat.beq n l.length)
    | none => none
  | .one (.s (.win id sz lo n)) => match arrAt hp id e with
    | some l => some ((l.drop lo).take n, Nat.beq sz e.size && Nat.ble (lo + n) l.length)
    | none => none
  | .one (.s (.v (.slice none 0 0))) => some ([], true)
  | _ => none

theorem srcU_spec {hp : Hp} {e : Sh} {cv : CV} {ys : List e.Ty} (h : srcU hp e cv = some (ys, true)) : ∃ ds, srcOf hp e cv = some (ys, ds) := by
  unfold srcU at h
  unfold srcOf
  split at h
  · split at h
    · simp only [Option.some.injEq, Prod.mk.injEq] at h
      obtain ⟨rfl, h⟩ := h
      simp only [h, cond_true]; exact ⟨_, rfl⟩
    · cases h
  · split at h
    · simp only [Option.some.injEq, Prod.mk.injEq] at h
      obtain ⟨rfl, h⟩ := h
      simp only [h, cond_true]; exact ⟨_, rfl⟩
    · cases h
  · split at h
    · simp only [Option.some.injEq, Prod.mk.injEq] at h
      obtain ⟨rfl, h⟩ := h
      simp only [h, cond_true]; exact ⟨_, rfl⟩
    · cases h
  · cases h; exact ⟨_, rfl⟩
  · cases h

/-- a part of an array, where a copy goes -/
def dstOf (hp : Hp) (e : Sh) : CV → Option (Nat × Nat × Nat × List e.Ty × Bool)
  | .one (.s (.own id n)) => match arrAt hp id e with
    | some l => some (id, 0, n, l, Nat.beq n l.length)
    | none => none
  | .one (.s (.win id sz lo n)) => match arrAt hp id e with
    | some l => some (id, lo, n, l, Nat.beq sz e.size && Nat.ble (lo + n) l.length)
    | none => none
  | _ => none
/-- copy: elements are laid over others -/
def ccopy (P : Program) (d : Option Nat) (argTypes : List TypeId) (s : St) (x y : CV) (K : Eff → Tr α) : Tr α :=
  match argTypes with
  | [T, T'] =>
    match elemSh P T with
    | some e =>
      brT (elemOk P T e && tySlice P T') (match srcU s.hp e y with
        | some (ys, ok) =>
          match dstOf s.hp e x with
          | some (id, lo, n, l, ok') =>
            brT ((ok && ok') && Nat.ble s.lo id) (K (.gen { tm := upd s.tm d (exI (Nat.min ys.length n)), hp := withArr s.hp id (.arr e (l.take lo ++ ys.take (Nat.min ys.length n) ++ l.drop (lo + Nat.min ys.length n))), nx := s.nx, lo := s.lo })) none
          | none => none
        | none => none) none
    | none => none
  | _ => none

def cappend (P : Program) (d : Option Nat) (argTypes : List TypeId) (s : St) (x y : CV) (K : Eff → Tr α) : Tr α :=
  match argTypes with
  | [T, T'] =>
    match elemSh P T with
    | some e =>
      brT (elemOk P T e && tySlice P T') (match srcU s.hp e y with
        | some (ys, ok) =>
          brT ok (match x with
          | .one (.s (.v (.slice none 0 0))) => brT (Nat.blt 0 ys.length && Nat.ble ys.length mostLen) (K (.gen (bornSt s d e ys))) none
          | .one (.s (.own id n)) =>
            match arrAt s.hp id e with
            | some l => brT (Nat.ble s.lo id && (Nat.beq n l.length && Nat.ble (l.length + ys.length) mostLen)) (K (.gen (grownSt s d id e (l ++ ys)))) none
            | none => none
          | _ => none) none
        | none => none) none
    | none => none
  | _ => none

/-- the less and the greater of two floats -/
def p_minW (M : FOps) (k : FloatKind) (a b : Nat) : Nat := bif M.cmp .lss k a b then a else bif M.cmp .gtr k a b then b else bif M.cmp .eql k a b then (bif (k.decode a).neg then a else b) else nanOf k
def p_maxW (M : FOps) (k : FloatKind) (a b : Nat) : Nat := bif M.cmp .lss k a b then b else bif M.cmp .gtr k a b then a else bif M.cmp .eql k a b then (bif (k.decode a).neg then b else a) else nanOf k

def cbuiltin (M : FOps) (P : Program) (b : Builtin) (d : Option Nat) (argTypes : List TypeId) (s : St) (args : List CV) (K : Eff → Tr α) : Tr α :=
  match b, args with
  | .len, [.one (.s (.ls _ _ l))] => brT (match argTypes with | T :: _ => tySlice P T | [] => false) (K (.val (exI l.length) [])) none
  | .len, [.one (.s (.own _ n))] => brT (match argTypes with | T :: _ => tySlice P T | [] => false) (K (.val (exI n) [])) none
  | .len, [.one (.s (.win _ _ _ n))] => brT (match argTypes with | T :: _ => tySlice P T | [] => false) (K (.val (exI n) [])) none
  | .len, [.one (.s (.v (.slice none 0 0)))] => brT (match argTypes with | T :: _ => tySlice P T | [] => false) (K (.val (exI 0) [])) none
  | .len, [.one (.s (.v (.string t)))] => brT (match argTypes with | T :: _ => tyString P T | [] => false) (K (.val (exI t.size) [])) none
  | .real, [.one (.s (.cx k a _))] => K (.val (fl k a) [])
  | .imag, [.one (.s (.cx k _ b))] => K (.val (fl k b) [])
  | .complex, [.one (.s (.fl k a)), .one (.s (.fl k' b))] => brT (eqK k k') (K (.val (sc (.cx k a b)) [])) none
  | .append, [x, y] => cappend P d argTypes s x y K
  | .copy, [x, y] => ccopy P d argTypes s x y K
  | .min, [.one (.s (.fl k a)), .one (.s (.fl k' b))] => brT (eqK k k') (K (.val (fl k (p_minW M k a b)) [])) none
  | .max, [.one (.s (.fl k a)), .one (.s (.fl k' b))] => brT (eqK k k') (K (.val (fl k (p_maxW M k a b)) [])) none
  | .min, [.one (.s (.v (.int k a))), .one (.s (.v (.int k' b)))] => brT (eqI k k') (K (.val (ex (.int k (bif decide (b < a) then b else a))) [])) none
  | .max, [.one (.s (.v (.int k a))), .one (.s (.v (.int k' b)))] => brT (eqI k k') (K (.val (ex (.int k (bif decide (b > a) then b else a))) [])) none
  | _, _ => none

/-! ### calls -/

abbrev CEnv := FuncId → Option FSpec

/-- from here on the environment's keys tell of which types a new variable is one element -/
def oneKey : Nat := 1000000000
def oneSh (P : Program) (Γ : CEnv) (T : TypeId) : Option Sh :=
  match Γ (oneKey + T) with
  | some _ => shOf P shDepth T
  | none => none
def oneOk (P : Program) (T : TypeId) (e : Sh) : Bool :=
  match P.info? T with
  | some i => match i.zero with
    | some z => eqZs z.cells.toList (zeroV e)
    | none => false
  | none => false
/-- this key tells that short arrays are taken for long ones -/
def arrKey : Nat := 999999999
def tellArr (P : Program) (Γ : CEnv) (T : TypeId) : Option (Nat × Sh) :=
  match longArr P T with
  | some x => some x
  | none => match Γ arrKey with
    | some _ => shortArr P T
    | none => none
def shiftC (n : Nat) : CS → CS
  | .own i k => .own (n + i) k
  | .pe i sz j k => .pe (n + i) sz j k
  | c => c
def shift1 (n : Nat) : CV1 → CV1
  | .s c => .s (shiftC n c)
  | .agg cs => .agg (cs.map (shiftC n))
def shiftV (n : Nat) : CV → CV
  | .one c => .one (shift1 n c)
  | .tup vs => .tup (vs.map (shift1 n))

def newArrs (hp : Hp) (nx : Nat) : List CS → Hp
  | [] => hp
  | c :: rest => newArrs (withArr hp nx c) (nx + 1) rest
def wrote (hp : Hp) : List Dep → Hp
  | [] => hp
  | (id, _, c) :: rest => wrote (withArr hp id c) rest

def calledSt (s : St) (d : Option Nat) (r : Res) : St :=
  { tm := upd s.tm d (shiftV s.nx r.cv), hp := newArrs (wrote s.hp r.wr) s.nx r.nw, nx := s.nx + r.nw.length, lo := s.lo }

def ownC : CS → Bool
  | .own _ _ => true
  | .pe _ _ _ _ => true
  | _ => false
def own1 : CV1 → Bool
  | .s c => ownC c
  | .agg cs => cs.any ownC
def ownV : CV → Bool
  | .one c => own1 c
  | .tup vs => vs.any own1

/-- a name is given up -/
def dropHp (hp : Hp) (id : Nat) : Hp := fun i o => bif Nat.beq i id then none else (match hp i o with | some c => some (killC id c) | none => none)
def lessSt (s : St) : Option Nat → St
  | none => s
  | some id => { tm := fun t => killV id (s.tm t), hp := dropHp s.hp id, nx := s.nx, lo := s.lo }
def eatOk (s : St) : Option Nat → Bool
  | none => true
  | some id => Nat.ble s.lo id

def resEff (s : St) (d : Option Nat) (r : Res) : Eff :=
  match r.eat with
  | none => match r.nw, r.wr, ownV r.cv with
    | [], [], false => .val r.cv r.rd
    | _, _, _ => .gen (calledSt s d r)
  | some id => .gen (calledSt (lessSt s (some id)) d r)

def ccall (M : FOps) (P : Program) (Γ : CEnv) (d : Option Nat) (s : St) (c : Call) (K : Eff → Tr α) : Tr α :=
  match c.callee with
  | .value f =>
    match s.ev f with
    | .one (.s (.fn (.func g) n cap)) =>
      match argsOf (c.args.toList.map s.ev) with
      | some args =>
        match Γ g with
        | some S =>
          match S s.hp (args ++ (List.range n).map (fun j => capV (cap j))) with
          | some r => brT (eatOk s r.eat && r.pre) (K (resEff s d r)) none
          | none => none
        | none => none
      | none => none
    | _ => none
  | .builtin b => cbuiltin M P b d c.argTypes.toList s (c.args.toList.map s.ev) K
  | _ => none

/-- a byte of a text -/
def p_byteAt (t : ByteArray) (i : Int) : Int := ((t.data.getD i.toNat 0).toNat : Int)

/-- bytes as a text, and back -/
def p_bytes (l : List Int) : ByteArray := ⟨(l.map fun n => UInt8.ofNat n.toNat).toArray⟩
def p_ofText (t : ByteArray) : List Int := t.data.toList.map fun b => (b.toNat : Int)
def tyBytes (P : Program) (T : TypeId) : Bool :=
  match P.underlying T with
  | some (.slice e) => match P.underlying e with | some (.int .u8) => true | _ => false
  | _ => false
/-- bytes out of cells -/
def bytesU (hp : Hp) : CV → Option (List Int × List Dep × Bool)
  | .one (.s (.ls _ e l)) => match castLs e (.int .u8) l with
    | some l => some (l, [], true)
    | none => none
  | .one (.s (.v (.slice none 0 0))) => some ([], [], true)
  | .one (.s (.own id n)) => match arrAt hp id (.int .u8) with
    | some l => some (l, [(id, 0, .arr (.int .u8) l)], Nat.beq n l.length)
    | none => none
  | .one (.s (.win id sz lo n)) => match arrAt hp id (.int .u8) with
    | some l => some ((l.drop lo).take n, [(id, 0, .arr (.int .u8) l)], Nat.beq sz 1 && Nat.ble (lo + n) l.length)
    | none => none
  | _ => none
def isText : CV → Option ByteArray
  | .one (.s (.v (.string t))) => some t
  | _ => none

/-- an index, or a bound -/
def idxOf : CV → Option Int
  | .one (.s (.v (.int _ i))) => some i
  | _ => none
def optIdx (ev : Operand → CV) : Option Operand → Option (Option Int)
  | none => some none
  | some x => match idxOf (ev x) with
    | some i => some (some i)
    | none => none

/-- a part of a list: from, to -/
def csliceL (x : CV) (lo hi : Option Int) (sz : Nat) (K : Eff → Tr α) : Tr α :=
  match x with
  | .one (.s (.ls bw e xs)) =>
    match hi with
    | none => brT (Nat.beq e.size sz && (decide (0 ≤ lo.getD 0) && decide (lo.getD 0 ≤ xs.length))) (K (.val (sc (.ls bw e (xs.drop (lo.getD 0).toNat))) [])) none
    | some h => brT ((Nat.beq e.size sz && (decide (0 ≤ lo.getD 0) && decide (lo.getD 0 ≤ h))) && decide (h ≤ xs.length)) (K (.val (sc (.ls bw e ((xs.take h.toNat).drop (lo.getD 0).toNat))) [])) none
  | .one (.s (.own id n)) =>
    brT ((decide (0 ≤ lo.getD 0) && decide (lo.getD 0 ≤ hi.getD n)) && decide (hi.getD n ≤ n)) (K (.val (sc (.win id sz (lo.getD 0).toNat (hi.getD n - lo.getD 0).toNat)) [])) none
  | _ => none
/-- a part of an array -/
def csliceA (x : CV) (lo hi : Option Int) (n sz : Nat) (K : Eff → Tr α) : Tr α :=
  match x with
  | .one (.s (.pe id sz' j k)) =>
    brT ((Nat.beq sz sz' && (Nat.beq j 0 && Nat.beq k 0)) && ((decide (0 ≤ lo.getD 0) && decide (lo.getD 0 ≤ hi.getD n)) && decide (hi.getD n ≤ n))) (K (.val (sc (.win id sz (lo.getD 0).toNat (hi.getD n - lo.getD 0).toNat)) [])) none
  | _ => none
def p_sub (t : ByteArray) (a b : Nat) : ByteArray := t.extract a b
def csliceS (x : CV) (lo hi : Option Int) (K : Eff → Tr α) : Tr α :=
  match x with
  | .one (.s (.v (.string t))) =>
    brT ((decide (0 ≤ lo.getD 0) && decide (lo.getD 0 ≤ hi.getD t.size)) && decide (hi.getD t.size ≤ t.size)) (K (.val (ex (.string (p_sub t (lo.getD 0).toNat (hi.getD t.size).toNat))) [])) none
  | _ => none

/-- the elements of a new list, out of its cells -/
def decRow (e : Sh) (f : Nat → CS) : Nat → Nat → Option (List e.Ty)
  | 0, _ => some []
  | k + 1, i => match decD false e (fun j => f (i * e.size + j)), decRow e f k (i + 1) with
    | some x, some xs => some (x :: xs)
    | _, _ => none

/-- the first array of the call's own among cells is taken for a list that nobody writes from now on; all else that names it is forgotten -/
def frzRow (hp : Hp) : List CS → Option (Nat × Bool × List CS)
  | [] => none
  | c :: r => match c with
    | .own id n => match hp id 0 with
      | some (.arr e l) => some (id, Nat.beq n l.length, .ls false e l :: r.map (killC id))
      | _ => none
    | c => match frzRow hp r with
      | some (id, ok, r') => some (id, ok, killC id c :: r')
      | none => none

def cop (M : FOps) (P : Program) (Γ : CEnv) (d : Option Nat) (o : Op) (s : St) (K : Eff → Tr α) : Tr α :=
  match o with
  | .move x => K (.val (s.ev x) [])
  | .assign x => K (.val (s.ev x) [])
  | .pick c a b =>
    match s.ev c with
    | .one (.s (.v (.bool t))) => brT t (K (.val (s.ev a) [])) (K (.val (s.ev b) []))
    | _ => none
  | .alloc T => match tellArr P Γ T with
    | some (n, e) => brT (arrOk P T e n) (K (.gen (arrSt s d e (List.replicate n e.dflt)))) none
    | none => match oneSh P Γ T with
      | some e => brT (oneOk P T e) (K (.gen (arrSt s d e [e.dflt]))) none
      | none => match zeroCells P T with
        | some cs => K (.new cs)
        | none => none
  | .box T x => match cellsOf (s.ev x) with
    | some cs => match oneSh P Γ T with
      | some e => match decD false e (fun j => cs.getD j .any) with
        | some y => brT (cs.all plain && Nat.beq cs.length e.size) (K (.gen (arrSt s d e [y]))) none
        | none => none
      | none => brT (cs.all plain) (K (.new cs)) none
    | none => none
  | .build T parts =>
    match placesOf P T, zeroCells P T, partsOf s.ev parts.toList with
    | some places, some z, some ps => match fillC places z ps with
      | some cs => K (.val (.one (.agg cs)) [])
      | none => none
    | _, _, _ => none
  | .load T a =>
    match tyShape P T with
    | some (ag, n) => match s.ev a with
      | .one (.s (.ptr id off)) => match readFrom s.hp id off n with
        | some cs => brT (cs.all plain) (match mkVal ag cs with
          | some v => K (.val v (depsOf id off cs))
          | none => none) none
        | none => none
      | .one (.s (.ip m f)) => brT (Nat.ble n m) (match mkVal ag ((List.range n).map f) with
        | some v => K (.val v [])
        | none => none) none
      | .one (.s (.pe id sz i k)) =>
        match s.hp id 0 with
        | some (.arr e l) => brT ((Nat.beq sz e.size && Nat.blt i l.length) && Nat.ble (k + n) e.size) (match mkVal ag (((cells false e (l.getD i e.dflt)).drop k).take n) with
          | some v => K (.val v [(id, 0, .arr e l)])
          | none => none) none
        | _ => none
      | _ => none
    | none => none
  | .store T a x =>
    match tyShape P T with
    | some (_, n) => match s.ev a with
      | .one (.s (.ptr id off)) => match cellsOf (s.ev x) with
        | some cs => brT ((Nat.blt 0 n && Nat.beq cs.length n) && ((cs.all plain && notArr (s.hp id 0)) && (match readFrom s.hp id off n with | some cs' => cs'.all cellish | none => false))) (K (.put id off cs)) none
        | none => none
      | .one (.s (.pe id sz i k)) =>
        match s.hp id 0 with
        | some (.arr e l) =>
          match cellsOf (s.ev x) with
          | some cs =>
            match decD false e (fun j => (over (cells false e (l.getD i e.dflt)) k cs).getD j .any) with
            | some y => brT ((Nat.beq sz e.size && Nat.blt i l.length) && ((Nat.ble (k + cs.length) e.size && Nat.beq cs.length n) && cs.all plain))
                (K (.gen { tm := upd s.tm d (ex undef), hp := withArr s.hp id (.arr e (l.set i y)), nx := s.nx, lo := s.lo })) none
            | none => none
          | none => none
        | _ => none
      | _ => none
    | none => none
  | .fieldAddr T x f =>
    match fieldOff P T f with
    | some k => match s.ev x with
      | .one (.s (.ptr id off)) => K (.val (sc (.ptr id (off + k))) [])
      | .one (.s (.ip m h)) => K (.val (sc (.ip (m - k) (fun j => h (k + j)))) [])
      | .one (.s (.pe id sz i j)) => K (.val (sc (.pe id sz i (j + k))) [])
      | _ => none
    | none => none
  | .field T x f =>
    match fieldPart P T f with
    | some (off, ag, n) => match s.ev x with
      | .one (.agg cs) => brT (Nat.ble (off + n) cs.length) (match mkVal ag ((cs.drop off).take n) with
        | some v => K (.val v [])
        | none => none) none
      | _ => none
    | none => none
  | .nilCheck x =>
    match s.ev x with
    | .one (.s (.ptr id off)) => K (.val (sc (.ptr id off)) [])
    | .one (.s (.ip n f)) => K (.val (sc (.ip n f)) [])
    | .one (.s (.pe id sz i k)) => K (.val (sc (.pe id sz i k)) [])
    | _ => none
  | .binOp op T x y _ => match y with
    | .const .nilIface => cnil P op T (s.ev x) K
    | _ => cbin M P op T (s.ev x) (s.ev y) K
  | .makeInterface T x =>
    match s.ev x with
    | .one (.s (.v v)) => brT (tyConc P T) (K (.val (ex (.iface T v)) [])) none
    | .one (.s _) => brT (tyConc P T) (K (.val (sc (.ifc (some none))) [])) none
    | _ => none
  | .unOp op _ x => cun M op (s.ev x) K
  | .convert src dst x =>
    match tyBytes P src && tyString P dst with
    | true => match bytesU s.hp (s.ev x) with
      | some (l, ds, ok) => brT ok (K (.val (ex (.string (p_bytes l))) ds)) none
      | none => none
    | false => match tyString P src && tyBytes P dst with
      | true => match isText (s.ev x) with
        | some t => brT (elemOk P dst (.int .u8) && Nat.ble t.size mostLen) (K (.gen (bornSt s d (.int .u8) (p_ofText t)))) none
        | none => none
      | false => match tyBytes P src && Nat.beq src dst with
        | true => match s.ev x with
          | .one (.s (.own id n)) => match arrAt s.hp id (.int .u8) with
            | some _ => brT (Nat.blt 0 n) (K (.gen (s.put d (sc (.own id n))))) none
            | none => none
          | _ => none
        | false => cconv M P src dst (s.ev x) K
  | .indexAddr T x i =>
    match tyElem P T with
    | some sz => match idxOf (s.ev i) with
      | some i => match s.ev x with
        | .one (.s (.ls bw e l)) => brT (Nat.beq e.size sz && (decide (0 ≤ i) && decide (i < (l.length : Int)))) (K (.val (sc (.ip sz (fun j => (cells bw e (l.getD i.toNat e.dflt)).getD j .any))) [])) none
        | .one (.s (.own id n)) => brT (decide (0 ≤ i) && decide (i < (n : Int))) (K (.val (sc (.pe id sz i.toNat 0)) [])) none
        | _ => none
      | none => none
    | none => match arrElem P T with
      | some (n, sz) => match idxOf (s.ev i) with
        | some i => match s.ev x with
          | .one (.s (.pe id sz' j k)) => brT ((Nat.beq sz sz' && (Nat.beq j 0 && Nat.beq k 0)) && (Nat.blt 1 n && (decide (0 ≤ i) && decide (i < (n : Int))))) (K (.val (sc (.pe id sz i.toNat 0)) [])) none
          | .one (.s (.ptr id off)) => brT (decide (0 ≤ i) && decide (i < (n : Int))) (K (.val (sc (.ptr id (off + i.toNat * sz))) [])) none
          | _ => none
        | none => none
      | none => none
  | .index T x i =>
    match idxOf (s.ev i) with
    | some i => match s.ev x with
      | .one (.s (.v (.string t))) => brT (tyString P T && (decide (0 ≤ i) && decide (i < (t.size : Int)))) (K (.val (ex (.int .u8 (p_byteAt t i))) [])) none
      | _ => none
    | none => none
  | .slice T x lo hi max =>
    match max with
    | some _ => none
    | none => match optIdx s.ev lo, optIdx s.ev hi with
      | some lo, some hi =>
        match tyElem P T with
        | some sz => csliceL (s.ev x) lo hi sz K
        | none => match arrElem P T with
          | some (n, sz) => csliceA (s.ev x) lo hi n sz K
          | none => brT (tyString P T) (csliceS (s.ev x) lo hi K) none
      | _, _ => none
  | .extract t i =>
    match s.ev t with
    | .tup vs => match vs[i]? with
      | some v => K (.val (.one v) [])
      | none => none
    | _ => none
  | .buildSlice T len parts =>
    match elemSh P T, partsOf s.ev parts.toList with
    | some e, some ps =>
      brT (elemOk P T e && Nat.ble (len * e.size) 16777216) (match fillC ((List.range len).map fun i => (i * e.size, e.size)) ((List.range len).flatMap fun _ => cells false e e.dflt) ps with
      | some cs => match decRow e (fun j => cs.getD j .any) len 0 with
        | some l => K (.gen (bornSt s d e l))
        | none => match frzRow s.hp cs with
          | some (id, ok, cs') => match decRow e (fun j => cs'.getD j .any) len 0 with
            | some l => brT (Nat.ble s.lo id && ok) (K (.gen (bornSt (lessSt s (some id)) d e l))) none
            | none => none
          | none => none
      | none => none) none
    | _, _ => none
  | .makeSlice T len cap =>
    match elemSh P T, idxOf (s.ev len), idxOf (s.ev cap) with
    | some e, some n, some c => brT (elemOk P T e && ((decide (0 ≤ n) && decide (n ≤ c)) && decide (c ≤ (mostLen : Int)))) (K (.gen (bornSt s d e (List.replicate n.toNat e.dflt)))) none
    | _, _, _ => none
  | .makeFunc fn first captured =>
    match fn with
    | .func g => brT (Nat.beq first.size 0) (match scalarsOf (captured.toList.map s.ev) with
      | some cs => K (.val (sc (.fn (.func g) cs.length (fun j => cs.getD j .any))) [])
      | none => none) none
    | _ => none
  | .call c => ccall M P Γ d s c K
  | _ => none
end
end Go.Dv

/- Worlds and names: what a call leaves as it was; the meaning of contracts and effects. -/
namespace Go.Dv
open Go.RowKit Go.Cv

/-- what a call was handed: the names of the arrays that it may write, where they stand; what nobody writes for ever -/
structure Fr where
  n : Nat
  β0 : Nat → Option Nat
  cp0 : Nat → Nat
  m0 : Nat → Option Obj
  q : GQ m0
def Fr.wr (X : Fr) (b : Nat) : Prop := ∃ i, i < X.n ∧ X.β0 i = some b

/-- all blocks that were there, but those of X, are as they were -/
structure Keep (X : Nat → Prop) (w0 w : World) : Prop where
  os : w.os = w0.os
  tape : w.tape = w0.tape
  output : w.output = w0.output
  size : w0.heap.size ≤ w.heap.size
  block : ∀ k, k < w0.heap.size → ¬ X k → w.heap[k]? = w0.heap[k]?

theorem Keep.refl (X : Nat → Prop) (w : World) : Keep X w w := ⟨rfl, rfl, rfl, Nat.le_refl _, fun _ _ _ => rfl⟩
theorem Keep.trans {X : Nat → Prop} {a b c : World} (h : Keep X a b) (k : Keep X b c) : Keep X a c :=
  ⟨k.os.trans h.os, k.tape.trans h.tape, k.output.trans h.output, Nat.le_trans h.size k.size, fun i hi hx => (k.block i (by have := h.size; omega) hx).trans (h.block i hi hx)⟩
theorem Keep.drewN {X : Nat → Prop} {a b : World} (h : Keep X a b) (n : Nat) : Keep X a (b.drewN n) := ⟨h.os, h.tape, h.output, h.size, h.block⟩
theorem Keep.alloc {X : Nat → Prop} {a b : World} (h : Keep X a b) (o : Obj) : Keep X a (b.alloc o) := by
  refine ⟨h.os, h.tape, h.output, by have := h.size; simp; omega, fun k hk hx => ?_⟩
  rw [Below.heap_alloc _ _ _ (by have := h.size; omega)]
  exact h.block k hk hx

/-- no cell of the row is shared with a text -/
def FrOk (n : Nat) (fr : Nat × Nat) : Prop := fr = (0, 0) ∨ n ≤ fr.1
/-- a block is a row of cells that may be written -/
def RowAt (w : World) (b : Nat) (arr : Array Value) (T : TypeId) : Prop := ∃ fr, w.heap[b]? = some (.cells arr T fr) ∧ FrOk arr.size fr
theorem RowAt.of {w : World} {b : Nat} {arr : Array Value} {T : TypeId} (h : w.heap[b]? = some (.cells arr T (0, 0))) : RowAt w b arr T := ⟨_, h, .inl rfl⟩
theorem RowAt.inj {w : World} {b : Nat} {arr arr' : Array Value} {T T' : TypeId} (h : RowAt w b arr T) (h' : RowAt w b arr' T') : arr = arr' ∧ T = T' := by
  obtain ⟨fr, h1, _⟩ := h
  obtain ⟨fr', h2, _⟩ := h'
  rw [h1] at h2; cases h2; exact ⟨rfl, rfl⟩
theorem RowAt.lift {w w' : World} {b : Nat} {arr : Array Value} {T : TypeId} (h : RowAt w b arr T) (hs : w'.heap[b]? = w.heap[b]?) : RowAt w' b arr T := by
  obtain ⟨fr, h1, h2⟩ := h
  exact ⟨fr, by rw [hs]; exact h1, h2⟩
theorem RowAt.lt {w : World} {b : Nat} {arr : Array Value} {T : TypeId} (h : RowAt w b arr T) : b < w.heap.size := by
  obtain ⟨fr, h1, _⟩ := h
  exact (Array.getElem?_eq_some_iff.1 h1).1
theorem RowAt.cell {w : World} {b off : Nat} {arr : Array Value} {T : TypeId} (h : RowAt w b arr T) : w.cell? ⟨b, off, none⟩ = arr[off]? := by
  obtain ⟨fr, h1, _⟩ := h
  simp [World.cell?, h1]
theorem RowAt.set {w : World} {b : Nat} {arr arr' : Array Value} {T : TypeId} (h : RowAt w b arr T) (hs : arr'.size = arr.size) : RowAt (w.setRow b arr') b arr' T := by
  obtain ⟨fr, h1, h2⟩ := h
  exact ⟨fr, setRow_heap w b arr arr' T fr h1, by rw [hs]; exact h2⟩
theorem RowAt.at {w : World} {b off : Nat} {arr : Array Value} {T : TypeId} {u : Value} {m : Nat → Option Obj} (h : RowAt w b arr T) (hm : m b = w.heap[b]?) (hu : arr[off]? = some u) : CellAt m b off u := by
  obtain ⟨fr, h1, _⟩ := h
  exact ⟨arr, T, fr, by rw [hm]; exact h1, hu⟩
theorem run_storeCells_row {P : Program} (g o : Nat) (t : TypeId) : ∀ (vs : List Value) (i : Nat) (cur : Array Value) (w : World), RowAt w g cur t → o + i + vs.length ≤ cur.size → (∀ v ∈ vs, v.oneCell' = true) →
    (storeCells ⟨g, o, none⟩ vs i).run P w = .ok () (w.setRow g (cur.toList.take (o + i) ++ vs ++ cur.toList.drop (o + i + vs.length)).toArray)
  | [], i, cur, w, ⟨fr, hg, _⟩, _, _ => by
    simp only [storeCells, List.append_nil, List.length_nil, Nat.add_zero, List.take_append_drop, Array.toArray_toList]
    rw [setRow_self w g cur t fr hg]
    rfl
  | v :: rest, i, cur, w, ⟨fr, hg, hfr⟩, hl, h1 => by
    have hi : o + i < cur.size := by simp at hl; omega
    have hadd : (⟨g, o, none⟩ : Addr).add i = ⟨g, o + i, none⟩ := by unfold Addr.add; split <;> simp_all
    have hcell : w.cell? ⟨g, o + i, none⟩ = some cur[o + i] := by simp [World.cell?, hg, hi]
    have hfro : w.frozen? ⟨g, o + i, none⟩ = false := by
      rcases hfr with rfl | hfr
      · simp [World.frozen?, hg]
      · obtain ⟨f1, f2⟩ := fr
        have : ¬ f1 ≤ o + i := by simp at hfr; omega
        simp [World.frozen?, hg, this]
    have hst : (store ((⟨g, o, none⟩ : Addr).add i) v).run P w = .ok () (w.setRow g (cur.setIfInBounds (o + i) v)) := by
      rw [hadd, run_store P w _ v _ (h1 v (by simp)), hcell]
      simp [hfro, setCell_eq_setRow w g (o + i) cur t fr v hg]
    have ih := run_storeCells_row (P := P) g o t rest (i + 1) (cur.setIfInBounds (o + i) v) (w.setRow g (cur.setIfInBounds (o + i) v)) (RowAt.set ⟨fr, hg, hfr⟩ (by simp)) (by simp at hl ⊢; omega) (fun x hx => h1 x (by simp [hx]))
    simp only [storeCells, Sem.run_bind, hst, Result.andThen_ok, ih, setRow_setRow]
    congr 3
    have e := list_seg_step cur.toList (o + i) v rest (by simp at hl ⊢; omega)
    simpa [Array.toList_setIfInBounds, Nat.add_assoc] using e

/-- an array of the call's own -/
def ArrRel (g : Gh) (w : World) (id : Nat) (e : Sh) (l : List e.Ty) : Prop :=
  (l = [] ∧ g.β id = none) ∨ ∃ b arr T, g.β id = some b ∧ RowAt w b arr T ∧ arr.size = g.cp id * e.size ∧ l.length ≤ g.cp id ∧
    ∀ i x, l[i]? = some x → relT g.im e x (fun k u => arr[i * e.size + k]? = some u)

def CellRel (g : Gh) (w : World) (id off : Nat) (c : CS) : Prop :=
  (∃ e l, c = .arr e l ∧ off = 0 ∧ ArrRel g w id e l) ∨ ∃ b arr T u, g.β id = some b ∧ RowAt w b arr T ∧ arr[off]? = some u ∧ rel g c u

structure WOk (X : Fr) (w0 : World) (g : Gh) (w : World) : Prop where
  keep : Keep X.wr w0 w
  im : ∀ k o, g.im k = some o → g.bi k = some o
  bi : ∀ k o, g.bi k = some o → w.heap[k]? = some o
  inj : ∀ i j b, g.β i = some b → g.β j = some b → i = j
  fresh : ∀ i b, g.β i = some b → (w0.heap.size ≤ b ∨ (X.wr b ∧ i < X.n)) ∧ b < w.heap.size ∧ g.bi b = none
  fz : True
  base : ∀ k o, X.m0 k = some o → g.im k = some o
  imf : ∀ k o, g.im k = some o → X.m0 k = some o ∨ w0.heap.size ≤ k
  pin : ∀ i, i < X.n → g.β i = X.β0 i ∧ g.cp i = X.cp0 i

section
variable {X : Fr} {w0 : World} {g g' g'' : Gh} {w w' w'' : World}

theorem WOk.imh (h : WOk X w0 g w) : ∀ k o, g.im k = some o → w.heap[k]? = some o := fun k o ho => h.bi k o (h.im k o ho)
theorem lt_of_block {o : Obj} {k : Nat} (h : w.heap[k]? = some o) : k < w.heap.size := by
  rcases Nat.lt_or_ge k w.heap.size with h' | h'
  · exact h'
  · rw [Array.getElem?_eq_none h'] at h; cases h

structure After (X : Fr) (w0 : World) (g : Gh) (w : World) (g' : Gh) (w' : World) : Prop where
  le : g.le g'
  β : g'.β = g.β
  ok : WOk X w0 g' w'
  size : w.heap.size ≤ w'.heap.size
  same : ∀ k, k < w.heap.size → w'.heap[k]? = w.heap[k]?

theorem WOk.drewN (h : WOk X w0 g w) (n : Nat) : WOk X w0 g (w.drewN n) := ⟨h.keep.drewN n, h.im, h.bi, h.inj, h.fresh, h.fz, h.base, h.imf, h.pin⟩
theorem After.refl (h : WOk X w0 g w) : After X w0 g w g w := ⟨g.le_refl, rfl, h, Nat.le_refl _, fun _ _ => rfl⟩
theorem After.drewN (h : WOk X w0 g w) (n : Nat) : After X w0 g w g (w.drewN n) := ⟨g.le_refl, rfl, h.drewN n, Nat.le_refl _, fun _ _ => rfl⟩
theorem After.trans (h : After X w0 g w g' w') (k : After X w0 g' w' g'' w'') : After X w0 g w g'' w'' :=
  ⟨Gh.le_trans h.le k.le, k.β.trans h.β, k.ok, Nat.le_trans h.size k.size, fun i hi => (k.same i (by have := h.size; omega)).trans (h.same i hi)⟩

/-- arrays and cells keep: the names stand where they stood, their blocks are as they were -/
theorem ArrRel.keep (hle : g.le g') {id : Nat} {e : Sh} {l : List e.Ty} (hβ : g'.β id = g.β id) (hs : ∀ b, g.β id = some b → w'.heap[b]? = w.heap[b]?) (h : ArrRel g w id e l) : ArrRel g' w' id e l := by
  rcases h with ⟨h1, h2⟩ | ⟨b, arr, T, h1, h2, h3, h4, h5⟩
  · exact .inl ⟨h1, by rw [hβ]; exact h2⟩
  · obtain ⟨h6, h7⟩ := hle.β _ _ h1
    exact .inr ⟨b, arr, T, h6, h2.lift (hs b h1), by rw [h7]; exact h3, by rw [h7]; exact h4, fun i x hx => relT_mono hle.im e x (fun _ _ h => h) (h5 i x hx)⟩
theorem CellRel.keep (hle : g.le g') {id off : Nat} {c : CS} (hβ : g'.β id = g.β id) (hs : ∀ b, g.β id = some b → w'.heap[b]? = w.heap[b]?) (h : CellRel g w id off c) : CellRel g' w' id off c := by
  rcases h with ⟨e, l, h1, h2, h3⟩ | ⟨b, arr, T, u, h1, h2, h3, h4⟩
  · exact .inl ⟨e, l, h1, h2, h3.keep hle hβ hs⟩
  · exact .inr ⟨b, arr, T, u, (hle.β _ _ h1).1, h2.lift (hs b h1), h3, rel_mono hle _ _ h4⟩
theorem CellRel.after (h : After X w0 g w g' w') (hw : WOk X w0 g w) {id off : Nat} {c : CS} (hc : CellRel g w id off c) : CellRel g' w' id off c :=
  hc.keep h.le (by rw [h.β]) (fun b hb => h.same b (hw.fresh _ _ hb).2.1)
end

/-- what a call of function 'f' does -/
def CallOk (P : Program) (f : FuncId) (vals : Array Value) (w : World) (R : Value → World → Prop) : Prop :=
  match (callFunc f vals).run P w with
  | .ok (.value v) w' => R v w'
  | .ok (.enter f' args') w' => Calls P f' args' w' (fun e w'' => ∃ v, e = .returned v ∧ R v w'')
  | _ => False

/-- without a name that is given up -/
def Gh.less (g : Gh) : Option Nat → Gh
  | none => g
  | some id => { β := fun i => if i = id then none else g.β i, cp := g.cp, im := g.im, bi := g.bi }

/-- behind a call: names below 'base' stand where they stood, the new arrays have the names from 'base' on; of the caller's cells those that are written are as told, the others as they were -/
structure Done (X : Fr) (w0 : World) (g : Gh) (w : World) (r : Res) (base : Nat) (g' : Gh) (w' : World) : Prop where
  le : (g.less r.eat).le g'
  β : ∀ i, i < base → g'.β i = (g.less r.eat).β i
  top : ∀ i, base + r.nw.length ≤ i → g'.β i = none
  ok : (∀ id, r.eat = some id → X.n ≤ id) → WOk X w0 g' w'
  size : r.eat = none → w.heap.size ≤ w'.heap.size
  same : ∀ k, k < w.heap.size → (∀ d ∈ r.wr, g.β d.1 ≠ some k) → (∀ id, r.eat = some id → g.β id ≠ some k) → w'.heap[k]? = w.heap[k]?
  wr : ∀ d ∈ r.wr, CellRel g' w' d.1 d.2.1 d.2.2
  nw : ∀ k c, r.nw[k]? = some c → CellRel g' w' (base + k) 0 c

/-- the contract of a function: a plain Lean function on canonical values (and on the caller's cells to which they lead) -/
def OkFn (P : Program) (f : FuncId) (S : FSpec) : Prop :=
  ∀ hp args r, S hp args = some r → r.pre = true → (∀ d ∈ r.rd, hp d.1 d.2.1 = some d.2.2) ∧ (∀ d ∈ r.wr, d.2.1 = 0 ∧ ∃ e l e' l', hp d.1 0 = some (.arr e l) ∧ d.2.2 = .arr e' l') ∧ (∀ c ∈ r.nw, ∃ e l, c = .arr e l) ∧
    ∀ X g w0 w base (vals : Array Value), vals.size = args.length → (∀ (j : Nat) c u, args[j]? = some c → vals[j]? = some u → rel1 g c u) →
      (∀ d ∈ r.rd, CellRel g w d.1 d.2.1 d.2.2) → WOk X w0 g w → X.n ≤ base → (∀ d ∈ r.rd, d.1 < base) → (∀ i, base ≤ i → g.β i = none) →
      CallOk P f vals w (fun v w' => ∃ g', Done X w0 g w r base g' w' ∧ relV g' (shiftV base r.cv) v)

def GoodC (P : Program) (Γ : CEnv) : Prop := ∀ f S, Γ f = some S → OkFn P f S

structure Sim (X : Fr) (w0 : World) (n : Nat) (s : St) (g : Gh) (a : Act) (w : World) : Prop where
  tm : ∀ t, relV g (s.tm t) (a.tmps.getD t undef)
  len : a.tmps.size = n
  df : a.defers = []
  ok : WOk X w0 g w
  cells : ∀ id off c, s.hp id off = some c → CellRel g w id off c
  nx : ∀ i b, g.β i = some b → i < s.nx
  hx : ∀ id off c, s.hp id off = some c → id < s.nx
  lo : s.lo = X.n
  ln : X.n ≤ s.nx

/-- what an effect says of the model's operation -/
def EffOk (P : Program) (o : Oper) (s : St) : Eff → Prop
  | .val cv deps => (∀ d ∈ deps, s.hp d.1 d.2.1 = some d.2.2) ∧
      ∀ X g w0 w (a : Act) (K : Act → World → Prop) (Q : Exit → Act → World → Prop), (∀ x ∈ o.op.operands.toList, relV g (s.ev x) (a.eval x)) →
        (∀ d ∈ deps, CellRel g w d.1 d.2.1 d.2.2) → WOk X w0 g w → (∃ m, X.n ≤ m ∧ (∀ d ∈ deps, d.1 < m) ∧ ∀ i, m ≤ i → g.β i = none) →
        (∀ v g' w', After X w0 g w g' w' → relV g' cv v → K (a.put o.dst v) w') → o.wp P a w K Q
  | .new cs => (∀ c ∈ cs, ∀ e l, c ≠ .arr e l) ∧ ∀ g w (a : Act) (K : Act → World → Prop) (Q : Exit → Act → World → Prop), (∀ x ∈ o.op.operands.toList, relV g (s.ev x) (a.eval x)) →
        (∀ arr T, arr.size = cs.length → (∀ (j : Nat) c u, cs[j]? = some c → arr[j]? = some u → rel g c u) →
          K (a.put o.dst (.pointer (some ⟨w.heap.size, 0, none⟩))) (w.alloc (.cells arr T))) → o.wp P a w K Q
  | .put id off cs => (0 < cs.length ∧ (∀ j, j < cs.length → ∃ c, s.hp id (off + j) = some c ∧ cellish c = true) ∧ (∀ e l, s.hp id 0 ≠ some (.arr e l)) ∧ ∀ c ∈ cs, plain c = true) ∧
      ∀ g w (a : Act) (K : Act → World → Prop) (Q : Exit → Act → World → Prop) b arr T, (∀ x ∈ o.op.operands.toList, relV g (s.ev x) (a.eval x)) →
        g.β id = some b → RowAt w b arr T → off + cs.length ≤ arr.size →
        (∀ us : List Value, us.length = cs.length → (∀ (j : Nat) c u, cs[j]? = some c → us[j]? = some u → rel g c u) →
          K (a.put o.dst undef) (w.setRow b (arr.toList.take off ++ us ++ arr.toList.drop (off + us.length)).toArray)) → o.wp P a w K Q
  | .mk e l => ∀ g w (a : Act) (K : Act → World → Prop) (Q : Exit → Act → World → Prop), (∀ x ∈ o.op.operands.toList, relV g (s.ev x) (a.eval x)) →
        (∀ arr T c, arr.size = c * e.size → l.length ≤ c → (∀ i x, l[i]? = some x → relT g.im e x (fun k u => arr[i * e.size + k]? = some u)) →
          K (a.put o.dst (.slice (some ⟨w.heap.size, 0, none⟩) l.length c)) (w.alloc (.cells arr T))) → o.wp P a w K Q
  | .gen s' => ∀ X w0 n g (a : Act) w (K : Act → World → Prop) (Q : Exit → Act → World → Prop), Sim X w0 n s g a w → (∀ x, o.dst = some x → x < n) →
        (∀ g' a' w', Sim X w0 n s' g' a' w' → K a' w') → o.wp P a w K Q

end Go.Dv
