/- Canonical values: floats up to the bits of a NaN, lists by what they hold, the call's own blocks by a name; and what it means that a value of the model is one of them. -/
import Derived.Test.YtmhmedbhngmmpaaFo
namespace Go.Dv
open Go.RowKit Go.Cv

/-- the shape of data -/
inductive Sh where
  | fl (k : FloatKind)
  | int (k : IntKind)
  | bool
  | str
  | cx (k : FloatKind)
  | ls (e : Sh)
  | pair (a b : Sh)
  deriving DecidableEq

@[reducible] def Sh.Ty : Sh → Type
  | .fl _ => Nat
  | .int _ => Int
  | .bool => Bool
  | .str => ByteArray
  | .cx _ => Nat × Nat
  | .ls e => List e.Ty
  | .pair a b => a.Ty × b.Ty

def Sh.size : Sh → Nat
  | .pair a b => a.size + b.size
  | _ => 1

def Sh.dflt : (s : Sh) → s.Ty
  | .fl _ => (0 : Nat)
  | .int _ => (0 : Int)
  | .bool => false
  | .str => ByteArray.mk #[]
  | .cx _ => ((0 : Nat), (0 : Nat))
  | .ls _ => []
  | .pair a b => (a.dflt, b.dflt)

/-- a value of one cell -/
inductive CS where
  | any
  | v (x : Value)
  | fl (k : FloatKind) (n : Nat)
  | cx (k : FloatKind) (a b : Nat)
  | ptr (id off : Nat)
  | ip (n : Nat) (f : Nat → CS)
  | pe (id sz i k : Nat)
  | ls (bw : Bool) (e : Sh) (l : List e.Ty)
  | own (id n : Nat)
  | win (id sz lo n : Nat)
  | fn (f : Fn) (n : Nat) (c : Nat → CS)
  | arr (e : Sh) (l : List e.Ty)

/-- the cells of data; 'bw': the lists in it are borrowed -/
def cells (bw : Bool) : (s : Sh) → s.Ty → List CS
  | .fl k, n => [.fl k n]
  | .int k, n => [.v (.int k n)]
  | .bool, b => [.v (.bool b)]
  | .str, s => [.v (.string s)]
  | .cx k, x => [.cx k x.1 x.2]
  | .ls e, l => [.ls bw e l]
  | .pair a b, x => cells bw a x.1 ++ cells bw b x.2

theorem cells_length (bw : Bool) : ∀ (s : Sh) (x : s.Ty), (cells bw s x).length = s.size
  | .fl _, _ | .int _, _ | .bool, _ | .str, _ | .cx _, _ | .ls _, _ => rfl
  | .pair a b, x => by simp [cells, Sh.size, cells_length bw a, cells_length bw b]

theorem size_pos : ∀ (s : Sh), 0 < s.size
  | .fl _ | .int _ | .bool | .str | .cx _ | .ls _ => Nat.one_pos
  | .pair a b => by have := size_pos a; simp [Sh.size]; omega

/-- a value of one cell, or a struct -/
inductive CV1 where
  | s (c : CS)
  | agg (cs : List CS)

inductive CV where
  | one (c : CV1)
  | tup (vs : List CV1)

/-- which block a name stands for, and its capacity; which blocks nobody writes (for ever; for the time of this call), and what they hold -/
structure Gh where
  β : Nat → Option Nat
  cp : Nat → Nat
  im : Nat → Option Obj
  bi : Nat → Option Obj

def Gh.mem (g : Gh) (bw : Bool) : Nat → Option Obj := match bw with | true => g.bi | false => g.im

def CellAt (m : Nat → Option Obj) (b off : Nat) (u : Value) : Prop := ∃ arr T fr, m b = some (.cells arr T fr) ∧ arr[off]? = some u

/-- data as it lies in cells, lists in memory that nobody writes -/
def relT (m : Nat → Option Obj) : (s : Sh) → s.Ty → (Nat → Value → Prop) → Prop
  | .fl k, n, A => ∃ d, A 0 (.float k d) ∧ cn k d = n ∧ d < lim k
  | .int k, n, A => A 0 (.int k n)
  | .bool, b, A => A 0 (.bool b)
  | .str, s, A => A 0 (.string s)
  | .cx k, x, A => ∃ c d, A 0 (.complex k c d) ∧ cn k c = x.1 ∧ cn k d = x.2 ∧ c < lim k ∧ d < lim k
  | .ls e, l, A => ∃ a cap, A 0 (.slice a l.length cap) ∧ l.length ≤ cap ∧ (a = none → cap = 0) ∧
      (0 < l.length → ∃ b off, a = some ⟨b, off, none⟩ ∧ ∀ i x, l[i]? = some x → relT m e x (fun k u => CellAt m b (off + i * e.size + k) u))
  | .pair a b, x, A => relT m a x.1 A ∧ relT m b x.2 (fun k u => A (a.size + k) u)

/-- a list's place -/
def relL (m : Nat → Option Obj) (e : Sh) (l : List e.Ty) (y : Value) : Prop :=
  ∃ a cap, y = .slice a l.length cap ∧ l.length ≤ cap ∧ (a = none → cap = 0) ∧
    (0 < l.length → ∃ b off, a = some ⟨b, off, none⟩ ∧ ∀ i x, l[i]? = some x → relT m e x (fun k u => CellAt m b (off + i * e.size + k) u))

def rel (g : Gh) : CS → Value → Prop
  | .any, _ => True
  | .v x, y => y = x
  | .fl k n, y => ∃ m, y = .float k m ∧ cn k m = n ∧ m < lim k
  | .cx k a b, y => ∃ c d, y = .complex k c d ∧ cn k c = a ∧ cn k d = b ∧ c < lim k ∧ d < lim k
  | .ptr id off, y => ∃ b, g.β id = some b ∧ y = .pointer (some ⟨b, off, none⟩)
  | .ip n f, y => ∃ b off, y = .pointer (some ⟨b, off, none⟩) ∧ ∀ j, j < n → ∃ u, CellAt g.bi b (off + j) u ∧ rel g (f j) u
  | .pe id sz i k, y => ∃ b, g.β id = some b ∧ y = .pointer (some ⟨b, i * sz + k, none⟩)
  | .ls bw e l, y => relL (g.mem bw) e l y
  | .own id n, y => (n = 0 ∧ y = .slice none 0 0) ∨ ∃ b, g.β id = some b ∧ y = .slice (some ⟨b, 0, none⟩) n (g.cp id) ∧ n ≤ g.cp id
  | .win id sz lo n, y => ∃ a cap, y = .slice a n cap ∧ n ≤ cap ∧ (a = none → cap = 0) ∧ (0 < n → ∃ b, g.β id = some b ∧ a = some ⟨b, lo * sz, none⟩)
  | .fn f n c, y => ∃ arr : Array Value, y = .func f #[] arr ∧ arr.size = n ∧ ∀ j u, arr[j]? = some u → rel g (c j) u
  | .arr _ _, _ => False

def rel1 (g : Gh) : CV1 → Value → Prop
  | .s c, y => rel g c y
  | .agg cs, y => ∃ arr : Array Value, y = .agg arr ∧ arr.size = cs.length ∧ ∀ (j : Nat) c u, cs[j]? = some c → arr[j]? = some u → rel g c u

def relV (g : Gh) : CV → Value → Prop
  | .one c, y => rel1 g c y
  | .tup cs, y => ∃ arr : Array Value, y = .tuple arr ∧ arr.size = cs.length ∧ ∀ (j : Nat) c u, cs[j]? = some c → arr[j]? = some u → rel1 g c u

/-! ### a later state of the names -/
structure Gh.le (g g' : Gh) : Prop where
  β : ∀ i b, g.β i = some b → g'.β i = some b ∧ g'.cp i = g.cp i
  im : ∀ k o, g.im k = some o → g'.im k = some o
  bi : ∀ k o, g.bi k = some o → g'.bi k = some o

theorem Gh.le_refl (g : Gh) : g.le g := ⟨fun _ _ h => ⟨h, rfl⟩, fun _ _ h => h, fun _ _ h => h⟩
theorem Gh.le_trans {a b c : Gh} (h : a.le b) (k : b.le c) : a.le c :=
  ⟨fun i b h1 => by
    obtain ⟨h2, h3⟩ := h.β i b h1
    obtain ⟨h4, h5⟩ := k.β i b h2
    exact ⟨h4, h5.trans h3⟩, fun i o h1 => k.im i o (h.im i o h1), fun i o h1 => k.bi i o (h.bi i o h1)⟩

theorem CellAt.mono {m m' : Nat → Option Obj} (h : ∀ k o, m k = some o → m' k = some o) {b off : Nat} {u : Value} (hc : CellAt m b off u) : CellAt m' b off u := by
  obtain ⟨arr, T, fr, h1, h2⟩ := hc
  exact ⟨arr, T, fr, h _ _ h1, h2⟩

theorem relT_mono {m m' : Nat → Option Obj} (h : ∀ k o, m k = some o → m' k = some o) : ∀ (s : Sh) (x : s.Ty) {A A' : Nat → Value → Prop}, (∀ k u, A k u → A' k u) → relT m s x A → relT m' s x A'
  | .fl _, _, _, _, hA, ⟨d, h1, h2⟩ => ⟨d, hA _ _ h1, h2⟩
  | .int _, _, _, _, hA, h1 => hA _ _ h1
  | .bool, _, _, _, hA, h1 => hA _ _ h1
  | .str, _, _, _, hA, h1 => hA _ _ h1
  | .cx _, _, _, _, hA, ⟨c, d, h1, h2⟩ => ⟨c, d, hA _ _ h1, h2⟩
  | .ls e, _, _, _, hA, ⟨a, cap, h1, h2, hz, h3⟩ => ⟨a, cap, hA _ _ h1, h2, hz, fun h0 => by
      obtain ⟨b, off, h4, h5⟩ := h3 h0
      exact ⟨b, off, h4, fun i x hx => relT_mono h e x (fun k u hc => hc.mono h) (h5 i x hx)⟩⟩
  | .pair a b, x, _, _, hA, ⟨h1, h2⟩ => ⟨relT_mono h a x.1 hA h1, relT_mono h b x.2 (fun k u => hA _ u) h2⟩

theorem relL_mono {m m' : Nat → Option Obj} (h : ∀ k o, m k = some o → m' k = some o) {e : Sh} {l : List e.Ty} {y : Value} (hr : relL m e l y) : relL m' e l y := by
  obtain ⟨a, cap, h1, h2, hz, h3⟩ := hr
  refine ⟨a, cap, h1, h2, hz, fun h0 => ?_⟩
  obtain ⟨b, off, h4, h5⟩ := h3 h0
  exact ⟨b, off, h4, fun i x hx => relT_mono h e x (fun k u hc => hc.mono h) (h5 i x hx)⟩

theorem Gh.le_mem {g g' : Gh} (h : g.le g') (bw : Bool) : ∀ k o, g.mem bw k = some o → g'.mem bw k = some o := by
  cases bw
  · exact h.im
  · exact h.bi

theorem rel_mono {g g' : Gh} (h : g.le g') : ∀ (c : CS) (y : Value), rel g c y → rel g' c y := by
  intro c
  induction c with
  | any => intro y h; trivial
  | v x => intro y h; exact h
  | fl k n => intro y h; exact h
  | cx k a b => intro y h; exact h
  | ptr id off => rintro y ⟨b, hb, e⟩; exact ⟨b, (h.β _ _ hb).1, e⟩
  | ip n f ih =>
    rintro y ⟨b, off, e, hc⟩
    refine ⟨b, off, e, fun j hj => ?_⟩
    obtain ⟨u, h1, h2⟩ := hc j hj
    exact ⟨u, h1.mono h.bi, ih j u h2⟩
  | pe id sz i k => rintro y ⟨b, hb, e⟩; exact ⟨b, (h.β _ _ hb).1, e⟩
  | ls bw e l => intro y hy; exact relL_mono (Gh.le_mem h bw) hy
  | own id n =>
    rintro y (⟨h1, h2⟩ | ⟨b, h1, h2, h3⟩)
    · exact .inl ⟨h1, h2⟩
    · obtain ⟨h4, h5⟩ := h.β _ _ h1
      exact .inr ⟨b, h4, by rw [h5]; exact h2, by rw [h5]; exact h3⟩
  | win id sz lo n =>
    rintro y ⟨a, cap, h1, h2, h3, h4⟩
    refine ⟨a, cap, h1, h2, h3, fun h0 => ?_⟩
    obtain ⟨b, h5, h6⟩ := h4 h0
    exact ⟨b, (h.β _ _ h5).1, h6⟩
  | fn f n c ih => rintro y ⟨arr, e, hs, hc⟩; exact ⟨arr, e, hs, fun j u hu => ih j u (hc j u hu)⟩
  | arr e l => intro y h; exact h.elim

theorem rel1_mono {g g' : Gh} (h : g.le g') (c : CV1) (y : Value) (hr : rel1 g c y) : rel1 g' c y := by
  cases c with
  | s c => exact rel_mono h c y hr
  | agg cs => obtain ⟨arr, e, hs, hc⟩ := hr; exact ⟨arr, e, hs, fun j c u h1 h2 => rel_mono h c u (hc j c u h1 h2)⟩

theorem relV_mono {g g' : Gh} (h : g.le g') (c : CV) (y : Value) (hr : relV g c y) : relV g' c y := by
  cases c with
  | one c => exact rel1_mono h c y hr
  | tup cs => obtain ⟨arr, e, hs, hc⟩ := hr; exact ⟨arr, e, hs, fun j c u h1 h2 => rel1_mono h c u (hc j c u h1 h2)⟩

/-- data in cells, cell by cell -/
theorem relT_cells {g : Gh} {bw : Bool} : ∀ (s : Sh) (x : s.Ty) (A : Nat → Value → Prop), relT (g.mem bw) s x A ↔ ∀ j c, (cells bw s x)[j]? = some c → ∃ u, A j u ∧ rel g c u := by
  intro s
  induction s with
  | fl k =>
    intro x A
    constructor
    · rintro ⟨d, h1, h2, h3⟩ j c hj
      cases j with
      | zero => cases hj; exact ⟨_, h1, d, rfl, h2, h3⟩
      | succ j => simp [cells] at hj
    · intro h
      obtain ⟨u, h1, d, rfl, h2, h3⟩ := h 0 _ rfl
      exact ⟨d, h1, h2, h3⟩
  | int k =>
    intro x A
    constructor
    · intro h1 j c hj
      cases j with
      | zero => cases hj; exact ⟨_, h1, rfl⟩
      | succ j => simp [cells] at hj
    · intro h
      obtain ⟨u, h1, h2⟩ := h 0 _ rfl
      cases h2; exact h1
  | bool =>
    intro x A
    constructor
    · intro h1 j c hj
      cases j with
      | zero => cases hj; exact ⟨_, h1, rfl⟩
      | succ j => simp [cells] at hj
    · intro h
      obtain ⟨u, h1, h2⟩ := h 0 _ rfl
      cases h2; exact h1
  | str =>
    intro x A
    constructor
    · intro h1 j c hj
      cases j with
      | zero => cases hj; exact ⟨_, h1, rfl⟩
      | succ j => simp [cells] at hj
    · intro h
      obtain ⟨u, h1, h2⟩ := h 0 _ rfl
      cases h2; exact h1
  | cx k =>
    intro x A
    constructor
    · rintro ⟨c', d, h1, h2⟩ j c hj
      cases j with
      | zero => cases hj; exact ⟨_, h1, c', d, rfl, h2⟩
      | succ j => simp [cells] at hj
    · intro h
      obtain ⟨u, h1, c', d, rfl, h2⟩ := h 0 _ rfl
      exact ⟨c', d, h1, h2⟩
  | ls e _ =>
    intro x A
    constructor
    · rintro ⟨a, cap, h1, h2⟩ j c hj
      cases j with
      | zero => cases hj; exact ⟨_, h1, a, cap, rfl, h2⟩
      | succ j => simp [cells] at hj
    · intro h
      obtain ⟨u, h1, a, cap, rfl, h2⟩ := h 0 _ rfl
      exact ⟨a, cap, h1, h2⟩
  | pair a b iha ihb =>
    intro x A
    have e1 := cells_length bw a x.1
    constructor
    · rintro ⟨h1, h2⟩ j c hj
      simp only [cells] at hj
      rcases Nat.lt_or_ge j a.size with h | h
      · rw [List.getElem?_append_left (by omega)] at hj
        exact (iha x.1 A).1 h1 j c hj
      · rw [List.getElem?_append_right (by omega), e1] at hj
        obtain ⟨u, h3, h4⟩ := (ihb x.2 _).1 h2 _ c hj
        exact ⟨u, by have e2 : a.size + (j - a.size) = j := by omega
                     rw [e2] at h3; exact h3, h4⟩
    · intro h
      refine ⟨(iha x.1 A).2 fun j c hj => h j c ?_, (ihb x.2 _).2 fun j c hj => ?_⟩
      · simp only [cells]
        have : j < (cells bw a x.1).length := by
          rcases Nat.lt_or_ge j (cells bw a x.1).length with h | h
          · exact h
          · rw [List.getElem?_eq_none h] at hj; cases hj
        rw [List.getElem?_append_left this]; exact hj
      · refine h (a.size + j) c ?_
        simp only [cells]
        rw [List.getElem?_append_right (by omega), e1]
        have e2 : a.size + j - a.size = j := by omega
        rw [e2]; exact hj
end Go.Dv
