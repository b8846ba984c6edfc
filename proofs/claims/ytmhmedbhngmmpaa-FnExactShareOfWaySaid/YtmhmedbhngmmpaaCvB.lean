/- Canonical values, and what it means that a value of the model is one of them: floats up to the bits of a NaN, the call's own blocks by a name, memory that nobody writes by its cells. -/
import Derived.Test.YtmhmedbhngmmpaaCvA
namespace Go.Cv
open Go.RowKit

/-- a value of one cell -/
inductive CS where
  | any
  | v (x : Value)
  | fl (k : FloatKind) (n : Nat)
  | cx (k : FloatKind) (a b : Nat)
  | ptr (id off : Nat)
  | ip (n : Nat) (f : Nat → CS)
  | sl (n size : Nat) (f : Nat → CS)
  | own (id len : Nat)
  | fn (f : Fn) (n : Nat) (c : Nat → CS)

/-- a value of one cell, or a struct -/
inductive CV1 where
  | s (c : CS)
  | agg (cs : List CS)

inductive CV where
  | one (c : CV1)
  | tup (vs : List CV1)

/-- which block a name stands for; which blocks nobody writes, and what they hold -/
structure Gh where
  β : Nat → Option Nat
  im : Nat → Option Obj

def rel (g : Gh) : CS → Value → Prop
  | .any, _ => True
  | .v x, y => y = x
  | .fl k n, y => ∃ m, y = .float k m ∧ cn k m = n ∧ m < lim k
  | .cx k a b, y => ∃ c d, y = .complex k c d ∧ cn k c = a ∧ cn k d = b ∧ c < lim k ∧ d < lim k
  | .ptr id off, y => ∃ b, g.β id = some b ∧ y = .pointer (some ⟨b, off, none⟩)
  | .ip n f, y => ∃ b off, y = .pointer (some ⟨b, off, none⟩) ∧ ∀ j, j < n → ∃ arr T fr u, g.im b = some (.cells arr T fr) ∧ arr[off + j]? = some u ∧ rel g (f j) u
  | .sl n size f, y => ∃ a cap, y = .slice a n cap ∧ n ≤ cap ∧ (0 < n → ∃ b off, a = some ⟨b, off, none⟩ ∧ ∀ j, j < n * size → ∃ arr T fr u, g.im b = some (.cells arr T fr) ∧ arr[off + j]? = some u ∧ rel g (f j) u)
  | .own id len, y => ∃ b cap, g.β id = some b ∧ y = .slice (some ⟨b, 0, none⟩) len cap ∧ len ≤ cap
  | .fn f n c, y => ∃ arr : Array Value, y = .func f #[] arr ∧ arr.size = n ∧ ∀ j u, arr[j]? = some u → rel g (c j) u

def rel1 (g : Gh) : CV1 → Value → Prop
  | .s c, y => rel g c y
  | .agg cs, y => ∃ arr : Array Value, y = .agg arr ∧ arr.size = cs.length ∧ ∀ (j : Nat) c u, cs[j]? = some c → arr[j]? = some u → rel g c u

def relV (g : Gh) : CV → Value → Prop
  | .one c, y => rel1 g c y
  | .tup cs, y => ∃ arr : Array Value, y = .tuple arr ∧ arr.size = cs.length ∧ ∀ (j : Nat) c u, cs[j]? = some c → arr[j]? = some u → rel1 g c u

/-- a later state of the names -/
structure Gh.le (g g' : Gh) : Prop where
  β : ∀ i b, g.β i = some b → g'.β i = some b
  im : ∀ k o, g.im k = some o → g'.im k = some o

theorem Gh.le_refl (g : Gh) : g.le g := ⟨fun _ _ h => h, fun _ _ h => h⟩
theorem Gh.le_trans {a b c : Gh} (h : a.le b) (k : b.le c) : a.le c := ⟨fun i b h1 => k.β i b (h.β i b h1), fun i o h1 => k.im i o (h.im i o h1)⟩

theorem rel_mono {g g' : Gh} (h : g.le g') : ∀ (c : CS) (y : Value), rel g c y → rel g' c y := by
  intro c
  induction c with
  | any => intro y h; trivial
  | v x => intro y h; exact h
  | fl k n => intro y h; exact h
  | cx k a b => intro y h; exact h
  | ptr id off => rintro y ⟨b, hb, e⟩; exact ⟨b, h.β _ _ hb, e⟩
  | ip n f ih =>
    rintro y ⟨b, off, e, hc⟩
    refine ⟨b, off, e, fun j hj => ?_⟩
    obtain ⟨arr, T, fr, u, h1, h2, h3⟩ := hc j hj
    exact ⟨arr, T, fr, u, h.im _ _ h1, h2, ih j u h3⟩
  | sl n size f ih =>
    rintro y ⟨a, cap, e, hn, hc⟩
    refine ⟨a, cap, e, hn, fun h0 => ?_⟩
    obtain ⟨b, off, ea, hc⟩ := hc h0
    refine ⟨b, off, ea, fun j hj => ?_⟩
    obtain ⟨arr, T, fr, u, h1, h2, h3⟩ := hc j hj
    exact ⟨arr, T, fr, u, h.im _ _ h1, h2, ih j u h3⟩
  | own id len => rintro y ⟨b, cap, hb, e⟩; exact ⟨b, cap, h.β _ _ hb, e⟩
  | fn f n c ih => rintro y ⟨arr, e, hs, hc⟩; exact ⟨arr, e, hs, fun j u hu => ih j u (hc j u hu)⟩

theorem rel1_mono {g g' : Gh} (h : g.le g') (c : CV1) (y : Value) (hr : rel1 g c y) : rel1 g' c y := by
  cases c with
  | s c => exact rel_mono h c y hr
  | agg cs => obtain ⟨arr, e, hs, hc⟩ := hr; exact ⟨arr, e, hs, fun j c u h1 h2 => rel_mono h c u (hc j c u h1 h2)⟩

theorem relV_mono {g g' : Gh} (h : g.le g') (c : CV) (y : Value) (hr : relV g c y) : relV g' c y := by
  cases c with
  | one c => exact rel1_mono h c y hr
  | tup cs => obtain ⟨arr, e, hs, hc⟩ := hr; exact ⟨arr, e, hs, fun j c u h1 h2 => rel1_mono h c u (hc j c u h1 h2)⟩

/-! ### the interpreter's state -/

structure St where
  tm : Nat → CV
  hp : Nat → Nat → Option CS
  nx : Nat

def top : CV := .one (.s .any)

def upd (f : Nat → CV) (d : Option Nat) (x : CV) : Nat → CV :=
  match d with
  | none => f
  | some d => fun t => bif Nat.beq t d then x else f t

def St.put (s : St) (d : Option Nat) (x : CV) : St := { s with tm := upd s.tm d x }

theorem upd_same (f : Nat → CV) (d : Nat) (x : CV) : upd f (some d) x d = x := by simp [upd]
theorem upd_ne (f : Nat → CV) {d t : Nat} (x : CV) (h : t ≠ d) : upd f (some d) x t = f t := by
  unfold upd
  have : Nat.beq t d = false := by cases hb : Nat.beq t d; rfl; exact absurd (Nat.eq_of_beq_eq_true hb) h
  simp [this]

/-- a cell's content off a value: floats by their canonical word -/
def ofCell : Value → CS
  | .float k n => bif Nat.blt n (lim k) && !isNan k n then .fl k n else .v (.float k n)
  | .complex k a b => bif (Nat.blt a (lim k) && !isNan k a) && (Nat.blt b (lim k) && !isNan k b) then .cx k a b else .v (.complex k a b)
  | .func f fi ca => if fi.size = 0 then .fn f ca.size (fun j => .v (ca.getD j undef)) else .v (.func f fi ca)
  | x => .v x

theorem rel_ofCell (g : Gh) (x : Value) : rel g (ofCell x) x := by
  have lt : ∀ (k : FloatKind) n, (Nat.blt n (lim k) && !isNan k n) = true → n < lim k ∧ isNan k n = false := fun k n h => by
    rw [Bool.and_eq_true] at h
    exact ⟨Nat.le_of_ble_eq_true h.1, by simpa using h.2⟩
  cases x with
  | float k n =>
    show rel g (bif Nat.blt n (lim k) && !isNan k n then .fl k n else .v (.float k n)) _
    cases h : (Nat.blt n (lim k) && !isNan k n)
    · exact rfl
    · obtain ⟨h1, h2⟩ := lt k n h
      exact ⟨n, rfl, cn_of_not h2, h1⟩
  | complex k a b =>
    show rel g (bif (Nat.blt a (lim k) && !isNan k a) && (Nat.blt b (lim k) && !isNan k b) then .cx k a b else .v (.complex k a b)) _
    cases h : ((Nat.blt a (lim k) && !isNan k a) && (Nat.blt b (lim k) && !isNan k b))
    · exact rfl
    · rw [Bool.and_eq_true] at h
      obtain ⟨h1, h2⟩ := lt k a h.1
      obtain ⟨h3, h4⟩ := lt k b h.2
      exact ⟨a, b, rfl, cn_of_not h2, cn_of_not h4, h1, h3⟩
  | func f fi ca =>
    show rel g (if fi.size = 0 then .fn f ca.size (fun j => .v (ca.getD j undef)) else .v (.func f fi ca)) _
    by_cases h : fi.size = 0
    · rw [if_pos h]
      obtain rfl : fi = #[] := Array.eq_empty_of_size_eq_zero h
      exact ⟨ca, rfl, rfl, fun j u hu => by show u = _; simp [hu]⟩
    · rw [if_neg h]; exact rfl
  | _ => exact rfl

def ofValue : Value → CV
  | .agg cs => .one (.agg (cs.toList.map ofCell))
  | x => .one (.s (ofCell x))

theorem relV_ofValue (g : Gh) (x : Value) : relV g (ofValue x) x := by
  cases x <;> try exact rel_ofCell g _
  rename_i cs
  refine ⟨cs, rfl, by simp, fun j c u hc hu => ?_⟩
  simp at hc
  obtain ⟨a, ha, rfl⟩ := hc
  rw [ha] at hu; cases hu
  exact rel_ofCell g _

def St.ev (s : St) : Operand → CV
  | .tmp t => s.tm t
  | .const v => ofValue v
  | .func f => .one (.s (.fn (.func f) 0 (fun _ => .any)))
  | .global _ => top

/-- the cells of a value: one, or a struct's -/
def cellsOf : CV → Option (List CS)
  | .one (.s c) => some [c]
  | .one (.agg cs) => some cs
  | _ => none

/-- may lie in a cell -/
def plain : CS → Bool
  | .any => false
  | .v (.agg _) => false
  | .v (.tuple _) => false
  | _ => true

theorem plain_cells {g : Gh} {c : CS} {y : Value} (hp : plain c = true) (h : rel g c y) : y.cells = #[y] ∧ (∀ cs, y ≠ .agg cs) ∧ (∀ cs, y ≠ .tuple cs) := by
  cases c with
  | any => cases hp
  | v x =>
    obtain rfl : y = x := h
    cases y <;> first | (cases hp; done) | exact ⟨rfl, (fun _ h => nomatch h), (fun _ h => nomatch h)⟩
  | fl k n => obtain ⟨m, rfl, _⟩ := h; exact ⟨rfl, (fun _ h => nomatch h), (fun _ h => nomatch h)⟩
  | cx k a b => obtain ⟨c, d, rfl, _⟩ := h; exact ⟨rfl, (fun _ h => nomatch h), (fun _ h => nomatch h)⟩
  | ptr id off => obtain ⟨b, _, rfl⟩ := h; exact ⟨rfl, (fun _ h => nomatch h), (fun _ h => nomatch h)⟩
  | ip n f => obtain ⟨b, off, rfl, _⟩ := h; exact ⟨rfl, (fun _ h => nomatch h), (fun _ h => nomatch h)⟩
  | sl n size f => obtain ⟨a, cap, rfl, _⟩ := h; exact ⟨rfl, (fun _ h => nomatch h), (fun _ h => nomatch h)⟩
  | own id len => obtain ⟨b, cap, _, rfl, _⟩ := h; exact ⟨rfl, (fun _ h => nomatch h), (fun _ h => nomatch h)⟩
  | fn f n c => obtain ⟨arr, rfl, _⟩ := h; exact ⟨rfl, (fun _ h => nomatch h), (fun _ h => nomatch h)⟩

/-- the cells of related values are related, one by one, and each may lie in a cell -/
theorem cells_rel {g : Gh} {x : CV} {y : Value} {cs : List CS} (hc : cellsOf x = some cs) (hp : cs.all plain = true) (h : relV g x y) :
    y.cells.size = cs.length ∧ (∀ (j : Nat) c u, cs[j]? = some c → y.cells[j]? = some u → rel g c u ∧ plain c = true) := by
  cases x with
  | tup vs => cases hc
  | one c =>
    cases c with
    | s c =>
      cases hc
      simp at hp
      have h1 := plain_cells hp h
      rw [h1.1]
      refine ⟨rfl, fun j c u hj hu => ?_⟩
      cases j with
      | zero => simp at hj hu; subst hj hu; exact ⟨h, hp⟩
      | succ j => simp at hj
    | agg cs' =>
      cases hc
      obtain ⟨arr, rfl, hs, hr⟩ := h
      refine ⟨hs, fun j c u hj hu => ⟨hr j c u hj hu, ?_⟩⟩
      exact List.all_eq_true.1 hp c (List.mem_of_getElem? hj)

end Go.Cv
