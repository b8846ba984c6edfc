/- Functions: the shapes of what they are handed and give; contracts in shapes. -/
import Derived.Test.YtmhmedbhngmmpaaDn
namespace Go.Dv
open Go.RowKit Go.Cv

/-- what a function is handed: data; a struct; a pointer to data; an array that it may write; a function with what it has caught -/
inductive AS where
  | nil
  | cons (a r : AS)
  | one (s : Sh)
  | agg (s : Sh)
  | ptr (s : Sh)
  | own (e : Sh)
  | fn (f : FuncId) (c : AS)
  | raw

@[reducible] def AS.Ty : AS → Type
  | .nil => Unit
  | .cons a r => a.Ty × r.Ty
  | .one s => s.Ty
  | .agg s => s.Ty
  | .ptr s => s.Ty
  | .own e => List e.Ty
  | .fn _ c => c.Ty
  | .raw => Value

/-- how many arrays it may write -/
def AS.nOwn : AS → Nat
  | .cons a r => a.nOwn + r.nOwn
  | .own _ => 1
  | .fn _ c => c.nOwn
  | _ => 0

/-- data out of the caller's cells -/
def decX (hp : Hp) : (s : Sh) → (Nat → CS) → Option (s.Ty × List Dep)
  | .fl k, f => match f 0 with
    | .fl k' n => bif eqK k' k then some (n, []) else none
    | _ => none
  | .int k, f => match f 0 with
    | .v (.int k' n) => bif eqI k' k then some (n, []) else none
    | _ => none
  | .bool, f => match f 0 with
    | .v (.bool b) => some (b, [])
    | _ => none
  | .str, f => match f 0 with
    | .v (.string s) => some (s, [])
    | _ => none
  | .cx k, f => match f 0 with
    | .cx k' a b => bif eqK k' k then some ((a, b), []) else none
    | _ => none
  | .ls e, f => match f 0 with
    | .ls _ e' l => match castLs e' e l with
      | some l => some (l, [])
      | none => none
    | .v (.slice none 0 0) => some ([], [])
    | .own id n => match arrAt hp id e with
      | some l => bif Nat.beq n l.length then some (l, [(id, 0, .arr e l)]) else none
      | none => none
    | .win id sz lo n => match arrAt hp id e with
      | some l => bif Nat.beq sz e.size && Nat.ble (lo + n) l.length then some ((l.drop lo).take n, [(id, 0, .arr e l)]) else none
      | none => none
    | _ => none
  | .pair a b, f => match decX hp a f, decX hp b (fun j => f (a.size + j)) with
    | some (x, d), some (y, d') => some ((x, y), d ++ d')
    | _, _ => none

/-- what is handed, out of the caller's values: the data; the cells that are read; the arrays that may be written; the values that are left -/
def decA (hp : Hp) : (a : AS) → List CV1 → Option ((a.Ty × List Dep × List (Nat × CS)) × List CV1)
  | .nil, cs => some (((), [], []), cs)
  | .cons a r, cs => match decA hp a cs with
    | some ((x, d, o), cs') => match decA hp r cs' with
      | some ((y, d', o'), cs'') => some (((x, y), d ++ d', o ++ o'), cs'')
      | none => none
    | none => none
  | .one s, cs => match cs with
    | .s c :: rest => bif Nat.beq s.size 1 then (match decX hp s (fun _ => c) with
      | some (x, d) => some ((x, d, []), rest)
      | none => none) else none
    | _ => none
  | .agg s, cs => match cs with
    | .agg l :: rest => bif Nat.beq l.length s.size then (match decX hp s (fun j => l.getD j .any) with
      | some (x, d) => some ((x, d, []), rest)
      | none => none) else none
    | _ => none
  | .ptr s, cs => match cs with
    | .s (.ptr id off) :: rest => match readFrom hp id off s.size with
      | some l => bif l.all plain then (match decX hp s (fun j => l.getD j .any) with
        | some (x, d) => some ((x, depsOf id off l ++ d, []), rest)
        | none => none) else none
      | none => none
    | .s (.ip m f) :: rest => bif Nat.ble s.size m then (match decX hp s f with
      | some (x, d) => some ((x, d, []), rest)
      | none => none) else none
    | .s (.pe id sz i k) :: rest => match hp id 0 with
      | some (.arr e l) => bif (Nat.beq sz e.size && Nat.blt i l.length) && Nat.ble (k + s.size) e.size then (match decX hp s (fun j => (cells false e (l.getD i e.dflt)).getD (k + j) .any) with
        | some (x, d) => some ((x, (id, 0, .arr e l) :: d, []), rest)
        | none => none) else none
      | _ => none
    | _ => none
  | .own e, cs => match cs with
    | .s (.own id n) :: rest => match arrAt hp id e with
      | some l => bif Nat.beq n l.length then some ((l, [], [(id, .arr e l)]), rest) else none
      | none => none
    | _ => none
  | .fn f c, cs => match cs with
    | .s (.fn (.func f') n cap) :: rest => bif Nat.beq f' f then (match decA hp c ((List.range n).map fun j => .s (cap j)) with
      | some (x, []) => some (x, rest)
      | _ => none) else none
    | _ => none
  | .raw, cs => match cs with
    | .s (.v x) :: rest => some ((x, [], []), rest)
    | _ => none

/-! The same, with what must agree told as a truth. -/

theorem cond_fin {α β : Type} {c : Bool} {x0 x : α} {d0 d : β} (h : (bif c then some (x0, d0, true) else none) = some (x, d, true)) : (bif c then some (x0, d0) else none) = some (x, d) := by
  cases c
  · cases h
  · cases h; rfl

def uX (hp : Hp) : (s : Sh) → (Nat → CS) → Option (s.Ty × List Dep × Bool)
  | .fl k, f => match f 0 with
    | .fl k' n => bif eqK k' k then some (n, [], true) else none
    | _ => none
  | .int k, f => match f 0 with
    | .v (.int k' n) => bif eqI k' k then some (n, [], true) else none
    | _ => none
  | .bool, f => match f 0 with
    | .v (.bool b) => some (b, [], true)
    | _ => none
  | .str, f => match f 0 with
    | .v (.string s) => some (s, [], true)
    | _ => none
  | .cx k, f => match f 0 with
    | .cx k' a b => bif eqK k' k then some ((a, b), [], true) else none
    | _ => none
  | .ls e, f => match f 0 with
    | .ls _ e' l => match castLs e' e l with
      | some l => some (l, [], true)
      | none => none
    | .v (.slice none 0 0) => some ([], [], true)
    | .own id n => match arrAt hp id e with
      | some l => some (l, [(id, 0, .arr e l)], Nat.beq n l.length)
      | none => none
    | .win id sz lo n => match arrAt hp id e with
      | some l => some ((l.drop lo).take n, [(id, 0, .arr e l)], Nat.beq sz e.size && Nat.ble (lo + n) l.length)
      | none => none
    | _ => none
  | .pair a b, f => match uX hp a f, uX hp b (fun j => f (a.size + j)) with
    | some (x, d, k), some (y, d', k') => some ((x, y), d ++ d', k && k')
    | _, _ => none

theorem uX_spec {hp : Hp} : ∀ {s : Sh} {f : Nat → CS} {x : s.Ty} {d : List Dep}, uX hp s f = some (x, d, true) → decX hp s f = some (x, d) := by
  intro s
  induction s with
  | pair a b iha ihb =>
    intro f x d h
    simp only [uX] at h
    simp only [decX]
    split at h
    · rename_i x1 d1 k1 x2 d2 k2 h1 h2
      simp only [Option.some.injEq, Prod.mk.injEq, Bool.and_eq_true] at h
      obtain ⟨rfl, rfl, rfl, rfl⟩ := h
      rw [iha h1, ihb h2]
    · cases h
  | ls e _ =>
    intro f x d h
    simp only [uX] at h
    simp only [decX]
    split at h
    · split at h
      · cases h; rfl
      · cases h
    · cases h; rfl
    · split at h
      · simp only [Option.some.injEq, Prod.mk.injEq] at h
        obtain ⟨rfl, rfl, h⟩ := h
        simp only [h, cond_true]
      · cases h
    · split at h
      · simp only [Option.some.injEq, Prod.mk.injEq] at h
        obtain ⟨rfl, rfl, h⟩ := h
        simp only [h, cond_true]
      · cases h
    · cases h
  | fl k | int k | cx k =>
    intro f x d h
    simp only [uX] at h
    simp only [decX]
    split at h
    · exact cond_fin h
    · cases h
  | _ =>
    intro f x d h
    simp only [uX] at h
    simp only [decX]
    split at h <;> cases h
    rfl

def uA (hp : Hp) : (a : AS) → List CV1 → Option ((a.Ty × List Dep × List (Nat × CS) × Bool) × List CV1)
  | .nil, cs => some (((), [], [], true), cs)
  | .cons a r, cs => match uA hp a cs with
    | some ((x, d, o, k), cs') => match uA hp r cs' with
      | some ((y, d', o', k'), cs'') => some (((x, y), d ++ d', o ++ o', k && k'), cs'')
      | none => none
    | none => none
  | .one s, cs => match cs with
    | .s c :: rest => bif Nat.beq s.size 1 then (match uX hp s (fun _ => c) with
      | some (x, d, k) => some ((x, d, [], k), rest)
      | none => none) else none
    | _ => none
  | .agg s, cs => match cs with
    | .agg l :: rest => bif Nat.beq l.length s.size then (match uX hp s (fun j => l.getD j .any) with
      | some (x, d, k) => some ((x, d, [], k), rest)
      | none => none) else none
    | _ => none
  | .ptr s, cs => match cs with
    | .s (.ptr id off) :: rest => match readFrom hp id off s.size with
      | some l => bif l.all plain then (match uX hp s (fun j => l.getD j .any) with
        | some (x, d, k) => some ((x, depsOf id off l ++ d, [], k), rest)
        | none => none) else none
      | none => none
    | .s (.ip m f) :: rest => bif Nat.ble s.size m then (match uX hp s f with
      | some (x, d, k) => some ((x, d, [], k), rest)
      | none => none) else none
    | .s (.pe id sz i k) :: rest => match hp id 0 with
      | some (.arr e l) => (match uX hp s (fun j => (cells false e (l.getD i e.dflt)).getD (k + j) .any) with
        | some (x, d, q) => some ((x, (id, 0, .arr e l) :: d, [], ((Nat.beq sz e.size && Nat.blt i l.length) && Nat.ble (k + s.size) e.size) && q), rest)
        | none => none)
      | _ => none
    | _ => none
  | .own e, cs => match cs with
    | .s (.own id n) :: rest => match arrAt hp id e with
      | some l => some ((l, [], [(id, .arr e l)], Nat.beq n l.length), rest)
      | none => none
    | _ => none
  | .fn f c, cs => match cs with
    | .s (.fn (.func f') n cap) :: rest => bif Nat.beq f' f then (match uA hp c ((List.range n).map fun j => .s (cap j)) with
      | some (x, []) => some (x, rest)
      | _ => none) else none
    | _ => none
  | .raw, cs => match cs with
    | .s (.v x) :: rest => some ((x, [], [], true), rest)
    | _ => none

theorem uA_spec {hp : Hp} : ∀ {a : AS} {cs rest : List CV1} {x : a.Ty} {d : List Dep} {o : List (Nat × CS)}, uA hp a cs = some ((x, d, o, true), rest) → decA hp a cs = some ((x, d, o), rest) := by
  intro a
  induction a with
  | nil => intro cs rest x d o h; simp only [uA] at h; cases h; rfl
  | cons a r iha ihr =>
    intro cs rest x d o h
    simp only [uA] at h
    simp only [decA]
    split at h
    · rename_i x1 d1 o1 k1 cs' h1
      split at h
      · rename_i x2 d2 o2 k2 cs'' h2
        simp only [Option.some.injEq, Prod.mk.injEq, Bool.and_eq_true] at h
        obtain ⟨⟨rfl, rfl, rfl, rfl, rfl⟩, rfl⟩ := h
        rw [iha h1]
        simp only
        rw [ihr h2]
      · cases h
    · cases h
  | one s =>
    intro cs rest x d o h
    simp only [uA] at h
    simp only [decA]
    split at h
    · rename_i c rest'
      cases hs : Nat.beq s.size 1 <;> rw [hs] at h
      · cases h
      · simp only [cond_true] at h ⊢
        split at h
        · rename_i x' d' k' h1
          simp only [Option.some.injEq, Prod.mk.injEq] at h
          obtain ⟨⟨rfl, rfl, rfl, rfl⟩, rfl⟩ := h
          rw [uX_spec h1]
        · cases h
    · cases h
  | agg s =>
    intro cs rest x d o h
    simp only [uA] at h
    simp only [decA]
    split at h
    · rename_i l rest'
      cases hs : Nat.beq l.length s.size <;> rw [hs] at h
      · cases h
      · simp only [cond_true] at h ⊢
        split at h
        · rename_i x' d' k' h1
          simp only [Option.some.injEq, Prod.mk.injEq] at h
          obtain ⟨⟨rfl, rfl, rfl, rfl⟩, rfl⟩ := h
          rw [uX_spec h1]
        · cases h
    · cases h
  | ptr s =>
    intro cs rest x d o h
    simp only [uA] at h
    simp only [decA]
    split at h
    · rename_i id off rest'
      split at h
      · rename_i l hl
        cases hs : l.all plain <;> rw [hs] at h
        · cases h
        · simp only [cond_true] at h ⊢
          split at h
          · rename_i x' d' k' h1
            simp only [Option.some.injEq, Prod.mk.injEq] at h
            obtain ⟨⟨rfl, rfl, rfl, rfl⟩, rfl⟩ := h
            rw [uX_spec h1]
          · cases h
      · cases h
    · rename_i m f rest'
      cases hs : Nat.ble s.size m <;> rw [hs] at h
      · cases h
      · simp only [cond_true] at h ⊢
        split at h
        · rename_i x' d' k' h1
          simp only [Option.some.injEq, Prod.mk.injEq] at h
          obtain ⟨⟨rfl, rfl, rfl, rfl⟩, rfl⟩ := h
          rw [uX_spec h1]
        · cases h
    · rename_i id sz i k rest'
      split at h
      · rename_i e l hh
        split at h
        · rename_i x' d' k' h1
          simp only [Option.some.injEq, Prod.mk.injEq] at h
          obtain ⟨⟨rfl, rfl, rfl, h⟩, rfl⟩ := h
          rw [Bool.and_eq_true] at h
          obtain ⟨h2, rfl⟩ := h
          rw [h2, uX_spec h1]
          rfl
        · cases h
      · cases h
    · cases h
  | own e =>
    intro cs rest x d o h
    simp only [uA] at h
    simp only [decA]
    split at h
    · rename_i id n rest'
      split at h
      · simp only [Option.some.injEq, Prod.mk.injEq] at h
        obtain ⟨⟨rfl, rfl, rfl, h⟩, rfl⟩ := h
        simp only [h, cond_true]
      · cases h
    · cases h
  | fn f c ih =>
    intro cs rest x d o h
    simp only [uA] at h
    simp only [decA]
    split at h
    · rename_i f' n cap rest'
      cases hs : Nat.beq f' f <;> rw [hs] at h
      · cases h
      · simp only [cond_true] at h ⊢
        split at h
        · rename_i r h1; cases h
          rw [ih h1]
        · cases h
    · cases h
  | raw =>
    intro cs rest x d o h
    simp only [uA] at h
    simp only [decA]
    split at h
    · cases h; rfl
    · cases h

def asC : Option CV1 → CS
  | some (.s c) => c
  | _ => .any

/-- what is handed, as the function sees it: the values; the arrays that it may write, named from 'k' on -/
def encA : (a : AS) → a.Ty → Nat → List CV1 × List CS
  | .nil, _, _ => ([], [])
  | .cons a r, x, k => ((encA a x.1 k).1 ++ (encA r x.2 (k + a.nOwn)).1, (encA a x.1 k).2 ++ (encA r x.2 (k + a.nOwn)).2)
  | .one s, x, _ => ([.s ((cells true s x).getD 0 .any)], [])
  | .agg s, x, _ => ([.agg (cells true s x)], [])
  | .ptr s, x, _ => ([.s (.ip s.size (fun j => (cells true s x).getD j .any))], [])
  | .own e, l, k => ([.s (.own k l.length)], [.arr e l])
  | .fn f c, x, k => ([.s (.fn (.func f) (encA c x k).1.length (fun j => asC (encA c x k).1[j]?))], (encA c x k).2)
  | .raw, x, _ => ([.s (.v x)], [])

def initTm : List CV1 → Nat → CV
  | [], _ => ex undef
  | c :: _, 0 => .one c
  | _ :: cs, t + 1 => initTm cs t

theorem initTm_lt : ∀ {args : List CV1} {t : Nat} {c : CV1}, args[t]? = some c → initTm args t = .one c
  | [], t, c, h => by simp at h
  | c0 :: cs, 0, c, h => by simp at h; subst h; rfl
  | c0 :: cs, t + 1, c, h => initTm_lt (args := cs) (by simpa using h)
theorem initTm_ge : ∀ {args : List CV1} {t : Nat}, args[t]? = none → initTm args t = ex undef
  | [], t, _ => rfl
  | c0 :: cs, 0, h => by simp at h
  | c0 :: cs, t + 1, h => initTm_ge (args := cs) (by simpa using h)


def initSt (sig : AS) (x : sig.Ty) : St :=
  { tm := initTm (encA sig x 0).1, hp := fun i o => bif Nat.beq o 0 then (encA sig x 0).2[i]? else none, nx := sig.nOwn, lo := sig.nOwn }

/-! ### results -/

/-- data out of the cells of a result: every list in it is a new array; the arrays' names -/
def decF (hp : Hp) : (s : Sh) → (Nat → CS) → Option (s.Ty × List (Option Nat))
  | .fl k, f => match f 0 with
    | .fl k' n => bif eqK k' k then some (n, []) else none
    | _ => none
  | .int k, f => match f 0 with
    | .v (.int k' n) => bif eqI k' k then some (n, []) else none
    | _ => none
  | .bool, f => match f 0 with
    | .v (.bool b) => some (b, [])
    | _ => none
  | .str, f => match f 0 with
    | .v (.string s) => some (s, [])
    | _ => none
  | .cx k, f => match f 0 with
    | .cx k' a b => bif eqK k' k then some ((a, b), []) else none
    | _ => none
  | .ls e, f => match f 0 with
    | .v (.slice none 0 0) => some ([], [none])
    | .own id n => match arrAt hp id e with
      | some l => bif Nat.beq n l.length then some (l, [some id]) else none
      | none => none
    | _ => none
  | .pair a b, f => match decF hp a f, decF hp b (fun j => f (a.size + j)) with
    | some (x, d), some (y, d') => some ((x, y), d ++ d')
    | _, _ => none

def decR (hp : Hp) : (a : AS) → List CV1 → Option ((a.Ty × List (Option Nat)) × List CV1)
  | .nil, cs => some (((), []), cs)
  | .cons a r, cs => match decR hp a cs with
    | some ((x, d), cs') => match decR hp r cs' with
      | some ((y, d'), cs'') => some (((x, y), d ++ d'), cs'')
      | none => none
    | none => none
  | .one s, cs => match cs with
    | .s c :: rest => bif Nat.beq s.size 1 then (match decF hp s (fun _ => c) with
      | some (x, d) => some ((x, d), rest)
      | none => none) else none
    | _ => none
  | .agg s, cs => match cs with
    | .agg l :: rest => bif Nat.beq l.length s.size then (match decF hp s (fun j => l.getD j .any) with
      | some (x, d) => some ((x, d), rest)
      | none => none) else none
    | _ => none
  | .raw, cs => match cs with
    | .s (.v x) :: rest => some ((x, []), rest)
    | _ => none
  | _, _ => none

/-! The same, with what must agree told as a truth. -/

def uF (hp : Hp) : (s : Sh) → (Nat → CS) → Option (s.Ty × List (Option Nat) × Bool)
  | .fl k, f => match f 0 with
    | .fl k' n => bif eqK k' k then some (n, [], true) else none
    | _ => none
  | .int k, f => match f 0 with
    | .v (.int k' n) => bif eqI k' k then some (n, [], true) else none
    | _ => none
  | .bool, f => match f 0 with
    | .v (.bool b) => some (b, [], true)
    | _ => none
  | .str, f => match f 0 with
    | .v (.string s) => some (s, [], true)
    | _ => none
  | .cx k, f => match f 0 with
    | .cx k' a b => bif eqK k' k then some ((a, b), [], true) else none
    | _ => none
  | .ls e, f => match f 0 with
    | .v (.slice none 0 0) => some ([], [none], true)
    | .own id n => match arrAt hp id e with
      | some l => some (l, [some id], Nat.beq n l.length)
      | none => none
    | _ => none
  | .pair a b, f => match uF hp a f, uF hp b (fun j => f (a.size + j)) with
    | some (x, d, k), some (y, d', k') => some ((x, y), d ++ d', k && k')
    | _, _ => none

theorem uF_spec {hp : Hp} : ∀ {s : Sh} {f : Nat → CS} {x : s.Ty} {d : List (Option Nat)}, uF hp s f = some (x, d, true) → decF hp s f = some (x, d) := by
  intro s
  induction s with
  | pair a b iha ihb =>
    intro f x d h
    simp only [uF] at h
    simp only [decF]
    split at h
    · rename_i x1 d1 k1 x2 d2 k2 h1 h2
      simp only [Option.some.injEq, Prod.mk.injEq, Bool.and_eq_true] at h
      obtain ⟨rfl, rfl, rfl, rfl⟩ := h
      rw [iha h1, ihb h2]
    · cases h
  | ls e _ =>
    intro f x d h
    simp only [uF] at h
    simp only [decF]
    split at h
    · cases h; rfl
    · split at h
      · simp only [Option.some.injEq, Prod.mk.injEq] at h
        obtain ⟨rfl, rfl, h⟩ := h
        simp only [h, cond_true]
      · cases h
    · cases h
  | fl k | int k | cx k =>
    intro f x d h
    simp only [uF] at h
    simp only [decF]
    split at h
    · exact cond_fin h
    · cases h
  | _ =>
    intro f x d h
    simp only [uF] at h
    simp only [decF]
    split at h <;> cases h
    rfl

def uR (hp : Hp) : (a : AS) → List CV1 → Option ((a.Ty × List (Option Nat) × Bool) × List CV1)
  | .nil, cs => some (((), [], true), cs)
  | .cons a r, cs => match uR hp a cs with
    | some ((x, d, k), cs') => match uR hp r cs' with
      | some ((y, d', k'), cs'') => some (((x, y), d ++ d', k && k'), cs'')
      | none => none
    | none => none
  | .one s, cs => match cs with
    | .s c :: rest => bif Nat.beq s.size 1 then (match uF hp s (fun _ => c) with
      | some (x, d, k) => some ((x, d, k), rest)
      | none => none) else none
    | _ => none
  | .agg s, cs => match cs with
    | .agg l :: rest => bif Nat.beq l.length s.size then (match uF hp s (fun j => l.getD j .any) with
      | some (x, d, k) => some ((x, d, k), rest)
      | none => none) else none
    | _ => none
  | .raw, cs => match cs with
    | .s (.v x) :: rest => some ((x, [], true), rest)
    | _ => none
  | _, _ => none

theorem uR_spec {hp : Hp} : ∀ {a : AS} {cs rest : List CV1} {x : a.Ty} {d : List (Option Nat)}, uR hp a cs = some ((x, d, true), rest) → decR hp a cs = some ((x, d), rest) := by
  intro a
  induction a with
  | nil => intro cs rest x d h; simp only [uR] at h; cases h; rfl
  | cons a r iha ihr =>
    intro cs rest x d h
    simp only [uR] at h
    simp only [decR]
    split at h
    · rename_i x1 d1 k1 cs' h1
      split at h
      · rename_i x2 d2 k2 cs'' h2
        simp only [Option.some.injEq, Prod.mk.injEq, Bool.and_eq_true] at h
        obtain ⟨⟨rfl, rfl, rfl, rfl⟩, rfl⟩ := h
        rw [iha h1]
        simp only
        rw [ihr h2]
      · cases h
    · cases h
  | one s =>
    intro cs rest x d h
    simp only [uR] at h
    simp only [decR]
    split at h
    · rename_i c rest'
      cases hs : Nat.beq s.size 1 <;> rw [hs] at h
      · cases h
      · simp only [cond_true] at h ⊢
        split at h
        · rename_i x' d' k' h1
          simp only [Option.some.injEq, Prod.mk.injEq] at h
          obtain ⟨⟨rfl, rfl, rfl⟩, rfl⟩ := h
          rw [uF_spec h1]
        · cases h
    · cases h
  | agg s =>
    intro cs rest x d h
    simp only [uR] at h
    simp only [decR]
    split at h
    · rename_i l rest'
      cases hs : Nat.beq l.length s.size <;> rw [hs] at h
      · cases h
      · simp only [cond_true] at h ⊢
        split at h
        · rename_i x' d' k' h1
          simp only [Option.some.injEq, Prod.mk.injEq] at h
          obtain ⟨⟨rfl, rfl, rfl⟩, rfl⟩ := h
          rw [uF_spec h1]
        · cases h
    · cases h
  | raw =>
    intro cs rest x d h
    simp only [uR] at h
    simp only [decR]
    split at h
    · cases h; rfl
    · cases h
  | _ => intro cs rest x d h; cases h

/-- the cells of a result, its arrays named from 'k' on; the arrays -/
def encC : (s : Sh) → s.Ty → Nat → List CS × List CS
  | .ls e, l, k => ([.own k l.length], [.arr e l])
  | .pair a b, x, k => ((encC a x.1 k).1 ++ (encC b x.2 (k + (encC a x.1 k).2.length)).1, (encC a x.1 k).2 ++ (encC b x.2 (k + (encC a x.1 k).2.length)).2)
  | s, x, _ => (cells false s x, [])

def encR : (a : AS) → a.Ty → Nat → List CV1 × List CS
  | .nil, _, _ => ([], [])
  | .cons a r, x, k => ((encR a x.1 k).1 ++ (encR r x.2 (k + (encR a x.1 k).2.length)).1, (encR a x.1 k).2 ++ (encR r x.2 (k + (encR a x.1 k).2.length)).2)
  | .one s, x, k => ([.s ((encC s x k).1.getD 0 .any)], (encC s x k).2)
  | .agg s, x, k => ([.agg (encC s x k).1], (encC s x k).2)
  | .raw, x, _ => ([.s (.v x)], [])
  | _, _, _ => ([], [])

def resOf (P : Program) (s : St) : ResultVar → Option CV
  | .tmp t => some (s.tm t)
  | .cell a T =>
    match tyShape P T with
    | some (ag, n) => match s.tm a with
      | .one (.s (.ptr id off)) => match readFrom s.hp id off n with
        | some cs => bif cs.all plain then mkVal ag cs else none
        | none => none
      | _ => none
    | none => none

def resList (P : Program) (s : St) : List ResultVar → Option (List CV1)
  | [] => some []
  | r :: rs => match resOf P s r with
    | some (.one c) => match resList P s rs with
      | some cs => some (c :: cs)
      | none => none
    | _ => none

def retCV : List CV1 → CV
  | [c] => .one c
  | cs => .tup cs


def someIds : List (Option Nat) → List Nat
  | [] => []
  | some i :: r => i :: someIds r
  | none :: r => someIds r

def memB (x : Nat) : List Nat → Bool
  | [] => false
  | y :: ys => Nat.beq x y || memB x ys
def nodupB : List Nat → Bool
  | [] => true
  | x :: xs => !memB x xs && nodupB xs

/-- what the arrays that it may write hold -/
def wrOut (hp : Hp) : Nat → Nat → Option (List CS)
  | 0, _ => some []
  | n + 1, i => match hp i 0, wrOut hp n (i + 1) with
    | some (.arr e l), some cs => some (.arr e l :: cs)
    | _, _ => none

/-- the end of a body: the results -/
def retS (P : Program) (rs : List ResultVar) (ra : AS) (n : Nat) (s : St) : Tr (ra.Ty × List CS) :=
  match resList P s rs with
  | some cs => match decR s.hp ra cs with
    | some ((r, ids), []) => bif (someIds ids).all (fun i => Nat.ble n i) && nodupB (someIds ids) then (match wrOut s.hp n 0 with
      | some ws => some (r, ws)
      | none => none) else none
    | _ => none
  | none => none
/-- the same, with what must agree told as a truth -/
def retU (P : Program) (rs : List ResultVar) (ra : AS) (n : Nat) (s : St) : Tr (ra.Ty × List CS) :=
  match resList P s rs with
  | some cs => match uR s.hp ra cs with
    | some ((r, ids, k), []) => bif (someIds ids).all (fun i => Nat.ble n i) && nodupB (someIds ids) then (match wrOut s.hp n 0 with
      | some ws => brT k (some (r, ws)) none
      | none => none) else none
    | _ => none
  | none => none

theorem retU_spec {P : Program} {rs : List ResultVar} {ra : AS} {n : Nat} {s : St} {v : ra.Ty × List CS} (h : retU P rs ra n s = some v) : retS P rs ra n s = some v := by
  unfold retU at h
  unfold retS
  split at h
  · rename_i cs hcs
    split at h
    · rename_i r ids k hr
      cases hc : ((someIds ids).all (fun i => Nat.ble n i) && nodupB (someIds ids)) <;> rw [hc] at h
      · cases h
      · simp only [cond_true] at h
        split at h
        · rename_i ws _
          have hbr := brT_req h; clear h; obtain ⟨rfl, h⟩ := hbr
          rw [uR_spec hr]
          simp only [hc, cond_true]
          exact h
        · cases h
    · cases h
  · cases h

def retK (P : Program) (rs : List ResultVar) (ra : AS) (n : Nat) : Exit → St → Tr (ra.Ty × List CS)
  | .normal, s => retU P rs ra n s
  | .ret, s => retU P rs ra n s
  | _, _ => none

def zipW : List (Nat × CS) → List CS → List Dep
  | (id, _) :: o, c :: cs => (id, 0, c) :: zipW o cs
  | _, _ => []

/-- a contract in shapes -/
def mkSpec (sig ra : AS) (pre : sig.Ty → Bool) (p : sig.Ty → ra.Ty × List CS) : FSpec := fun hp args =>
  match uA hp sig args with
  | some ((x, d, o, k), []) => bif nodupB (o.map (·.1)) && d.all (fun q => !memB q.1 (o.map (·.1))) then
      some { pre := k && pre x, cv := retCV (encR ra (p x).1 0).1, nw := (encR ra (p x).1 0).2, rd := d ++ o.map (fun q => (q.1, 0, q.2)), wr := zipW o (p x).2 } else none
  | _ => none

section
variable {P : Program}

def resSem (a : Act) : ResultVar → Sem Value
  | .tmp t => pure (a.tmps.getD t undef)
  | .cell x t => do loadVar t (← asAddr (a.tmps.getD x undef))

theorem run_res {X : Fr} {w0 : World} {n : Nat} {s : St} {g : Gh} {a : Act} {w : World} (hs : Sim X w0 n s g a w) {r : ResultVar} {cv : CV} (h : resOf P s r = some cv) :
    ∃ v, (resSem a r).run P w = .ok v w ∧ relV g cv v := by
  cases r with
  | tmp t => cases h; exact ⟨_, rfl, hs.tm t⟩
  | cell x T =>
    simp only [resOf] at h
    split at h
    · rename_i ag n' hsh
      split at h
      · rename_i id off hx
        split at h
        · rename_i cs hr
          have hl := readFrom_length hr
          subst hl
          cases hpl : cs.all plain
          · rw [hpl] at h; cases h
          rw [hpl, cond_true] at h
          have hxa := hs.tm x
          rw [hx] at hxa
          obtain ⟨b, hb, he⟩ := hxa
          have hcell : ∀ (j : Nat) c, cs[j]? = some c → ∃ arr T u, w.heap[b]? = some (.cells arr T (0, 0)) ∧ arr[off + j]? = some u ∧ rel g c u := fun j c hj => by
            obtain ⟨b', arr, T, u, h1, h2, h3, h4⟩ := plainCell (List.all_eq_true.1 hpl c (List.mem_of_getElem? hj)) (hs.cells _ _ _ (readFrom_get hr j c hj))
            rw [hb] at h1; cases h1
            exact ⟨arr, T, u, h2, h3, h4⟩
          have hex : ∃ arr T', (0 < cs.length → w.heap[b]? = some (.cells arr T' (0, 0))) ∧ ∀ (j : Nat) c, cs[j]? = some c → ∃ u, arr[off + j]? = some u ∧ rel g c u := by
            cases cs with
            | nil => exact ⟨#[], 0, by simp, fun j c hj => by simp at hj⟩
            | cons c0 cs' =>
              obtain ⟨arr, T', u, h2, h3, h4⟩ := hcell 0 c0 rfl
              refine ⟨arr, T', fun _ => h2, fun j c hj => ?_⟩
              obtain ⟨arr', T'', u', h2', h3', h4'⟩ := hcell j c hj
              rw [h2] at h2'; cases h2'
              exact ⟨u', h3', h4'⟩
          obtain ⟨arr, T', hb', hcc⟩ := hex
          obtain ⟨v, hrun, hrel⟩ := run_load_at (P := P) w hsh h hb' hcc
          refine ⟨v, ?_, hrel⟩
          simp only [resSem, he, asAddr, Sem.run_bind, Sem.run_pure, Result.andThen_ok]
          simpa [Instr.loadAt, Instr.sureAddr] using hrun
        · cases h
      · cases h
    · cases h

theorem run_resList {X : Fr} {w0 : World} {n : Nat} {s : St} {g : Gh} {a : Act} {w : World} (hs : Sim X w0 n s g a w) : ∀ {rs : List ResultVar} {cs : List CV1}, resList P s rs = some cs →
    ∃ vs : List Value, (rs.mapM (resSem a)).run P w = .ok vs w ∧
      vs.length = cs.length ∧ ∀ (j : Nat) c u, cs[j]? = some c → vs[j]? = some u → rel1 g c u
  | [], cs, h => by simp only [resList] at h; cases h; exact ⟨[], by simp, rfl, fun j c u h => by simp at h⟩
  | r :: rs, cs, h => by
    simp only [resList] at h
    split at h
    · rename_i c hc
      split at h
      · rename_i cs' hcs; cases h
        obtain ⟨v, h1, h2⟩ := run_res hs hc
        obtain ⟨vs, h3, h4, h5⟩ := run_resList hs hcs
        refine ⟨v :: vs, ?_, by simp [h4], fun j c' u h6 h7 => ?_⟩
        · simp only [List.mapM_cons, Sem.run_bind, h1, Result.andThen_ok, h3, Sem.run_pure]
        · cases j with
          | zero => simp at h6 h7; subst h6 h7; exact h2
          | succ j => exact h5 j c' u (by simpa using h6) (by simpa using h7)
      · cases h
    · cases h

theorem run_results {X : Fr} {w0 : World} {n : Nat} {s : St} {g : Gh} {a : Act} {w : World} (hs : Sim X w0 n s g a w) {fn : Func} {cs : List CV1} (h : resList P s fn.results.toList = some cs) :
    ∃ v, (results fn a.tmps).run P w = .ok v w ∧ relV g (retCV cs) v := by
  obtain ⟨vs, h1, h2, h3⟩ := run_resList hs h
  refine ⟨if h : vs.toArray.size = 1 then vs.toArray[0] else .tuple vs.toArray, ?_, ?_⟩
  · have e : results fn a.tmps = (do
        let vs ← fn.results.mapM (resSem a)
        pure (if h : vs.size = 1 then vs[0] else .tuple vs)) := by
      unfold results
      congr 2
    rw [e, Array.mapM_eq_mapM_toList]
    simp only [Sem.run_bind, Sem.run_map]
    rw [h1]
    rfl
  · match cs, vs, h2 with
    | [c], [v], _ => exact h3 0 c v rfl rfl
    | [], [], _ => exact ⟨#[], rfl, rfl, fun j c u h => by simp at h⟩
    | c1 :: c2 :: cs, v1 :: v2 :: vs, hl =>
      have : ¬ (v1 :: v2 :: vs).toArray.size = 1 := by simp
      rw [dif_neg this]
      exact ⟨_, rfl, by simpa using hl, fun j c u h4 h5 => h3 j c u h4 (by simpa using h5)⟩


end
end Go.Dv
