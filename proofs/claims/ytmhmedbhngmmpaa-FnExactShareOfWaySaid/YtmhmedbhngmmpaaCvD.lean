/- One operation on canonical values ('cop'), and that the model's operation does just that. -/
import Derived.Test.YtmhmedbhngmmpaaCvC
namespace Go.Cv
open Go.RowKit

abbrev Hp := Nat → Nat → Option CS
/-- may it be called so; what it gives; the cells that it reads through pointers -/
abbrev FSpec := Hp → List CV1 → Option (Bool × CV × List (Nat × Nat × CS))

inductive Eff where
  | val (cv : CV) (deps : List (Nat × Nat × CS))
  | new (cs : List CS)
  | put (id off : Nat) (cs : List CS)

def CellRel (g : Gh) (w : World) (id off : Nat) (c : CS) : Prop :=
  ∃ b arr T u, g.β id = some b ∧ w.heap[b]? = some (.cells arr T (0, 0)) ∧ arr[off]? = some u ∧ rel g c u

structure WOk (w0 : World) (g : Gh) (w : World) : Prop where
  below : Below w0.heap.size w0 w
  im : ∀ k o, g.im k = some o → w.heap[k]? = some o
  inj : ∀ i j b, g.β i = some b → g.β j = some b → i = j
  fresh : ∀ i b, g.β i = some b → w0.heap.size ≤ b ∧ b < w.heap.size ∧ g.im b = none
  fz : ∀ k c t fr, w0.heap.size ≤ k → w.heap[k]? = some (.cells c t fr) → fr = (0, 0)

structure After (w0 : World) (g : Gh) (w : World) (g' : Gh) (w' : World) : Prop where
  le : g.le g'
  β : g'.β = g.β
  ok : WOk w0 g' w'
  size : w.heap.size ≤ w'.heap.size
  same : ∀ k, k < w.heap.size → w'.heap[k]? = w.heap[k]?

theorem fz_push {w0 : World} {w : World} (h : ∀ k c t fr, w0.heap.size ≤ k → w.heap[k]? = some (.cells c t fr) → fr = (0, 0)) (arr : Array Value) (T : TypeId) :
    ∀ k c t fr, w0.heap.size ≤ k → (w.alloc (.cells arr T)).heap[k]? = some (.cells c t fr) → fr = (0, 0) := by
  intro k c t fr hk hc
  by_cases e : k = w.heap.size
  · subst e
    have : (w.alloc (.cells arr T)).heap[w.heap.size]? = some (.cells arr T (0, 0)) := by
      show (w.heap.push _)[w.heap.size]? = _
      simp
    rw [this] at hc; cases hc; rfl
  · rcases Nat.lt_or_ge k w.heap.size with h1 | h1
    · rw [Below.heap_alloc _ _ _ h1] at hc; exact h k c t fr hk hc
    · have : (w.alloc (.cells arr T)).heap[k]? = none := by
        show (w.heap.push _)[k]? = _
        rw [Array.getElem?_eq_none (by simp; omega)]
      rw [this] at hc; cases hc
theorem WOk.drewN {w0 : World} {g : Gh} {w : World} (h : WOk w0 g w) (n : Nat) : WOk w0 g (w.drewN n) :=
  ⟨below_drewN h.below n, h.im, h.inj, h.fresh, h.fz⟩

theorem After.refl {w0 : World} {g : Gh} {w : World} (h : WOk w0 g w) : After w0 g w g w :=
  ⟨g.le_refl, rfl, h, Nat.le_refl _, fun _ _ => rfl⟩
theorem After.drewN {w0 : World} {g : Gh} {w : World} (h : WOk w0 g w) (n : Nat) : After w0 g w g (w.drewN n) :=
  ⟨g.le_refl, rfl, h.drewN n, Nat.le_refl _, fun _ _ => rfl⟩
theorem After.trans {w0 : World} {g g' g'' : Gh} {w w' w'' : World} (h : After w0 g w g' w') (k : After w0 g' w' g'' w'') : After w0 g w g'' w'' :=
  ⟨Gh.le_trans h.le k.le, k.β.trans h.β, k.ok, Nat.le_trans h.size k.size, fun i hi => (k.same i (by have := h.size; omega)).trans (h.same i hi)⟩

theorem CellRel.after {w0 : World} {g g' : Gh} {w w' : World} (h : After w0 g w g' w') (hw : WOk w0 g w) {id off : Nat} {c : CS} (hc : CellRel g w id off c) : CellRel g' w' id off c := by
  obtain ⟨b, arr, T, u, hb, hh, ha, hr⟩ := hc
  exact ⟨b, arr, T, u, by rw [h.β]; exact hb, by rw [h.same b (hw.fresh _ _ hb).2.1]; exact hh, ha, rel_mono h.le _ _ hr⟩

/-- what a call of function 'f' does -/
def CallOk (P : Program) (f : FuncId) (vals : Array Value) (w : World) (R : Value → World → Prop) : Prop :=
  match (callFunc f vals).run P w with
  | .ok (.value v) w' => R v w'
  | .ok (.enter f' args') w' => Calls P f' args' w' (fun e w'' => ∃ v, e = .returned v ∧ R v w'')
  | _ => False

/-- the contract of a function: a plain Lean function on canonical values (and on the cells that a pointer among them leads to) -/
def OkFn (P : Program) (f : FuncId) (S : FSpec) : Prop :=
  ∀ hp args cv deps, S hp args = some (true, cv, deps) → (∀ d ∈ deps, hp d.1 d.2.1 = some d.2.2) ∧
    ∀ g w0 w (vals : Array Value), vals.size = args.length → (∀ (j : Nat) c u, args[j]? = some c → vals[j]? = some u → rel1 g c u) →
      (∀ d ∈ deps, CellRel g w d.1 d.2.1 d.2.2) → WOk w0 g w →
      CallOk P f vals w (fun v w' => ∃ g', After w0 g w g' w' ∧ relV g' cv v)

/-- the contracts at hand -/
abbrev CEnv := FuncId → Option FSpec
def GoodC (P : Program) (Γ : CEnv) : Prop := ∀ f S, Γ f = some S → OkFn P f S

/-! ### reading and building -/

def readFrom (hp : Hp) (id off : Nat) : Nat → Option (List CS)
  | 0 => some []
  | n + 1 =>
    match hp id off with
    | some c =>
      match readFrom hp id (off + 1) n with
      | some cs => some (c :: cs)
      | none => none
    | none => none

def depsOf (id off : Nat) : List CS → List (Nat × Nat × CS)
  | [] => []
  | c :: cs => (id, off, c) :: depsOf id (off + 1) cs

def mkVal (ag : Bool) (cs : List CS) : Option CV :=
  match ag with
  | true => some (.one (.agg cs))
  | false => match cs with
    | [c] => some (.one (.s c))
    | _ => none

/-- is the type a struct or an array; how many cells has it -/
def tyShape (P : Program) (T : TypeId) : Option (Bool × Nat) :=
  match P.underlying T, P.info? T with
  | some (.struct _), some i => some (true, i.size)
  | some (.array _ _), some i => some (true, i.size)
  | some _, some i => some (false, i.size)
  | _, _ => none

def zeroCells (P : Program) (T : TypeId) : Option (List CS) :=
  match P.info? T with
  | some i => match i.zero with
    | some z => some (z.cells.toList.map ofCell)
    | none => none
  | none => none

def fieldOff (P : Program) (T f : Nat) : Option Nat :=
  match P.underlying T with
  | some (.struct fields) => match fields[f]? with
    | some fd => match P.info? fd.type with
      | some i => if i.size = 0 then none else some fd.offset
      | none => none
    | none => none
  | _ => none

/-- a field of a struct value: where, whether it is a struct, how many cells -/
def fieldPart (P : Program) (T f : Nat) : Option (Nat × Bool × Nat) :=
  match P.underlying T with
  | some (.struct fields) => match fields[f]? with
    | some fd => match tyShape P fd.type with
      | some (ag, n) => some (fd.offset, ag, n)
      | none => none
    | none => none
  | _ => none

/-- where the parts of a struct lie -/
def placesOf (P : Program) (T : TypeId) : Option (List (Nat × Nat)) :=
  match P.underlying T with
  | some (.struct fields) => fields.toList.mapM (fun f => (P.info? f.type).map fun i => (f.offset, i.size))
  | _ => none

def over (cells : List CS) (off : Nat) (cs : List CS) : List CS := cells.take off ++ cs ++ cells.drop (off + cs.length)

def fillC (places : List (Nat × Nat)) (cells : List CS) : List (Nat × List CS) → Option (List CS)
  | [] => some cells
  | (i, cs) :: rest =>
    match places[i]? with
    | some (off, size) => if cs.length = size ∧ off + cs.length ≤ cells.length then fillC places (over cells off cs) rest else none
    | none => none

def partsOf (ev : Operand → CV) : List (Nat × Operand) → Option (List (Nat × List CS))
  | [] => some []
  | (i, x) :: rest =>
    match cellsOf (ev x) with
    | some cs => if cs.all plain then
        match partsOf ev rest with
        | some ps => some ((i, cs) :: ps)
        | none => none
      else none
    | none => none

def tyFloat (P : Program) (T : TypeId) : Option FloatKind :=
  match P.underlying T with | some (.float k) => some k | _ => none
def tyInt (P : Program) (T : TypeId) : Option IntKind :=
  match P.underlying T with | some (.int k) => some k | _ => none
def tyKnown (P : Program) (T : TypeId) : Bool := (P.underlying T).isSome
/-- a slice's element: how many cells -/
def tyElem (P : Program) (T : TypeId) : Option Nat :=
  match P.underlying T with
  | some (.slice e) => match P.info? e with | some i => some i.size | none => none
  | _ => none
/-- the zero cells of a slice's element -/
def zeroElem (P : Program) (T : TypeId) : Option (List CS) :=
  match P.underlying T with
  | some (.slice e) => zeroCells P e
  | _ => none
def tySlice (P : Program) (T : TypeId) : Bool := match P.underlying T with | some (.slice _) => true | _ => false
def tyString (P : Program) (T : TypeId) : Bool := match P.underlying T with | some .string => true | _ => false

def argsOf : List CV → Option (List CV1)
  | [] => some []
  | .one c :: rest => match argsOf rest with
    | some cs => some (c :: cs)
    | none => none
  | _ :: _ => none

def scalarsOf : List CV → Option (List CS)
  | [] => some []
  | .one (.s c) :: rest => match scalarsOf rest with
    | some cs => some (c :: cs)
    | none => none
  | _ :: _ => none

/-- a result that is exact -/
def ex (x : Value) : CV := .one (.s (.v x))
def exB (b : Bool) : CV := ex (.bool b)
def exI (n : Int) : CV := ex (.int .i64 n)
def fl (k : FloatKind) (n : Nat) : CV := .one (.s (.fl k n))

/-- the operations on floats, as variables: so that nothing looks into them -/
structure FOps where
  bin : BinOp → FloatKind → Nat → Nat → Nat
  cmp : BinOp → FloatKind → Nat → Nat → Bool
  neg : FloatKind → Nat → Nat
  wid : Nat → Nat
  nar : Nat → Nat
  narOk : Nat → Bool
  ofi : FloatKind → Int → Nat
  toi : FloatKind → Nat → IntKind → Int
  toiOk : FloatKind → Nat → IntKind → Bool
  abs : Nat → Nat
  floor : Nat → Nat
  trunc : Nat → Nat
  sqrt : Nat → Nat

/-- an integer's float -/
def fofi (k : FloatKind) (n : Int) : Nat := cn k (floatOfInt k n)
def fwid (n : Nat) : Nat := (fconv .f32 n .f64).getD 0
def fnar (n : Nat) : Nat := (fconv .f64 n .f32).getD 0
def fnarOk (n : Nat) : Bool := (fconv .f64 n .f32).isSome
def ftoiV (s : FloatKind) (n : Nat) (k : IntKind) : Int := (ftoi s n k).getD 0
def ftoiOk (s : FloatKind) (n : Nat) (k : IntKind) : Bool := (ftoi s n k).isSome

def fabs (n : Nat) : Nat := if isNan .f64 n then nanOf .f64 else n % 2 ^ 63
/-- the true ones -/
def R : FOps := { bin := fbin, cmp := fun op k a b => (fcmp op k a b).getD false, neg := fneg, wid := fwid, nar := fnar, narOk := fnarOk, ofi := fofi, toi := ftoiV, toiOk := ftoiOk, abs := fabs, floor := ffloor .down, trunc := ffloor .zero, sqrt := fsqrt }

/-- a way, or none -/
abbrev Tr := Option CV
def brT (t : Bool) (A B : Tr) : Tr :=
  match t with
  | true => A
  | false => B
theorem brT_some {t : Bool} {A B : Tr} {cv : CV} (h : brT t A B = some cv) : (t = true ∧ A = some cv) ∨ (t = false ∧ B = some cv) := by
  cases t
  · exact .inr ⟨rfl, h⟩
  · exact .inl ⟨rfl, h⟩
theorem brT_req {t : Bool} {A : Tr} {cv : CV} (h : brT t A none = some cv) : t = true ∧ A = some cv := by
  cases t
  · cases h
  · exact ⟨rfl, h⟩

def isCmp : BinOp → Bool
  | .eql | .neq | .lss | .leq | .gtr | .geq => true
  | _ => false

def intBin (op : BinOp) (k : IntKind) (a b : Int) (K : Value → Tr) : Tr :=
  match op with
  | .add => K (.int k (k.wrap (a + b)))
  | .sub => K (.int k (k.wrap (a - b)))
  | .mul => K (.int k (k.wrap (a * b)))
  | .quo => brT (b == 0) none (K (.int k (k.wrap (a.tdiv b))))
  | .rem => brT (b == 0) none (K (.int k (a.tmod b)))
  | .eql => K (.bool (a == b))
  | .neq => K (.bool (a != b))
  | .lss => K (.bool (decide (a < b)))
  | .leq => K (.bool (decide (a ≤ b)))
  | .gtr => K (.bool (decide (a > b)))
  | .geq => K (.bool (decide (a ≥ b)))
  | .and => K (.int k (bits .and k a b))
  | .or => K (.int k (bits .or k a b))
  | .xor => K (.int k (bits .xor k a b))
  | .andNot => K (.int k (bits .andNot k a b))
  | _ => none

def shiftBin (op : BinOp) (k : IntKind) (a b : Int) (K : Value → Tr) : Tr :=
  match op with
  | .shl => brT (decide (0 ≤ b) && decide (b ≤ k.bits)) (K (.int k (k.wrap (a * 2 ^ b.toNat)))) none
  | .shr => brT (decide (0 ≤ b) && decide (b ≤ k.bits)) (K (.int k (a / 2 ^ b.toNat))) none
  | _ => none

def isShift : BinOp → Bool
  | .shl | .shr => true
  | _ => false

def boolBin (op : BinOp) (a b : Bool) (K : Value → Tr) : Tr :=
  match op with
  | .eql => K (.bool (a == b))
  | .neq => K (.bool (a != b))
  | _ => none

def tyBool (P : Program) (T : TypeId) : Bool := match P.underlying T with | some .bool => true | _ => false

def eqK : FloatKind → FloatKind → Bool
  | .f32, .f32 => true
  | .f64, .f64 => true
  | _, _ => false
theorem eqK_spec {a b : FloatKind} (h : eqK a b = true) : a = b := by cases a <;> cases b <;> first | rfl | cases h
def eqI : IntKind → IntKind → Bool
  | .i8, .i8 | .i16, .i16 | .i32, .i32 | .i64, .i64 | .u8, .u8 | .u16, .u16 | .u32, .u32 | .u64, .u64 => true
  | _, _ => false
theorem eqI_spec {a b : IntKind} (h : eqI a b = true) : a = b := by cases a <;> cases b <;> first | rfl | cases h

def cbin (M : FOps) (P : Program) (op : BinOp) (T : TypeId) (x y : CV) (K : Eff → Tr) : Tr :=
  match x, y with
  | .one (.s (.fl k a)), .one (.s (.fl k' b)) =>
    brT (eqK k k') (match arith op with
      | true => K (.val (fl k (M.bin op k a b)) [])
      | false => match isCmp op with
        | true => K (.val (exB (M.cmp op k a b)) [])
        | false => none) none
  | .one (.s (.v (.int k a))), .one (.s (.v (.int k' b))) =>
    match isShift op with
    | true => shiftBin op k a b fun v => K (.val (ex v) [])
    | false => brT (eqI k k') (intBin op k a b fun v => K (.val (ex v) [])) none
  | .one (.s (.v (.bool a))), .one (.s (.v (.bool b))) => brT (tyBool P T) (boolBin op a b fun v => K (.val (ex v) [])) none
  | _, _ => none

def cun (M : FOps) (op : UnOp) (x : CV) (K : Eff → Tr) : Tr :=
  match op, x with
  | .not, .one (.s (.v (.bool b))) => K (.val (exB !b) [])
  | .neg, .one (.s (.fl k a)) => K (.val (fl k (M.neg k a)) [])
  | .neg, .one (.s (.v (.int k a))) => K (.val (ex (.int k (k.wrap (0 - a)))) [])
  | _, _ => none

def cconv (M : FOps) (P : Program) (src dst : TypeId) (x : CV) (K : Eff → Tr) : Tr :=
  brT (tyKnown P src) (match x with
  | .one (.s (.fl s a)) =>
    match tyFloat P dst with
    | some k => match s, k with
      | .f32, .f64 => K (.val (fl .f64 (M.wid a)) [])
      | .f64, .f32 => brT (M.narOk a) (K (.val (fl .f32 (M.nar a)) [])) none
      | .f32, .f32 => K (.val (fl .f32 a) [])
      | .f64, .f64 => K (.val (fl .f64 a) [])
    | none => match tyInt P dst with
      | some k => brT (M.toiOk s a k) (K (.val (ex (.int k (M.toi s a k))) [])) none
      | none => none
  | .one (.s (.v (.int _ n))) =>
    match tyFloat P dst with
    | some k => K (.val (fl k (M.ofi k n)) [])
    | none => match tyInt P dst with
      | some k => K (.val (ex (.int k (k.wrap n))) [])
      | none => none
  | _ => none) none

def cbuiltin (P : Program) (b : Builtin) (argTypes : Array TypeId) (args : List CV) (K : Eff → Tr) : Tr :=
  match b, args with
  | .len, [.one (.s (.sl n _ _))] => brT (match argTypes[0]? with | some T => tySlice P T | none => false) (K (.val (exI n) [])) none
  | .len, [.one (.s (.v (.string s)))] => brT (match argTypes[0]? with | some T => tyString P T | none => false) (K (.val (exI s.size) [])) none
  | .real, [.one (.s (.cx k a _))] => K (.val (fl k a) [])
  | .imag, [.one (.s (.cx k _ b))] => K (.val (fl k b) [])
  | .complex, [.one (.s (.fl k a)), .one (.s (.fl k' b))] => brT (eqK k k') (K (.val (.one (.s (.cx k a b))) [])) none
  | _, _ => none

def ccall (P : Program) (Γ : CEnv) (s : St) (c : Call) (K : Eff → Tr) : Tr :=
  match c.callee with
  | .value f =>
    match s.ev f with
    | .one (.s (.fn (.func g) n cap)) =>
      match argsOf (c.args.toList.map s.ev) with
      | some args =>
        match Γ g with
        | some S =>
          match S s.hp (args ++ (List.range n).map (fun j => .s (cap j))) with
          | some (pre, cv, deps) => brT pre (K (.val cv deps)) none
          | none => none
        | none => none
      | none => none
    | _ => none
  | .builtin b => cbuiltin P b c.argTypes (c.args.toList.map s.ev) K
  | _ => none

def cop (M : FOps) (P : Program) (Γ : CEnv) (o : Op) (s : St) (K : Eff → Tr) : Tr :=
  match o with
  | .move x => K (.val (s.ev x) [])
  | .assign x => K (.val (s.ev x) [])
  | .pick c a b =>
    match s.ev c with
    | .one (.s (.v (.bool t))) => brT t (K (.val (s.ev a) [])) (K (.val (s.ev b) []))
    | _ => none
  | .alloc T => match zeroCells P T with
    | some cs => K (.new cs)
    | none => none
  | .box _ x => match cellsOf (s.ev x) with
    | some cs => brT (cs.all plain) (K (.new cs)) none
    | none => none
  | .build T parts =>
    match placesOf P T, zeroCells P T, partsOf s.ev parts.toList with
    | some places, some z, some ps => match fillC places z ps with
      | some cs => K (.val (.one (.agg cs)) [])
      | none => none
    | _, _, _ => none
  | .load T a =>
    match tyShape P T with
    | some (ag, n) => match s.ev a with
      | .one (.s (.ptr id off)) => match readFrom s.hp id off n with
        | some cs => match mkVal ag cs with
          | some v => K (.val v (depsOf id off cs))
          | none => none
        | none => none
      | .one (.s (.ip m f)) => brT (Nat.ble n m) (match mkVal ag ((List.range n).map f) with
        | some v => K (.val v [])
        | none => none) none
      | _ => none
    | none => none
  | .store T a x =>
    match tyShape P T with
    | some (_, n) => match s.ev a with
      | .one (.s (.ptr id off)) => match cellsOf (s.ev x) with
        | some cs => brT ((Nat.blt 0 n && Nat.beq cs.length n) && (cs.all plain && (readFrom s.hp id off n).isSome)) (K (.put id off cs)) none
        | none => none
      | _ => none
    | none => none
  | .fieldAddr T x f =>
    match fieldOff P T f with
    | some k => match s.ev x with
      | .one (.s (.ptr id off)) => K (.val (.one (.s (.ptr id (off + k)))) [])
      | .one (.s (.ip m h)) => K (.val (.one (.s (.ip (m - k) (fun j => h (k + j))))) [])
      | _ => none
    | none => none
  | .field T x f =>
    match fieldPart P T f with
    | some (off, ag, n) => match s.ev x with
      | .one (.agg cs) => brT (Nat.ble (off + n) cs.length) (match mkVal ag ((cs.drop off).take n) with
        | some v => K (.val v [])
        | none => none) none
      | _ => none
    | none => none
  | .nilCheck x =>
    match s.ev x with
    | .one (.s (.ptr id off)) => K (.val (.one (.s (.ptr id off))) [])
    | .one (.s (.ip n f)) => K (.val (.one (.s (.ip n f))) [])
    | _ => none
  | .binOp op T x y _ => cbin M P op T (s.ev x) (s.ev y) K
  | .unOp op _ x => cun M op (s.ev x) K
  | .convert src dst x => cconv M P src dst (s.ev x) K
  | .indexAddr T x i =>
    match tyElem P T with
    | some sz => match s.ev x with
      | .one (.s (.sl n size f)) => match s.ev i with
        | .one (.s (.v (.int _ i))) => brT (Nat.beq size sz && (decide (0 ≤ i) && decide (i < (n : Int)))) (K (.val (.one (.s (.ip (n * size - i.toNat * size) (fun j => f (i.toNat * size + j))))) [])) none
        | _ => none
      | _ => none
    | none => none
  | .extract t i =>
    match s.ev t with
    | .tup vs => match vs[i]? with
      | some v => K (.val (.one v) [])
      | none => none
    | _ => none
  | .buildSlice T len parts =>
    match tyElem P T, zeroElem P T, partsOf s.ev parts.toList with
    | some size, some z, some ps =>
      brT ((Nat.blt 0 size && Nat.blt 0 len) && (Nat.ble (len * size) 16777216 && Nat.beq z.length size)) (match fillC ((List.range len).map fun i => (i * size, size)) ((List.range len).flatMap fun _ => z) ps with
      | some cs => K (.val (.one (.s (.sl len size (fun j => cs.getD j .any)))) [])
      | none => none) none
    | _, _, _ => none
  | .makeFunc fn first captured =>
    match fn with
    | .func g => brT (Nat.beq first.size 0) (match scalarsOf (captured.toList.map s.ev) with
      | some cs => K (.val (.one (.s (.fn (.func g) cs.length (fun j => cs.getD j .any)))) [])
      | none => none) none
    | _ => none
  | .call c => ccall P Γ s c K
  | _ => none

/-- what an effect says of the model's operation -/
def EffOk (P : Program) (o : Oper) (s : St) : Eff → Prop
  | .val cv deps => (∀ d ∈ deps, s.hp d.1 d.2.1 = some d.2.2) ∧
      ∀ g w0 w (a : Act) (K : Act → World → Prop) (Q : Exit → Act → World → Prop), (∀ x ∈ o.op.operands.toList, relV g (s.ev x) (a.eval x)) →
        (∀ d ∈ deps, CellRel g w d.1 d.2.1 d.2.2) → WOk w0 g w →
        (∀ v g' w', After w0 g w g' w' → relV g' cv v → K (a.put o.dst v) w') → o.wp P a w K Q
  | .new cs => ∀ g w (a : Act) (K : Act → World → Prop) (Q : Exit → Act → World → Prop), (∀ x ∈ o.op.operands.toList, relV g (s.ev x) (a.eval x)) →
        (∀ arr T, arr.size = cs.length → (∀ (j : Nat) c u, cs[j]? = some c → arr[j]? = some u → rel g c u) →
          K (a.put o.dst (.pointer (some ⟨w.heap.size, 0, none⟩))) (w.alloc (.cells arr T))) → o.wp P a w K Q
  | .put id off cs => (0 < cs.length ∧ ∀ j, j < cs.length → (s.hp id (off + j)).isSome = true) ∧
      ∀ g w (a : Act) (K : Act → World → Prop) (Q : Exit → Act → World → Prop) b arr T, (∀ x ∈ o.op.operands.toList, relV g (s.ev x) (a.eval x)) →
        g.β id = some b → w.heap[b]? = some (.cells arr T (0, 0)) → off + cs.length ≤ arr.size →
        (∀ us : List Value, us.length = cs.length → (∀ (j : Nat) c u, cs[j]? = some c → us[j]? = some u → rel g c u) →
          K (a.put o.dst undef) (w.setRow b (arr.toList.take off ++ us ++ arr.toList.drop (off + us.length)).toArray)) → o.wp P a w K Q

end Go.Cv
