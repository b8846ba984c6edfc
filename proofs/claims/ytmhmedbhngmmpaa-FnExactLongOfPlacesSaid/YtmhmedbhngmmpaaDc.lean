/- Worlds and names: what a call leaves as it was; the meaning of contracts and effects. -/
import Derived.Test.YtmhmedbhngmmpaaDb
namespace Go.Dv
open Go.RowKit Go.Cv

/-- what a call was handed: the names of the arrays that it may write, where they stand; what nobody writes for ever -/
structure Fr where
  n : Nat
  β0 : Nat → Option Nat
  cp0 : Nat → Nat
  m0 : Nat → Option Obj
def Fr.wr (X : Fr) (b : Nat) : Prop := ∃ i, i < X.n ∧ X.β0 i = some b

/-- all blocks that were there, but those of X, are as they were -/
structure Keep (X : Nat → Prop) (w0 w : World) : Prop where
  os : w.os = w0.os
  tape : w.tape = w0.tape
  output : w.output = w0.output
  size : w0.heap.size ≤ w.heap.size
  block : ∀ k, k < w0.heap.size → ¬ X k → w.heap[k]? = w0.heap[k]?

theorem Keep.refl (X : Nat → Prop) (w : World) : Keep X w w := ⟨rfl, rfl, rfl, Nat.le_refl _, fun _ _ _ => rfl⟩
theorem Keep.trans {X : Nat → Prop} {a b c : World} (h : Keep X a b) (k : Keep X b c) : Keep X a c :=
  ⟨k.os.trans h.os, k.tape.trans h.tape, k.output.trans h.output, Nat.le_trans h.size k.size, fun i hi hx => (k.block i (by have := h.size; omega) hx).trans (h.block i hi hx)⟩
theorem Keep.drewN {X : Nat → Prop} {a b : World} (h : Keep X a b) (n : Nat) : Keep X a (b.drewN n) := ⟨h.os, h.tape, h.output, h.size, h.block⟩
theorem Keep.below {a b : World} (h : Keep (fun _ => False) a b) : Below a.heap.size a b := ⟨h.os, h.tape, h.output, h.size, fun k hk => h.block k hk (fun h => h)⟩
theorem Keep.alloc {X : Nat → Prop} {a b : World} (h : Keep X a b) (o : Obj) : Keep X a (b.alloc o) := by
  refine ⟨h.os, h.tape, h.output, by have := h.size; simp; omega, fun k hk hx => ?_⟩
  rw [Below.heap_alloc _ _ _ (by have := h.size; omega)]
  exact h.block k hk hx

/-- an array of the call's own -/
def ArrRel (g : Gh) (w : World) (id : Nat) (e : Sh) (l : List e.Ty) : Prop :=
  (l = [] ∧ g.β id = none) ∨ ∃ b arr T, g.β id = some b ∧ w.heap[b]? = some (.cells arr T (0, 0)) ∧ arr.size = g.cp id * e.size ∧ l.length ≤ g.cp id ∧
    ∀ i x, l[i]? = some x → relT g.im e x (fun k u => arr[i * e.size + k]? = some u)

def CellRel (g : Gh) (w : World) (id off : Nat) (c : CS) : Prop :=
  (∃ e l, c = .arr e l ∧ off = 0 ∧ ArrRel g w id e l) ∨ ∃ b arr T u, g.β id = some b ∧ w.heap[b]? = some (.cells arr T (0, 0)) ∧ arr[off]? = some u ∧ rel g c u

structure WOk (X : Fr) (w0 : World) (g : Gh) (w : World) : Prop where
  keep : Keep X.wr w0 w
  im : ∀ k o, g.im k = some o → g.bi k = some o
  bi : ∀ k o, g.bi k = some o → w.heap[k]? = some o
  inj : ∀ i j b, g.β i = some b → g.β j = some b → i = j
  fresh : ∀ i b, g.β i = some b → (w0.heap.size ≤ b ∨ (X.wr b ∧ i < X.n)) ∧ b < w.heap.size ∧ g.bi b = none
  fz : ∀ k c t fr, (w0.heap.size ≤ k ∨ X.wr k) → w.heap[k]? = some (.cells c t fr) → fr = (0, 0)
  base : ∀ k o, X.m0 k = some o → g.im k = some o
  imf : ∀ k o, g.im k = some o → X.m0 k = some o ∨ w0.heap.size ≤ k
  pin : ∀ i, i < X.n → g.β i = X.β0 i ∧ g.cp i = X.cp0 i

section
variable {X : Fr} {w0 : World} {g g' g'' : Gh} {w w' w'' : World}

theorem WOk.imh (h : WOk X w0 g w) : ∀ k o, g.im k = some o → w.heap[k]? = some o := fun k o ho => h.bi k o (h.im k o ho)
theorem lt_of_block {o : Obj} {k : Nat} (h : w.heap[k]? = some o) : k < w.heap.size := by
  rcases Nat.lt_or_ge k w.heap.size with h' | h'
  · exact h'
  · rw [Array.getElem?_eq_none h'] at h; cases h

structure After (X : Fr) (w0 : World) (g : Gh) (w : World) (g' : Gh) (w' : World) : Prop where
  le : g.le g'
  β : g'.β = g.β
  ok : WOk X w0 g' w'
  size : w.heap.size ≤ w'.heap.size
  same : ∀ k, k < w.heap.size → w'.heap[k]? = w.heap[k]?

theorem WOk.drewN (h : WOk X w0 g w) (n : Nat) : WOk X w0 g (w.drewN n) := ⟨h.keep.drewN n, h.im, h.bi, h.inj, h.fresh, h.fz, h.base, h.imf, h.pin⟩
theorem After.refl (h : WOk X w0 g w) : After X w0 g w g w := ⟨g.le_refl, rfl, h, Nat.le_refl _, fun _ _ => rfl⟩
theorem After.drewN (h : WOk X w0 g w) (n : Nat) : After X w0 g w g (w.drewN n) := ⟨g.le_refl, rfl, h.drewN n, Nat.le_refl _, fun _ _ => rfl⟩
theorem After.trans (h : After X w0 g w g' w') (k : After X w0 g' w' g'' w'') : After X w0 g w g'' w'' :=
  ⟨Gh.le_trans h.le k.le, k.β.trans h.β, k.ok, Nat.le_trans h.size k.size, fun i hi => (k.same i (by have := h.size; omega)).trans (h.same i hi)⟩

/-- arrays and cells keep: the names stand where they stood, their blocks are as they were -/
theorem ArrRel.keep (hle : g.le g') {id : Nat} {e : Sh} {l : List e.Ty} (hβ : g'.β id = g.β id) (hs : ∀ b, g.β id = some b → w'.heap[b]? = w.heap[b]?) (h : ArrRel g w id e l) : ArrRel g' w' id e l := by
  rcases h with ⟨h1, h2⟩ | ⟨b, arr, T, h1, h2, h3, h4, h5⟩
  · exact .inl ⟨h1, by rw [hβ]; exact h2⟩
  · obtain ⟨h6, h7⟩ := hle.β _ _ h1
    exact .inr ⟨b, arr, T, h6, by rw [hs b h1]; exact h2, by rw [h7]; exact h3, by rw [h7]; exact h4, fun i x hx => relT_mono hle.im e x (fun _ _ h => h) (h5 i x hx)⟩
theorem CellRel.keep (hle : g.le g') {id off : Nat} {c : CS} (hβ : g'.β id = g.β id) (hs : ∀ b, g.β id = some b → w'.heap[b]? = w.heap[b]?) (h : CellRel g w id off c) : CellRel g' w' id off c := by
  rcases h with ⟨e, l, h1, h2, h3⟩ | ⟨b, arr, T, u, h1, h2, h3, h4⟩
  · exact .inl ⟨e, l, h1, h2, h3.keep hle hβ hs⟩
  · exact .inr ⟨b, arr, T, u, (hle.β _ _ h1).1, by rw [hs b h1]; exact h2, h3, rel_mono hle _ _ h4⟩
theorem CellRel.after (h : After X w0 g w g' w') (hw : WOk X w0 g w) {id off : Nat} {c : CS} (hc : CellRel g w id off c) : CellRel g' w' id off c :=
  hc.keep h.le (by rw [h.β]) (fun b hb => h.same b (hw.fresh _ _ hb).2.1)
end

/-- what a call of function 'f' does -/
def CallOk (P : Program) (f : FuncId) (vals : Array Value) (w : World) (R : Value → World → Prop) : Prop :=
  match (callFunc f vals).run P w with
  | .ok (.value v) w' => R v w'
  | .ok (.enter f' args') w' => Calls P f' args' w' (fun e w'' => ∃ v, e = .returned v ∧ R v w'')
  | _ => False

/-- behind a call: names below 'base' stand where they stood, the new arrays have the names from 'base' on; of the caller's cells those that are written are as told, the others as they were -/
structure Done (X : Fr) (w0 : World) (g : Gh) (w : World) (r : Res) (base : Nat) (g' : Gh) (w' : World) : Prop where
  le : g.le g'
  β : ∀ i, i < base → g'.β i = g.β i
  top : ∀ i, base + r.nw.length ≤ i → g'.β i = none
  ok : WOk X w0 g' w'
  size : w.heap.size ≤ w'.heap.size
  same : ∀ k, k < w.heap.size → (∀ d ∈ r.wr, g.β d.1 ≠ some k) → w'.heap[k]? = w.heap[k]?
  wr : ∀ d ∈ r.wr, CellRel g' w' d.1 d.2.1 d.2.2
  nw : ∀ k c, r.nw[k]? = some c → CellRel g' w' (base + k) 0 c

/-- the contract of a function: a plain Lean function on canonical values (and on the caller's cells to which they lead) -/
def OkFn (P : Program) (f : FuncId) (S : FSpec) : Prop :=
  ∀ hp args r, S hp args = some r → r.pre = true → (∀ d ∈ r.rd, hp d.1 d.2.1 = some d.2.2) ∧ (∀ d ∈ r.wr, d.2.1 = 0 ∧ ∃ e l e' l', hp d.1 0 = some (.arr e l) ∧ d.2.2 = .arr e' l') ∧ (∀ c ∈ r.nw, ∃ e l, c = .arr e l) ∧
    ∀ X g w0 w base (vals : Array Value), vals.size = args.length → (∀ (j : Nat) c u, args[j]? = some c → vals[j]? = some u → rel1 g c u) →
      (∀ d ∈ r.rd, CellRel g w d.1 d.2.1 d.2.2) → WOk X w0 g w → X.n ≤ base → (∀ d ∈ r.rd, d.1 < base) → (∀ i, base ≤ i → g.β i = none) →
      CallOk P f vals w (fun v w' => ∃ g', Done X w0 g w r base g' w' ∧ relV g' (shiftV base r.cv) v)

def GoodC (P : Program) (Γ : CEnv) : Prop := ∀ f S, Γ f = some S → OkFn P f S

structure Sim (X : Fr) (w0 : World) (n : Nat) (s : St) (g : Gh) (a : Act) (w : World) : Prop where
  tm : ∀ t, relV g (s.tm t) (a.tmps.getD t undef)
  len : a.tmps.size = n
  df : a.defers = []
  ok : WOk X w0 g w
  cells : ∀ id off c, s.hp id off = some c → CellRel g w id off c
  nx : ∀ i b, g.β i = some b → i < s.nx
  hx : ∀ id off c, s.hp id off = some c → id < s.nx
  lo : s.lo = X.n
  ln : X.n ≤ s.nx

/-- what an effect says of the model's operation -/
def EffOk (P : Program) (o : Oper) (s : St) : Eff → Prop
  | .val cv deps => (∀ d ∈ deps, s.hp d.1 d.2.1 = some d.2.2) ∧
      ∀ X g w0 w (a : Act) (K : Act → World → Prop) (Q : Exit → Act → World → Prop), (∀ x ∈ o.op.operands.toList, relV g (s.ev x) (a.eval x)) →
        (∀ d ∈ deps, CellRel g w d.1 d.2.1 d.2.2) → WOk X w0 g w → (∃ m, X.n ≤ m ∧ (∀ d ∈ deps, d.1 < m) ∧ ∀ i, m ≤ i → g.β i = none) →
        (∀ v g' w', After X w0 g w g' w' → relV g' cv v → K (a.put o.dst v) w') → o.wp P a w K Q
  | .new cs => (∀ c ∈ cs, ∀ e l, c ≠ .arr e l) ∧ ∀ g w (a : Act) (K : Act → World → Prop) (Q : Exit → Act → World → Prop), (∀ x ∈ o.op.operands.toList, relV g (s.ev x) (a.eval x)) →
        (∀ arr T, arr.size = cs.length → (∀ (j : Nat) c u, cs[j]? = some c → arr[j]? = some u → rel g c u) →
          K (a.put o.dst (.pointer (some ⟨w.heap.size, 0, none⟩))) (w.alloc (.cells arr T))) → o.wp P a w K Q
  | .put id off cs => (0 < cs.length ∧ (∀ j, j < cs.length → ∃ c, s.hp id (off + j) = some c ∧ plain c = true) ∧ (∀ e l, s.hp id 0 ≠ some (.arr e l)) ∧ ∀ c ∈ cs, plain c = true) ∧
      ∀ g w (a : Act) (K : Act → World → Prop) (Q : Exit → Act → World → Prop) b arr T, (∀ x ∈ o.op.operands.toList, relV g (s.ev x) (a.eval x)) →
        g.β id = some b → w.heap[b]? = some (.cells arr T (0, 0)) → off + cs.length ≤ arr.size →
        (∀ us : List Value, us.length = cs.length → (∀ (j : Nat) c u, cs[j]? = some c → us[j]? = some u → rel g c u) →
          K (a.put o.dst undef) (w.setRow b (arr.toList.take off ++ us ++ arr.toList.drop (off + us.length)).toArray)) → o.wp P a w K Q
  | .gen s' => ∀ X w0 n g (a : Act) w (K : Act → World → Prop) (Q : Exit → Act → World → Prop), Sim X w0 n s g a w → (∀ x, o.dst = some x → x < n) →
        (∀ g' a' w', Sim X w0 n s' g' a' w' → K a' w') → o.wp P a w K Q

end Go.Dv
