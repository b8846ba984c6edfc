/- Statements on canonical values ('cwp'), and their soundness; regions in the order of the text. -/
import Derived.Test.YtmhmedbhngmmpaaDk
namespace Go.Dv
open Go.RowKit Go.Cv

def applyEff (s : St) (d : Option Nat) : Eff → St
  | .val cv _ => s.put d cv
  | .new cs => { tm := upd s.tm d (.one (.s (.ptr s.nx 0))), hp := fun i o => bif Nat.beq i s.nx then cs[o]? else s.hp i o, nx := s.nx + 1, lo := s.lo }
  | .put id off cs => { tm := upd s.tm d (ex undef), hp := fun i o => bif Nat.beq i id && (Nat.ble off o && Nat.blt o (off + cs.length)) then cs[o - off]? else s.hp i o, nx := s.nx, lo := s.lo }
  | .gen s' => s'

/-- is the operation wanted: 'none' where that cannot be told -/
def guardVal (ops : Array Oper) (o : Oper) (s : St) : Option Bool :=
  match o.guard with
  | none => some true
  | some (j, want) =>
    match (ops[j]?).bind (·.dst) with
    | none => none
    | some d => match s.tm d with
      | .one (.s (.v (.bool b))) => some (b == want)
      | .one (.s (.v (.tuple _))) => some false
      | _ => none

/-- the places that an effect reads and writes -/
structure Foot where
  rd : List (Nat × Nat)
  wr : List (Nat × Nat)
  new : Option Nat
  gen : Bool

def foot (s : St) : Option Eff → Foot
  | none => ⟨[], [], none, false⟩
  | some (.val _ deps) => ⟨deps.map fun d => (d.1, d.2.1), [], none, false⟩
  | some (.new _) => ⟨[], [], some s.nx, false⟩
  | some (.put id off cs) => ⟨[], (List.range cs.length).map fun j => (id, off + j), none, false⟩
  | some (.gen _) => ⟨[], [], none, true⟩

def stepSt (s : St) (d : Option Nat) : Option Eff → St
  | none => s.put d (ex undef)
  | some e => applyEff s d e

/-- a test's slot, once the test is decided -/
def setB (s : St) (d : Nat) (t : Bool) : St := { s with tm := upd s.tm (some d) (exB t) }
def setOp (s : St) (c : Operand) (t : Bool) : St :=
  match c with
  | .tmp d => setB s d t
  | _ => s

theorem setB_eq {s : St} {d : Nat} {t : Bool} (h : s.tm d = exB t) : setB s d t = s := by
  have : upd s.tm (some d) (exB t) = s.tm := by
    funext k
    by_cases e : k = d
    · subst e; rw [upd_same, h]
    · rw [upd_ne _ _ e]
  unfold setB; rw [this]

theorem setOp_eq {s : St} {c : Operand} {t : Bool} (h : s.ev c = exB t) : setOp s c t = s := by
  cases c <;> first | rfl | exact setB_eq h

def cops (M : FOps) (P : Program) (Γ : CEnv) {α : Type} (ops : Array Oper) : List Oper → St → List Foot → (St → List Foot → Tr α) → Tr α
  | [], s, acc, K => K s acc
  | o :: rest, s, acc, K =>
    match o.guard with
    | none => cop M P Γ o.dst o.op s fun e => cops M P Γ ops rest (applyEff s o.dst e) (foot s (some e) :: acc) K
    | some (j, want) =>
      match (ops[j]?).bind (·.dst) with
      | none => none
      | some d => match s.tm d with
        | .one (.s (.v (.bool b))) =>
          match want with
          | true => brT b (cop M P Γ o.dst o.op (setB s d true) fun e => cops M P Γ ops rest (applyEff (setB s d true) o.dst e) (foot (setB s d true) (some e) :: acc) K)
              (cops M P Γ ops rest ((setB s d false).put o.dst (ex undef)) (foot (setB s d false) none :: acc) K)
          | false => brT b (cops M P Γ ops rest ((setB s d true).put o.dst (ex undef)) (foot (setB s d true) none :: acc) K)
              (cop M P Γ o.dst o.op (setB s d false) fun e => cops M P Γ ops rest (applyEff (setB s d false) o.dst e) (foot (setB s d false) (some e) :: acc) K)
        | .one (.s (.v (.tuple _))) => cops M P Γ ops rest (s.put o.dst (ex undef)) (foot s none :: acc) K
        | _ => none

theorem cops_cons {M : FOps} {P : Program} {Γ : CEnv} {ops : Array Oper} {o : Oper} {rest : List Oper} {s : St} {acc : List Foot} {α : Type} {K : St → List Foot → Tr α} {rv : α} (h : cops M P Γ ops (o :: rest) s acc K = some rv) :
    (guardVal ops o s = some true ∧ (cop M P Γ o.dst o.op s fun e => cops M P Γ ops rest (applyEff s o.dst e) (foot s (some e) :: acc) K) = some rv) ∨
    (guardVal ops o s = some false ∧ cops M P Γ ops rest (s.put o.dst (ex undef)) (foot s none :: acc) K = some rv) := by
  simp only [cops] at h
  split at h
  · rename_i hg; exact .inl ⟨by unfold guardVal; simp only [hg], h⟩
  · rename_i j want hg
    split at h
    · cases h
    · rename_i d hd
      split at h
      · rename_i b hb
        have hgv : guardVal ops o s = some (b == want) := by unfold guardVal; simp only [hg, hd, hb]
        rw [hgv]
        cases want <;> simp only at h
        · have hbr := brT_some h; clear h; rcases hbr with ⟨rfl, h⟩ | ⟨rfl, h⟩
          · rw [setB_eq hb] at h; exact .inr ⟨rfl, h⟩
          · rw [setB_eq hb] at h; exact .inl ⟨rfl, h⟩
        · have hbr := brT_some h; clear h; rcases hbr with ⟨rfl, h⟩ | ⟨rfl, h⟩
          · rw [setB_eq hb] at h; exact .inl ⟨rfl, h⟩
          · rw [setB_eq hb] at h; exact .inr ⟨rfl, h⟩
      · rename_i vs hb
        exact .inr ⟨by unfold guardVal; simp only [hg, hd, hb], h⟩
      · cases h

/-! ### the order of a region -/

def beforeBits (acc : List Nat) (o : Oper) : Nat :=
  o.after.toList.foldl (fun s e => if Region.binds .any e then s ||| (2 ^ e.on ||| acc.getD e.on 0) else s) 0

def beforeGo : List Oper → List Nat → List Nat
  | [], acc => acc
  | o :: rest, acc => beforeGo rest (acc ++ [beforeBits acc o])

def hits (xs ys : List (Nat × Nat)) : Bool := xs.any fun p => ys.any fun q => Nat.beq p.1 q.1 && Nat.beq p.2 q.2
def inNew (n : Option Nat) (xs : List (Nat × Nat)) : Bool := match n with | none => false | some i => xs.any fun p => Nat.beq p.1 i
def clash (x y : Foot) : Bool := hits x.wr y.wr || hits x.wr y.rd || hits x.rd y.wr || inNew x.new y.rd || inNew x.new y.wr || inNew y.new x.rd || inNew y.new x.wr

/-- every two operations that touch one place are ordered by an edge; every edge leads back -/
def orderOk (ops : Array Oper) (feet : List Foot) : Bool :=
  let bs := beforeGo ops.toList []
  feet.all (fun f => !f.gen) && (List.range ops.size).all fun k =>
    match ops[k]?, feet[k]? with
    | some y, some fy => y.after.all (fun e => !Region.binds .any e || decide (e.on < k)) &&
      (List.range k).all fun i =>
        match ops[i]?, feet[i]? with
        | some x, some fx => (Oper.apart ops x y && !clash fx fy) || (bs.getD k 0).testBit i
        | _, _ => false
    | _, _ => false

def cregion (M : FOps) (P : Program) (Γ : CEnv) {α : Type} (ops : Array Oper) (draw : Bool) (s : St) (K : St → Tr α) : Tr α :=
  match draw with
  | true => cops M P Γ ops ops.toList s [] fun s' feet => brT (orderOk ops feet.reverse) (K s') none
  | false => cops M P Γ ops ops.toList s [] fun s' _ => K s'

def seqK {α : Type} (Kn : St → Tr α) (K : Exit → St → Tr α) : Exit → St → Tr α
  | .normal, s => Kn s
  | e, s => K e s

def blockK {α : Type} (id : Nat) (K : Exit → St → Tr α) : Exit → St → Tr α
  | .exit i, s => bif Nat.beq i id then K .normal s else K (.exit i) s
  | e, s => K e s

def scopeK {α : Type} (K : Exit → St → Tr α) : Exit → St → Tr α
  | .goto _, _ => none
  | e, s => K e s

def cloop {α : Type} (body : (Exit → St → Tr α) → St → Tr α) : Nat → (Exit → St → Tr α) → St → Tr α
  | 0, _, _ => none
  | n + 1, K, s => body (seqK (fun s' => cloop body n K s') K) s

/-- what a loop leads to: by its ways -/
inductive LT where
  | leaf (e : Exit) (s : St)
  | br (c : Bool) (a b : LT)
  | no

def LT.run {α : Type} : LT → (Exit → St → Tr α) → Tr α
  | .leaf e s, K => K e s
  | .br c a b, K => brT c (a.run K) (b.run K)
  | .no, _ => none

def LT.holds : LT → (Exit → St → Prop) → Prop
  | .leaf e s, K => K e s
  | .br c a b, K => match c with
    | true => a.holds K
    | false => b.holds K
  | .no, _ => False

abbrev LSpec := St → LT

def nLoops : Code → Nat
  | .seq x y => nLoops x + nLoops y
  | .cond _ x y => nLoops x + nLoops y
  | .block _ c => nLoops c
  | .loop c => nLoops c + 1
  | .scope c => nLoops c
  | _ => 0

/-- the loops of a text, the outer ones first -/
def loopsOf : Code → List Code
  | .seq x y => loopsOf x ++ loopsOf y
  | .cond _ x y => loopsOf x ++ loopsOf y
  | .block _ c => loopsOf c
  | .loop c => c :: loopsOf c
  | .scope c => loopsOf c
  | _ => []

theorem nLoops_eq : ∀ c : Code, (loopsOf c).length = nLoops c := by
  intro c
  induction c with
  | seq x y ihx ihy => simp [loopsOf, nLoops, ihx, ihy]
  | cond _ x y ihx ihy => simp [loopsOf, nLoops, ihx, ihy]
  | block _ c ih => simp [loopsOf, nLoops, ih]
  | loop c ih => simp [loopsOf, nLoops, ih]
  | scope c ih => simp [loopsOf, nLoops, ih]
  | _ => rfl

/-- statements; 'Λ': the loops whose meaning is told; 'F' bounds the rounds of each other loop; 'b': how many loops stand before -/
def cwp (M : FOps) (P : Program) (Γ : CEnv) (Λ : Nat → Option LSpec) {α : Type} (F : Nat) : Code → Nat → (Exit → St → Tr α) → St → Tr α
  | .skip, _, K, s => K .normal s
  | .label _, _, K, s => K .normal s
  | .region _ ops draw, _, K, s => cregion M P Γ ops draw s (K .normal)
  | .seq x y, b, K, s => cwp M P Γ Λ F x b (seqK (cwp M P Γ Λ F y (b + nLoops x) K) K) s
  | .cond c x y, b, K, s =>
    match s.ev c with
    | .one (.s (.v (.bool t))) => brT t (cwp M P Γ Λ F x b K (setOp s c true)) (cwp M P Γ Λ F y (b + nLoops x) K (setOp s c false))
    | _ => none
  | .block id c, b, K, s => cwp M P Γ Λ F c b (blockK id K) s
  | .loop c, b, K, s =>
    match Λ b with
    | some L => (L s).run K
    | none => cloop (fun K s => cwp M P Γ Λ F c (b + 1) K s) F K s
  | .exit id, _, K, s => K (.exit id) s
  | .scope c, b, K, s => cwp M P Γ Λ F c b (scopeK K) s
  | .ret, _, K, s => K .ret s
  | _, _, _, _ => none

/-- every slot that is written lies in the frame -/
def dstOk (n : Nat) : Code → Bool
  | .region _ ops _ => ops.toList.all fun o => match o.dst with | some d => decide (d < n) | none => true
  | .seq x y => dstOk n x && dstOk n y
  | .cond _ x y => dstOk n x && dstOk n y
  | .block _ c => dstOk n c
  | .loop c => dstOk n c
  | .scope c => dstOk n c
  | _ => true

theorem upd_none (f : Nat → CV) (x : CV) : upd f none x = f := rfl


theorem CellRel.alloc {X : Fr} {w0 : World} {g : Gh} {w : World} (h : WOk X w0 g w) {i c : Nat} (hi : g.β i = none) (arr : Array Value) (T : TypeId) {id off : Nat} {cc : CS} (hne : id ≠ i) (hc : CellRel g w id off cc) :
    CellRel (g.bind i w.heap.size c) (w.alloc (.cells arr T)) id off cc :=
  hc.keep (Gh.le_bind hi) (Gh.bind_ne g hne) (fun _ hb => Below.heap_alloc _ _ _ (h.fresh _ _ hb).2.1)

theorem CellRel.fresh {g : Gh} {w : World} {i c0 : Nat} (hi : g.β i = none) {cs : List CS} {arr : Array Value} {T : TypeId} (hs : arr.size = cs.length)
    (hr : ∀ (j : Nat) c u, cs[j]? = some c → arr[j]? = some u → rel g c u) {off : Nat} {c : CS} (hc : cs[off]? = some c) : CellRel (g.bind i w.heap.size c0) (w.alloc (.cells arr T)) i off c := by
  have hlt : off < arr.size := by
    rw [hs]
    rcases Nat.lt_or_ge off cs.length with h | h
    · exact h
    · rw [List.getElem?_eq_none h] at hc; cases hc
  exact .inr ⟨w.heap.size, arr, T, arr[off], (Gh.bind_same g i _ _).1, heap_alloc_same _ _, by simp [hlt], rel_mono (Gh.le_bind hi) _ _ (hr off c _ hc (by simp [hlt]))⟩

theorem CellRel.setRow_in {g : Gh} {w : World} {id b off : Nat} {arr : Array Value} {T : TypeId} (hb : g.β id = some b) (hh : w.heap[b]? = some (.cells arr T (0, 0))) {cs : List CS} {us : List Value}
    (hl : off + cs.length ≤ arr.size) (hu : us.length = cs.length) (hr : ∀ (j : Nat) c u, cs[j]? = some c → us[j]? = some u → rel g c u) {o : Nat} {c : CS} (h1 : off ≤ o) (h2 : o < off + cs.length) (hc : cs[o - off]? = some c) :
    CellRel g (w.setRow b (arr.toList.take off ++ us ++ arr.toList.drop (off + us.length)).toArray) id o c := by
  have hlt : o - off < us.length := by omega
  refine .inr ⟨b, _, T, us[o - off], hb, setRow_heap w b arr _ T _ hh, ?_, hr (o - off) c _ hc (by simp [hlt])⟩
  rw [splice_get _ _ _ (by omega), if_pos (by omega)]
  simp [hlt]

theorem CellRel.setRow_out {X : Fr} {w0 : World} {g : Gh} {w : World} (h : WOk X w0 g w) {id b off : Nat} {arr : Array Value} {T : TypeId} (hb : g.β id = some b) (hh : w.heap[b]? = some (.cells arr T (0, 0))) {us : List Value}
    (hl : off + us.length ≤ arr.size) {i o : Nat} {c : CS} (hc : CellRel g w i o c) (hout : i ≠ id ∨ ((∀ e l, c ≠ .arr e l) ∧ (o < off ∨ off + us.length ≤ o))) :
    CellRel g (w.setRow b (arr.toList.take off ++ us ++ arr.toList.drop (off + us.length)).toArray) i o c := by
  by_cases e : i = id
  · subst e
    rcases hout with hout | ⟨hna, hout⟩
    · exact absurd rfl hout
    rcases hc with ⟨e, l, h1, _⟩ | ⟨b', arr', T', u, hb', hh', ha', hr'⟩
    · exact absurd h1 (hna e l)
    · rw [hb] at hb'; cases hb'
      rw [hh] at hh'; cases hh'
      refine .inr ⟨b, _, T, u, hb, setRow_heap w b arr _ T _ hh, ?_, hr'⟩
      rw [splice_get _ _ _ hl, if_neg (by omega)]
      exact ha'
  · exact hc.keep (Gh.le_refl g) rfl (fun b' hb' => setRow_other _ _ _ _ fun e2 => by subst e2; exact e (h.inj _ _ _ hb' hb))

/-- what a cell of the own memory gives of its block -/
theorem block_of_cells {g : Gh} {w : World} {hp : Hp} (h : ∀ id off c, hp id off = some c → CellRel g w id off c) {id off n : Nat} (h0 : 0 < n) (hs : ∀ j, j < n → ∃ c, hp id (off + j) = some c ∧ plain c = true) :
    ∃ b arr T, g.β id = some b ∧ w.heap[b]? = some (.cells arr T (0, 0)) ∧ off + n ≤ arr.size := by
  obtain ⟨c, hc, hp⟩ := hs 0 h0
  obtain ⟨b, arr, T, u, hb, hh, ha, _⟩ := plainCell hp (h _ _ _ hc)
  refine ⟨b, arr, T, hb, hh, ?_⟩
  obtain ⟨c', hc', hp'⟩ := hs (n - 1) (by omega)
  obtain ⟨b', arr', T', u', hb', hh', ha', _⟩ := plainCell hp' (h _ _ _ hc')
  rw [hb] at hb'; cases hb'
  rw [hh] at hh'; cases hh'
  rcases Nat.lt_or_ge (off + (n - 1)) arr.size with h | h
  · omega
  · rw [Array.getElem?_eq_none h] at ha'; cases ha'

section
variable {P : Program} {α : Type}

/-- one operation, in the order of the text -/
theorem eff_step {X : Fr} {w0 : World} {n : Nat} {o : Oper} {s : St} {e : Eff} (he : EffOk P o s e) {g : Gh} {a : Act} {w : World} (h : Sim X w0 n s g a w) (hd : ∀ x, o.dst = some x → x < n)
    {K : Act → World → Prop} {Q : Exit → Act → World → Prop} (hk : ∀ g' a' w', Sim X w0 n (applyEff s o.dst e) g' a' w' → K a' w') : o.wp P a w K Q := by
  cases e with
  | val cv deps =>
    obtain ⟨hdep, hh⟩ := he
    refine hh X g w0 w a K Q (fun x _ => h.ev x) (fun d hd => h.cells _ _ _ (hdep d hd)) h.ok ⟨s.nx, h.ln, fun d hd => h.hx _ _ _ (hdep d hd), free_nx h⟩ fun v g' w' haf hv => ?_
    exact hk g' _ w' ((h.after haf).put hd hv)
  | new cs =>
    have hi := free_nx h s.nx (Nat.le_refl _)
    refine he.2 g w a K Q (fun x _ => h.ev x) fun arr T hs hr => ?_
    have hle := Gh.le_bind (b := w.heap.size) (c := 0) hi
    refine hk (g.bind s.nx w.heap.size 0) _ _ ⟨tm_put (fun t => relV_mono hle _ _ (h.tm t)) h.len hd ⟨w.heap.size, (Gh.bind_same g _ _ _).1, rfl⟩, by rw [put_size]; exact h.len, by rw [put_defers']; exact h.df, h.ok.alloc _ _ h.ln arr T, fun id off c hc => ?_, fun i b hb => ?_, fun i off c hc => ?_, h.lo, by show X.n ≤ s.nx + 1; have := h.ln; omega⟩
    · have hc : (bif Nat.beq id s.nx then cs[off]? else s.hp id off) = some c := hc
      by_cases e : id = s.nx
      · subst e
        simp at hc
        exact CellRel.fresh hi hs hr hc
      · rw [beq_ne e] at hc
        exact CellRel.alloc h.ok hi arr T e (h.cells _ _ _ hc)
    · show i < s.nx + 1
      by_cases e : i = s.nx
      · omega
      · rw [Gh.bind_ne g e] at hb; have := h.nx _ _ hb; omega
    · have hc : (bif Nat.beq i s.nx then cs[off]? else s.hp i off) = some c := hc
      show i < s.nx + 1
      by_cases e : i = s.nx
      · omega
      · rw [beq_ne e] at hc; have := h.hx _ _ _ hc; omega
  | put id off cs =>
    obtain ⟨⟨h0, hsome, hna, _⟩, hh⟩ := he
    obtain ⟨b, arr, T, hb, hheap, hl⟩ := block_of_cells h.cells h0 hsome
    refine hh g w a K Q b arr T (fun x _ => h.ev x) hb hheap hl fun us hu hr => ?_
    have key : ∀ {i o' : Nat} {c : CS}, (bif Nat.beq i id && (Nat.ble off o' && Nat.blt o' (off + cs.length)) then cs[o' - off]? else s.hp i o') = some c →
        (i = id ∧ off ≤ o' ∧ o' < off + cs.length ∧ cs[o' - off]? = some c) ∨ (s.hp i o' = some c ∧ (i ≠ id ∨ (o' < off ∨ off + us.length ≤ o'))) := fun {i o' c} hc2 => by
      cases hx : Nat.beq i id && (Nat.ble off o' && Nat.blt o' (off + cs.length)) with
      | true =>
        rw [hx] at hc2
        simp only [Bool.and_eq_true] at hx
        obtain ⟨h1, h2, h3⟩ := hx
        exact .inl ⟨Nat.eq_of_beq_eq_true h1, Nat.le_of_ble_eq_true h2, Nat.le_of_ble_eq_true h3, hc2⟩
      | false =>
        rw [hx] at hc2
        refine .inr ⟨hc2, ?_⟩
        by_cases e : i = id
        · subst e
          right
          rcases Nat.lt_or_ge o' off with h1 | h1
          · exact .inl h1
          · rcases Nat.lt_or_ge o' (off + us.length) with h2 | h2
            · exfalso
              have e2 : Nat.ble off o' = true := Nat.ble_eq_true_of_le h1
              have e3 : Nat.blt o' (off + cs.length) = true := Nat.ble_eq_true_of_le (by omega)
              simp [e2, e3] at hx
            · exact .inr h2
        · exact .inl e
    refine hk g _ _ ⟨tm_put h.tm h.len hd rfl, by rw [put_size]; exact h.len, by rw [put_defers']; exact h.df, h.ok.setRow hb hheap _, fun i o' c hc => ?_, h.nx, fun i o' c hc => ?_, h.lo, h.ln⟩
    · rcases key hc with ⟨rfl, h1, h2, h3⟩ | ⟨h1, h2⟩
      · exact CellRel.setRow_in hb hheap hl hu hr h1 h2 h3
      · refine CellRel.setRow_out h.ok hb hheap (by omega) (h.cells _ _ _ h1) ?_
        rcases h2 with h2 | h2
        · exact .inl h2
        · by_cases e : i = id
          · subst e
            refine .inr ⟨fun e l he => ?_, h2⟩
            subst he
            rcases h.cells _ _ _ h1 with ⟨e', l', h3, h4, _⟩ | ⟨_, _, _, _, _, _, _, hf⟩
            · subst h4; exact hna _ _ h1
            · exact hf
          · exact .inl e
    · rcases key hc with ⟨rfl, _⟩ | ⟨h1, _⟩
      · exact h.nx _ _ hb
      · exact h.hx _ _ _ h1
  | gen s' => exact he X w0 n g a w K Q h hd hk

/-- the model's word for 'wanted' is ours -/
theorem wanted_of_guardVal {ops : Array Oper} {o : Oper} {s : St} {t : Bool} (h : guardVal ops o s = some t) {g : Gh} {tmps : Array Value} (hr : ∀ d, (∃ j b, o.guard = some (j, b) ∧ (ops[j]?).bind (·.dst) = some d) → relV g (s.tm d) (tmps.getD d undef)) :
    Region.wanted o (yielded ops tmps) = t := by
  unfold guardVal at h
  unfold Region.wanted
  split at h
  · rename_i hg; cases h; rw [hg]
  · rename_i j want hg
    rw [hg]
    split at h
    · cases h
    · rename_i d hd
      have hrd := hr d ⟨j, want, hg, hd⟩
      simp only [yielded, hd, Option.bind_some]
      split at h
      · rename_i b hb; cases h
        rw [hb] at hrd
        have : tmps.getD d undef = .bool b := hrd
        have h2 : tmps[d]? = some (.bool b) := by
          cases ht : tmps[d]? with
          | none => simp [ht, undef] at this
          | some v => simp [ht] at this; rw [this]
        rw [h2]
        cases b <;> cases want <;> rfl
      · rename_i vs hb; cases h
        rw [hb] at hrd
        have : tmps.getD d undef = .tuple vs := hrd
        cases ht : tmps[d]? with
        | none => cases want <;> rfl
        | some v => simp [ht] at this; rw [this]; cases want <;> rfl
      · cases h

/-- a region in the order of the text -/
theorem cops_lex {Γ : CEnv} (hΓ : GoodC P Γ) {ops : Array Oper} {X : Fr} {w0 : World} {n : Nat} {Q : Exit → Act → World → Prop} : ∀ (l : List Oper) (k : Nat) (s : St) (acc : List Foot) (K : St → List Foot → Tr α) (rv : α) (g : Gh) (a : Act) (w : World),
    (∀ j, l[j]? = ops[k + j]?) → (∀ o ∈ l, ∀ x, o.dst = some x → x < n) → cops R P Γ ops l s acc K = some rv → Sim X w0 n s g a w →
    (∀ s' acc' g' a' w', K s' acc' = some rv → Sim X w0 n s' g' a' w' → Q .normal a' w') → wpOps P ops Q (List.range' k l.length) a w
  | [], k, s, acc, K, rv, g, a, w, hl, hd, h, hs, hq => by
    simp only [cops] at h
    exact hq s acc g a w h hs
  | o :: l, k, s, acc, K, rv, g, a, w, hl, hd, h, hs, hq => by
    have h0 : ops[k]? = some o := by simpa using (hl 0).symm
    have hl' : ∀ j, l[j]? = ops[k + 1 + j]? := fun j => by have := hl (j + 1); simpa [Nat.add_assoc, Nat.add_comm 1 j] using this
    simp only [List.length_cons, List.range'_succ]
    rw [wpOps_cons]
    unfold wpOp
    simp only [h0]
    have hc := cops_cons h
    clear h
    rcases hc with ⟨ht, h⟩ | ⟨ht, h⟩
    · have hw := wanted_of_guardVal ht (g := g) (tmps := a.tmps) (fun d _ => hs.tm d)
      rw [hw]
      simp only [if_true]
      left
      obtain ⟨e, he1, he2⟩ := cop_sound hΓ h
      exact eff_step he2 hs (hd o (by simp)) fun g' a' w' hs' => cops_lex hΓ l (k + 1) _ _ K rv g' a' w' hl' (fun o' ho' => hd o' (by simp [ho'])) he1 hs' hq
    · have hw := wanted_of_guardVal ht (g := g) (tmps := a.tmps) (fun d _ => hs.tm d)
      rw [hw]
      simp only [Bool.false_eq_true, if_false]
      exact cops_lex hΓ l (k + 1) _ _ K rv g _ w hl' (fun o' ho' => hd o' (by simp [ho'])) h (hs.put (hd o (by simp)) rfl) hq

end
end Go.Dv
