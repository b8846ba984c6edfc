/- Statements on canonical values ('cwp'), and their soundness; regions in the order of the text. -/
import Derived.Test.YtmhmedbhngmmpaaCvE
namespace Go.Cv
open Go.RowKit

def applyEff (s : St) (d : Option Nat) : Eff → St
  | .val cv _ => s.put d cv
  | .new cs => { tm := upd s.tm d (.one (.s (.ptr s.nx 0))), hp := fun i o => bif Nat.beq i s.nx then cs[o]? else s.hp i o, nx := s.nx + 1 }
  | .put id off cs => { tm := upd s.tm d (ex undef), hp := fun i o => bif Nat.beq i id && (Nat.ble off o && Nat.blt o (off + cs.length)) then cs[o - off]? else s.hp i o, nx := s.nx }

/-- is the operation wanted: 'none' where that cannot be told -/
def guardVal (ops : Array Oper) (o : Oper) (s : St) : Option Bool :=
  match o.guard with
  | none => some true
  | some (j, want) =>
    match (ops[j]?).bind (·.dst) with
    | none => none
    | some d => match s.tm d with
      | .one (.s (.v (.bool b))) => some (b == want)
      | .one (.s (.v (.tuple _))) => some false
      | _ => none

/-- the places that an effect reads and writes -/
structure Foot where
  rd : List (Nat × Nat)
  wr : List (Nat × Nat)
  new : Option Nat

def foot (s : St) : Option Eff → Foot
  | none => ⟨[], [], none⟩
  | some (.val _ deps) => ⟨deps.map fun d => (d.1, d.2.1), [], none⟩
  | some (.new _) => ⟨[], [], some s.nx⟩
  | some (.put id off cs) => ⟨[], (List.range cs.length).map fun j => (id, off + j), none⟩

def stepSt (s : St) (d : Option Nat) : Option Eff → St
  | none => s.put d (ex undef)
  | some e => applyEff s d e

/-- a test's slot, once the test is decided -/
def setB (s : St) (d : Nat) (t : Bool) : St := { s with tm := upd s.tm (some d) (exB t) }
def setOp (s : St) (c : Operand) (t : Bool) : St :=
  match c with
  | .tmp d => setB s d t
  | _ => s

theorem setB_eq {s : St} {d : Nat} {t : Bool} (h : s.tm d = exB t) : setB s d t = s := by
  have : upd s.tm (some d) (exB t) = s.tm := by
    funext k
    by_cases e : k = d
    · subst e; rw [upd_same, h]
    · rw [upd_ne _ _ e]
  unfold setB; rw [this]

theorem setOp_eq {s : St} {c : Operand} {t : Bool} (h : s.ev c = exB t) : setOp s c t = s := by
  cases c <;> first | rfl | exact setB_eq h

def cops (M : FOps) (P : Program) (Γ : CEnv) (ops : Array Oper) : List Oper → St → List Foot → (St → List Foot → Tr) → Tr
  | [], s, acc, K => K s acc
  | o :: rest, s, acc, K =>
    match o.guard with
    | none => cop M P Γ o.op s fun e => cops M P Γ ops rest (applyEff s o.dst e) (foot s (some e) :: acc) K
    | some (j, want) =>
      match (ops[j]?).bind (·.dst) with
      | none => none
      | some d => match s.tm d with
        | .one (.s (.v (.bool b))) =>
          match want with
          | true => brT b (cop M P Γ o.op (setB s d true) fun e => cops M P Γ ops rest (applyEff (setB s d true) o.dst e) (foot (setB s d true) (some e) :: acc) K)
              (cops M P Γ ops rest ((setB s d false).put o.dst (ex undef)) (foot (setB s d false) none :: acc) K)
          | false => brT b (cops M P Γ ops rest ((setB s d true).put o.dst (ex undef)) (foot (setB s d true) none :: acc) K)
              (cop M P Γ o.op (setB s d false) fun e => cops M P Γ ops rest (applyEff (setB s d false) o.dst e) (foot (setB s d false) (some e) :: acc) K)
        | .one (.s (.v (.tuple _))) => cops M P Γ ops rest (s.put o.dst (ex undef)) (foot s none :: acc) K
        | _ => none

theorem cops_cons {M : FOps} {P : Program} {Γ : CEnv} {ops : Array Oper} {o : Oper} {rest : List Oper} {s : St} {acc : List Foot} {K : St → List Foot → Tr} {rv : CV} (h : cops M P Γ ops (o :: rest) s acc K = some rv) :
    (guardVal ops o s = some true ∧ (cop M P Γ o.op s fun e => cops M P Γ ops rest (applyEff s o.dst e) (foot s (some e) :: acc) K) = some rv) ∨
    (guardVal ops o s = some false ∧ cops M P Γ ops rest (s.put o.dst (ex undef)) (foot s none :: acc) K = some rv) := by
  simp only [cops] at h
  split at h
  · rename_i hg; exact .inl ⟨by unfold guardVal; simp only [hg], h⟩
  · rename_i j want hg
    split at h
    · cases h
    · rename_i d hd
      split at h
      · rename_i b hb
        have hgv : guardVal ops o s = some (b == want) := by unfold guardVal; simp only [hg, hd, hb]
        rw [hgv]
        cases want <;> simp only at h
        · have hbr := brT_some h; clear h; rcases hbr with ⟨rfl, h⟩ | ⟨rfl, h⟩
          · rw [setB_eq hb] at h; exact .inr ⟨rfl, h⟩
          · rw [setB_eq hb] at h; exact .inl ⟨rfl, h⟩
        · have hbr := brT_some h; clear h; rcases hbr with ⟨rfl, h⟩ | ⟨rfl, h⟩
          · rw [setB_eq hb] at h; exact .inl ⟨rfl, h⟩
          · rw [setB_eq hb] at h; exact .inr ⟨rfl, h⟩
      · rename_i vs hb
        exact .inr ⟨by unfold guardVal; simp only [hg, hd, hb], h⟩
      · cases h

/-! ### the order of a region -/

def beforeBits (acc : List Nat) (o : Oper) : Nat :=
  o.after.toList.foldl (fun s e => if Region.binds .any e then s ||| (2 ^ e.on ||| acc.getD e.on 0) else s) 0

def beforeGo : List Oper → List Nat → List Nat
  | [], acc => acc
  | o :: rest, acc => beforeGo rest (acc ++ [beforeBits acc o])

def hits (xs ys : List (Nat × Nat)) : Bool := xs.any fun p => ys.any fun q => Nat.beq p.1 q.1 && Nat.beq p.2 q.2
def inNew (n : Option Nat) (xs : List (Nat × Nat)) : Bool := match n with | none => false | some i => xs.any fun p => Nat.beq p.1 i
def clash (x y : Foot) : Bool := hits x.wr y.wr || hits x.wr y.rd || hits x.rd y.wr || inNew x.new y.rd || inNew x.new y.wr || inNew y.new x.rd || inNew y.new x.wr

/-- every two operations that touch one place are ordered by an edge; every edge leads back -/
def orderOk (ops : Array Oper) (feet : List Foot) : Bool :=
  let bs := beforeGo ops.toList []
  (List.range ops.size).all fun k =>
    match ops[k]?, feet[k]? with
    | some y, some fy => y.after.all (fun e => !Region.binds .any e || decide (e.on < k)) &&
      (List.range k).all fun i =>
        match ops[i]?, feet[i]? with
        | some x, some fx => (Oper.apart ops x y && !clash fx fy) || (bs.getD k 0).testBit i
        | _, _ => false
    | _, _ => false

def cregion (M : FOps) (P : Program) (Γ : CEnv) (ops : Array Oper) (draw : Bool) (s : St) (K : St → Tr) : Tr :=
  match draw with
  | true => cops M P Γ ops ops.toList s [] fun s' feet => brT (orderOk ops feet.reverse) (K s') none
  | false => cops M P Γ ops ops.toList s [] fun s' _ => K s'

def seqK (Kn : St → Tr) (K : Exit → St → Tr) : Exit → St → Tr
  | .normal, s => Kn s
  | e, s => K e s

def blockK (id : Nat) (K : Exit → St → Tr) : Exit → St → Tr
  | .exit i, s => bif Nat.beq i id then K .normal s else K (.exit i) s
  | e, s => K e s

def scopeK (K : Exit → St → Tr) : Exit → St → Tr
  | .goto _, _ => none
  | e, s => K e s

def cloop (body : (Exit → St → Tr) → St → Tr) : Nat → (Exit → St → Tr) → St → Tr
  | 0, _, _ => none
  | n + 1, K, s => body (seqK (fun s' => cloop body n K s') K) s

/-- statements; 'F' bounds the rounds of each loop -/
def cwp (M : FOps) (P : Program) (Γ : CEnv) (F : Nat) : Code → (Exit → St → Tr) → St → Tr
  | .skip, K, s => K .normal s
  | .label _, K, s => K .normal s
  | .region _ ops draw, K, s => cregion M P Γ ops draw s (K .normal)
  | .seq x y, K, s => cwp M P Γ F x (seqK (cwp M P Γ F y K) K) s
  | .cond c x y, K, s =>
    match s.ev c with
    | .one (.s (.v (.bool t))) => brT t (cwp M P Γ F x K (setOp s c true)) (cwp M P Γ F y K (setOp s c false))
    | _ => none
  | .block id c, K, s => cwp M P Γ F c (blockK id K) s
  | .loop c, K, s => cloop (fun K s => cwp M P Γ F c K s) F K s
  | .exit id, K, s => K (.exit id) s
  | .scope c, K, s => cwp M P Γ F c (scopeK K) s
  | .ret, K, s => K .ret s
  | _, _, _ => none

/-- every slot that is written lies in the frame -/
def dstOk (n : Nat) : Code → Bool
  | .region _ ops _ => ops.toList.all fun o => match o.dst with | some d => decide (d < n) | none => true
  | .seq x y => dstOk n x && dstOk n y
  | .cond _ x y => dstOk n x && dstOk n y
  | .block _ c => dstOk n c
  | .loop c => dstOk n c
  | .scope c => dstOk n c
  | _ => true

structure Sim (w0 : World) (n : Nat) (s : St) (g : Gh) (a : Act) (w : World) : Prop where
  tm : ∀ t, relV g (s.tm t) (a.tmps.getD t undef)
  len : a.tmps.size = n
  df : a.defers = []
  ok : WOk w0 g w
  cells : ∀ id off c, s.hp id off = some c → CellRel g w id off c
  nx : ∀ i b, g.β i = some b → i < s.nx

theorem upd_none (f : Nat → CV) (x : CV) : upd f none x = f := rfl

theorem tm_put {g : Gh} {f : Nat → CV} {a : Act} {n : Nat} {d : Option Nat} {cv : CV} {v : Value} (h : ∀ t, relV g (f t) (a.tmps.getD t undef)) (hl : a.tmps.size = n)
    (hd : ∀ x, d = some x → x < n) (hv : relV g cv v) : ∀ t, relV g (upd f d cv t) ((a.put d v).tmps.getD t undef) := by
  intro t
  cases d with
  | none => exact h t
  | some d =>
    have hdn := hd d rfl
    by_cases e : t = d
    · subst e
      rw [upd_same]
      have : (a.put (some t) v).tmps.getD t undef = v := by simp [Act.put, hl, hdn]
      rw [this]; exact hv
    · rw [upd_ne _ _ e]
      have : (a.put (some d) v).tmps.getD t undef = a.tmps.getD t undef := by
        have hne : d ≠ t := fun h => e h.symm
        simp [Act.put, Array.getElem?_setIfInBounds_ne hne]
      rw [this]; exact h t

theorem put_size (a : Act) (d : Option Nat) (v : Value) : (a.put d v).tmps.size = a.tmps.size := by cases d <;> simp [Act.put]
theorem put_defers' (a : Act) (d : Option Nat) (v : Value) : (a.put d v).defers = a.defers := by cases d <;> simp [Act.put]

theorem Sim.ev {w0 : World} {n : Nat} {s : St} {g : Gh} {a : Act} {w : World} (h : Sim w0 n s g a w) (x : Operand) : relV g (s.ev x) (a.eval x) := by
  cases x with
  | tmp t => exact h.tm t
  | const v => exact relV_ofValue g v
  | global b => trivial
  | func f => exact ⟨#[], rfl, rfl, fun j u hu => by simp at hu⟩

theorem Sim.after {w0 : World} {n : Nat} {s : St} {g g' : Gh} {a : Act} {w w' : World} (h : Sim w0 n s g a w) (haf : After w0 g w g' w') : Sim w0 n s g' a w' :=
  ⟨fun t => relV_mono haf.le _ _ (h.tm t), h.len, h.df, haf.ok, fun id off c hc => (h.cells id off c hc).after haf h.ok, fun i b hb => h.nx i b (by rw [← haf.β]; exact hb)⟩

theorem Sim.put {w0 : World} {n : Nat} {s : St} {g : Gh} {a : Act} {w : World} (h : Sim w0 n s g a w) {d : Option Nat} {cv : CV} {v : Value} (hd : ∀ x, d = some x → x < n) (hv : relV g cv v) :
    Sim w0 n (s.put d cv) g (a.put d v) w :=
  ⟨tm_put h.tm h.len hd hv, by rw [put_size]; exact h.len, by rw [put_defers']; exact h.df, h.ok, h.cells, h.nx⟩

/-- a new block gets the next name -/
def Gh.bind (g : Gh) (i b : Nat) : Gh := { β := fun j => if j = i then some b else g.β j, im := g.im }

theorem Gh.le_bind {g : Gh} {i b : Nat} (h : g.β i = none) : g.le (g.bind i b) :=
  ⟨fun j c hc => by
    show (if j = i then some b else g.β j) = some c
    by_cases e : j = i
    · subst e; rw [h] at hc; cases hc
    · rw [if_neg e]; exact hc, fun _ _ h => h⟩

theorem WOk.alloc {w0 : World} {g : Gh} {w : World} (h : WOk w0 g w) {i : Nat} (_hi : g.β i = none) (arr : Array Value) (T : TypeId) : WOk w0 (g.bind i w.heap.size) (w.alloc (.cells arr T)) := by
  have hle : w0.heap.size ≤ w.heap.size := h.below.size
  refine ⟨h.below.alloc hle _, fun k o ho => ?_, fun j k b hj hk => ?_, fun j b hj => ?_, fz_push h.fz _ _⟩
  · have hk : k < w.heap.size := by
      have := h.im k o ho
      rcases Nat.lt_or_ge k w.heap.size with h' | h'
      · exact h'
      · rw [Array.getElem?_eq_none h'] at this; cases this
    rw [Below.heap_alloc _ _ _ hk]; exact h.im k o ho
  · have key : ∀ j b, (if j = i then some w.heap.size else g.β j) = some b → (j = i ∧ b = w.heap.size) ∨ (g.β j = some b ∧ b < w.heap.size) := fun j b hj => by
      by_cases e : j = i
      · rw [if_pos e] at hj; cases hj; exact .inl ⟨e, rfl⟩
      · rw [if_neg e] at hj; exact .inr ⟨hj, (h.fresh _ _ hj).2.1⟩
    rcases key j b hj with ⟨e1, e2⟩ | ⟨e1, e2⟩ <;> rcases key k b hk with ⟨e3, e4⟩ | ⟨e3, e4⟩
    · rw [e1, e3]
    · omega
    · omega
    · exact h.inj _ _ _ e1 e3
  · have hj : (if j = i then some w.heap.size else g.β j) = some b := hj
    by_cases e : j = i
    · rw [if_pos e] at hj; cases hj
      refine ⟨hle, by simp, ?_⟩
      show g.im w.heap.size = none
      cases ho : g.im w.heap.size with
      | none => rfl
      | some o => have := h.im _ _ ho; rw [Array.getElem?_eq_none (Nat.le_refl _)] at this; cases this
    · rw [if_neg e] at hj
      obtain ⟨h1, h2, h3⟩ := h.fresh _ _ hj
      exact ⟨h1, by simp; omega, h3⟩

theorem CellRel.alloc {w0 : World} {g : Gh} {w : World} (h : WOk w0 g w) {i : Nat} (hi : g.β i = none) (arr : Array Value) (T : TypeId) {id off : Nat} {c : CS} (hc : CellRel g w id off c) :
    CellRel (g.bind i w.heap.size) (w.alloc (.cells arr T)) id off c := by
  obtain ⟨b, arr', T', u, hb, hh, ha, hr⟩ := hc
  exact ⟨b, arr', T', u, (Gh.le_bind hi).β _ _ hb, by rw [Below.heap_alloc _ _ _ (h.fresh _ _ hb).2.1]; exact hh, ha, rel_mono (Gh.le_bind hi) _ _ hr⟩

theorem CellRel.fresh {g : Gh} {w : World} {i : Nat} (hi : g.β i = none) {cs : List CS} {arr : Array Value} {T : TypeId} (hs : arr.size = cs.length)
    (hr : ∀ (j : Nat) c u, cs[j]? = some c → arr[j]? = some u → rel g c u) {off : Nat} {c : CS} (hc : cs[off]? = some c) : CellRel (g.bind i w.heap.size) (w.alloc (.cells arr T)) i off c := by
  have hlt : off < arr.size := by
    rw [hs]
    rcases Nat.lt_or_ge off cs.length with h | h
    · exact h
    · rw [List.getElem?_eq_none h] at hc; cases hc
  refine ⟨w.heap.size, arr, T, arr[off], ?_, ?_, by simp [hlt], rel_mono (Gh.le_bind hi) _ _ (hr off c _ hc (by simp [hlt]))⟩
  · show (if i = i then some w.heap.size else g.β i) = _
    rw [if_pos rfl]
  · show (w.heap.push _)[w.heap.size]? = _
    simp

/-- a store into a block of the call's own -/
theorem WOk.setRow {w0 : World} {g : Gh} {w : World} (h : WOk w0 g w) {id b : Nat} (hb : g.β id = some b) (cs : Array Value) : WOk w0 g (w.setRow b cs) := by
  obtain ⟨h1, h2, h3⟩ := h.fresh _ _ hb
  refine ⟨h.below.trans ⟨rfl, rfl, rfl, by simp, fun k hk => setRow_other _ _ _ _ (by omega)⟩, fun k o ho => ?_, h.inj, fun i c hc => ?_, fun k c t fr hk hc => ?_⟩
  · have hne : k ≠ b := fun e => by subst e; rw [h3] at ho; cases ho
    rw [setRow_other _ _ _ _ hne]; exact h.im k o ho
  · obtain ⟨h4, h5, h6⟩ := h.fresh _ _ hc
    exact ⟨h4, by simpa using h5, h6⟩
  · by_cases e : k = b
    · subst e
      have hlt : k < w.heap.size := h2
      have hg : w.heap[k]? = some w.heap[k] := Array.getElem?_eq_getElem hlt
      cases ho : w.heap[k] with
      | cells old t' fr' =>
        rw [ho] at hg
        rw [setRow_heap w k old cs t' fr' hg] at hc
        cases hc
        exact h.fz k old t fr hk hg
      | _ =>
        unfold World.setRow at hc
        rw [Array.getElem?_eq_getElem (by simpa using hlt), Array.getElem_modify] at hc
        simp [ho] at hc
    · rw [setRow_other _ _ _ _ e] at hc
      exact h.fz k c t fr hk hc

theorem splice_get (arr : Array Value) (off : Nat) (us : List Value) (h : off + us.length ≤ arr.size) (j : Nat) :
    (arr.toList.take off ++ us ++ arr.toList.drop (off + us.length)).toArray[j]? = if off ≤ j ∧ j < off + us.length then us[j - off]? else arr[j]? := by
  simp only [List.getElem?_toArray]
  rw [List.append_assoc]
  rcases Nat.lt_or_ge j off with h1 | h1
  · rw [if_neg (by omega), List.getElem?_append_left (by simp; omega), List.getElem?_take_of_lt h1]; simp
  · rw [List.getElem?_append_right (by simp; omega)]
    have e : (arr.toList.take off).length = off := by simp; omega
    rw [e]
    rcases Nat.lt_or_ge j (off + us.length) with h2 | h2
    · rw [if_pos ⟨h1, h2⟩, List.getElem?_append_left (by omega)]
    · rw [if_neg (by omega), List.getElem?_append_right (by omega), List.getElem?_drop]
      simp
      congr 1; omega

theorem CellRel.setRow_in {g : Gh} {w : World} {id b off : Nat} {arr : Array Value} {T : TypeId} (hb : g.β id = some b) (hh : w.heap[b]? = some (.cells arr T (0, 0))) {cs : List CS} {us : List Value}
    (hl : off + cs.length ≤ arr.size) (hu : us.length = cs.length) (hr : ∀ (j : Nat) c u, cs[j]? = some c → us[j]? = some u → rel g c u) {o : Nat} {c : CS} (h1 : off ≤ o) (h2 : o < off + cs.length) (hc : cs[o - off]? = some c) :
    CellRel g (w.setRow b (arr.toList.take off ++ us ++ arr.toList.drop (off + us.length)).toArray) id o c := by
  have hlt : o - off < us.length := by omega
  refine ⟨b, _, T, us[o - off], hb, setRow_heap w b arr _ T _ hh, ?_, hr (o - off) c _ hc (by simp [hlt])⟩
  rw [splice_get _ _ _ (by omega), if_pos (by omega)]
  simp [hlt]

theorem CellRel.setRow_out {w0 : World} {g : Gh} {w : World} (h : WOk w0 g w) {id b off : Nat} {arr : Array Value} {T : TypeId} (hb : g.β id = some b) (hh : w.heap[b]? = some (.cells arr T (0, 0))) {us : List Value}
    (hl : off + us.length ≤ arr.size) {i o : Nat} {c : CS} (hc : CellRel g w i o c) (hout : i ≠ id ∨ o < off ∨ off + us.length ≤ o) :
    CellRel g (w.setRow b (arr.toList.take off ++ us ++ arr.toList.drop (off + us.length)).toArray) i o c := by
  obtain ⟨b', arr', T', u, hb', hh', ha', hr'⟩ := hc
  by_cases e : b' = b
  · subst e
    have hi : i = id := h.inj _ _ _ hb' hb
    rw [hh] at hh'; cases hh'
    refine ⟨b', _, T, u, hb', setRow_heap w b' arr _ T _ hh, ?_, hr'⟩
    rw [splice_get _ _ _ hl, if_neg (by rcases hout with h | h | h <;> omega)]
    exact ha'
  · exact ⟨b', arr', T', u, hb', by rw [setRow_other _ _ _ _ e]; exact hh', ha', hr'⟩

/-- what a cell of the own memory gives of its block -/
theorem block_of_cells {g : Gh} {w : World} {hp : Hp} (h : ∀ id off c, hp id off = some c → CellRel g w id off c) {id off n : Nat} (h0 : 0 < n) (hs : ∀ j, j < n → (hp id (off + j)).isSome = true) :
    ∃ b arr T, g.β id = some b ∧ w.heap[b]? = some (.cells arr T (0, 0)) ∧ off + n ≤ arr.size := by
  obtain ⟨c, hc⟩ := Option.isSome_iff_exists.1 (hs 0 h0)
  obtain ⟨b, arr, T, u, hb, hh, ha, _⟩ := h _ _ _ hc
  refine ⟨b, arr, T, hb, hh, ?_⟩
  obtain ⟨c', hc'⟩ := Option.isSome_iff_exists.1 (hs (n - 1) (by omega))
  obtain ⟨b', arr', T', u', hb', hh', ha', _⟩ := h _ _ _ hc'
  rw [hb] at hb'; cases hb'
  rw [hh] at hh'; cases hh'
  rcases Nat.lt_or_ge (off + (n - 1)) arr.size with h | h
  · omega
  · rw [Array.getElem?_eq_none h] at ha'; cases ha'

section
variable {P : Program}

/-- one operation, in the order of the text -/
theorem eff_step {w0 : World} {n : Nat} {o : Oper} {s : St} {e : Eff} (he : EffOk P o s e) {g : Gh} {a : Act} {w : World} (h : Sim w0 n s g a w) (hd : ∀ x, o.dst = some x → x < n)
    {K : Act → World → Prop} {Q : Exit → Act → World → Prop} (hk : ∀ g' a' w', Sim w0 n (applyEff s o.dst e) g' a' w' → K a' w') : o.wp P a w K Q := by
  cases e with
  | val cv deps =>
    obtain ⟨hdep, hh⟩ := he
    refine hh g w0 w a K Q (fun x _ => h.ev x) (fun d hd => h.cells _ _ _ (hdep d hd)) h.ok fun v g' w' haf hv => ?_
    exact hk g' _ w' ((h.after haf).put hd hv)
  | new cs =>
    have hi : g.β s.nx = none := by
      cases hb : g.β s.nx with
      | none => rfl
      | some b => have := h.nx _ _ hb; omega
    refine he g w a K Q (fun x _ => h.ev x) fun arr T hs hr => ?_
    refine hk (g.bind s.nx w.heap.size) _ _ ⟨tm_put (fun t => relV_mono (Gh.le_bind hi) _ _ (h.tm t)) h.len hd ⟨w.heap.size, ?_, rfl⟩, by rw [put_size]; exact h.len, by rw [put_defers']; exact h.df, h.ok.alloc hi arr T, fun id off c hc => ?_, fun i b hb => ?_⟩
    · show (if s.nx = s.nx then some w.heap.size else g.β s.nx) = _
      rw [if_pos rfl]
    · have hc : (bif Nat.beq id s.nx then cs[off]? else s.hp id off) = some c := hc
      by_cases e : id = s.nx
      · subst e
        simp at hc
        exact CellRel.fresh hi hs hr hc
      · have hb : Nat.beq id s.nx = false := by cases hb : Nat.beq id s.nx; rfl; exact absurd (Nat.eq_of_beq_eq_true hb) e
        rw [hb] at hc
        exact CellRel.alloc h.ok hi arr T (h.cells _ _ _ hc)
    · have hb : (if i = s.nx then some w.heap.size else g.β i) = some b := hb
      show i < s.nx + 1
      by_cases e : i = s.nx
      · omega
      · rw [if_neg e] at hb; have := h.nx _ _ hb; omega
  | put id off cs =>
    obtain ⟨⟨h0, hsome⟩, hh⟩ := he
    obtain ⟨b, arr, T, hb, hheap, hl⟩ := block_of_cells h.cells h0 hsome
    refine hh g w a K Q b arr T (fun x _ => h.ev x) hb hheap hl fun us hu hr => ?_
    refine hk g _ _ ⟨tm_put h.tm h.len hd rfl, by rw [put_size]; exact h.len, by rw [put_defers']; exact h.df, h.ok.setRow hb _, fun i o' c hc => ?_, h.nx⟩
    have hc2 : (bif Nat.beq i id && (Nat.ble off o' && Nat.blt o' (off + cs.length)) then cs[o' - off]? else s.hp i o') = some c := hc
    clear hc
    cases hx : Nat.beq i id && (Nat.ble off o' && Nat.blt o' (off + cs.length)) with
    | true =>
      rw [hx] at hc2
      simp only [Bool.and_eq_true] at hx
      obtain ⟨h1, h2, h3⟩ := hx
      obtain rfl := Nat.eq_of_beq_eq_true h1
      have h2 := Nat.le_of_ble_eq_true h2
      have h3 : o' < off + cs.length := Nat.le_of_ble_eq_true h3
      exact CellRel.setRow_in hb hheap hl hu hr h2 h3 hc2
    | false =>
      rw [hx] at hc2
      refine CellRel.setRow_out h.ok hb hheap (by omega) (h.cells _ _ _ hc2) ?_
      by_cases e : i = id
      · subst e
        right
        rcases Nat.lt_or_ge o' off with h1 | h1
        · exact .inl h1
        · rcases Nat.lt_or_ge o' (off + us.length) with h2 | h2
          · exfalso
            have e2 : Nat.ble off o' = true := Nat.ble_eq_true_of_le h1
            have e3 : Nat.blt o' (off + cs.length) = true := Nat.ble_eq_true_of_le (by omega)
            simp [e2, e3] at hx
          · exact .inr h2
      · exact .inl e

/-- the model's word for 'wanted' is ours -/
theorem wanted_of_guardVal {ops : Array Oper} {o : Oper} {s : St} {t : Bool} (h : guardVal ops o s = some t) {g : Gh} {tmps : Array Value} (hr : ∀ d, (∃ j b, o.guard = some (j, b) ∧ (ops[j]?).bind (·.dst) = some d) → relV g (s.tm d) (tmps.getD d undef)) :
    Region.wanted o (yielded ops tmps) = t := by
  unfold guardVal at h
  unfold Region.wanted
  split at h
  · rename_i hg; cases h; rw [hg]
  · rename_i j want hg
    rw [hg]
    split at h
    · cases h
    · rename_i d hd
      have hrd := hr d ⟨j, want, hg, hd⟩
      simp only [yielded, hd, Option.bind_some]
      split at h
      · rename_i b hb; cases h
        rw [hb] at hrd
        have : tmps.getD d undef = .bool b := hrd
        have h2 : tmps[d]? = some (.bool b) := by
          cases ht : tmps[d]? with
          | none => simp [ht, undef] at this
          | some v => simp [ht] at this; rw [this]
        rw [h2]
        cases b <;> cases want <;> rfl
      · rename_i vs hb; cases h
        rw [hb] at hrd
        have : tmps.getD d undef = .tuple vs := hrd
        cases ht : tmps[d]? with
        | none => cases want <;> rfl
        | some v => simp [ht] at this; rw [this]; cases want <;> rfl
      · cases h

/-- a region in the order of the text -/
theorem cops_lex {Γ : CEnv} (hΓ : GoodC P Γ) {ops : Array Oper} {w0 : World} {n : Nat} {Q : Exit → Act → World → Prop} : ∀ (l : List Oper) (k : Nat) (s : St) (acc : List Foot) (K : St → List Foot → Tr) (rv : CV) (g : Gh) (a : Act) (w : World),
    (∀ j, l[j]? = ops[k + j]?) → (∀ o ∈ l, ∀ x, o.dst = some x → x < n) → cops R P Γ ops l s acc K = some rv → Sim w0 n s g a w →
    (∀ s' acc' g' a' w', K s' acc' = some rv → Sim w0 n s' g' a' w' → Q .normal a' w') → wpOps P ops Q (List.range' k l.length) a w
  | [], k, s, acc, K, rv, g, a, w, hl, hd, h, hs, hq => by
    simp only [cops] at h
    exact hq s acc g a w h hs
  | o :: l, k, s, acc, K, rv, g, a, w, hl, hd, h, hs, hq => by
    have h0 : ops[k]? = some o := by simpa using (hl 0).symm
    have hl' : ∀ j, l[j]? = ops[k + 1 + j]? := fun j => by have := hl (j + 1); simpa [Nat.add_assoc, Nat.add_comm 1 j] using this
    simp only [List.length_cons, List.range'_succ]
    rw [wpOps_cons]
    unfold wpOp
    simp only [h0]
    have hc := cops_cons h
    clear h
    rcases hc with ⟨ht, h⟩ | ⟨ht, h⟩
    · have hw := wanted_of_guardVal ht (g := g) (tmps := a.tmps) (fun d _ => hs.tm d)
      rw [hw]
      simp only [if_true]
      left
      obtain ⟨e, he1, he2⟩ := cop_sound hΓ h
      exact eff_step he2 hs (hd o (by simp)) fun g' a' w' hs' => cops_lex hΓ l (k + 1) _ _ K rv g' a' w' hl' (fun o' ho' => hd o' (by simp [ho'])) he1 hs' hq
    · have hw := wanted_of_guardVal ht (g := g) (tmps := a.tmps) (fun d _ => hs.tm d)
      rw [hw]
      simp only [Bool.false_eq_true, if_false]
      exact cops_lex hΓ l (k + 1) _ _ K rv g _ w hl' (fun o' ho' => hd o' (by simp [ho'])) h (hs.put (hd o (by simp)) rfl) hq

end
end Go.Cv
