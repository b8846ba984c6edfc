/- Dl, Dm, Dn: merged by merge.py. -/
import Derived.Test.YtggaemodkekeeaaDk
import Derived.LoopN
import Derived.Scope

/- Statements on canonical values ('cwp'), and their soundness; regions in the order of the text. -/
namespace Go.Dv
open Go.RowKit Go.Cv

def applyEff (s : St) (d : Option Nat) : Eff → St
  | .val cv _ => s.put d cv
  | .new cs => { tm := upd s.tm d (.one (.s (.ptr s.nx 0))), hp := fun i o => bif Nat.beq i s.nx then cs[o]? else s.hp i o, nx := s.nx + 1, lo := s.lo }
  | .put id off cs => { tm := upd s.tm d (ex undef), hp := fun i o => bif Nat.beq i id && (Nat.ble off o && Nat.blt o (off + cs.length)) then cs[o - off]? else s.hp i o, nx := s.nx, lo := s.lo }
  | .mk e l => bornSt s d e l
  | .gen s' => s'

/-- is the operation wanted: 'none' where that cannot be told -/
def guardVal (ops : Array Oper) (o : Oper) (s : St) : Option Bool :=
  match o.guard with
  | none => some true
  | some (j, want) =>
    match (ops[j]?).bind (·.dst) with
    | none => none
    | some d => match s.tm d with
      | .one (.s (.v (.bool b))) => some (b == want)
      | .one (.s (.v (.tuple _))) => some false
      | _ => none

/-- the places that an effect reads and writes -/
structure Foot where
  rd : List (Nat × Nat)
  wr : List (Nat × Nat)
  new : Option Nat
  gen : Bool

def foot (s : St) : Option Eff → Foot
  | none => ⟨[], [], none, false⟩
  | some (.val _ deps) => ⟨deps.map fun d => (d.1, d.2.1), [], none, false⟩
  | some (.new _) => ⟨[], [], some s.nx, false⟩
  | some (.put id off cs) => ⟨[], (List.range cs.length).map fun j => (id, off + j), none, false⟩
  | some (.mk _ _) => ⟨[], [], some s.nx, false⟩
  | some (.gen _) => ⟨[], [], none, true⟩

def stepSt (s : St) (d : Option Nat) : Option Eff → St
  | none => s.put d (ex undef)
  | some e => applyEff s d e

/-- a test's slot, once the test is decided -/
def setB (s : St) (d : Nat) (t : Bool) : St := { s with tm := upd s.tm (some d) (exB t) }
def setOp (s : St) (c : Operand) (t : Bool) : St :=
  match c with
  | .tmp d => setB s d t
  | _ => s

theorem setB_eq {s : St} {d : Nat} {t : Bool} (h : s.tm d = exB t) : setB s d t = s := by
  have : upd s.tm (some d) (exB t) = s.tm := by
    funext k
    by_cases e : k = d
    · subst e; rw [upd_same, h]
    · rw [upd_ne _ _ e]
  unfold setB; rw [this]

theorem setOp_eq {s : St} {c : Operand} {t : Bool} (h : s.ev c = exB t) : setOp s c t = s := by
  cases c <;> first | rfl | exact setB_eq h

/-- one operation; where the order is free, the list of a text's own elements is taken for data that nobody writes -/
def copd (M : FOps) (P : Program) (Γ : CEnv) {α : Type} (dr : Bool) (d : Option Nat) (o : Op) (s : St) (K : Eff → Tr α) : Tr α :=
  match dr with
  | false => cop M P Γ d o s K
  | true => match o with
    | .buildSlice T len parts =>
      match elemSh P T, partsOf s.ev parts.toList with
      | some e, some ps =>
        brT (elemOk P T e && Nat.ble (len * e.size) 16777216) (match fillC ((List.range len).map fun i => (i * e.size, e.size)) ((List.range len).flatMap fun _ => cells false e e.dflt) ps with
        | some cs => match decRow e (fun j => cs.getD j .any) len 0 with
          | some l => K (.val (sc (.ls false e l)) [])
          | none => none
        | none => none) none
      | _, _ => none
    | .makeSlice T len cap =>
      match elemSh P T, idxOf (s.ev len), idxOf (s.ev cap) with
      | some e, some n, some c => brT (elemOk P T e && ((decide (0 ≤ n) && decide (n ≤ c)) && decide (c ≤ (mostLen : Int)))) (K (.mk e (List.replicate n.toNat e.dflt))) none
      | _, _, _ => none
    | o => cop M P Γ d o s K

theorem copd_sound {P : Program} {α : Type} {Γ : CEnv} (hΓ : GoodC P Γ) {dr : Bool} {o : Oper} {s : St} {K : Eff → Tr α} {rv : α} (h : copd R P Γ dr o.dst o.op s K = some rv) : ∃ e, K e = some rv ∧ EffOk P o s e := by
  cases dr with
  | false => exact cop_sound hΓ h
  | true =>
    unfold copd at h
    simp only at h
    split at h
    · rename_i T len parts ho
      split at h
      · rename_i e ps h1 h2
        have hbr := brT_req h; clear h; obtain ⟨hh, h⟩ := hbr
        simp only [Bool.and_eq_true] at hh
        obtain ⟨h4, h5⟩ := hh
        have h5 := Nat.le_of_ble_eq_true h5
        split at h
        · rename_i cs hf
          split at h
          · rename_i l hl
            obtain ⟨p1, p2⟩ := buildSlice_sound ho h4 h2 hf h5 hl
            exact ⟨_, h, p1⟩
          · cases h
        · cases h
      · cases h
    · rename_i T len cap ho
      split at h
      · rename_i e n c h1 h2 h3
        have hbr := brT_req h; clear h; obtain ⟨hh, h⟩ := hbr
        simp only [Bool.and_eq_true, decide_eq_true_eq] at hh
        exact ⟨_, h, makeSlice_mk ho hh.1 h2 h3 hh.2.1.1 hh.2.1.2 hh.2.2⟩
      · cases h
    · exact cop_sound hΓ h

def cops (M : FOps) (P : Program) (Γ : CEnv) {α : Type} (dr : Bool) (ops : Array Oper) : List Oper → St → List Foot → (St → List Foot → Tr α) → Tr α
  | [], s, acc, K => K s acc
  | o :: rest, s, acc, K =>
    match o.guard with
    | none => copd M P Γ dr o.dst o.op s fun e => cops M P Γ dr ops rest (applyEff s o.dst e) (foot s (some e) :: acc) K
    | some (j, want) =>
      match (ops[j]?).bind (·.dst) with
      | none => none
      | some d => match s.tm d with
        | .one (.s (.v (.bool b))) =>
          match want with
          | true => brT b (copd M P Γ dr o.dst o.op (setB s d true) fun e => cops M P Γ dr ops rest (applyEff (setB s d true) o.dst e) (foot (setB s d true) (some e) :: acc) K)
              (cops M P Γ dr ops rest ((setB s d false).put o.dst (ex undef)) (foot (setB s d false) none :: acc) K)
          | false => brT b (cops M P Γ dr ops rest ((setB s d true).put o.dst (ex undef)) (foot (setB s d true) none :: acc) K)
              (copd M P Γ dr o.dst o.op (setB s d false) fun e => cops M P Γ dr ops rest (applyEff (setB s d false) o.dst e) (foot (setB s d false) (some e) :: acc) K)
        | .one (.s (.v (.tuple _))) => cops M P Γ dr ops rest (s.put o.dst (ex undef)) (foot s none :: acc) K
        | _ => none

theorem cops_cons {M : FOps} {P : Program} {Γ : CEnv} {dr : Bool} {ops : Array Oper} {o : Oper} {rest : List Oper} {s : St} {acc : List Foot} {α : Type} {K : St → List Foot → Tr α} {rv : α} (h : cops M P Γ dr ops (o :: rest) s acc K = some rv) :
    (guardVal ops o s = some true ∧ (copd M P Γ dr o.dst o.op s fun e => cops M P Γ dr ops rest (applyEff s o.dst e) (foot s (some e) :: acc) K) = some rv) ∨
    (guardVal ops o s = some false ∧ cops M P Γ dr ops rest (s.put o.dst (ex undef)) (foot s none :: acc) K = some rv) := by
  simp only [cops] at h
  split at h
  · rename_i hg; exact .inl ⟨by unfold guardVal; simp only [hg], h⟩
  · rename_i j want hg
    split at h
    · cases h
    · rename_i d hd
      split at h
      · rename_i b hb
        have hgv : guardVal ops o s = some (b == want) := by unfold guardVal; simp only [hg, hd, hb]
        rw [hgv]
        cases want <;> simp only at h
        · have hbr := brT_some h; clear h; rcases hbr with ⟨rfl, h⟩ | ⟨rfl, h⟩
          · rw [setB_eq hb] at h; exact .inr ⟨rfl, h⟩
          · rw [setB_eq hb] at h; exact .inl ⟨rfl, h⟩
        · have hbr := brT_some h; clear h; rcases hbr with ⟨rfl, h⟩ | ⟨rfl, h⟩
          · rw [setB_eq hb] at h; exact .inl ⟨rfl, h⟩
          · rw [setB_eq hb] at h; exact .inr ⟨rfl, h⟩
      · rename_i vs hb
        exact .inr ⟨by unfold guardVal; simp only [hg, hd, hb], h⟩
      · cases h

/-! ### the order of a region -/

def beforeBits (acc : List Nat) (o : Oper) : Nat :=
  o.after.toList.foldl (fun s e => if Region.binds .any e then s ||| (2 ^ e.on ||| acc.getD e.on 0) else s) 0

def beforeGo : List Oper → List Nat → List Nat
  | [], acc => acc
  | o :: rest, acc => beforeGo rest (acc ++ [beforeBits acc o])

def hits (xs ys : List (Nat × Nat)) : Bool := xs.any fun p => ys.any fun q => Nat.beq p.1 q.1 && Nat.beq p.2 q.2
def inNew (n : Option Nat) (xs : List (Nat × Nat)) : Bool := match n with | none => false | some i => xs.any fun p => Nat.beq p.1 i
def clash (x y : Foot) : Bool := hits x.wr y.wr || hits x.wr y.rd || hits x.rd y.wr || inNew x.new y.rd || inNew x.new y.wr || inNew y.new x.rd || inNew y.new x.wr

/-- every two operations that touch one place are ordered by an edge; every edge leads back -/
def orderFrom (p : Nat) (ops : Array Oper) (feet : List Foot) : Bool :=
  let bs := beforeGo ops.toList []
  (List.range ops.size).all fun k =>
    match ops[k]?, feet[k]? with
    | some y, some fy => y.after.all (fun e => !Region.binds .any e || decide (e.on < k)) &&
      (List.range k).all fun i =>
        Nat.blt i p || match ops[i]?, feet[i]? with
        | some x, some fx => ((Oper.apart ops x y && !clash fx fy) && !(fx.gen || fy.gen)) || (bs.getD k 0).testBit i
        | _, _ => false
    | _, _ => false

/-- the first operation is a move that no other one hinders -/
def moveFirst (ops : Array Oper) : Bool :=
  match ops[0]? with
  | some o => (match o.op, o.guard with | .move _, none => true | _, _ => false) && ((Region.free .any ops (Array.replicate ops.size false) 0 && o.after.isEmpty) && Region.noSelect ops)
  | none => false
def orderOk (ops : Array Oper) (feet : List Foot) : Bool := orderFrom 0 ops feet || (moveFirst ops && orderFrom 1 ops feet)

def cregion (M : FOps) (P : Program) (Γ : CEnv) {α : Type} (ops : Array Oper) (draw : Bool) (s : St) (K : St → Tr α) : Tr α :=
  match draw with
  | true => cops M P Γ true ops ops.toList s [] fun s' feet => brT (orderOk ops feet.reverse) (K s') none
  | false => cops M P Γ false ops ops.toList s [] fun s' _ => K s'

def seqK {α : Type} (Kn : St → Tr α) (K : Exit → St → Tr α) : Exit → St → Tr α
  | .normal, s => Kn s
  | e, s => K e s

def blockK {α : Type} (id : Nat) (K : Exit → St → Tr α) : Exit → St → Tr α
  | .exit i, s => bif Nat.beq i id then K .normal s else K (.exit i) s
  | e, s => K e s

def scopeK {α : Type} (K : Exit → St → Tr α) : Exit → St → Tr α
  | .goto _, _ => none
  | e, s => K e s

def cloop {α : Type} (body : (Exit → St → Tr α) → St → Tr α) : Nat → (Exit → St → Tr α) → St → Tr α
  | 0, _, _ => none
  | n + 1, K, s => body (seqK (fun s' => cloop body n K s') K) s

/-- what a loop leads to: by its ways -/
inductive LT where
  | leaf (e : Exit) (s : St)
  | br (c : Bool) (a b : LT)
  | no

def LT.run {α : Type} : LT → (Exit → St → Tr α) → Tr α
  | .leaf e s, K => K e s
  | .br c a b, K => brT c (a.run K) (b.run K)
  | .no, _ => none

def LT.holds : LT → (Exit → St → Prop) → Prop
  | .leaf e s, K => K e s
  | .br c a b, K => match c with
    | true => a.holds K
    | false => b.holds K
  | .no, _ => False

abbrev LSpec := St → LT

def nLoops : Code → Nat
  | .seq x y => nLoops x + nLoops y
  | .cond _ x y => nLoops x + nLoops y
  | .block _ c => nLoops c
  | .loop c => nLoops c + 1
  | .scope c => nLoops c
  | _ => 0

/-- the loops of a text, the outer ones first -/
def loopsOf : Code → List Code
  | .seq x y => loopsOf x ++ loopsOf y
  | .cond _ x y => loopsOf x ++ loopsOf y
  | .block _ c => loopsOf c
  | .loop c => c :: loopsOf c
  | .scope c => loopsOf c
  | _ => []

theorem nLoops_eq : ∀ c : Code, (loopsOf c).length = nLoops c := by
  intro c
  induction c with
  | seq x y ihx ihy => simp [loopsOf, nLoops, ihx, ihy]
  | cond _ x y ihx ihy => simp [loopsOf, nLoops, ihx, ihy]
  | block _ c ih => simp [loopsOf, nLoops, ih]
  | loop c ih => simp [loopsOf, nLoops, ih]
  | scope c ih => simp [loopsOf, nLoops, ih]
  | _ => rfl

/-- statements; 'Λ': the loops whose meaning is told; 'F' bounds the rounds of each other loop; 'b': how many loops stand before -/
def cwp (M : FOps) (P : Program) (Γ : CEnv) (Λ : Nat → Option LSpec) {α : Type} (F : Nat) : Code → Nat → (Exit → St → Tr α) → St → Tr α
  | .skip, _, K, s => K .normal s
  | .label _, _, K, s => K .normal s
  | .region _ ops draw, _, K, s => cregion M P Γ ops draw s (K .normal)
  | .seq x y, b, K, s => cwp M P Γ Λ F x b (seqK (cwp M P Γ Λ F y (b + nLoops x) K) K) s
  | .cond c x y, b, K, s =>
    match s.ev c with
    | .one (.s (.v (.bool t))) => brT t (cwp M P Γ Λ F x b K (setOp s c true)) (cwp M P Γ Λ F y (b + nLoops x) K (setOp s c false))
    | _ => none
  | .block id c, b, K, s => cwp M P Γ Λ F c b (blockK id K) s
  | .loop c, b, K, s =>
    match Λ b with
    | some L => (L s).run K
    | none => cloop (fun K s => cwp M P Γ Λ F c (b + 1) K s) F K s
  | .exit id, _, K, s => K (.exit id) s
  | .scope c, b, K, s => cwp M P Γ Λ F c b (scopeK K) s
  | .ret, _, K, s => K .ret s
  | _, _, _, _ => none

/-- every slot that is written lies in the frame -/
def dstOk (n : Nat) : Code → Bool
  | .region _ ops _ => ops.toList.all fun o => match o.dst with | some d => decide (d < n) | none => true
  | .seq x y => dstOk n x && dstOk n y
  | .cond _ x y => dstOk n x && dstOk n y
  | .block _ c => dstOk n c
  | .loop c => dstOk n c
  | .scope c => dstOk n c
  | _ => true

theorem CellRel.alloc {X : Fr} {w0 : World} {g : Gh} {w : World} (h : WOk X w0 g w) {i c : Nat} (hi : g.β i = none) (arr : Array Value) (T : TypeId) {id off : Nat} {cc : CS} (hne : id ≠ i) (hc : CellRel g w id off cc) :
    CellRel (g.bind i w.heap.size c) (w.alloc (.cells arr T)) id off cc :=
  hc.keep (Gh.le_bind hi) (Gh.bind_ne g hne) (fun _ hb => Below.heap_alloc _ _ _ (h.fresh _ _ hb).2.1)

theorem CellRel.fresh {g : Gh} {w : World} {i c0 : Nat} (hi : g.β i = none) {cs : List CS} {arr : Array Value} {T : TypeId} (hs : arr.size = cs.length)
    (hr : ∀ (j : Nat) c u, cs[j]? = some c → arr[j]? = some u → rel g c u) {off : Nat} {c : CS} (hc : cs[off]? = some c) : CellRel (g.bind i w.heap.size c0) (w.alloc (.cells arr T)) i off c := by
  have hlt : off < arr.size := by
    rw [hs]
    rcases Nat.lt_or_ge off cs.length with h | h
    · exact h
    · rw [List.getElem?_eq_none h] at hc; cases hc
  exact .inr ⟨w.heap.size, arr, T, arr[off], (Gh.bind_same g i _ _).1, .of (heap_alloc_same _ _), by simp [hlt], rel_mono (Gh.le_bind hi) _ _ (hr off c _ hc (by simp [hlt]))⟩

theorem CellRel.setRow_in {g : Gh} {w : World} {id b off : Nat} {arr : Array Value} {T : TypeId} (hb : g.β id = some b) (hh : RowAt w b arr T) {cs : List CS} {us : List Value}
    (hl : off + cs.length ≤ arr.size) (hu : us.length = cs.length) (hr : ∀ (j : Nat) c u, cs[j]? = some c → us[j]? = some u → rel g c u) {o : Nat} {c : CS} (h1 : off ≤ o) (h2 : o < off + cs.length) (hc : cs[o - off]? = some c) :
    CellRel g (w.setRow b (arr.toList.take off ++ us ++ arr.toList.drop (off + us.length)).toArray) id o c := by
  have hlt : o - off < us.length := by omega
  refine .inr ⟨b, _, T, us[o - off], hb, hh.set (splice_size _ _ _ (by omega)), ?_, hr (o - off) c _ hc (by simp [hlt])⟩
  rw [splice_get _ _ _ (by omega), if_pos (by omega)]
  simp [hlt]

theorem CellRel.setRow_out {X : Fr} {w0 : World} {g : Gh} {w : World} (h : WOk X w0 g w) {id b off : Nat} {arr : Array Value} {T : TypeId} (hb : g.β id = some b) (hh : RowAt w b arr T) {us : List Value}
    (hl : off + us.length ≤ arr.size) {i o : Nat} {c : CS} (hc : CellRel g w i o c) (hout : i ≠ id ∨ ((∀ e l, c ≠ .arr e l) ∧ (o < off ∨ off + us.length ≤ o))) :
    CellRel g (w.setRow b (arr.toList.take off ++ us ++ arr.toList.drop (off + us.length)).toArray) i o c := by
  by_cases e : i = id
  · subst e
    rcases hout with hout | ⟨hna, hout⟩
    · exact absurd rfl hout
    rcases hc with ⟨e, l, h1, _⟩ | ⟨b', arr', T', u, hb', hh', ha', hr'⟩
    · exact absurd h1 (hna e l)
    · rw [hb] at hb'; cases hb'
      obtain ⟨rfl, rfl⟩ := hh.inj hh'
      refine .inr ⟨b, _, T, u, hb, hh.set (splice_size _ _ _ hl), ?_, hr'⟩
      rw [splice_get _ _ _ hl, if_neg (by omega)]
      exact ha'
  · exact hc.keep (Gh.le_refl g) rfl (fun b' hb' => setRow_other _ _ _ _ fun e2 => by subst e2; exact e (h.inj _ _ _ hb' hb))

/-- what a cell of the own memory gives of its block -/
theorem block_of_cells {g : Gh} {w : World} {hp : Hp} (h : ∀ id off c, hp id off = some c → CellRel g w id off c) {id off n : Nat} (h0 : 0 < n) (hs : ∀ j, j < n → ∃ c, hp id (off + j) = some c ∧ cellish c = true) :
    ∃ b arr T, g.β id = some b ∧ RowAt w b arr T ∧ off + n ≤ arr.size := by
  obtain ⟨c, hc, hp⟩ := hs 0 h0
  obtain ⟨b, arr, T, u, hb, hh, ha, _⟩ := cellPlace hp (h _ _ _ hc)
  refine ⟨b, arr, T, hb, hh, ?_⟩
  obtain ⟨c', hc', hp'⟩ := hs (n - 1) (by omega)
  obtain ⟨b', arr', T', u', hb', hh', ha', _⟩ := cellPlace hp' (h _ _ _ hc')
  rw [hb] at hb'; cases hb'
  obtain ⟨rfl, rfl⟩ := hh.inj hh'
  rcases Nat.lt_or_ge (off + (n - 1)) arr.size with h | h
  · omega
  · rw [Array.getElem?_eq_none h] at ha'; cases ha'

section
variable {P : Program} {α : Type}

/-- one operation, in the order of the text -/
theorem eff_step {X : Fr} {w0 : World} {n : Nat} {o : Oper} {s : St} {e : Eff} (he : EffOk P o s e) {g : Gh} {a : Act} {w : World} (h : Sim X w0 n s g a w) (hd : ∀ x, o.dst = some x → x < n)
    {K : Act → World → Prop} {Q : Exit → Act → World → Prop} (hk : ∀ g' a' w', Sim X w0 n (applyEff s o.dst e) g' a' w' → K a' w') : o.wp P a w K Q := by
  cases e with
  | val cv deps =>
    obtain ⟨hdep, hh⟩ := he
    refine hh X g w0 w a K Q (fun x _ => h.ev x) (fun d hd => h.cells _ _ _ (hdep d hd)) h.ok ⟨s.nx, h.ln, fun d hd => h.hx _ _ _ (hdep d hd), free_nx h⟩ fun v g' w' haf hv => ?_
    exact hk g' _ w' ((h.after haf).put hd hv)
  | new cs =>
    have hi := free_nx h s.nx (Nat.le_refl _)
    refine he.2 g w a K Q (fun x _ => h.ev x) fun arr T hs hr => ?_
    have hle := Gh.le_bind (b := w.heap.size) (c := 0) hi
    refine hk (g.bind s.nx w.heap.size 0) _ _ ⟨tm_put (fun t => relV_mono hle _ _ (h.tm t)) h.len hd ⟨w.heap.size, (Gh.bind_same g _ _ _).1, rfl⟩, by rw [put_size]; exact h.len, by rw [put_defers']; exact h.df, h.ok.alloc _ _ h.ln arr T, fun id off c hc => ?_, fun i b hb => ?_, fun i off c hc => ?_, h.lo, by show X.n ≤ s.nx + 1; have := h.ln; omega⟩
    · have hc : (bif Nat.beq id s.nx then cs[off]? else s.hp id off) = some c := hc
      by_cases e : id = s.nx
      · subst e
        simp at hc
        exact CellRel.fresh hi hs hr hc
      · rw [beq_ne e] at hc
        exact CellRel.alloc h.ok hi arr T e (h.cells _ _ _ hc)
    · show i < s.nx + 1
      by_cases e : i = s.nx
      · omega
      · rw [Gh.bind_ne g e] at hb; have := h.nx _ _ hb; omega
    · have hc : (bif Nat.beq i s.nx then cs[off]? else s.hp i off) = some c := hc
      show i < s.nx + 1
      by_cases e : i = s.nx
      · omega
      · rw [beq_ne e] at hc; have := h.hx _ _ _ hc; omega
  | mk e l =>
    refine he g w a K Q (fun x _ => h.ev x) fun arr T c hs hl hr => ?_
    exact hk _ _ _ (h.born (d := o.dst) hd (T := T) hs hl hr)
  | put id off cs =>
    obtain ⟨⟨h0, hsome, hna, _⟩, hh⟩ := he
    obtain ⟨b, arr, T, hb, hheap, hl⟩ := block_of_cells h.cells h0 hsome
    refine hh g w a K Q b arr T (fun x _ => h.ev x) hb hheap hl fun us hu hr => ?_
    have key : ∀ {i o' : Nat} {c : CS}, (bif Nat.beq i id && (Nat.ble off o' && Nat.blt o' (off + cs.length)) then cs[o' - off]? else s.hp i o') = some c →
        (i = id ∧ off ≤ o' ∧ o' < off + cs.length ∧ cs[o' - off]? = some c) ∨ (s.hp i o' = some c ∧ (i ≠ id ∨ (o' < off ∨ off + us.length ≤ o'))) := fun {i o' c} hc2 => by
      cases hx : Nat.beq i id && (Nat.ble off o' && Nat.blt o' (off + cs.length)) with
      | true =>
        rw [hx] at hc2
        simp only [Bool.and_eq_true] at hx
        obtain ⟨h1, h2, h3⟩ := hx
        exact .inl ⟨Nat.eq_of_beq_eq_true h1, Nat.le_of_ble_eq_true h2, Nat.le_of_ble_eq_true h3, hc2⟩
      | false =>
        rw [hx] at hc2
        refine .inr ⟨hc2, ?_⟩
        by_cases e : i = id
        · subst e
          right
          rcases Nat.lt_or_ge o' off with h1 | h1
          · exact .inl h1
          · rcases Nat.lt_or_ge o' (off + us.length) with h2 | h2
            · exfalso
              have e2 : Nat.ble off o' = true := Nat.ble_eq_true_of_le h1
              have e3 : Nat.blt o' (off + cs.length) = true := Nat.ble_eq_true_of_le (by omega)
              simp [e2, e3] at hx
            · exact .inr h2
        · exact .inl e
    refine hk g _ _ ⟨tm_put h.tm h.len hd rfl, by rw [put_size]; exact h.len, by rw [put_defers']; exact h.df, h.ok.setRow hb hheap _, fun i o' c hc => ?_, h.nx, fun i o' c hc => ?_, h.lo, h.ln⟩
    · rcases key hc with ⟨rfl, h1, h2, h3⟩ | ⟨h1, h2⟩
      · exact CellRel.setRow_in hb hheap hl hu hr h1 h2 h3
      · refine CellRel.setRow_out h.ok hb hheap (by omega) (h.cells _ _ _ h1) ?_
        rcases h2 with h2 | h2
        · exact .inl h2
        · by_cases e : i = id
          · subst e
            refine .inr ⟨fun e l he => ?_, h2⟩
            subst he
            rcases h.cells _ _ _ h1 with ⟨e', l', h3, h4, _⟩ | ⟨_, _, _, _, _, _, _, hf⟩
            · subst h4; exact hna _ _ h1
            · exact hf
          · exact .inl e
    · rcases key hc with ⟨rfl, _⟩ | ⟨h1, _⟩
      · exact h.nx _ _ hb
      · exact h.hx _ _ _ h1
  | gen s' => exact he X w0 n g a w K Q h hd hk

/-- the model's word for 'wanted' is ours -/
theorem wanted_of_guardVal {ops : Array Oper} {o : Oper} {s : St} {t : Bool} (h : guardVal ops o s = some t) {g : Gh} {tmps : Array Value} (hr : ∀ d, (∃ j b, o.guard = some (j, b) ∧ (ops[j]?).bind (·.dst) = some d) → relV g (s.tm d) (tmps.getD d undef)) :
    Region.wanted o (yielded ops tmps) = t := by
  unfold guardVal at h
  unfold Region.wanted
  split at h
  · rename_i hg; cases h; rw [hg]
  · rename_i j want hg
    rw [hg]
    split at h
    · cases h
    · rename_i d hd
      have hrd := hr d ⟨j, want, hg, hd⟩
      simp only [yielded, hd, Option.bind_some]
      split at h
      · rename_i b hb; cases h
        rw [hb] at hrd
        have : tmps.getD d undef = .bool b := hrd
        have h2 : tmps[d]? = some (.bool b) := by
          cases ht : tmps[d]? with
          | none => simp [ht, undef] at this
          | some v => simp [ht] at this; rw [this]
        rw [h2]
        cases b <;> cases want <;> rfl
      · rename_i vs hb; cases h
        rw [hb] at hrd
        have : tmps.getD d undef = .tuple vs := hrd
        cases ht : tmps[d]? with
        | none => cases want <;> rfl
        | some v => simp [ht] at this; rw [this]; cases want <;> rfl
      · cases h

/-- a region in the order of the text -/
theorem cops_lex {Γ : CEnv} (hΓ : GoodC P Γ) {dr : Bool} {ops : Array Oper} {X : Fr} {w0 : World} {n : Nat} {Q : Exit → Act → World → Prop} : ∀ (l : List Oper) (k : Nat) (s : St) (acc : List Foot) (K : St → List Foot → Tr α) (rv : α) (g : Gh) (a : Act) (w : World),
    (∀ j, l[j]? = ops[k + j]?) → (∀ o ∈ l, ∀ x, o.dst = some x → x < n) → cops R P Γ dr ops l s acc K = some rv → Sim X w0 n s g a w →
    (∀ s' acc' g' a' w', K s' acc' = some rv → Sim X w0 n s' g' a' w' → Q .normal a' w') → wpOps P ops Q (List.range' k l.length) a w
  | [], k, s, acc, K, rv, g, a, w, hl, hd, h, hs, hq => by
    simp only [cops] at h
    exact hq s acc g a w h hs
  | o :: l, k, s, acc, K, rv, g, a, w, hl, hd, h, hs, hq => by
    have h0 : ops[k]? = some o := by simpa using (hl 0).symm
    have hl' : ∀ j, l[j]? = ops[k + 1 + j]? := fun j => by have := hl (j + 1); simpa [Nat.add_assoc, Nat.add_comm 1 j] using this
    simp only [List.length_cons, List.range'_succ]
    rw [wpOps_cons]
    unfold wpOp
    simp only [h0]
    have hc := cops_cons h
    clear h
    rcases hc with ⟨ht, h⟩ | ⟨ht, h⟩
    · have hw := wanted_of_guardVal ht (g := g) (tmps := a.tmps) (fun d _ => hs.tm d)
      rw [hw]
      simp only [if_true]
      left
      obtain ⟨e, he1, he2⟩ := copd_sound hΓ h
      exact eff_step he2 hs (hd o (by simp)) fun g' a' w' hs' => cops_lex hΓ l (k + 1) _ _ K rv g' a' w' hl' (fun o' ho' => hd o' (by simp [ho'])) he1 hs' hq
    · have hw := wanted_of_guardVal ht (g := g) (tmps := a.tmps) (fun d _ => hs.tm d)
      rw [hw]
      simp only [Bool.false_eq_true, if_false]
      exact cops_lex hΓ l (k + 1) _ _ K rv g _ w hl' (fun o' ho' => hd o' (by simp [ho'])) h (hs.put (hd o (by simp)) rfl) hq

end
end Go.Dv

/- A region that draws its order: where every two operations that touch one place are ordered by an edge, each order ends as the order of the text does. -/
namespace Go.Dv
open Go.RowKit Go.Cv

/-! ### the last listed writer of a place -/

def fold {X : Type} (wr : Nat → Option X) (L : Nat → Bool) (x0 : X) : Nat → X
  | 0 => x0
  | k + 1 => if L k then (wr k).getD (fold wr L x0 k) else fold wr L x0 k

def addL (L : Nat → Bool) (i : Nat) : Nat → Bool := fun k => if k = i then true else L k

theorem fold_agree {X : Type} {wr : Nat → Option X} {L : Nat → Bool} {x0 : X} {i : Nat} (h1 : ∀ k, k < i → (wr k).isSome = true → L k = true) : ∀ n, i ≤ n →
    (∀ k, i ≤ k → k < n → (wr k).isSome = true → L k = false) → fold wr L x0 n = fold wr (fun _ => true) x0 i := by
  have base : fold wr L x0 i = fold wr (fun _ => true) x0 i := by
    induction i with
    | zero => rfl
    | succ i ih =>
      have ih := ih (fun k hk => h1 k (by omega))
      simp only [fold, if_true]
      cases hw : wr i with
      | none => simp [ih]
      | some x => rw [h1 i (by omega) (by rw [hw]; rfl)]; simp
  intro n hn
  induction n with
  | zero => intro _; have : i = 0 := by omega
            subst this; exact base
  | succ n ih =>
    intro h2
    by_cases e : i = n + 1
    · subst e; exact base
    · have ih := ih (by omega) (fun k h3 h4 => h2 k h3 (by omega))
      simp only [fold]
      cases hw : wr n with
      | none => simp [ih]
      | some x => rw [h2 n (by omega) (by omega) (by rw [hw]; rfl)]; simp [ih]

theorem fold_add_ne {X : Type} {wr : Nat → Option X} {L : Nat → Bool} {x0 : X} {i : Nat} (h : wr i = none) : ∀ n, fold wr (addL L i) x0 n = fold wr L x0 n
  | 0 => rfl
  | n + 1 => by
    simp only [fold, fold_add_ne h n, addL]
    by_cases e : n = i
    · subst e; simp [h]
    · simp [e]

theorem fold_add_eq {X : Type} {wr : Nat → Option X} {L : Nat → Bool} {x0 : X} {i : Nat} {x : X} (h : wr i = some x) : ∀ n, i < n → (∀ k, i < k → k < n → (wr k).isSome = true → L k = false) →
    fold wr (addL L i) x0 n = x
  | 0, hn, _ => by omega
  | n + 1, hn, h2 => by
    simp only [fold, addL]
    by_cases e : n = i
    · subst e; simp [h]
    · have ih := fold_add_eq (x0 := x0) h n (by omega) (fun k h3 h4 => h2 k h3 (by omega))
      simp only [e, if_false]
      cases hw : wr n with
      | none => simp [ih]
      | some y => rw [h2 n (by omega) (by omega) (by rw [hw]; rfl)]; simp [ih]

def cnt (L : Nat → Bool) : Nat → Nat
  | 0 => 0
  | k + 1 => cnt L k + (if L k then 0 else 1)

theorem cnt_add_ge {L : Nat → Bool} {i : Nat} : ∀ n, n ≤ i → cnt (addL L i) n = cnt L n
  | 0, _ => rfl
  | n + 1, h => by
    have ih : cnt (addL L i) n = cnt L n := cnt_add_ge n (Nat.le_of_succ_le h)
    have e : ¬ n = i := by omega
    simp [cnt, ih, addL, e]

theorem cnt_add {L : Nat → Bool} {i : Nat} (hi : L i = false) : ∀ n, i < n → cnt (addL L i) n + 1 = cnt L n
  | 0, h => by omega
  | n + 1, h => by
    by_cases e : n = i
    · subst e; simp [cnt, cnt_add_ge n (Nat.le_refl _), addL, hi]
    · have := cnt_add hi n (by omega)
      simp only [cnt, addL, e, if_false]
      omega

theorem cnt_zero {L : Nat → Bool} : ∀ n, cnt L n = 0 → ∀ k, k < n → L k = true
  | 0, _, k, hk => by omega
  | n + 1, h, k, hk => by
    simp only [cnt] at h
    have h1 : cnt L n = 0 := by omega
    have h2 : L n = true := by cases hl : L n; (rw [hl] at h; simp at h); rfl
    by_cases e : k = n
    · subst e; exact h2
    · exact cnt_zero n h1 k (by omega)

/-! ### the edges -/

def Closed (ops : Array Oper) (L : Nat → Bool) : Prop :=
  ∀ k o, ops[k]? = some o → L k = true → ∀ e ∈ o.after, Region.binds .any e = true → L e.on = true

def Reach (ops : Array Oper) (k i : Nat) : Prop :=
  ∀ L : Nat → Bool, Closed ops L → (∀ o, ops[k]? = some o → ∀ e ∈ o.after, Region.binds .any e = true → L e.on = true) → L i = true

theorem bits_spec (acc : List Nat) (i : Nat) : ∀ (es : List Edge) (s : Nat), (es.foldl (fun s e => if Region.binds .any e then s ||| (2 ^ e.on ||| acc.getD e.on 0) else s) s).testBit i = true →
    s.testBit i = true ∨ ∃ e ∈ es, Region.binds .any e = true ∧ (i = e.on ∨ (acc.getD e.on 0).testBit i = true)
  | [], s, h => .inl h
  | e :: es, s, h => by
    simp only [List.foldl_cons] at h
    rcases bits_spec acc i es _ h with h | ⟨e', he', h1, h2⟩
    · by_cases hb : Region.binds .any e = true
      · rw [if_pos hb] at h
        simp only [Nat.testBit_or, Bool.or_eq_true] at h
        rcases h with h | h | h
        · exact .inl h
        · refine .inr ⟨e, by simp, hb, .inl ?_⟩
          rw [Nat.testBit_two_pow] at h
          exact (of_decide_eq_true h).symm
        · exact .inr ⟨e, by simp, hb, .inr h⟩
      · rw [if_neg hb] at h; exact .inl h
    · exact .inr ⟨e', by simp [he'], h1, h2⟩

theorem before_reach {ops : Array Oper} : ∀ (rest : List Oper) (acc : List Nat), (∀ j, rest[j]? = ops[acc.length + j]?) → (∀ k i, (acc.getD k 0).testBit i = true → Reach ops k i) →
    ∀ k i, ((beforeGo rest acc).getD k 0).testBit i = true → Reach ops k i
  | [], acc, _, h => h
  | o :: rest, acc, hl, h => by
    have h0 : ops[acc.length]? = some o := by simpa using (hl 0).symm
    refine before_reach rest (acc ++ [beforeBits acc o]) (fun j => ?_) (fun k i hb => ?_)
    · have := hl (j + 1)
      simp only [List.length_append, List.length_cons, List.length_nil]
      rw [show acc.length + (0 + 1) + j = acc.length + (j + 1) by omega, ← this]; simp
    · rcases Nat.lt_trichotomy k acc.length with hk | hk | hk
      · refine h k i ?_
        simpa [List.getD, List.getElem?_append_left hk] using hb
      · subst hk
        have hb : (beforeBits acc o).testBit i = true := by simpa [List.getD] using hb
        intro L hL he
        rcases bits_spec acc i _ 0 hb with h1 | ⟨e, he1, he2, he3⟩
        · simp at h1
        · have hon := he o h0 e (by simpa using he1) he2
          rcases he3 with rfl | he3
          · exact hon
          · exact h e.on i he3 L hL (fun o' ho' e' h3 h4 => hL e.on o' ho' hon e' h3 h4)
      · rw [List.getD, List.getElem?_eq_none (by simp; omega)] at hb
        simp at hb

/-! ### the trace of the order of the text -/

def stAt (s0 : St) (l : List Oper) (es : Nat → Option (Option Eff)) : Nat → St
  | 0 => s0
  | k + 1 => match l[k]?, es k with
    | some o, some e => stepSt (stAt s0 l es k) o.dst e
    | _, _ => stAt s0 l es k

theorem stAt_cons (s : St) (o : Oper) (l : List Oper) (e : Option Eff) (es : Nat → Option (Option Eff)) (h : es 0 = some e) : ∀ k, stAt s (o :: l) es (k + 1) = stAt (stepSt s o.dst e) l (fun j => es (j + 1)) k
  | 0 => by simp only [stAt, List.getElem?_cons_zero, h]
  | k + 1 => by
    rw [stAt, stAt_cons s o l e es h k]
    simp only [List.getElem?_cons_succ]
    rfl

section
variable {P : Program} {α : Type}

theorem cops_trace {Γ : CEnv} (hΓ : GoodC P Γ) {dr : Bool} {ops : Array Oper} : ∀ (l : List Oper) (s : St) (acc : List Foot) (K : St → List Foot → Tr α) (rv : α), cops R P Γ dr ops l s acc K = some rv →
    ∃ es : Nat → Option (Option Eff), K (stAt s l es l.length) (((List.range l.length).map fun k => foot (stAt s l es k) ((es k).getD none)).reverse ++ acc) = some rv ∧
      ∀ (k : Nat) o, l[k]? = some o → ∃ e, es k = some e ∧ guardVal ops o (stAt s l es k) = some e.isSome ∧ ∀ e', e = some e' → EffOk P o (stAt s l es k) e'
  | [], s, acc, K, rv, h => ⟨fun _ => none, by simpa [cops, stAt] using h, fun k o h => by simp at h⟩
  | o :: l, s, acc, K, rv, h => by
    have key : ∀ (e : Option Eff), guardVal ops o s = some e.isSome → (∀ e', e = some e' → EffOk P o s e') → cops R P Γ dr ops l (stepSt s o.dst e) (foot s e :: acc) K = some rv →
        ∃ es : Nat → Option (Option Eff), K (stAt s (o :: l) es (o :: l).length) (((List.range (o :: l).length).map fun k => foot (stAt s (o :: l) es k) ((es k).getD none)).reverse ++ acc) = some rv ∧
      ∀ (k : Nat) o', (o :: l)[k]? = some o' → ∃ e, es k = some e ∧ guardVal ops o' (stAt s (o :: l) es k) = some e.isSome ∧ ∀ e', e = some e' → EffOk P o' (stAt s (o :: l) es k) e' := by
      intro e hg he hc
      obtain ⟨es, h2, h3⟩ := cops_trace hΓ l _ _ K rv hc
      let fs : Nat → Option (Option Eff) := fun k => match k with | 0 => some e | k + 1 => es k
      have h0 : fs 0 = some e := rfl
      refine ⟨fs, ?_, fun k o' hk => ?_⟩
      · simp only [List.length_cons]
        rw [stAt_cons _ _ _ e fs h0]
        rw [List.range_succ_eq_map]
        simp only [List.map_cons, List.map_map, List.reverse_cons, List.append_assoc, List.singleton_append]
        have e1 : ((fun k => foot (stAt s (o :: l) fs k) ((fs k).getD none)) ∘ Nat.succ) = fun k => foot (stAt (stepSt s o.dst e) l es k) ((es k).getD none) := by
          funext k
          show foot (stAt s (o :: l) fs (k + 1)) ((fs (k + 1)).getD none) = _
          rw [stAt_cons _ _ _ e fs h0]
        rw [e1]
        exact h2
      · cases k with
        | zero => simp at hk; subst hk; exact ⟨e, rfl, hg, he⟩
        | succ k =>
          obtain ⟨e', h4, h5, h6⟩ := h3 k o' (by simpa using hk)
          exact ⟨e', h4, by rw [stAt_cons _ _ _ e fs h0]; exact h5, fun e'' h7 => by rw [stAt_cons _ _ _ e fs h0]; exact h6 e'' h7⟩
    have hc := cops_cons h
    clear h
    rcases hc with ⟨ht, h⟩ | ⟨ht, h⟩
    · obtain ⟨e, he1, he2⟩ := copd_sound hΓ h
      exact key (some e) ht (fun e' h => by cases h; exact he2) he1
    · exact key none ht (fun e' h => by cases h) h

/-! ### writers -/

def dstVal (s : St) : Option Eff → CV
  | none => ex undef
  | some (.val cv _) => cv
  | some (.new _) => .one (.s (.ptr s.nx 0))
  | some (.put _ _ _) => ex undef
  | some (.mk _ l) => .one (.s (.own s.nx l.length))
  | some (.gen _) => ex undef

def wrT (s0 : St) (l : List Oper) (es : Nat → Option (Option Eff)) (t k : Nat) : Option CV :=
  match l[k]?, es k with
  | some o, some e => if o.dst = some t then some (dstVal (stAt s0 l es k) e) else none
  | _, _ => none

def wrH (s0 : St) (l0 : List Oper) (es : Nat → Option (Option Eff)) (id off k : Nat) : Option (Option CS) :=
  match l0[k]?, es k with
  | some _, some (some (.new cs)) => if id = (stAt s0 l0 es k).nx then some cs[off]? else none
  | some _, some (some (.put i o cs)) => if id = i ∧ o ≤ off ∧ off < o + cs.length then some cs[off - o]? else none
  | some _, some (some (.mk e l)) => if id = (stAt s0 l0 es k).nx then some (if off = 0 then some (.arr e l) else none) else none
  | _, _ => none

theorem upd_eq_getD (f : Nat → CV) (d : Option Nat) (x : CV) (t : Nat) : upd f d x t = (if d = some t then some x else none).getD (f t) := by
  cases d with
  | none => rfl
  | some d =>
    by_cases e : t = d
    · subst e; simp [upd_same]
    · rw [upd_ne _ _ e, if_neg (by intro h; cases h; exact e rfl)]; rfl

/-- no operation does more than compute, lay a block, or store -/
def NoGen (es : Nat → Option (Option Eff)) : Prop := ∀ (k : Nat) s', es k ≠ some (some (.gen s'))

theorem tm_fold (s0 : St) (l : List Oper) (es : Nat → Option (Option Eff)) (hng : NoGen es) (t : Nat) : ∀ k, (stAt s0 l es k).tm t = fold (wrT s0 l es t) (fun _ => true) (s0.tm t) k
  | 0 => rfl
  | k + 1 => by
    simp only [fold, if_true, ← tm_fold s0 l es hng t k]
    simp only [stAt, wrT]
    split
    · rename_i o e ho he
      rw [← upd_eq_getD]
      cases e with
      | none => rfl
      | some e => cases e <;> first | rfl | exact absurd he (hng _ _)
    · rfl

theorem hp_fold (s0 : St) (l : List Oper) (es : Nat → Option (Option Eff)) (hng : NoGen es) (id off : Nat) : ∀ k, (stAt s0 l es k).hp id off = fold (wrH s0 l es id off) (fun _ => true) (s0.hp id off) k
  | 0 => rfl
  | k + 1 => by
    simp only [fold, if_true, ← hp_fold s0 l es hng id off k]
    simp only [stAt, wrH]
    cases ho : l[k]? with
    | none => rfl
    | some o =>
      cases he : es k with
      | none => rfl
      | some e =>
        cases e with
        | none => rfl
        | some e =>
          cases e with
          | val cv deps => rfl
          | gen s' => exact absurd he (hng _ _)
          | new cs =>
            simp only [stepSt, applyEff]
            by_cases e : id = (stAt s0 l es k).nx
            · simp [e]
            · have hb : Nat.beq id (stAt s0 l es k).nx = false := by cases hb : Nat.beq id (stAt s0 l es k).nx; rfl; exact absurd (Nat.eq_of_beq_eq_true hb) e
              simp [e, hb]
          | put i o cs =>
            simp only [stepSt, applyEff]
            by_cases e : id = i ∧ o ≤ off ∧ off < o + cs.length
            · obtain ⟨e1, e2, e3⟩ := e
              have h1 : Nat.beq id i = true := by rw [e1]; exact Nat.beq_refl i
              have h2 : Nat.ble o off = true := Nat.ble_eq_true_of_le e2
              have h3 : Nat.blt off (o + cs.length) = true := Nat.ble_eq_true_of_le e3
              rw [if_pos ⟨e1, e2, e3⟩]
              simp [h1, h2, h3]
            · have : (Nat.beq id i && (Nat.ble o off && Nat.blt off (o + cs.length))) = false := by
                cases hb : (Nat.beq id i && (Nat.ble o off && Nat.blt off (o + cs.length)))
                · rfl
                · simp only [Bool.and_eq_true] at hb
                  exact absurd ⟨Nat.eq_of_beq_eq_true hb.1, Nat.le_of_ble_eq_true hb.2.1, Nat.le_of_ble_eq_true hb.2.2⟩ e
              rw [this, if_neg e]
              rfl
          | mk sh l' =>
            simp only [stepSt, applyEff, bornSt]
            by_cases e : id = (stAt s0 l es k).nx
            · subst e
              rw [withArr_id, if_pos rfl]; rfl
            · rw [withArr_ne _ _ _ e, if_neg e]; rfl

theorem nx_le (s0 : St) (l : List Oper) (es : Nat → Option (Option Eff)) (hng : NoGen es) : ∀ i k, i ≤ k → (stAt s0 l es i).nx ≤ (stAt s0 l es k).nx := by
  intro i k hik
  induction k with
  | zero => have : i = 0 := by omega
            subst this; exact Nat.le_refl _
  | succ k ih =>
    by_cases e : i = k + 1
    · subst e; exact Nat.le_refl _
    · refine Nat.le_trans (ih (by omega)) ?_
      simp only [stAt]
      split
      · rename_i o e ho he
        cases e with
        | none => exact Nat.le_refl _
        | some e => cases e <;> first | exact absurd he (hng _ _) | simp [stepSt, applyEff, St.put, bornSt]
      · exact Nat.le_refl _

theorem lo_at {s0 : St} {l : List Oper} {es : Nat → Option (Option Eff)} (hng : NoGen es) : ∀ k, (stAt s0 l es k).lo = s0.lo
  | 0 => rfl
  | k + 1 => by
    have ih := lo_at (s0 := s0) (l := l) hng k
    simp only [stAt]
    split
    · rename_i o e ho he
      cases e with
      | none => exact ih
      | some e => cases e <;> first | exact absurd he (hng _ _) | exact ih
    · exact ih

def newId (s0 : St) (l : List Oper) (es : Nat → Option (Option Eff)) (k : Nat) : Option Nat :=
  match l[k]?, es k with
  | some _, some (some (.new _)) => some (stAt s0 l es k).nx
  | some _, some (some (.mk _ _)) => some (stAt s0 l es k).nx
  | _, _ => none

theorem newId_spec {s0 : St} {l : List Oper} {es : Nat → Option (Option Eff)} {k a : Nat} (h : newId s0 l es k = some a) : a = (stAt s0 l es k).nx ∧ (stAt s0 l es (k + 1)).nx = (stAt s0 l es k).nx + 1 ∧ l[k]? ≠ none := by
  unfold newId at h
  split at h
  · rename_i o cs ho he; cases h
    exact ⟨rfl, by simp only [stAt, ho, he]; rfl, by rw [ho]; simp⟩
  · rename_i o e l' ho he; cases h
    exact ⟨rfl, by simp only [stAt, ho, he]; rfl, by rw [ho]; simp⟩
  · cases h
theorem newId_lt {s0 : St} {l : List Oper} {es : Nat → Option (Option Eff)} (hng : NoGen es) {i k a b : Nat} (h : i < k) (hi : newId s0 l es i = some a) (hk : newId s0 l es k = some b) : a < b := by
  obtain ⟨rfl, h1, _⟩ := newId_spec hi
  obtain ⟨rfl, _, _⟩ := newId_spec hk
  have := nx_le s0 l es hng (i + 1) k (by omega)
  omega

end

section
variable {P : Program}

/-- the state of a region under way: every listed operation has written its places, the last in the order of the text -/
structure AnyInv (X : Fr) (w0 : World) (n : Nat) (ops : Array Oper) (s0 : St) (es : Nat → Option (Option Eff)) (L : Nat → Bool) (g : Gh) (a : Act) (w : World) : Prop where
  tm : ∀ t, relV g (fold (wrT s0 ops.toList es t) L (s0.tm t) ops.size) (a.tmps.getD t undef)
  len : a.tmps.size = n
  df : a.defers = []
  ok : WOk X w0 g w
  cells : ∀ id off c, fold (wrH s0 ops.toList es id off) L (s0.hp id off) ops.size = some c → CellRel g w id off c
  nx : ∀ i b, g.β i = some b → i < s0.nx ∨ ∃ k, L k = true ∧ newId s0 ops.toList es k = some i
  closed : Closed ops L
  lo : s0.lo = X.n
  ln : X.n ≤ s0.nx

/-- what the check gives: before operation i, at a listing L that is closed and does not hold i but all that i waits for -/
def Nice (s : St) : Eff → Prop
  | .new cs => ∀ c ∈ cs, ∀ e l, c ≠ .arr e l
  | .put id _ cs => (∀ e l, s.hp id 0 ≠ some (.arr e l)) ∧ (∀ c ∈ cs, plain c = true) ∧ ∃ c o, s.hp id o = some c
  | _ => True

theorem nice_of {o : Oper} {s : St} {e : Eff} (h : EffOk P o s e) : Nice s e := by
  cases e with
  | new cs => exact h.1
  | put id off cs =>
    obtain ⟨⟨h0, h1, h2, h3⟩, _⟩ := h
    obtain ⟨c, hc, _⟩ := h1 0 h0
    exact ⟨h2, h3, c, _, hc⟩
  | _ => trivial

structure Facts (ops : Array Oper) (s0 : St) (es : Nat → Option (Option Eff)) : Prop where
  ng : NoGen es
  nice : ∀ (k : Nat) e, es k = some (some e) → Nice (stAt s0 ops.toList es k) e
  hx : ∀ id off c, s0.hp id off = some c → id < s0.nx
  edges : ∀ k o, ops[k]? = some o → ∀ e ∈ o.after, Region.binds .any e = true → e.on < k
  apart : ∀ i k x y, i < k → es i ≠ none → ops[i]? = some x → ops[k]? = some y → (Oper.apart ops x y = true ∧ clash (foot (stAt s0 ops.toList es i) ((es i).getD none)) (foot (stAt s0 ops.toList es k) ((es k).getD none)) = false) ∨ Reach ops k i

/-- what the check gives of the whole region -/
structure Order (p : Nat) (ops : Array Oper) (s0 : St) (es : Nat → Option (Option Eff)) : Prop where
  nice : ∀ (k : Nat) e, es k = some (some e) → Nice (stAt s0 ops.toList es k) e
  edges : ∀ k o, ops[k]? = some o → ∀ e ∈ o.after, Region.binds .any e = true → e.on < k
  apart : ∀ i k x y, i < k → p ≤ i → ops[i]? = some x → ops[k]? = some y → (Oper.apart ops x y = true ∧ clash (foot (stAt s0 ops.toList es i) ((es i).getD none)) (foot (stAt s0 ops.toList es k) ((es k).getD none)) = false ∧
    (foot (stAt s0 ops.toList es i) ((es i).getD none)).gen = false ∧ (foot (stAt s0 ops.toList es k) ((es k).getD none)).gen = false) ∨ Reach ops k i

theorem facts_of_orderOk {p : Nat} {ops : Array Oper} {s0 : St} {es : Nat → Option (Option Eff)} (hnice : ∀ (k : Nat) e, es k = some (some e) → Nice (stAt s0 ops.toList es k) e)
    (h : orderFrom p ops ((List.range ops.toList.length).map fun k => foot (stAt s0 ops.toList es k) ((es k).getD none)) = true) : Order p ops s0 es := by
  have hreach : ∀ k i, ((beforeGo ops.toList []).getD k 0).testBit i = true → Reach ops k i :=
    before_reach ops.toList [] (by simp) (fun k i hb => by simp at hb)
  unfold orderFrom at h
  simp only [List.all_eq_true, List.mem_range] at h
  have hk : ∀ k y, ops[k]? = some y → k < ops.size := fun k y hy => by
    rcases Nat.lt_or_ge k ops.size with h | h
    · exact h
    · rw [Array.getElem?_eq_none h] at hy; cases hy
  have hf : ∀ k, k < ops.size → ((List.range ops.toList.length).map fun k => foot (stAt s0 ops.toList es k) ((es k).getD none))[k]? = some (foot (stAt s0 ops.toList es k) ((es k).getD none)) := fun k hk => by
    rw [List.getElem?_map, List.getElem?_range (by simpa using hk)]; rfl
  refine ⟨hnice, fun k o ho e he hb => ?_, fun i k x y hik hpi hx hy => ?_⟩
  · have := h k (hk k o ho)
    rw [ho, hf k (hk k o ho)] at this
    simp only [Bool.and_eq_true, Array.all_eq_true_iff_forall_mem] at this
    have h1 := this.1 e he
    rw [hb] at h1
    simpa using h1
  · have := h k (hk k y hy)
    rw [hy, hf k (hk k y hy)] at this
    simp only [Bool.and_eq_true, List.all_eq_true, List.mem_range] at this
    have h1 := this.2 i hik
    have hnb : Nat.blt i p = false := by
      cases hb : Nat.blt i p with
      | false => rfl
      | true => have := Nat.le_of_ble_eq_true hb; omega
    rw [hx, hf i (hk i x hx), hnb, Bool.false_or] at h1
    simp only [Bool.or_eq_true, Bool.and_eq_true, Bool.not_eq_true', Bool.or_eq_false_iff] at h1
    rcases h1 with ⟨⟨h1, h2⟩, h3, h4⟩ | h1
    · exact .inl ⟨h1, h2, h3, h4⟩
    · exact .inr (hreach k i h1)

/-! ### parts of a region, between the operations that change all -/

def seg (es : Nat → Option (Option Eff)) (m b : Nat) : Nat → Option (Option Eff) := fun k => if m ≤ k ∧ k < b then es k else none

theorem seg_in {es : Nat → Option (Option Eff)} {m b k : Nat} (h1 : m ≤ k) (h2 : k < b) : seg es m b k = es k := if_pos ⟨h1, h2⟩
theorem seg_out {es : Nat → Option (Option Eff)} {m b k : Nat} (h : ¬ (m ≤ k ∧ k < b)) : seg es m b k = none := if_neg h
theorem seg_some {es : Nat → Option (Option Eff)} {m b k : Nat} {x : Option Eff} (h : seg es m b k = some x) : m ≤ k ∧ k < b ∧ es k = some x := by
  unfold seg at h
  by_cases hc : m ≤ k ∧ k < b
  · rw [if_pos hc] at h; exact ⟨hc.1, hc.2, h⟩
  · rw [if_neg hc] at h; cases h

theorem stAt_none {s : St} {l : List Oper} {es : Nat → Option (Option Eff)} {k : Nat} (h : es k = none) : stAt s l es (k + 1) = stAt s l es k := by
  simp only [stAt, h]
  cases l[k]? <;> rfl
theorem seg_low (s : St) (l : List Oper) (es : Nat → Option (Option Eff)) (m b : Nat) : ∀ k, k ≤ m → stAt s l (seg es m b) k = s
  | 0, _ => rfl
  | k + 1, h => by rw [stAt_none (seg_out (by omega)), seg_low s l es m b k (by omega)]
theorem seg_mid (s : St) (l : List Oper) (es : Nat → Option (Option Eff)) (m b : Nat) : ∀ k, m ≤ k → k ≤ b → stAt (stAt s l es m) l (seg es m b) k = stAt s l es k
  | 0, h, _ => by have : m = 0 := by omega
                  subst this; rfl
  | k + 1, h, h2 => by
    by_cases e : m = k + 1
    · subst e; exact seg_low _ _ _ _ _ _ (Nat.le_refl _)
    · have ih := seg_mid s l es m b k (by omega) (by omega)
      simp only [stAt, ih, seg_in (es := es) (b := b) (show m ≤ k by omega) (by omega)]
theorem seg_high (s : St) (l : List Oper) (es : Nat → Option (Option Eff)) {m b : Nat} (hm : m ≤ b) : ∀ k, b ≤ k → stAt (stAt s l es m) l (seg es m b) k = stAt s l es b
  | 0, h => by have e1 : b = 0 := by omega
               have e2 : m = 0 := by omega
               subst e1 e2; rfl
  | k + 1, h => by
    by_cases e : b = k + 1
    · subst e; exact seg_mid _ _ _ _ _ _ hm (Nat.le_refl _)
    · rw [stAt_none (seg_out (by omega)), seg_high s l es hm k (by omega)]

theorem clash_none_l (s : St) (y : Foot) : clash (foot s none) y = false := by
  have h1 : ∀ zs : List (Nat × Nat), hits [] zs = false := fun zs => rfl
  simp [clash, foot, h1, inNew]
  cases y.new <;> rfl
theorem clash_none_r (s : St) (x : Foot) : clash x (foot s none) = false := by
  have h1 : ∀ zs : List (Nat × Nat), hits zs [] = false := fun zs => by unfold hits; rw [List.any_eq_false]; intro p _; simp
  simp [clash, foot, h1, inNew]
  cases x.new <;> rfl

theorem Order.facts {p : Nat} {ops : Array Oper} {s0 : St} {es : Nat → Option (Option Eff)} (O : Order p ops s0 es) {m b : Nat} (hpm : p ≤ m) (hng : ∀ k, m ≤ k → k < b → ∀ s', es k ≠ some (some (.gen s')))
    (hx : ∀ id off c, (stAt s0 ops.toList es m).hp id off = some c → id < (stAt s0 ops.toList es m).nx) : Facts ops (stAt s0 ops.toList es m) (seg es m b) := by
  have same : ∀ k, foot (stAt (stAt s0 ops.toList es m) ops.toList (seg es m b) k) ((seg es m b k).getD none) = foot (stAt s0 ops.toList es k) ((es k).getD none) ∨ ∃ s, foot (stAt (stAt s0 ops.toList es m) ops.toList (seg es m b) k) ((seg es m b k).getD none) = foot s none := fun k => by
    by_cases h : m ≤ k ∧ k < b
    · left; rw [seg_mid _ _ _ _ _ _ h.1 (by omega), seg_in h.1 h.2]
    · right; rw [seg_out h]; exact ⟨_, rfl⟩
  refine ⟨fun k s' he => ?_, fun k e he => ?_, hx, O.edges, fun i k x y hik hes hi hk => ?_⟩
  · obtain ⟨h1, h2, h3⟩ := seg_some he
    exact hng k h1 h2 s' h3
  · obtain ⟨h1, h2, h3⟩ := seg_some he
    rw [seg_mid _ _ _ _ _ _ h1 (by omega)]
    exact O.nice k e h3
  · have hmi : m ≤ i := by
      rcases Nat.lt_or_ge i m with h | h
      · exact absurd (seg_out (by omega)) hes
      · exact h
    rcases O.apart i k x y hik (by omega) hi hk with ⟨h1, h2, _, _⟩ | h1
    · refine .inl ⟨h1, ?_⟩
      rcases same i with e1 | ⟨s, e1⟩ <;> rw [e1]
      · rcases same k with e2 | ⟨s, e2⟩ <;> rw [e2]
        · exact h2
        · exact clash_none_r _ _
      · exact clash_none_l _ _
    · exact .inr h1

theorem next_gen (es : Nat → Option (Option Eff)) (n : Nat) : ∀ d m, m + d = n → ∃ b, m ≤ b ∧ b ≤ n ∧ (∀ k, m ≤ k → k < b → ∀ s', es k ≠ some (some (.gen s'))) ∧ (b = n ∨ ∃ s', es b = some (some (.gen s')))
  | 0, m, h => ⟨m, Nat.le_refl _, by omega, fun k h1 h2 => by omega, .inl (by omega)⟩
  | d + 1, m, h => by
    by_cases hg : ∃ s', es m = some (some (.gen s'))
    · exact ⟨m, Nat.le_refl _, by omega, fun k h1 h2 => by omega, .inr hg⟩
    · obtain ⟨b, h1, h2, h3, h4⟩ := next_gen es n d (m + 1) (by omega)
      refine ⟨b, by omega, h2, fun k hk1 hk2 s' he => ?_, h4⟩
      by_cases e : k = m
      · subst e; exact hg ⟨s', he⟩
      · exact h3 k (by omega) hk2 s' he

theorem hits_mem {xs ys : List (Nat × Nat)} (h : hits xs ys = false) {p : Nat × Nat} (h1 : p ∈ xs) (h2 : p ∈ ys) : False := by
  have : hits xs ys = true := by
    unfold hits
    rw [List.any_eq_true]
    refine ⟨p, h1, ?_⟩
    rw [List.any_eq_true]
    exact ⟨p, h2, by simp⟩
  rw [h] at this; cases this

theorem inNew_mem {i : Nat} {xs : List (Nat × Nat)} (h : inNew (some i) xs = false) {off : Nat} (h1 : (i, off) ∈ xs) : False := by
  have : inNew (some i) xs = true := by
    unfold inNew
    simp only
    rw [List.any_eq_true]
    exact ⟨_, h1, by simp⟩
  rw [h] at this; cases this

/-- who writes a cell shows it in the foot -/
theorem wrH_foot {s0 : St} {l : List Oper} {es : Nat → Option (Option Eff)} {id off k : Nat} (h : (wrH s0 l es id off k).isSome = true) :
    (foot (stAt s0 l es k) ((es k).getD none)).new = some id ∨ (id, off) ∈ (foot (stAt s0 l es k) ((es k).getD none)).wr := by
  unfold wrH at h
  split at h
  · rename_i o cs ho he
    by_cases e : id = (stAt s0 l es k).nx
    · left; rw [he]; simp [foot, e]
    · rw [if_neg e] at h; cases h
  · rename_i o i o' cs ho he
    by_cases e : id = i ∧ o' ≤ off ∧ off < o' + cs.length
    · right; rw [he]; simp only [Option.getD_some, foot, List.mem_map, List.mem_range]
      exact ⟨off - o', by omega, by rw [e.1]; congr 1; omega⟩
    · rw [if_neg e] at h; cases h
  · rename_i o e l' ho he
    by_cases e1 : id = (stAt s0 l es k).nx
    · left; rw [he]; simp [foot, e1]
    · rw [if_neg e1] at h; cases h
  · cases h

section
variable {X : Fr} {w0 : World} {n : Nat} {ops : Array Oper} {s0 : St} {es : Nat → Option (Option Eff)} (F : Facts ops s0 es)
include F

/-- at a place that operation i touches (reads or writes), the writers before i are listed, those behind are not -/
theorem tm_at {L : Nat → Bool} (hL : Closed ops L) {i : Nat} {o : Oper} (hei : es i ≠ none) (hi : ops[i]? = some o) (hn : L i = false) (hready : ∀ e ∈ o.after, Region.binds .any e = true → L e.on = true) {t : Nat} (ht : t ∈ o.looksAt ops ∨ o.dst = some t) :
    (∀ k, k < i → (wrT s0 ops.toList es t k).isSome = true → L k = true) ∧ (∀ k, i < k → k < ops.size → (wrT s0 ops.toList es t k).isSome = true → L k = false) := by
  have hw : ∀ k, (wrT s0 ops.toList es t k).isSome = true → es k ≠ none ∧ ∃ x, ops[k]? = some x ∧ x.dst = some t := fun k h => by
    unfold wrT at h
    split at h
    · rename_i x e hx he
      by_cases e : x.dst = some t
      · exact ⟨by rw [he]; simp, x, by simpa using hx, e⟩
      · rw [if_neg e] at h; cases h
    · cases h
  refine ⟨fun k hk h => ?_, fun k hk _ h => ?_⟩
  · obtain ⟨hek, x, hx, hd⟩ := hw k h
    rcases F.apart k i x o hk hek hx hi with ⟨ha, _⟩ | hr
    · exfalso
      obtain ⟨h1, h2, h3⟩ := Oper.apart_spec ha
      rcases ht with ht | ht
      · exact h1 t hd ht
      · exact h2 t hd ht
    · exact hr L hL (fun o' ho' e he hb => by rw [hi] at ho'; cases ho'; exact hready e he hb)
  · obtain ⟨hek, x, hx, hd⟩ := hw k h
    rcases F.apart i k o x hk hei hi hx with ⟨ha, _⟩ | hr
    · exfalso
      obtain ⟨h1, h2, h3⟩ := Oper.apart_spec ha
      rcases ht with ht | ht
      · exact h3 t hd ht
      · exact h2 t ht hd
    · cases hlk : L k with
      | false => rfl
      | true =>
        have := hr L hL (fun o' ho' e he hb => hL k o' ho' hlk e he hb)
        rw [hn] at this; cases this

theorem hp_at {L : Nat → Bool} (hL : Closed ops L) {i : Nat} {o : Oper} (hei : es i ≠ none) (hi : ops[i]? = some o) (hn : L i = false) (hready : ∀ e ∈ o.after, Region.binds .any e = true → L e.on = true) {id off : Nat}
    (ht : (id, off) ∈ (foot (stAt s0 ops.toList es i) ((es i).getD none)).rd ∨ (id, off) ∈ (foot (stAt s0 ops.toList es i) ((es i).getD none)).wr ∨ newId s0 ops.toList es i = some id) :
    (∀ k, k < i → (wrH s0 ops.toList es id off k).isSome = true → L k = true) ∧ (∀ k, i < k → k < ops.size → (wrH s0 ops.toList es id off k).isSome = true → L k = false) := by
  have hw : ∀ k, (wrH s0 ops.toList es id off k).isSome = true → es k ≠ none ∧ ∃ x, ops[k]? = some x := fun k h => by
    unfold wrH at h
    split at h
    · rename_i x _ hx he; exact ⟨by rw [he]; simp, x, by simpa using hx⟩
    · rename_i x _ _ _ hx he; exact ⟨by rw [he]; simp, x, by simpa using hx⟩
    · rename_i x _ _ hx he; exact ⟨by rw [he]; simp, x, by simpa using hx⟩
    · cases h
  have hnew : ∀ k, (foot (stAt s0 ops.toList es k) ((es k).getD none)).new = some id → k < ops.size → newId s0 ops.toList es k = some id := fun k h hk => by
    unfold newId
    have : ops.toList[k]? = some ops[k] := by simp [hk]
    rw [this]
    cases he : es k with
    | none => rw [he] at h; simp [foot] at h
    | some e =>
      rw [he] at h
      cases e with
      | none => simp [foot] at h
      | some e => cases e <;> simp [foot] at h <;> simp only [h]
  have newFoot : ∀ k, newId s0 ops.toList es k = some id → (foot (stAt s0 ops.toList es k) ((es k).getD none)).new = some id := fun k h => by
    unfold newId at h
    split at h
    · rename_i _ cs _ he; cases h; rw [he]; rfl
    · rename_i _ e l' _ he; cases h; rw [he]; rfl
    · cases h
  have hsz : ∀ k x, ops[k]? = some x → k < ops.size := fun k y hy => by
    rcases Nat.lt_or_ge k ops.size with h | h
    · exact h
    · rw [Array.getElem?_eq_none h] at hy; cases hy
  have noClash : ∀ k, k ≠ i → (wrH s0 ops.toList es id off k).isSome = true →
      (clash (foot (stAt s0 ops.toList es i) ((es i).getD none)) (foot (stAt s0 ops.toList es k) ((es k).getD none)) = false → False) ∧ (clash (foot (stAt s0 ops.toList es k) ((es k).getD none)) (foot (stAt s0 ops.toList es i) ((es i).getD none)) = false → False) := fun k hki h => by
    obtain ⟨hek, x, hx⟩ := hw k h
    have hkn := hsz k x hx
    rcases wrH_foot h with h1 | h1
    · constructor <;> intro hc <;> simp only [clash, Bool.or_eq_false_iff] at hc
      · rcases ht with ht | ht | ht
        · rw [h1] at hc; exact inNew_mem hc.1.2 ht
        · rw [h1] at hc; exact inNew_mem hc.2 ht
        · have h2 := hnew k h1 hkn
          rcases Nat.lt_or_gt_of_ne hki with h3 | h3
          · have := newId_lt F.ng h3 h2 ht; omega
          · have := newId_lt F.ng h3 ht h2; omega
      · rcases ht with ht | ht | ht
        · rw [h1] at hc; exact inNew_mem hc.1.1.1.2 ht
        · rw [h1] at hc; exact inNew_mem hc.1.1.2 ht
        · have h2 := hnew k h1 hkn
          rcases Nat.lt_or_gt_of_ne hki with h3 | h3
          · have := newId_lt F.ng h3 h2 ht; omega
          · have := newId_lt F.ng h3 ht h2; omega
    · constructor <;> intro hc <;> simp only [clash, Bool.or_eq_false_iff] at hc
      · rcases ht with ht | ht | ht
        · exact hits_mem hc.1.1.1.1.2 ht h1
        · exact hits_mem hc.1.1.1.1.1.1 ht h1
        · rw [newFoot i ht] at hc; exact inNew_mem hc.1.1.2 h1
      · rcases ht with ht | ht | ht
        · exact hits_mem hc.1.1.1.1.1.2 h1 ht
        · exact hits_mem hc.1.1.1.1.1.1 h1 ht
        · rw [newFoot i ht] at hc; exact inNew_mem hc.2 h1
  refine ⟨fun k hk h => ?_, fun k hk _ h => ?_⟩
  · obtain ⟨hek, x, hx⟩ := hw k h
    rcases F.apart k i x o hk hek hx hi with ⟨_, hc⟩ | hr
    · exact ((noClash k (by omega) h).2 hc).elim
    · exact hr L hL (fun o' ho' e he hb => by rw [hi] at ho'; cases ho'; exact hready e he hb)
  · obtain ⟨hek, x, hx⟩ := hw k h
    rcases F.apart i k o x hk hei hi hx with ⟨_, hc⟩ | hr
    · exact ((noClash k (by omega) h).1 hc).elim
    · cases hlk : L k with
      | false => rfl
      | true =>
        have := hr L hL (fun o' ho' e he hb => hL k o' ho' hlk e he hb)
        rw [hn] at this; cases this

end
end

section
variable {P : Program} {α : Type} {X : Fr} {w0 : World} {n : Nat} {ops : Array Oper} {s0 : St} {es : Nat → Option (Option Eff)}

theorem closed_add {L : Nat → Bool} (hL : Closed ops L) {i : Nat} {o : Oper} (hi : ops[i]? = some o) (hready : ∀ e ∈ o.after, Region.binds .any e = true → L e.on = true) : Closed ops (addL L i) := by
  intro k o' ho' hk e he hb
  have key : L e.on = true → addL L i e.on = true := fun h => by unfold addL; split; rfl; exact h
  unfold addL at hk
  by_cases h : k = i
  · subst h; rw [hi] at ho'; cases ho'; exact key (hready e he hb)
  · rw [if_neg h] at hk; exact key (hL k o' ho' hk e he hb)

theorem wrT_at {i t : Nat} {o : Oper} {e : Option Eff} (hi : ops[i]? = some o) (he : es i = some e) : wrT s0 ops.toList es t i = if o.dst = some t then some (dstVal (stAt s0 ops.toList es i) e) else none := by
  have : ops.toList[i]? = some o := by simpa using hi
  simp only [wrT, this, he]

/-- operation i, at whatever time it comes up -/
theorem arr_of_fold (F : Facts ops s0 es) (L : Nat → Bool) {id : Nat} {e : Sh} {l : List e.Ty} : ∀ k, fold (wrH s0 ops.toList es id 0) L (s0.hp id 0) k = some (.arr e l) → s0.hp id 0 = some (.arr e l) ∨ ∃ j, newId s0 ops.toList es j = some id ∧ (stAt s0 ops.toList es (j + 1)).hp id 0 = some (.arr e l)
  | 0, h => .inl h
  | k + 1, h => by
    simp only [fold] at h
    split at h
    · cases hw : wrH s0 ops.toList es id 0 k with
      | none => rw [hw] at h; exact arr_of_fold F L k h
      | some c =>
        rw [hw] at h
        have h : c = some (.arr e l) := h
        subst h
        unfold wrH at hw
        split at hw
        · rename_i o cs ho he
          exfalso
          split at hw
          · have hmem := List.mem_of_getElem? (Option.some.inj hw)
            exact F.nice _ _ he _ hmem e l rfl
          · cases hw
        · rename_i o i o' cs ho he
          exfalso
          split at hw
          · have hmem := List.mem_of_getElem? (Option.some.inj hw)
            have := (F.nice _ _ he).2.1 _ hmem
            cases this
          · cases hw
        · rename_i o e' l' ho he
          split at hw
          · rename_i hid
            right
            refine ⟨k, by unfold newId; rw [ho, he, hid], ?_⟩
            have h2 : some (CS.arr e' l') = some (CS.arr e l) := by simpa using hw
            have h3 : (stAt s0 ops.toList es (k + 1)).hp id 0 = some (.arr e' l') := by
              simp only [stAt, ho, he, stepSt, applyEff, bornSt]
              rw [hid, withArr_id, if_pos rfl]
            rw [h3, h2]
          · cases hw
        · cases hw
    · exact arr_of_fold F L k h

theorem arr_keep (F : Facts ops s0 es) {id : Nat} {e : Sh} {l : List e.Ty} {j : Nat} (hlt : id < (stAt s0 ops.toList es j).nx) (h0 : (stAt s0 ops.toList es j).hp id 0 = some (.arr e l)) : ∀ k, j ≤ k → (stAt s0 ops.toList es k).hp id 0 = some (.arr e l) := by
  intro k
  induction k with
  | zero => intro hk; have : j = 0 := by omega
            subst this; exact h0
  | succ k ih =>
    intro hk
    by_cases hjk : j = k + 1
    · subst hjk; exact h0
    have ih' := ih (by omega)
    have ih := ih'
    have hnx := nx_le s0 ops.toList es F.ng j k (by omega)
    rw [hp_fold _ _ _ F.ng] at ih ⊢
    simp only [fold, if_true]
    cases hw : wrH s0 ops.toList es id 0 k with
    | none => exact ih
    | some c =>
      exfalso
      unfold wrH at hw
      split at hw
      · rename_i o cs ho he
        split at hw
        · rename_i hid; omega
        · cases hw
      · rename_i o i o' cs ho he
        split at hw
        · rename_i hc
          obtain ⟨rfl, _⟩ := hc
          exact (F.nice _ _ he).1 e l ih'
        · cases hw
      · rename_i o e' l' ho he
        split at hw
        · rename_i hid; omega
        · cases hw
      · cases hw

theorem hp_nx (F : Facts ops s0 es) {id off : Nat} : ∀ k {c : CS}, (stAt s0 ops.toList es k).hp id off = some c → ∀ {off' : Nat} {c' : CS}, (stAt s0 ops.toList es k).hp id off' = some c' → id < (stAt s0 ops.toList es k).nx := by
  intro k
  have key : ∀ k (off' : Nat) (c' : CS), (stAt s0 ops.toList es k).hp id off' = some c' → id < (stAt s0 ops.toList es k).nx := by
    intro k
    induction k with
    | zero => intro off' c' h; exact F.hx _ _ _ h
    | succ k ih =>
      intro off' c' h
      have hle := nx_le s0 ops.toList es F.ng k (k + 1) (by omega)
      rw [hp_fold _ _ _ F.ng] at h
      simp only [fold, if_true] at h
      cases hw : wrH s0 ops.toList es id off' k with
      | none =>
        rw [hw] at h
        have h : fold (wrH s0 ops.toList es id off') (fun _ => true) (s0.hp id off') k = some c' := h
        rw [← hp_fold _ _ _ F.ng] at h
        have := ih _ _ h; omega
      | some c =>
        unfold wrH at hw
        split at hw
        · rename_i o cs ho he
          split at hw
          · rename_i hid
            have e1 : (stAt s0 ops.toList es (k + 1)).nx = (stAt s0 ops.toList es k).nx + 1 := by simp only [stAt, ho, he]; rfl
            omega
          · cases hw
        · rename_i o i o' cs ho he
          split at hw
          · rename_i hc
            obtain ⟨rfl, _⟩ := hc
            obtain ⟨c2, o2, h2⟩ := (F.nice _ _ he).2.2
            have := ih _ _ h2; omega
          · cases hw
        · rename_i o e' l' ho he
          split at hw
          · rename_i hid
            have e1 : (stAt s0 ops.toList es (k + 1)).nx = (stAt s0 ops.toList es k).nx + 1 := by simp only [stAt, ho, he]; rfl
            omega
          · cases hw
        · cases hw
  exact fun {c} h {off' c'} h' => key k _ _ h'

theorem hp_lt (F : Facts ops s0 es) (L : Nat → Bool) {id off : Nat} {c : CS} : ∀ n, n ≤ ops.size → fold (wrH s0 ops.toList es id off) L (s0.hp id off) n = some c → id < (stAt s0 ops.toList es ops.size).nx
  | 0, _, h => by
    have := F.hx _ _ _ h
    have := nx_le s0 ops.toList es F.ng 0 ops.size (by omega)
    simp only [stAt] at this; omega
  | k + 1, hk, h => by
    simp only [fold] at h
    split at h
    · cases hw : wrH s0 ops.toList es id off k with
      | none => rw [hw] at h; exact hp_lt F L k (by omega) h
      | some c1 =>
        unfold wrH at hw
        split at hw
        · rename_i o cs ho he
          split at hw
          · rename_i hid
            have e1 : (stAt s0 ops.toList es (k + 1)).nx = (stAt s0 ops.toList es k).nx + 1 := by simp only [stAt, ho, he]; rfl
            have := nx_le s0 ops.toList es F.ng (k + 1) ops.size (by omega)
            omega
          · cases hw
        · rename_i o i o' cs ho he
          split at hw
          · rename_i hc
            obtain ⟨rfl, _⟩ := hc
            obtain ⟨c2, o2, h2⟩ := (F.nice _ _ he).2.2
            have h3 := hp_nx F k h2 h2
            have := nx_le s0 ops.toList es F.ng k ops.size (by omega)
            omega
          · cases hw
        · rename_i o e' l' ho he
          split at hw
          · rename_i hid
            have e1 : (stAt s0 ops.toList es (k + 1)).nx = (stAt s0 ops.toList es k).nx + 1 := by simp only [stAt, ho, he]; rfl
            have := nx_le s0 ops.toList es F.ng (k + 1) ops.size (by omega)
            omega
          · cases hw
        · cases hw
    · exact hp_lt F L k (by omega) h

theorem arr_put (F : Facts ops s0 es) {L : Nat → Bool} {i id off : Nat} {cs : List CS} {e : Sh} {l : List e.Ty} (he : es i = some (some (.put id off cs))) (hc : fold (wrH s0 ops.toList es id 0) L (s0.hp id 0) ops.size = some (.arr e l)) : False := by
  obtain ⟨n1, _, c, o', h1⟩ := F.nice _ _ he
  rcases arr_of_fold F L _ hc with h0 | ⟨j, hj, h0⟩
  · exact n1 e l (arr_keep F (j := 0) (F.hx _ _ _ h0) h0 i (by omega))
  · obtain ⟨h2, h3, _⟩ := newId_spec hj
    rcases Nat.lt_or_ge j i with h | h
    · exact n1 e l (arr_keep F (j := j + 1) (by omega) h0 i (by omega))
    · have h4 := hp_nx F i h1 h1
      have := nx_le s0 ops.toList es F.ng i j h
      omega

theorem any_step (F : Facts ops s0 es) {L : Nat → Bool} {g : Gh} {a : Act} {w : World} (inv : AnyInv X w0 n ops s0 es L g a w) {i : Nat} {o : Oper} {e : Option Eff} (hi : ops[i]? = some o) (hn : L i = false)
    (hready : ∀ e ∈ o.after, Region.binds .any e = true → L e.on = true) (he : es i = some e) (hg : guardVal ops o (stAt s0 ops.toList es i) = some e.isSome) (heff : ∀ e', e = some e' → EffOk P o (stAt s0 ops.toList es i) e')
    (hd : ∀ x, o.dst = some x → x < n) {Q : Exit → Act → World → Prop} {K : Act → World → Prop} (hk : ∀ g' a' w', AnyInv X w0 n ops s0 es (addL L i) g' a' w' → K a' w') : wpOp P ops Q i K a w := by
  have hsz : i < ops.size := by
    rcases Nat.lt_or_ge i ops.size with h | h
    · exact h
    · rw [Array.getElem?_eq_none h] at hi; cases hi
  have hcl := inv.closed
  have hil : ops.toList[i]? = some o := by simpa using hi
  have hgetD : (es i).getD none = e := by rw [he]; rfl
  have hei : es i ≠ none := by rw [he]; simp
  -- what operation i reads is what it reads in the order of the text
  have rdT : ∀ t, t ∈ o.looksAt ops → relV g ((stAt s0 ops.toList es i).tm t) (a.tmps.getD t undef) := fun t ht => by
    obtain ⟨h1, h2⟩ := tm_at F hcl hei hi hn hready (.inl ht)
    rw [tm_fold _ _ _ F.ng, ← fold_agree (L := L) h1 ops.size (by omega) (fun k h3 h4 h5 => by
      by_cases hki : k = i
      · subst hki; exact hn
      · exact h2 k (by omega) h4 h5)]
    exact inv.tm t
  have rdH : ∀ id off, ((id, off) ∈ (foot (stAt s0 ops.toList es i) ((es i).getD none)).rd ∨ (id, off) ∈ (foot (stAt s0 ops.toList es i) ((es i).getD none)).wr) →
      fold (wrH s0 ops.toList es id off) L (s0.hp id off) ops.size = (stAt s0 ops.toList es i).hp id off := fun id off ht => by
    obtain ⟨h1, h2⟩ := hp_at F hcl hei hi hn hready (id := id) (off := off) (by rcases ht with h | h; exact .inl h; exact .inr (.inl h))
    rw [hp_fold _ _ _ F.ng, ← fold_agree (L := L) h1 ops.size (by omega) (fun k h3 h4 h5 => by
      by_cases hki : k = i
      · subst hki; exact hn
      · exact h2 k (by omega) h4 h5)]
  have hops : ∀ x ∈ o.op.operands.toList, relV g ((stAt s0 ops.toList es i).ev x) (a.eval x) := fun x hx => by
    cases x with
    | tmp t => exact rdT t (by unfold Oper.looksAt; exact List.mem_append_left _ (List.mem_filterMap.2 ⟨.tmp t, hx, rfl⟩))
    | const v => exact relV_ofValue g v
    | global b => trivial
    | func f => exact ⟨#[], rfl, rfl, fun j u hu => by simp at hu⟩
  have hwanted := wanted_of_guardVal hg (g := g) (tmps := a.tmps) (fun d ⟨j, b, h1, h2⟩ => rdT d (by unfold Oper.looksAt; rw [h1]; simp only [h2]; exact List.mem_append_right _ (by simp)))
  -- the frame behind it
  have tmNext : ∀ {g' : Gh} {v : Value}, g.le g' → relV g' (dstVal (stAt s0 ops.toList es i) e) v → ∀ t, relV g' (fold (wrT s0 ops.toList es t) (addL L i) (s0.tm t) ops.size) ((a.put o.dst v).tmps.getD t undef) := fun {g' v} hle hv t => by
    by_cases hdt : o.dst = some t
    · rw [fold_add_eq (by rw [wrT_at hi he, if_pos hdt]) ops.size hsz (tm_at F hcl hei hi hn hready (.inr hdt)).2]
      have : (a.put o.dst v).tmps.getD t undef = v := by rw [hdt]; simp [Act.put, inv.len, hd t hdt]
      rw [this]; exact hv
    · rw [fold_add_ne (by rw [wrT_at hi he, if_neg hdt])]
      have : (a.put o.dst v).tmps.getD t undef = a.tmps.getD t undef := by
        cases hdd : o.dst with
        | none => rfl
        | some d =>
          have hne : d ≠ t := fun h => hdt (by rw [hdd, h])
          simp [Act.put, Array.getElem?_setIfInBounds_ne hne]
      rw [this]; exact relV_mono hle _ _ (inv.tm t)
  have hclN := closed_add hcl hi hready
  have nxNext : ∀ i' b, g.β i' = some b → i' < s0.nx ∨ ∃ k, addL L i k = true ∧ newId s0 ops.toList es k = some i' := fun i' b hb => by
    rcases inv.nx i' b hb with h | ⟨k, h1, h2⟩
    · exact .inl h
    · exact .inr ⟨k, by unfold addL; split; rfl; exact h1, h2⟩
  have wrHnone : (∀ cs, e ≠ some (.new cs)) → (∀ i o cs, e ≠ some (.put i o cs)) → (∀ e' l, e ≠ some (.mk e' l)) → ∀ id off, wrH s0 ops.toList es id off i = none := fun h1 h2 h3 id off => by
    unfold wrH
    rw [hil, he]
    cases e with
    | none => rfl
    | some e => cases e with
      | val cv deps => rfl
      | new cs => exact (h1 cs rfl).elim
      | put i o cs => exact (h2 i o cs rfl).elim
      | mk e' l => exact (h3 e' l rfl).elim
      | gen s' => exact absurd he (F.ng _ _)
  have free : ∀ i', (stAt s0 ops.toList es ops.size).nx ≤ i' → g.β i' = none := fun i' h => by
    cases hb : g.β i' with
    | none => rfl
    | some b =>
      rcases inv.nx _ _ hb with h1 | ⟨k, h1, h2⟩
      · have := nx_le s0 ops.toList es F.ng 0 ops.size (by omega); simp only [stAt] at this; omega
      · obtain ⟨h3, h4, h5⟩ := newId_spec h2
        have hk : k < ops.size := by
          rcases Nat.lt_or_ge k ops.size with h | h
          · exact h
          · exact absurd (List.getElem?_eq_none (by simpa using h)) h5
        have := nx_le s0 ops.toList es F.ng (k + 1) ops.size (by omega)
        omega
  have hxs : ∀ (L' : Nat → Bool) id off c, fold (wrH s0 ops.toList es id off) L' (s0.hp id off) ops.size = some c → id < (stAt s0 ops.toList es ops.size).nx := fun L' id off c hc => hp_lt F L' ops.size (Nat.le_refl _) hc
  unfold wpOp
  simp only [hi]
  rw [hwanted]
  cases e with
  | none =>
    simp only [Option.isSome_none, Bool.false_eq_true, if_false]
    exact hk g _ w ⟨tmNext g.le_refl rfl, by rw [put_size]; exact inv.len, by rw [put_defers']; exact inv.df, inv.ok, fun id off c hc => by
      rw [fold_add_ne (wrHnone (by simp) (by simp) (by simp) id off)] at hc; exact inv.cells id off c hc, nxNext, hclN, inv.lo, inv.ln⟩
  | some e =>
    simp only [Option.isSome_some, if_true]
    left
    have hE := heff e rfl
    cases e with
    | val cv deps =>
      obtain ⟨hdep, hh⟩ := hE
      have hcellAll : ∀ id off c, fold (wrH s0 ops.toList es id off) (addL L i) (s0.hp id off) ops.size = some c → CellRel g w id off c := fun id off c hc => by
        rw [fold_add_ne (wrHnone (by simp) (by simp) (by simp) id off)] at hc; exact inv.cells id off c hc
      refine hh X g w0 w a K Q hops (fun d hdd => ?_) inv.ok ⟨(stAt s0 ops.toList es ops.size).nx, by have := nx_le s0 ops.toList es F.ng 0 ops.size (by omega); simp only [stAt] at this; have := inv.ln; omega, fun d hdd => hxs L _ _ _ (by
        rw [rdH _ _ (.inl (by rw [hgetD]; exact List.mem_map_of_mem (f := fun d : Nat × Nat × CS => (d.1, d.2.1)) hdd))]
        exact hdep d hdd), free⟩ fun v g' w' haf hv => ?_
      · refine inv.cells _ _ _ ?_
        rw [rdH _ _ (.inl (by rw [hgetD]; exact List.mem_map_of_mem (f := fun d : Nat × Nat × CS => (d.1, d.2.1)) hdd))]
        exact hdep d hdd
      · refine hk g' _ w' ⟨tmNext haf.le hv, by rw [put_size]; exact inv.len, by rw [put_defers']; exact inv.df, haf.ok, fun id off c hc => (hcellAll id off c hc).after haf inv.ok, fun i' b hb => nxNext i' b (by rw [← haf.β]; exact hb), hclN, inv.lo, inv.ln⟩
    | new cs =>
      have hnew : newId s0 ops.toList es i = some (stAt s0 ops.toList es i).nx := by unfold newId; rw [hil, he]
      have hβ : g.β (stAt s0 ops.toList es i).nx = none := by
        cases hb : g.β (stAt s0 ops.toList es i).nx with
        | none => rfl
        | some b =>
          rcases inv.nx _ _ hb with h | ⟨k, h1, h2⟩
          · have := nx_le s0 ops.toList es F.ng 0 i (by omega)
            simp only [stAt] at this; omega
          · have hki : k ≠ i := fun h => by subst h; rw [hn] at h1; cases h1
            rcases Nat.lt_or_gt_of_ne hki with h3 | h3
            · have := newId_lt F.ng h3 h2 hnew; omega
            · have := newId_lt F.ng h3 hnew h2; omega
      refine hE.2 g w a K Q hops fun arr T hs hr => ?_
      refine hk (g.bind (stAt s0 ops.toList es i).nx w.heap.size 0) _ _ ⟨tmNext (Gh.le_bind hβ) ⟨w.heap.size, (Gh.bind_same g _ _ _).1, rfl⟩, by rw [put_size]; exact inv.len, by rw [put_defers']; exact inv.df, inv.ok.alloc _ _ (by have := nx_le s0 ops.toList es F.ng 0 i (by omega); simp only [stAt] at this; have := inv.ln; omega) arr T, fun id off c hc => ?_, fun i' b hb => ?_, hclN, inv.lo, inv.ln⟩
      · by_cases hid : id = (stAt s0 ops.toList es i).nx
        · subst hid
          rw [fold_add_eq (x := cs[off]?) (by unfold wrH; rw [hil, he]; simp) ops.size hsz (hp_at F hcl hei hi hn hready (.inr (.inr hnew))).2] at hc
          exact CellRel.fresh hβ hs hr hc
        · rw [fold_add_ne (by unfold wrH; rw [hil, he]; simp [hid])] at hc
          exact CellRel.alloc inv.ok hβ arr T hid (inv.cells _ _ _ hc)
      · have hb : (if i' = (stAt s0 ops.toList es i).nx then some w.heap.size else g.β i') = some b := hb
        by_cases hid : i' = (stAt s0 ops.toList es i).nx
        · subst hid; exact .inr ⟨i, by unfold addL; rw [if_pos rfl], hnew⟩
        · rw [if_neg hid] at hb; exact nxNext i' b hb
    | mk e l =>
      have hnew : newId s0 ops.toList es i = some (stAt s0 ops.toList es i).nx := by unfold newId; rw [hil, he]
      have hβ : g.β (stAt s0 ops.toList es i).nx = none := by
        cases hb : g.β (stAt s0 ops.toList es i).nx with
        | none => rfl
        | some b =>
          rcases inv.nx _ _ hb with h | ⟨k, h1, h2⟩
          · have := nx_le s0 ops.toList es F.ng 0 i (by omega)
            simp only [stAt] at this; omega
          · have hki : k ≠ i := fun h => by subst h; rw [hn] at h1; cases h1
            rcases Nat.lt_or_gt_of_ne hki with h3 | h3
            · have := newId_lt F.ng h3 h2 hnew; omega
            · have := newId_lt F.ng h3 hnew h2; omega
      refine hE g w a K Q hops fun arr T c hs hl hr => ?_
      obtain ⟨hb1, hb2⟩ := Gh.bind_same g (stAt s0 ops.toList es i).nx w.heap.size c
      refine hk (g.bind (stAt s0 ops.toList es i).nx w.heap.size c) _ _ ⟨tmNext (Gh.le_bind hβ) (.inr ⟨w.heap.size, hb1, by rw [hb2], by rw [hb2]; exact hl⟩), by rw [put_size]; exact inv.len, by rw [put_defers']; exact inv.df, inv.ok.alloc _ _ (by have := nx_le s0 ops.toList es F.ng 0 i (by omega); simp only [stAt] at this; have := inv.ln; omega) arr T, fun id off cc hc => ?_, fun i' b hb => ?_, hclN, inv.lo, inv.ln⟩
      · by_cases hid : id = (stAt s0 ops.toList es i).nx
        · subst hid
          rw [fold_add_eq (x := if off = 0 then some (.arr e l) else none) (by unfold wrH; rw [hil, he]; simp) ops.size hsz (hp_at F hcl hei hi hn hready (.inr (.inr hnew))).2] at hc
          split at hc
          · rename_i h0; cases hc
            exact .inl ⟨e, l, rfl, h0, .inr ⟨_, arr, T, hb1, ⟨(0, 0), heap_alloc_same _ _, .inl rfl⟩, by rw [hb2]; exact hs, by rw [hb2]; exact hl, hr⟩⟩
          · cases hc
        · rw [fold_add_ne (by unfold wrH; rw [hil, he]; simp [hid])] at hc
          exact CellRel.alloc inv.ok hβ arr T hid (inv.cells _ _ _ hc)
      · have hb : (if i' = (stAt s0 ops.toList es i).nx then some w.heap.size else g.β i') = some b := hb
        by_cases hid : i' = (stAt s0 ops.toList es i).nx
        · subst hid; exact .inr ⟨i, by unfold addL; rw [if_pos rfl], hnew⟩
        · rw [if_neg hid] at hb; exact nxNext i' b hb
    | put id off cs =>
      obtain ⟨⟨h0, hsome, hna, _⟩, hh⟩ := hE
      have hwr : ∀ j, j < cs.length → (id, off + j) ∈ (foot (stAt s0 ops.toList es i) ((es i).getD none)).wr := fun j hj => by
        rw [hgetD]; simp only [foot, List.mem_map, List.mem_range]; exact ⟨j, hj, rfl⟩
      obtain ⟨b, arr, T, hb, hheap, hl⟩ := block_of_cells (hp := fun id off => fold (wrH s0 ops.toList es id off) L (s0.hp id off) ops.size) inv.cells (id := id) (off := off) h0 (fun j hj => by
        rw [rdH _ _ (.inr (hwr j hj))]; exact hsome j hj)
      refine hh g w a K Q b arr T hops hb hheap hl fun us hu hr => ?_
      refine hk g _ _ ⟨tmNext g.le_refl rfl, by rw [put_size]; exact inv.len, by rw [put_defers']; exact inv.df, inv.ok.setRow hb hheap _, fun i' o' c hc => ?_, nxNext, hclN, inv.lo, inv.ln⟩
      by_cases hid : i' = id ∧ off ≤ o' ∧ o' < off + cs.length
      · obtain ⟨rfl, h1, h2⟩ := hid
        have hmem := hwr (o' - off) (by omega)
        rw [show off + (o' - off) = o' by omega] at hmem
        rw [fold_add_eq (x := cs[o' - off]?) (by unfold wrH; rw [hil, he]; simp [h1, h2]) ops.size hsz (hp_at F hcl hei hi hn hready (.inr (.inl hmem))).2] at hc
        exact CellRel.setRow_in hb hheap hl hu hr h1 h2 hc
      · rw [fold_add_ne (by unfold wrH; rw [hil, he]; simp only; rw [if_neg hid])] at hc
        refine CellRel.setRow_out inv.ok hb hheap (by omega) (inv.cells _ _ _ hc) ?_
        by_cases hi' : i' = id
        · refine .inr ⟨fun e l hce => ?_, ?_⟩
          · subst hce hi'
            rcases inv.cells _ _ _ hc with ⟨e', l', h3, h4, _⟩ | ⟨_, _, _, _, _, _, _, hf⟩
            · subst h4
              exact arr_put F he hc
            · exact hf
          · rcases Nat.lt_or_ge o' off with h1 | h1
            · exact .inl h1
            · right
              rcases Nat.lt_or_ge o' (off + us.length) with h2 | h2
              · exact (hid ⟨hi', h1, by omega⟩).elim
              · exact h2
        · exact .inl hi'
    | gen s' => exact absurd he (F.ng _ _)

theorem least_unlisted (hedge : ∀ k o, ops[k]? = some o → ∀ e ∈ o.after, Region.binds .any e = true → e.on < k) {listed : Array Bool} (hsz : listed.size = ops.size) : ∀ m, m ≤ ops.size → (∃ k, k < m ∧ listed.getD k false = false) → Region.ready .any ops listed ≠ [] := by
  intro m
  induction m with
  | zero => rintro _ ⟨k, hk, _⟩; omega
  | succ m ih =>
    rintro hm ⟨k, hk, hl⟩
    by_cases hex : ∃ k, k < m ∧ listed.getD k false = false
    · exact ih (by omega) hex
    · have hkm : k = m := by
        rcases Nat.lt_or_ge k m with h | h
        · exact (hex ⟨k, h, hl⟩).elim
        · omega
      subst hkm
      have hall : ∀ j, j < k → listed.getD j false = true := fun j hj => by
        cases h : listed.getD j false with
        | true => rfl
        | false => exact (hex ⟨j, hj, h⟩).elim
      have hmem : k ∈ Region.ready .any ops listed := by
        unfold Region.ready
        rw [List.mem_filter]
        have hk' : k < ops.size := by omega
        refine ⟨by simpa using hk', ?_⟩
        have h1 : listed.getD k true = false := by
          have hlt : k < listed.size := by omega
          simp [hlt] at hl ⊢; exact hl
        have h2 : ops[k]? = some ops[k] := by simp [hk']
        rw [h1, h2]
        simp only [Bool.not_false, Bool.true_and, Option.map_some, Option.getD_some]
        rw [Array.all_eq_true_iff_forall_mem]
        intro e he
        cases hb : Region.binds .any e with
        | false => rfl
        | true => simp only [Bool.not_true, Bool.false_or]; exact hall _ (hedge k _ h2 e he hb)
      intro h; rw [h] at hmem; cases hmem

/-- all that a part holds is listed -/
theorem any_done (F : Facts ops s0 es) {L : Nat → Bool} {g : Gh} {a : Act} {w : World} (hall : ∀ k e, k < ops.size → es k = some e → L k = true) (inv : AnyInv X w0 n ops s0 es L g a w) : Sim X w0 n (stAt s0 ops.toList es ops.size) g a w := by
  have wT : ∀ t k, k < ops.size → (wrT s0 ops.toList es t k).isSome = true → L k = true := fun t k hk h => by
    unfold wrT at h
    split at h
    · rename_i o e ho he; exact hall k e hk he
    · cases h
  have wH : ∀ id off k, k < ops.size → (wrH s0 ops.toList es id off k).isSome = true → L k = true := fun id off k hk h => by
    unfold wrH at h
    split at h
    · rename_i he; exact hall k _ hk he
    · rename_i he; exact hall k _ hk he
    · rename_i he; exact hall k _ hk he
    · cases h
  have agreeT : ∀ t, fold (wrT s0 ops.toList es t) L (s0.tm t) ops.size = (stAt s0 ops.toList es ops.size).tm t := fun t => by
    rw [tm_fold _ _ _ F.ng]; exact fold_agree (fun k hk h => wT t k hk h) ops.size (Nat.le_refl _) (fun k h1 h2 => by omega)
  have agreeH : ∀ id off, fold (wrH s0 ops.toList es id off) L (s0.hp id off) ops.size = (stAt s0 ops.toList es ops.size).hp id off := fun id off => by
    rw [hp_fold _ _ _ F.ng]; exact fold_agree (fun k hk h => wH id off k hk h) ops.size (Nat.le_refl _) (fun k h1 h2 => by omega)
  refine ⟨fun t => by rw [← agreeT]; exact inv.tm t, inv.len, inv.df, inv.ok, fun id off c hc => inv.cells id off c (by rw [agreeH]; exact hc), fun i b hb => ?_, fun id off c hc => hp_nx F _ hc hc, by rw [lo_at F.ng]; exact inv.lo, by have := nx_le s0 ops.toList es F.ng 0 ops.size (by omega); simp only [stAt] at this; have := inv.ln; omega⟩
  rcases inv.nx i b hb with h | ⟨k, h1, h2⟩
  · have := nx_le s0 ops.toList es F.ng 0 ops.size (by omega); simp only [stAt] at this; omega
  · obtain ⟨h3, h4, h5⟩ := newId_spec h2
    have hk : k < ops.size := by
      rcases Nat.lt_or_ge k ops.size with h | h
      · exact h
      · exact absurd (List.getElem?_eq_none (by simpa using h)) h5
    have := nx_le s0 ops.toList es F.ng (k + 1) ops.size (by omega)
    omega

theorem fold_none {X : Type} {wr : Nat → Option X} {L : Nat → Bool} {x0 : X} (h : ∀ k, L k = true → wr k = none) : ∀ n, fold wr L x0 n = x0
  | 0 => rfl
  | n + 1 => by
    simp only [fold]
    split
    · rename_i hl; rw [h n hl]; exact fold_none h n
    · exact fold_none h n

/-- the beginning of a part -/
theorem any_begin {L : Nat → Bool} {g : Gh} {a : Act} {w : World} (hcl : Closed ops L) (hL : ∀ k, L k = true → es k = none) (hs : Sim X w0 n s0 g a w) : AnyInv X w0 n ops s0 es L g a w := by
  have wT : ∀ t k, L k = true → wrT s0 ops.toList es t k = none := fun t k h => by
    unfold wrT; rw [hL k h]; cases ops.toList[k]? <;> rfl
  have wH : ∀ id off k, L k = true → wrH s0 ops.toList es id off k = none := fun id off k h => by
    unfold wrH; rw [hL k h]; cases ops.toList[k]? <;> rfl
  exact ⟨fun t => by rw [fold_none (wT t)]; exact hs.tm t, hs.len, hs.df, hs.ok, fun id off c hc => by rw [fold_none (wH id off)] at hc; exact hs.cells id off c hc, fun i b hb => .inl (hs.nx i b hb), hcl, hs.lo, hs.ln⟩

theorem any_order {p : Nat} (O : Order p ops s0 es) (htr : ∀ (k : Nat) o, ops[k]? = some o → ∃ e, es k = some e ∧ guardVal ops o (stAt s0 ops.toList es k) = some e.isSome ∧ ∀ e', e = some e' → EffOk P o (stAt s0 ops.toList es k) e')
    (hd : ∀ o ∈ ops.toList, ∀ x, o.dst = some x → x < n) {Q : Exit → Act → World → Prop} (hq : ∀ g a w, Sim X w0 n (stAt s0 ops.toList es ops.size) g a w → Q .normal a w) :
    ∀ (fuel : Nat) (listed : Array Bool) (g : Gh) (a : Act) (w : World) (m b : Nat), p ≤ m → listed.size = ops.size → cnt (fun k => listed.getD k false) ops.size ≤ fuel → m ≤ b → b ≤ ops.size →
      (∀ k, m ≤ k → k < b → ∀ s', es k ≠ some (some (.gen s'))) → (b = ops.size ∨ ∃ s', es b = some (some (.gen s'))) → (∀ k, k < m → listed.getD k false = true) → (∀ k, b ≤ k → listed.getD k false = false) →
      (∀ id off c, (stAt s0 ops.toList es m).hp id off = some c → id < (stAt s0 ops.toList es m).nx) →
      AnyInv X w0 n ops (stAt s0 ops.toList es m) (seg es m b) (fun k => listed.getD k false) g a w → wpAny P .any ops Q fuel listed a w := by
  have atEnd : ∀ (listed : Array Bool) (g : Gh) (a : Act) (w : World) (m b : Nat), p ≤ m → m ≤ b → b ≤ ops.size → (∀ k, m ≤ k → k < b → ∀ s', es k ≠ some (some (.gen s'))) →
      (∀ id off c, (stAt s0 ops.toList es m).hp id off = some c → id < (stAt s0 ops.toList es m).nx) →
      AnyInv X w0 n ops (stAt s0 ops.toList es m) (seg es m b) (fun k => listed.getD k false) g a w → (∀ k, k < b → listed.getD k false = true) → Sim X w0 n (stAt s0 ops.toList es b) g a w := fun listed g a w m b hpm hmb hb hng hx inv hall => by
    have := any_done (O.facts hpm hng hx) (fun k e _ he => hall k (seg_some he).2.1) inv
    rwa [seg_high _ _ _ hmb _ hb] at this
  have done : ∀ (listed : Array Bool) (g : Gh) (a : Act) (w : World) (m b : Nat), p ≤ m → m ≤ b → b ≤ ops.size → (∀ k, m ≤ k → k < b → ∀ s', es k ≠ some (some (.gen s'))) → (b = ops.size ∨ ∃ s', es b = some (some (.gen s'))) → (∀ k, b ≤ k → listed.getD k false = false) →
      (∀ id off c, (stAt s0 ops.toList es m).hp id off = some c → id < (stAt s0 ops.toList es m).nx) →
      AnyInv X w0 n ops (stAt s0 ops.toList es m) (seg es m b) (fun k => listed.getD k false) g a w → (∀ k, k < ops.size → listed.getD k false = true) → Q .normal a w := fun listed g a w m b hpm hmb hb hng hbe hnot hx inv hall => by
    have hbs : b = ops.size := by
      rcases Nat.lt_or_ge b ops.size with h | h
      · have h1 := hall b h
        rw [hnot b (Nat.le_refl _)] at h1; cases h1
      · omega
    subst hbs
    exact hq g a w (atEnd listed g a w m _ hpm hmb hb hng hx inv hall)
  intro fuel
  induction fuel with
  | zero =>
    intro listed g a w m b hpm hsz hc hmb hb hng hbe hlow hnot hx inv
    have hall := cnt_zero (L := fun k => listed.getD k false) ops.size (by omega)
    refine ⟨?_, done listed g a w m b hpm hmb hb hng hbe hnot hx inv hall⟩
    unfold Region.ready
    rw [List.filter_eq_nil_iff]
    intro i hi
    have hi' : i < ops.size := by simpa using hi
    have h1 : listed.getD i true = true := by
      have := hall i hi'
      have hlt : i < listed.size := by omega
      simp [hlt] at this ⊢; exact this
    rw [h1]; simp
  | succ fuel ih =>
    intro listed g a w m b hpm hsz hc hmb hb hng hbe hlow hnot hx inv
    refine ⟨fun hr => ?_, fun i hi => ?_⟩
    · by_cases hex : ∃ k, k < ops.size ∧ listed.getD k false = false
      · exact (least_unlisted O.edges hsz ops.size (Nat.le_refl _) hex hr).elim
      · exact done listed g a w m b hpm hmb hb hng hbe hnot hx inv (fun k hk => by
          cases h : listed.getD k false with
          | true => rfl
          | false => exact (hex ⟨k, hk, h⟩).elim)
    · unfold Region.ready at hi
      rw [List.mem_filter] at hi
      obtain ⟨h1, h2⟩ := hi
      have hi' : i < ops.size := by simpa using h1
      have ho : ops[i]? = some ops[i] := by simp [hi']
      rw [ho] at h2
      simp only [Bool.and_eq_true, Bool.not_eq_true', Option.map_some, Option.getD_some, Array.all_eq_true_iff_forall_mem] at h2
      obtain ⟨h3, h4⟩ := h2
      have hlt : i < listed.size := by omega
      have hn : listed.getD i false = false := by simp [hlt] at h3 ⊢; exact h3
      have hready : ∀ e ∈ (ops[i]).after, Region.binds .any e = true → listed.getD e.on false = true := fun e he hb => by
        have := h4 e he; rw [hb] at this; simpa using this
      have hreach : ∀ {k}, Reach ops i k → listed.getD k false = true := fun {k} hr => hr (fun k => listed.getD k false) inv.closed (fun o' ho' e he hb => by rw [ho] at ho'; cases ho'; exact hready e he hb)
      have him : m ≤ i := by
        rcases Nat.lt_or_ge i m with h | h
        · rw [hlow i h] at hn; cases hn
        · exact h
      obtain ⟨e, he, hg, heff⟩ := htr i _ ho
      have hfun : (fun k => (listed.setIfInBounds i true).getD k false) = addL (fun k => listed.getD k false) i := by
        funext k
        unfold addL
        by_cases hk : k = i
        · subst hk; simp [hlt]
        · have hk' : i ≠ k := fun h => hk h.symm
          simp [hk, Array.getElem?_setIfInBounds_ne hk']
      have hcnt : cnt (fun k => (listed.setIfInBounds i true).getD k false) ops.size ≤ fuel := by
        rw [hfun]
        have := cnt_add (L := fun k => listed.getD k false) hn ops.size hi'
        omega
      have hget : ∀ k, (listed.setIfInBounds i true).getD k false = addL (fun k => listed.getD k false) i k := fun k => congrFun hfun k
      have hold : ∀ k, listed.getD k false = true → (listed.setIfInBounds i true).getD k false = true := fun k h => by
        rw [hget]; unfold addL; split; rfl; exact h
      rcases Nat.lt_trichotomy i b with hib | hib | hib
      · -- within the part
        have F := O.facts hpm hng hx
        refine any_step F inv ho hn hready (by rw [seg_in him hib]; exact he) (by rw [seg_mid _ _ _ _ _ _ him (by omega)]; exact hg) (fun e' h => by rw [seg_mid _ _ _ _ _ _ him (by omega)]; exact heff e' h) (hd _ (by simp)) fun g' a' w' inv' => ?_
        refine ih (listed.setIfInBounds i true) g' a' w' m b hpm (by simpa using hsz) hcnt hmb hb hng hbe (fun k hk => hold k (hlow k hk)) (fun k hk => ?_) hx (by rw [hfun]; exact inv')
        rw [hget]; unfold addL
        rw [if_neg (by omega)]; exact hnot k hk
      · -- the operation that changes all
        subst hib
        have hgen : ∃ s', es i = some (some (.gen s')) := by
          rcases hbe with h | h
          · omega
          · exact h
        obtain ⟨s', hs'⟩ := hgen
        rw [hs'] at he; cases he
        have hall : ∀ k, k < i → listed.getD k false = true := fun k hk => by
          have hk' : ops[k]? = some ops[k] := by simp [show k < ops.size by omega]
          rcases Nat.lt_or_ge k m with hkm | hkm
          · exact hlow k hkm
          rcases O.apart k i _ _ hk (by omega) hk' ho with ⟨_, _, _, h5⟩ | h5
          · rw [hs'] at h5; cases h5
          · exact hreach h5
        have hsim := atEnd listed g a w m i hpm hmb hb hng hx inv hall
        have hst : stAt s0 ops.toList es (i + 1) = s' := by
          have : ops.toList[i]? = some ops[i] := by simp [hi']
          simp only [stAt, this, hs']; rfl
        obtain ⟨b', q1, q2, q3, q4⟩ := next_gen es ops.size (ops.size - (i + 1)) (i + 1) (by omega)
        unfold wpOp
        simp only [ho]
        have hw := wanted_of_guardVal hg (g := g) (tmps := a.tmps) (fun d _ => hsim.tm d)
        rw [hw]
        simp only [Option.isSome_some, if_true]
        left
        refine eff_step (heff _ rfl) hsim (hd _ (by simp)) fun g' a' w' hsim' => ?_
        have hsim' : Sim X w0 n (stAt s0 ops.toList es (i + 1)) g' a' w' := by rw [hst]; exact hsim'
        have hcl' : Closed ops (fun k => (listed.setIfInBounds i true).getD k false) := by rw [hfun]; exact closed_add inv.closed ho hready
        have hno : ∀ k, i + 1 ≤ k → (listed.setIfInBounds i true).getD k false = false := fun k hk => by
          rw [hget]; unfold addL
          rw [if_neg (by omega)]; exact hnot k (by omega)
        refine ih (listed.setIfInBounds i true) g' a' w' (i + 1) b' (by omega) (by simpa using hsz) hcnt q1 q2 q3 q4 (fun k hk => ?_) (fun k hk => hno k (by omega)) hsim'.hx (any_begin hcl' (fun k hk => ?_) hsim')
        · by_cases hki : k = i
          · subst hki; rw [hget]; unfold addL; rw [if_pos rfl]
          · exact hold k (hall k (by omega))
        · refine seg_out fun hc => ?_
          rw [hno k hc.1] at hk; cases hk
      · -- behind it: not yet
        exfalso
        have hbb : b < ops.size := by omega
        have hgen : ∃ s', es b = some (some (.gen s')) := by
          rcases hbe with h | h
          · omega
          · exact h
        obtain ⟨s', hs'⟩ := hgen
        have hb' : ops[b]? = some ops[b] := by simp [hbb]
        rcases O.apart b i _ _ hib (by omega) hb' ho with ⟨_, _, h5, _⟩ | h5
        · rw [hs'] at h5; cases h5
        · have := hreach h5
          rw [hnot b (Nat.le_refl _)] at this; cases this

/-- a region that draws its order -/
theorem cops_any {Γ : CEnv} (hΓ : GoodC P Γ) (hm : P.follows .mixedOrders = true) {id : Nat} {s : St} {K : St → Tr α} {rv : α} (hd : ∀ o ∈ ops.toList, ∀ x, o.dst = some x → x < n)
    (h : (cops R P Γ true ops ops.toList s [] fun s' feet => brT (orderOk ops feet.reverse) (K s') none) = some rv) {g : Gh} {a : Act} {w : World} (hs : Sim X w0 n s g a w) {Q : Exit → Act → World → Prop}
    (hq : ∀ s' g' a' w', K s' = some rv → Sim X w0 n s' g' a' w' → Q .normal a' w') : (Code.region id ops true).wp P Q a w := by
  obtain ⟨es, h23, h4⟩ := cops_trace hΓ _ _ _ _ _ h
  obtain ⟨h2, h3⟩ := brT_req h23
  simp only [List.append_nil, List.reverse_reverse] at h2
  -- behind the end nothing is told
  have hnice : ∀ (k : Nat) e, seg es 0 ops.size k = some (some e) → Nice (stAt s ops.toList (seg es 0 ops.size) k) e := fun k e he => by
    obtain ⟨_, hk, he⟩ := seg_some he
    obtain ⟨e', h5, _, h6⟩ := h4 k ops[k] (by simp [hk])
    rw [he] at h5; cases h5
    have e1 : stAt s ops.toList (seg es 0 ops.size) k = stAt s ops.toList es k := seg_mid s ops.toList es 0 ops.size k (Nat.zero_le _) (by omega)
    rw [e1]
    exact nice_of (h6 e rfl)
  have hlist : ops.toList.length = ops.size := by simp
  have hsame : ∀ k, k ≤ ops.size → stAt s ops.toList (seg es 0 ops.size) k = stAt s ops.toList es k := fun k hk => seg_mid s ops.toList es 0 ops.size k (Nat.zero_le _) hk
  have h2 : orderOk ops ((List.range ops.toList.length).map fun k => foot (stAt s ops.toList (seg es 0 ops.size) k) ((seg es 0 ops.size k).getD none)) = true := by
    rw [← h2]
    congr 1
    refine List.map_congr_left fun k hk => ?_
    rw [List.mem_range, hlist] at hk
    rw [hsame k (by omega), seg_in (Nat.zero_le _) hk]
  rw [hlist] at h3
  have hL : (fun k => (Array.replicate ops.size false).getD k false) = fun _ => false := by
    funext k
    rcases Nat.lt_or_ge k ops.size with h | h
    · simp [h]
    · simp [h]
  have hLk : ∀ k, (Array.replicate ops.size false).getD k false = false := fun k => congrFun hL k
  have hdr : After X w0 g w g { w with drawn := w.drawn + 1 } := After.drewN hs.ok 1
  have hs' := hs.after hdr
  have htr : ∀ (k : Nat) o, ops[k]? = some o → ∃ e, seg es 0 ops.size k = some e ∧ guardVal ops o (stAt s ops.toList (seg es 0 ops.size) k) = some e.isSome ∧ ∀ e', e = some e' → EffOk P o (stAt s ops.toList (seg es 0 ops.size) k) e' := fun k o ho => by
    have hk : k < ops.size := by
      rcases Nat.lt_or_ge k ops.size with h | h
      · exact h
      · rw [Array.getElem?_eq_none h] at ho; cases ho
    obtain ⟨e, h5, h6, h7⟩ := h4 k o (by simpa using ho)
    exact ⟨e, by rw [seg_in (Nat.zero_le _) hk]; exact h5, by rw [hsame k (by omega)]; exact h6, fun e' h => by rw [hsame k (by omega)]; exact h7 e' h⟩
  have hcntle : ∀ L : Nat → Bool, ∀ m, cnt L m ≤ m := fun L m => by
    induction m with
    | zero => exact Nat.le_refl _
    | succ m ih => simp only [cnt]; split <;> omega
  unfold orderOk at h2
  rw [Bool.or_eq_true] at h2
  rcases h2 with h2 | h2
  · refine wp_region_any hm ?_
    have O := facts_of_orderOk hnice h2
    obtain ⟨b, q1, q2, q3, q4⟩ := next_gen (seg es 0 ops.size) ops.size ops.size 0 (by omega)
    refine any_order O htr hd (fun g a w hs' => hq _ g a w (by rw [hsame _ (Nat.le_refl _)]; exact h3) hs') ops.size _ g a _ 0 b (Nat.le_refl _) (by simp) (hcntle _ _) q1 q2 q3 q4 (fun k hk => by omega) (fun k _ => hLk k) hs'.hx (any_begin ?_ (fun k hk => ?_) hs')
    · rw [hL]; intro k o _ hk; cases hk
    · rw [hLk] at hk; cases hk
  · -- the first operation, a move, ahead of all others
    rw [Bool.and_eq_true] at h2
    obtain ⟨hmf, h2⟩ := h2
    have O := facts_of_orderOk hnice h2
    unfold moveFirst at hmf
    split at hmf
    · rename_i o0 ho0
      rw [Bool.and_eq_true, Bool.and_eq_true, Bool.and_eq_true] at hmf
      obtain ⟨hmv, ⟨hfree, haft⟩, hsel⟩ := hmf
      split at hmv
      · rename_i x hop hgd
        have hsz0 : 0 < ops.size := by
          rcases Nat.lt_or_ge 0 ops.size with h | h
          · exact h
          · rw [Array.getElem?_eq_none h] at ho0; cases ho0
        obtain ⟨Q', hn1, hn2, hn3⟩ : ∃ Q' : Exit → Act → World → Prop, (∀ a w, Q .normal a w → Q' .normal a w) ∧ (∀ e a w, Q' e a w → Q e a w) ∧ (∀ c a w, ¬ Q' (.panic c) a w) :=
          ⟨fun e a w => e = .normal ∧ Q .normal a w, fun a w h => ⟨rfl, h⟩, fun e a w ⟨h1, h2⟩ => by rw [h1]; exact h2, fun c a w ⟨h1, _⟩ => by cases h1⟩
        refine Code.wp_mono hn2 ?_
        refine wp_region_any hm ?_
        have hafter : ∀ e ∈ o0.after, Region.binds .any e = true → False := fun e he _ => by
          have : o0.after = #[] := by simpa using haft
          rw [this] at he; simp at he
        have hrun : ∀ (a : Act) w, (execOp a.eval o0).run P w = .ok (.value (a.eval x)) w := fun a w => by
          obtain ⟨dst, op, type, pos, after, guard⟩ := o0
          have hop : op = .move x := hop
          subst hop
          rfl
        have hwant : ∀ a : Act, Region.wanted o0 (yielded ops a.tmps) = true := fun a => by
          unfold Region.wanted; rw [hgd]
        have hy : Yields P ops o0 (a.eval x) a := .inl ⟨hwant a, hrun a⟩
        obtain ⟨k0, hk0⟩ : ∃ k0, ops.size = k0 + 1 := ⟨ops.size - 1, by omega⟩
        have hgoal : wpAny P .any ops Q' k0 ((Array.replicate ops.size false).setIfInBounds 0 true) (a.put o0.dst (a.eval x)) { w with drawn := w.drawn + 1 } := by
          -- the state behind the move
          obtain ⟨e0, p1, p2, p3⟩ := htr 0 o0 ho0
          have he0 : e0.isSome = true := by
            unfold guardVal at p2
            rw [hgd] at p2
            have := Option.some.inj p2
            exact this.symm
          obtain ⟨e1, rfl⟩ := Option.isSome_iff_exists.1 he0
          have hsim1 : ∃ g1, Sim X w0 n (stAt s ops.toList (seg es 0 ops.size) 1) g1 (a.put o0.dst (a.eval x)) { w with drawn := w.drawn + 1 } := by
            have hwp : o0.wp P a { w with drawn := w.drawn + 1 } (fun a' w' => ∃ g1, Sim X w0 n (applyEff (stAt s ops.toList (seg es 0 ops.size) 0) o0.dst e1) g1 a' w') Q :=
              eff_step (p3 e1 rfl) hs' (hd o0 (by simpa using Array.mem_of_getElem? ho0)) fun g' a' w' h => ⟨g', h⟩
            unfold Oper.wp at hwp
            rw [hrun] at hwp
            have hwp : ∃ g1, Sim X w0 n (applyEff (stAt s ops.toList (seg es 0 ops.size) 0) o0.dst e1) g1 (a.put o0.dst (a.eval x)) { w with drawn := w.drawn + 1 } := hwp
            have hst : stAt s ops.toList (seg es 0 ops.size) 1 = applyEff (stAt s ops.toList (seg es 0 ops.size) 0) o0.dst e1 := by
              have : ops.toList[0]? = some o0 := by simpa using ho0
              simp only [stAt, this, p1]; rfl
            rw [hst]; exact hwp
          obtain ⟨g1, hs1⟩ := hsim1
          obtain ⟨b, q1, q2, q3, q4⟩ := next_gen (seg es 0 ops.size) ops.size (ops.size - 1) 1 (by omega)
          have hLs : ∀ k, ((Array.replicate ops.size false).setIfInBounds 0 true).getD k false = decide (k = 0) := fun k => by
            by_cases hk : k = 0
            · subst hk; simp [hsz0]
            · have hk' : 0 ≠ k := fun h => hk h.symm
              rw [getD_set_ne false hk', hLk k]
              exact (decide_eq_false hk).symm
          have hcnt0 : ∀ m, 1 ≤ m → cnt (fun k => ((Array.replicate ops.size false).setIfInBounds 0 true).getD k false) m + 1 ≤ m := fun m hm => by
            induction m with
            | zero => omega
            | succ m ih =>
              rcases Nat.eq_zero_or_pos m with rfl | hm0
              · have h0 := hLs 0
                simp only [cnt]
                rw [if_pos (h0.trans (by decide))]; exact Nat.le_refl _
              · have := ih hm0
                simp only [cnt]; split <;> omega
          refine any_order O htr hd (fun g a w hs' => hn1 _ _ (hq _ g a w (by rw [hsame _ (Nat.le_refl _)]; exact h3) hs')) k0 ((Array.replicate ops.size false).setIfInBounds 0 true) g1 _ _ 1 b (Nat.le_refl _) (by simp) (by have := hcnt0 ops.size (by omega); omega) q1 q2 q3 q4 (fun k hk => by rw [hLs]; simp; omega) (fun k hk => by rw [hLs]; simp; omega) hs1.hx (any_begin ?_ (fun k hk => ?_) hs1)
          · intro k o ho hk e he hb
            have hk : ((Array.replicate ops.size false).setIfInBounds 0 true).getD k false = true := hk
            rw [hLs] at hk
            have hk0' := of_decide_eq_true hk
            subst hk0'
            rw [ho0] at ho; cases ho
            exact (hafter e he hb).elim
          · rw [hLs] at hk
            have hk0' := of_decide_eq_true hk
            exact seg_out (by omega)
        rw [hk0]
        rw [hk0] at hgoal
        refine wpAny_first ho0 (fun j o cs b ho => Region.noSelect_spec hsel j o cs b ho) (fun c a w h => (hn3 _ _ _ h).elim) k0 _ a _ (fun j oj hj hne hun hno => ?_) ?_ hy hgoal
        · rw [← hk0] at hun
          exact Region.free_spec ho0 hfree j oj hj hne hun hno
        · rw [mem_ready]
          refine ⟨by simp, o0, ho0, fun e he hb => (hafter e he hb).elim⟩
      · cases hmv
    · cases hmf

end

end Go.Dv

/- Statements: 'cwp' is sound; what is told of a loop. -/
namespace Go.Dv
open Go.RowKit Go.Cv

section
variable {P : Program} {Γ : CEnv}

/-- what is told of a loop holds -/
def LOk (P : Program) (n : Nat) (c : Code) (L : LSpec) : Prop :=
  ∀ X w0 s g a w (Kp : Exit → St → Prop) (Q : Exit → Act → World → Prop), Sim X w0 n s g a w → (L s).holds Kp → (∀ e s' g' a' w', Kp e s' → Sim X w0 n s' g' a' w' → Q e a' w') → (Code.loop c).wp P Q a w

theorem LT.holds_of_run {α : Type} {rv : α} {K : Exit → St → Tr α} : ∀ {t : LT}, t.run K = some rv → t.holds (fun e s => K e s = some rv)
  | .leaf e s, h => h
  | .br true a b, h => LT.holds_of_run (t := a) h
  | .br false a b, h => LT.holds_of_run (t := b) h
  | .no, h => by cases h

theorem cwp_sound (hΓ : GoodC P Γ) (hm : P.follows .mixedOrders = true) {α : Type} {Λ : Nat → Option LSpec} {X : Fr} {w0 : World} {n F : Nat} {rv : α} : ∀ (c : Code) (b : Nat) (K : Exit → St → Tr α) (s : St), dstOk n c = true →
    (∀ i cc L, (loopsOf c)[i]? = some cc → Λ (b + i) = some L → LOk P n cc L) → cwp R P Γ Λ F c b K s = some rv →
    ∀ {g : Gh} {a : Act} {w : World}, Sim X w0 n s g a w → ∀ {Q : Exit → Act → World → Prop}, (∀ e s' g' a' w', K e s' = some rv → Sim X w0 n s' g' a' w' → Q e a' w') → c.wp P Q a w := by
  intro c
  induction c with
  | skip => intro b K s _ _ h g a w hs Q hq; exact wp_skip (hq _ _ _ _ _ h hs)
  | label l => intro b K s _ _ h g a w hs Q hq; exact wp_label (hq _ _ _ _ _ h hs)
  | exit id => intro b K s _ _ h g a w hs Q hq; exact wp_exit (hq _ _ _ _ _ h hs)
  | ret => intro b K s _ _ h g a w hs Q hq; exact wp_ret (hq _ _ _ _ _ h hs)
  | region id ops draw =>
    intro b K s hd _ h g a w hs Q hq
    have hd' : ∀ o ∈ ops.toList, ∀ x, o.dst = some x → x < n := fun o ho x hx => by
      have := List.all_eq_true.1 hd o ho
      rw [hx] at this; simpa using this
    simp only [cwp, cregion] at h
    cases draw with
    | true => exact cops_any hΓ hm hd' h hs fun s' g' a' w' hk hs' => hq _ _ _ _ _ hk hs'
    | false =>
      refine wp_region ?_
      have := cops_lex hΓ (n := n) ops.toList 0 s [] _ rv g a w (by simp) hd' h hs (Q := Q) (fun s' acc' g' a' w' hk hs' => hq _ _ _ _ _ hk hs')
      simpa [List.range_eq_range'] using this
  | seq x y ihx ihy =>
    intro b K s hd hL h g a w hs Q hq
    simp only [dstOk, Bool.and_eq_true] at hd
    simp only [cwp] at h
    refine wp_seq (ihx b _ s hd.1 (fun i cc L h1 h2 => hL i cc L ?_ h2) h hs fun e s' g' a' w' hk hs' => ?_)
    · have hlt : i < (loopsOf x).length := by
        rcases Nat.lt_or_ge i (loopsOf x).length with h3 | h3
        · exact h3
        · rw [List.getElem?_eq_none h3] at h1; cases h1
      simp only [loopsOf]; rw [List.getElem?_append_left hlt]; exact h1
    · cases e with
      | normal =>
        refine ihy (b + nLoops x) _ s' hd.2 (fun i cc L h1 h2 => hL (nLoops x + i) cc L ?_ (by rw [← Nat.add_assoc]; exact h2)) hk hs' hq
        simp only [loopsOf]
        rw [List.getElem?_append_right (by rw [nLoops_eq]; omega), nLoops_eq]
        have : nLoops x + i - nLoops x = i := by omega
        rw [this]; exact h1
      | _ => exact hq _ _ _ _ _ hk hs'
  | cond c x y ihx ihy =>
    intro b K s hd hL h g a w hs Q hq
    simp only [dstOk, Bool.and_eq_true] at hd
    simp only [cwp] at h
    split at h
    · rename_i t hc
      have hr := hs.ev c
      rw [hc] at hr
      have hr : a.eval c = .bool t := hr
      have hbr := brT_some h; clear h; rcases hbr with ⟨rfl, h⟩ | ⟨rfl, h⟩
      · rw [setOp_eq hc] at h
        refine wp_cond_true hr (ihx b _ s hd.1 (fun i cc L h1 h2 => hL i cc L ?_ h2) h hs hq)
        have hlt : i < (loopsOf x).length := by
          rcases Nat.lt_or_ge i (loopsOf x).length with h3 | h3
          · exact h3
          · rw [List.getElem?_eq_none h3] at h1; cases h1
        simp only [loopsOf]; rw [List.getElem?_append_left hlt]; exact h1
      · rw [setOp_eq hc] at h
        refine wp_cond_false hr (ihy (b + nLoops x) _ s hd.2 (fun i cc L h1 h2 => hL (nLoops x + i) cc L ?_ (by rw [← Nat.add_assoc]; exact h2)) h hs hq)
        simp only [loopsOf]
        rw [List.getElem?_append_right (by rw [nLoops_eq]; omega), nLoops_eq]
        have : nLoops x + i - nLoops x = i := by omega
        rw [this]; exact h1
    · cases h
  | block id c ih =>
    intro b K s hd hL h g a w hs Q hq
    simp only [cwp] at h
    refine wp_block (ih b _ s hd hL h hs fun e s' g' a' w' hk hs' => ?_)
    cases e with
    | exit i =>
      simp only [blockK] at hk
      simp only [Exit.inBlock]
      by_cases e : i = id
      · subst e
        rw [if_pos rfl]
        simp at hk
        exact hq _ _ _ _ _ hk hs'
      · rw [beq_ne e] at hk
        rw [if_neg e]
        exact hq _ _ _ _ _ hk hs'
    | _ => exact hq _ _ _ _ _ hk hs'
  | loop c ih =>
    intro b K s hd hL h g a w hs Q hq
    simp only [cwp] at h
    split at h
    · rename_i L hLb
      exact hL 0 c L rfl (by simpa using hLb) X w0 s g a w _ Q hs (LT.holds_of_run h) hq
    · have rounds : ∀ (m : Nat) (s : St) (g : Gh) (a : Act) (w : World), Sim X w0 n s g a w → cloop (fun K s => cwp R P Γ Λ F c (b + 1) K s) m K s = some rv → Code.rounds P c Q m a w := by
        intro m
        induction m with
        | zero => intro s g a w _ h; cases h
        | succ m ihm =>
          intro s g a w hs h
          rw [rounds_succ]
          simp only [cloop] at h
          refine ih (b + 1) _ s hd (fun i cc L h1 h2 => hL (i + 1) cc L (by simpa [loopsOf] using h1) (by rw [show b + (i + 1) = b + 1 + i by omega]; exact h2)) h hs fun e s' g' a' w' hk hs' => ?_
          cases e with
          | normal => exact ihm s' g' a' w' hs' hk
          | _ => exact hq _ _ _ _ _ hk hs'
      exact wp_loop_rounds F (rounds F s g a w hs h)
  | scope c ih =>
    intro b K s hd hL h g a w hs Q hq
    simp only [cwp] at h
    refine wp_scope_straight (ih b _ s hd hL h hs fun e s' g' a' w' hk hs' => ?_)
    cases e with
    | goto l => cases hk
    | _ => exact hq _ _ _ _ _ hk hs'
  | rangeFunc f ps as b _ _ => intro b K s _ _ h; cases h
  | goto l => intro b K s _ _ h; cases h
  | refuse y => intro b K s _ _ h; cases h

end
end Go.Dv
