/- A region that draws its order: where every two operations that touch one place are ordered by an edge, each order ends as the order of the text does. -/
import Derived.Test.YtmhmedbhngmmpaaDl
namespace Go.Dv
open Go.RowKit Go.Cv


/-! ### the last listed writer of a place -/

def fold {X : Type} (wr : Nat → Option X) (L : Nat → Bool) (x0 : X) : Nat → X
  | 0 => x0
  | k + 1 => if L k then (wr k).getD (fold wr L x0 k) else fold wr L x0 k

def addL (L : Nat → Bool) (i : Nat) : Nat → Bool := fun k => if k = i then true else L k

theorem fold_agree {X : Type} {wr : Nat → Option X} {L : Nat → Bool} {x0 : X} {i : Nat} (h1 : ∀ k, k < i → (wr k).isSome = true → L k = true) : ∀ n, i ≤ n →
    (∀ k, i ≤ k → k < n → (wr k).isSome = true → L k = false) → fold wr L x0 n = fold wr (fun _ => true) x0 i := by
  have base : fold wr L x0 i = fold wr (fun _ => true) x0 i := by
    induction i with
    | zero => rfl
    | succ i ih =>
      have ih := ih (fun k hk => h1 k (by omega))
      simp only [fold, if_true]
      cases hw : wr i with
      | none => simp [ih]
      | some x => rw [h1 i (by omega) (by rw [hw]; rfl)]; simp
  intro n hn
  induction n with
  | zero => intro _; have : i = 0 := by omega
            subst this; exact base
  | succ n ih =>
    intro h2
    by_cases e : i = n + 1
    · subst e; exact base
    · have ih := ih (by omega) (fun k h3 h4 => h2 k h3 (by omega))
      simp only [fold]
      cases hw : wr n with
      | none => simp [ih]
      | some x => rw [h2 n (by omega) (by omega) (by rw [hw]; rfl)]; simp [ih]

theorem fold_add_ne {X : Type} {wr : Nat → Option X} {L : Nat → Bool} {x0 : X} {i : Nat} (h : wr i = none) : ∀ n, fold wr (addL L i) x0 n = fold wr L x0 n
  | 0 => rfl
  | n + 1 => by
    simp only [fold, fold_add_ne h n, addL]
    by_cases e : n = i
    · subst e; simp [h]
    · simp [e]

theorem fold_add_eq {X : Type} {wr : Nat → Option X} {L : Nat → Bool} {x0 : X} {i : Nat} {x : X} (h : wr i = some x) : ∀ n, i < n → (∀ k, i < k → k < n → (wr k).isSome = true → L k = false) →
    fold wr (addL L i) x0 n = x
  | 0, hn, _ => by omega
  | n + 1, hn, h2 => by
    simp only [fold, addL]
    by_cases e : n = i
    · subst e; simp [h]
    · have ih := fold_add_eq (x0 := x0) h n (by omega) (fun k h3 h4 => h2 k h3 (by omega))
      simp only [e, if_false]
      cases hw : wr n with
      | none => simp [ih]
      | some y => rw [h2 n (by omega) (by omega) (by rw [hw]; rfl)]; simp [ih]

def cnt (L : Nat → Bool) : Nat → Nat
  | 0 => 0
  | k + 1 => cnt L k + (if L k then 0 else 1)

theorem cnt_add_ge {L : Nat → Bool} {i : Nat} : ∀ n, n ≤ i → cnt (addL L i) n = cnt L n
  | 0, _ => rfl
  | n + 1, h => by
    have ih : cnt (addL L i) n = cnt L n := cnt_add_ge n (Nat.le_of_succ_le h)
    have e : ¬ n = i := by omega
    simp [cnt, ih, addL, e]

theorem cnt_add {L : Nat → Bool} {i : Nat} (hi : L i = false) : ∀ n, i < n → cnt (addL L i) n + 1 = cnt L n
  | 0, h => by omega
  | n + 1, h => by
    by_cases e : n = i
    · subst e; simp [cnt, cnt_add_ge n (Nat.le_refl _), addL, hi]
    · have := cnt_add hi n (by omega)
      simp only [cnt, addL, e, if_false]
      omega

theorem cnt_zero {L : Nat → Bool} : ∀ n, cnt L n = 0 → ∀ k, k < n → L k = true
  | 0, _, k, hk => by omega
  | n + 1, h, k, hk => by
    simp only [cnt] at h
    have h1 : cnt L n = 0 := by omega
    have h2 : L n = true := by cases hl : L n; (rw [hl] at h; simp at h); rfl
    by_cases e : k = n
    · subst e; exact h2
    · exact cnt_zero n h1 k (by omega)

/-! ### the edges -/

def Closed (ops : Array Oper) (L : Nat → Bool) : Prop :=
  ∀ k o, ops[k]? = some o → L k = true → ∀ e ∈ o.after, Region.binds .any e = true → L e.on = true

def Reach (ops : Array Oper) (k i : Nat) : Prop :=
  ∀ L : Nat → Bool, Closed ops L → (∀ o, ops[k]? = some o → ∀ e ∈ o.after, Region.binds .any e = true → L e.on = true) → L i = true

theorem bits_spec (acc : List Nat) (i : Nat) : ∀ (es : List Edge) (s : Nat), (es.foldl (fun s e => if Region.binds .any e then s ||| (2 ^ e.on ||| acc.getD e.on 0) else s) s).testBit i = true →
    s.testBit i = true ∨ ∃ e ∈ es, Region.binds .any e = true ∧ (i = e.on ∨ (acc.getD e.on 0).testBit i = true)
  | [], s, h => .inl h
  | e :: es, s, h => by
    simp only [List.foldl_cons] at h
    rcases bits_spec acc i es _ h with h | ⟨e', he', h1, h2⟩
    · by_cases hb : Region.binds .any e = true
      · rw [if_pos hb] at h
        simp only [Nat.testBit_or, Bool.or_eq_true] at h
        rcases h with h | h | h
        · exact .inl h
        · refine .inr ⟨e, by simp, hb, .inl ?_⟩
          rw [Nat.testBit_two_pow] at h
          exact (of_decide_eq_true h).symm
        · exact .inr ⟨e, by simp, hb, .inr h⟩
      · rw [if_neg hb] at h; exact .inl h
    · exact .inr ⟨e', by simp [he'], h1, h2⟩

theorem before_reach {ops : Array Oper} : ∀ (rest : List Oper) (acc : List Nat), (∀ j, rest[j]? = ops[acc.length + j]?) → (∀ k i, (acc.getD k 0).testBit i = true → Reach ops k i) →
    ∀ k i, ((beforeGo rest acc).getD k 0).testBit i = true → Reach ops k i
  | [], acc, _, h => h
  | o :: rest, acc, hl, h => by
    have h0 : ops[acc.length]? = some o := by simpa using (hl 0).symm
    refine before_reach rest (acc ++ [beforeBits acc o]) (fun j => ?_) (fun k i hb => ?_)
    · have := hl (j + 1)
      simp only [List.length_append, List.length_cons, List.length_nil]
      rw [show acc.length + (0 + 1) + j = acc.length + (j + 1) by omega, ← this]; simp
    · rcases Nat.lt_trichotomy k acc.length with hk | hk | hk
      · refine h k i ?_
        simpa [List.getD, List.getElem?_append_left hk] using hb
      · subst hk
        have hb : (beforeBits acc o).testBit i = true := by simpa [List.getD] using hb
        intro L hL he
        rcases bits_spec acc i _ 0 hb with h1 | ⟨e, he1, he2, he3⟩
        · simp at h1
        · have hon := he o h0 e (by simpa using he1) he2
          rcases he3 with rfl | he3
          · exact hon
          · exact h e.on i he3 L hL (fun o' ho' e' h3 h4 => hL e.on o' ho' hon e' h3 h4)
      · rw [List.getD, List.getElem?_eq_none (by simp; omega)] at hb
        simp at hb

/-! ### the trace of the order of the text -/

def stAt (s0 : St) (l : List Oper) (es : List (Option Eff)) : Nat → St
  | 0 => s0
  | k + 1 => match l[k]?, es[k]? with
    | some o, some e => stepSt (stAt s0 l es k) o.dst e
    | _, _ => stAt s0 l es k

theorem stAt_cons (s : St) (o : Oper) (l : List Oper) (e : Option Eff) (es : List (Option Eff)) : ∀ k, stAt s (o :: l) (e :: es) (k + 1) = stAt (stepSt s o.dst e) l es k
  | 0 => rfl
  | k + 1 => by
    rw [stAt, stAt_cons s o l e es k]
    simp only [List.getElem?_cons_succ]
    rfl

section
variable {P : Program} {α : Type}

theorem cops_trace {Γ : CEnv} (hΓ : GoodC P Γ) {ops : Array Oper} : ∀ (l : List Oper) (s : St) (acc : List Foot) (K : St → List Foot → Tr α) (rv : α), cops R P Γ ops l s acc K = some rv →
    ∃ es : List (Option Eff), es.length = l.length ∧ K (stAt s l es l.length) (((List.range l.length).map fun k => foot (stAt s l es k) (es.getD k none)).reverse ++ acc) = some rv ∧
      ∀ (k : Nat) o, l[k]? = some o → ∃ e, es[k]? = some e ∧ guardVal ops o (stAt s l es k) = some e.isSome ∧ ∀ e', e = some e' → EffOk P o (stAt s l es k) e'
  | [], s, acc, K, rv, h => ⟨[], rfl, by simpa [cops, stAt] using h, fun k o h => by simp at h⟩
  | o :: l, s, acc, K, rv, h => by
    have key : ∀ (e : Option Eff), guardVal ops o s = some e.isSome → (∀ e', e = some e' → EffOk P o s e') → cops R P Γ ops l (stepSt s o.dst e) (foot s e :: acc) K = some rv →
        ∃ es : List (Option Eff), es.length = (o :: l).length ∧ K (stAt s (o :: l) es (o :: l).length) (((List.range (o :: l).length).map fun k => foot (stAt s (o :: l) es k) (es.getD k none)).reverse ++ acc) = some rv ∧
      ∀ (k : Nat) o', (o :: l)[k]? = some o' → ∃ e, es[k]? = some e ∧ guardVal ops o' (stAt s (o :: l) es k) = some e.isSome ∧ ∀ e', e = some e' → EffOk P o' (stAt s (o :: l) es k) e' := by
      intro e hg he hc
      obtain ⟨es, h1, h2, h3⟩ := cops_trace hΓ l _ _ K rv hc
      refine ⟨e :: es, by simp [h1], ?_, fun k o' hk => ?_⟩
      · simp only [List.length_cons]
        rw [stAt_cons]
        rw [List.range_succ_eq_map]
        simp only [List.map_cons, List.map_map, List.reverse_cons, List.append_assoc, List.singleton_append]
        have e1 : ((fun k => foot (stAt s (o :: l) (e :: es) k) ((e :: es).getD k none)) ∘ Nat.succ) = fun k => foot (stAt (stepSt s o.dst e) l es k) (es.getD k none) := by
          funext k
          show foot (stAt s (o :: l) (e :: es) (k + 1)) ((e :: es).getD (k + 1) none) = _
          rw [stAt_cons]; rfl
        rw [e1]
        exact h2
      · cases k with
        | zero => simp at hk; subst hk; exact ⟨e, rfl, hg, he⟩
        | succ k =>
          obtain ⟨e', h4, h5, h6⟩ := h3 k o' (by simpa using hk)
          exact ⟨e', by simpa using h4, by rw [stAt_cons]; exact h5, fun e'' h7 => by rw [stAt_cons]; exact h6 e'' h7⟩
    have hc := cops_cons h
    clear h
    rcases hc with ⟨ht, h⟩ | ⟨ht, h⟩
    · obtain ⟨e, he1, he2⟩ := cop_sound hΓ h
      exact key (some e) ht (fun e' h => by cases h; exact he2) he1
    · exact key none ht (fun e' h => by cases h) h

/-! ### writers -/

def dstVal (s : St) : Option Eff → CV
  | none => ex undef
  | some (.val cv _) => cv
  | some (.new _) => .one (.s (.ptr s.nx 0))
  | some (.put _ _ _) => ex undef
  | some (.gen _) => ex undef

def wrT (s0 : St) (l : List Oper) (es : List (Option Eff)) (t k : Nat) : Option CV :=
  match l[k]?, es[k]? with
  | some o, some e => if o.dst = some t then some (dstVal (stAt s0 l es k) e) else none
  | _, _ => none

def wrH (s0 : St) (l : List Oper) (es : List (Option Eff)) (id off k : Nat) : Option (Option CS) :=
  match l[k]?, es[k]? with
  | some _, some (some (.new cs)) => if id = (stAt s0 l es k).nx then some cs[off]? else none
  | some _, some (some (.put i o cs)) => if id = i ∧ o ≤ off ∧ off < o + cs.length then some cs[off - o]? else none
  | _, _ => none

theorem upd_eq_getD (f : Nat → CV) (d : Option Nat) (x : CV) (t : Nat) : upd f d x t = (if d = some t then some x else none).getD (f t) := by
  cases d with
  | none => rfl
  | some d =>
    by_cases e : t = d
    · subst e; simp [upd_same]
    · rw [upd_ne _ _ e, if_neg (by intro h; cases h; exact e rfl)]; rfl

/-- no operation does more than compute, lay a block, or store -/
def NoGen (es : List (Option Eff)) : Prop := ∀ (k : Nat) s', es[k]? ≠ some (some (.gen s'))

theorem tm_fold (s0 : St) (l : List Oper) (es : List (Option Eff)) (hng : NoGen es) (t : Nat) : ∀ k, (stAt s0 l es k).tm t = fold (wrT s0 l es t) (fun _ => true) (s0.tm t) k
  | 0 => rfl
  | k + 1 => by
    simp only [fold, if_true, ← tm_fold s0 l es hng t k]
    simp only [stAt, wrT]
    split
    · rename_i o e ho he
      rw [← upd_eq_getD]
      cases e with
      | none => rfl
      | some e => cases e <;> first | rfl | exact absurd he (hng _ _)
    · rfl

theorem hp_fold (s0 : St) (l : List Oper) (es : List (Option Eff)) (hng : NoGen es) (id off : Nat) : ∀ k, (stAt s0 l es k).hp id off = fold (wrH s0 l es id off) (fun _ => true) (s0.hp id off) k
  | 0 => rfl
  | k + 1 => by
    simp only [fold, if_true, ← hp_fold s0 l es hng id off k]
    simp only [stAt, wrH]
    cases ho : l[k]? with
    | none => rfl
    | some o =>
      cases he : es[k]? with
      | none => rfl
      | some e =>
        cases e with
        | none => rfl
        | some e =>
          cases e with
          | val cv deps => rfl
          | gen s' => exact absurd he (hng _ _)
          | new cs =>
            simp only [stepSt, applyEff]
            by_cases e : id = (stAt s0 l es k).nx
            · simp [e]
            · have hb : Nat.beq id (stAt s0 l es k).nx = false := by cases hb : Nat.beq id (stAt s0 l es k).nx; rfl; exact absurd (Nat.eq_of_beq_eq_true hb) e
              simp [e, hb]
          | put i o cs =>
            simp only [stepSt, applyEff]
            by_cases e : id = i ∧ o ≤ off ∧ off < o + cs.length
            · obtain ⟨e1, e2, e3⟩ := e
              have h1 : Nat.beq id i = true := by rw [e1]; exact Nat.beq_refl i
              have h2 : Nat.ble o off = true := Nat.ble_eq_true_of_le e2
              have h3 : Nat.blt off (o + cs.length) = true := Nat.ble_eq_true_of_le e3
              rw [if_pos ⟨e1, e2, e3⟩]
              simp [h1, h2, h3]
            · have : (Nat.beq id i && (Nat.ble o off && Nat.blt off (o + cs.length))) = false := by
                cases hb : (Nat.beq id i && (Nat.ble o off && Nat.blt off (o + cs.length)))
                · rfl
                · simp only [Bool.and_eq_true] at hb
                  exact absurd ⟨Nat.eq_of_beq_eq_true hb.1, Nat.le_of_ble_eq_true hb.2.1, Nat.le_of_ble_eq_true hb.2.2⟩ e
              rw [this, if_neg e]
              rfl

theorem nx_le (s0 : St) (l : List Oper) (es : List (Option Eff)) (hng : NoGen es) : ∀ i k, i ≤ k → (stAt s0 l es i).nx ≤ (stAt s0 l es k).nx := by
  intro i k hik
  induction k with
  | zero => have : i = 0 := by omega
            subst this; exact Nat.le_refl _
  | succ k ih =>
    by_cases e : i = k + 1
    · subst e; exact Nat.le_refl _
    · refine Nat.le_trans (ih (by omega)) ?_
      simp only [stAt]
      split
      · rename_i o e ho he
        cases e with
        | none => exact Nat.le_refl _
        | some e => cases e <;> first | exact absurd he (hng _ _) | simp [stepSt, applyEff, St.put]
      · exact Nat.le_refl _

theorem lo_at {s0 : St} {l : List Oper} {es : List (Option Eff)} (hng : NoGen es) : ∀ k, (stAt s0 l es k).lo = s0.lo
  | 0 => rfl
  | k + 1 => by
    have ih := lo_at (s0 := s0) (l := l) hng k
    simp only [stAt]
    split
    · rename_i o e ho he
      cases e with
      | none => exact ih
      | some e => cases e <;> first | exact absurd he (hng _ _) | exact ih
    · exact ih

def newId (s0 : St) (l : List Oper) (es : List (Option Eff)) (k : Nat) : Option Nat :=
  match l[k]?, es[k]? with
  | some _, some (some (.new _)) => some (stAt s0 l es k).nx
  | _, _ => none

theorem newId_lt {s0 : St} {l : List Oper} {es : List (Option Eff)} (hng : NoGen es) {i k a b : Nat} (h : i < k) (hi : newId s0 l es i = some a) (hk : newId s0 l es k = some b) : a < b := by
  unfold newId at hi hk
  split at hi
  · rename_i o cs ho he; cases hi
    split at hk
    · cases hk
      have h1 : (stAt s0 l es (i + 1)).nx = (stAt s0 l es i).nx + 1 := by simp only [stAt, ho, he]; rfl
      have := nx_le s0 l es hng (i + 1) k (by omega)
      omega
    · cases hk
  · cases hi

end


section
variable {P : Program}

/-- the state of a region under way: every listed operation has written its places, the last in the order of the text -/
structure AnyInv (X : Fr) (w0 : World) (n : Nat) (ops : Array Oper) (s0 : St) (es : List (Option Eff)) (L : Nat → Bool) (g : Gh) (a : Act) (w : World) : Prop where
  tm : ∀ t, relV g (fold (wrT s0 ops.toList es t) L (s0.tm t) ops.size) (a.tmps.getD t undef)
  len : a.tmps.size = n
  df : a.defers = []
  ok : WOk X w0 g w
  cells : ∀ id off c, fold (wrH s0 ops.toList es id off) L (s0.hp id off) ops.size = some c → CellRel g w id off c
  nx : ∀ i b, g.β i = some b → i < s0.nx ∨ ∃ k, L k = true ∧ newId s0 ops.toList es k = some i
  closed : Closed ops L
  lo : s0.lo = X.n
  ln : X.n ≤ s0.nx

/-- what the check gives: before operation i, at a listing L that is closed and does not hold i but all that i waits for -/
def Nice (s : St) : Eff → Prop
  | .new cs => ∀ c ∈ cs, ∀ e l, c ≠ .arr e l
  | .put id _ cs => (∀ e l, s.hp id 0 ≠ some (.arr e l)) ∧ (∀ c ∈ cs, plain c = true) ∧ ∃ c o, s.hp id o = some c
  | _ => True

theorem nice_of {o : Oper} {s : St} {e : Eff} (h : EffOk P o s e) : Nice s e := by
  cases e with
  | new cs => exact h.1
  | put id off cs =>
    obtain ⟨⟨h0, h1, h2, h3⟩, _⟩ := h
    obtain ⟨c, hc, _⟩ := h1 0 h0
    exact ⟨h2, h3, c, _, hc⟩
  | _ => trivial

structure Facts (ops : Array Oper) (s0 : St) (es : List (Option Eff)) : Prop where
  len : es.length = ops.size
  ng : NoGen es
  nice : ∀ (k : Nat) e, es[k]? = some (some e) → Nice (stAt s0 ops.toList es k) e
  hx : ∀ id off c, s0.hp id off = some c → id < s0.nx
  edges : ∀ k o, ops[k]? = some o → ∀ e ∈ o.after, Region.binds .any e = true → e.on < k
  apart : ∀ i k x y, i < k → ops[i]? = some x → ops[k]? = some y → (Oper.apart ops x y = true ∧ clash (foot (stAt s0 ops.toList es i) (es.getD i none)) (foot (stAt s0 ops.toList es k) (es.getD k none)) = false) ∨ Reach ops k i

theorem facts_of_orderOk {ops : Array Oper} {s0 : St} {es : List (Option Eff)} (hl : es.length = ops.size) (hnice : ∀ (k : Nat) e, es[k]? = some (some e) → Nice (stAt s0 ops.toList es k) e) (hx0 : ∀ id off c, s0.hp id off = some c → id < s0.nx)
    (h : orderOk ops ((List.range ops.toList.length).map fun k => foot (stAt s0 ops.toList es k) (es.getD k none)) = true) : Facts ops s0 es := by
  have hreach : ∀ k i, ((beforeGo ops.toList []).getD k 0).testBit i = true → Reach ops k i :=
    before_reach ops.toList [] (by simp) (fun k i hb => by simp at hb)
  unfold orderOk at h
  rw [Bool.and_eq_true] at h
  obtain ⟨hgen, h⟩ := h
  have hng : NoGen es := fun k s' he => by
    have hk : k < es.length := by
      rcases Nat.lt_or_ge k es.length with h1 | h1
      · exact h1
      · rw [List.getElem?_eq_none h1] at he; cases he
    have := List.all_eq_true.1 hgen (foot (stAt s0 ops.toList es k) (es.getD k none)) (List.mem_map.2 ⟨k, by simp; omega, rfl⟩)
    rw [List.getD_eq_getElem?_getD, he] at this
    cases this
  simp only [List.all_eq_true, List.mem_range] at h
  have hk : ∀ k y, ops[k]? = some y → k < ops.size := fun k y hy => by
    rcases Nat.lt_or_ge k ops.size with h | h
    · exact h
    · rw [Array.getElem?_eq_none h] at hy; cases hy
  have hf : ∀ k, k < ops.size → ((List.range ops.toList.length).map fun k => foot (stAt s0 ops.toList es k) (es.getD k none))[k]? = some (foot (stAt s0 ops.toList es k) (es.getD k none)) := fun k hk => by
    rw [List.getElem?_map, List.getElem?_range (by simpa using hk)]; rfl
  refine ⟨hl, hng, hnice, hx0, fun k o ho e he hb => ?_, fun i k x y hik hx hy => ?_⟩
  · have := h k (hk k o ho)
    rw [ho, hf k (hk k o ho)] at this
    simp only [Bool.and_eq_true, Array.all_eq_true_iff_forall_mem] at this
    have h1 := this.1 e he
    rw [hb] at h1
    simpa using h1
  · have := h k (hk k y hy)
    rw [hy, hf k (hk k y hy)] at this
    simp only [Bool.and_eq_true, List.all_eq_true, List.mem_range] at this
    have h1 := this.2 i hik
    rw [hx, hf i (hk i x hx)] at h1
    simp only [Bool.or_eq_true, Bool.and_eq_true, Bool.not_eq_true'] at h1
    rcases h1 with h1 | h1
    · exact .inl h1
    · exact .inr (hreach k i h1)

theorem hits_mem {xs ys : List (Nat × Nat)} (h : hits xs ys = false) {p : Nat × Nat} (h1 : p ∈ xs) (h2 : p ∈ ys) : False := by
  have : hits xs ys = true := by
    unfold hits
    rw [List.any_eq_true]
    refine ⟨p, h1, ?_⟩
    rw [List.any_eq_true]
    exact ⟨p, h2, by simp⟩
  rw [h] at this; cases this

theorem inNew_mem {i : Nat} {xs : List (Nat × Nat)} (h : inNew (some i) xs = false) {off : Nat} (h1 : (i, off) ∈ xs) : False := by
  have : inNew (some i) xs = true := by
    unfold inNew
    simp only
    rw [List.any_eq_true]
    exact ⟨_, h1, by simp⟩
  rw [h] at this; cases this

/-- who writes a cell shows it in the foot -/
theorem wrH_foot {s0 : St} {l : List Oper} {es : List (Option Eff)} {id off k : Nat} (h : (wrH s0 l es id off k).isSome = true) :
    (foot (stAt s0 l es k) (es.getD k none)).new = some id ∨ (id, off) ∈ (foot (stAt s0 l es k) (es.getD k none)).wr := by
  unfold wrH at h
  split at h
  · rename_i o cs ho he
    by_cases e : id = (stAt s0 l es k).nx
    · left; rw [List.getD, he]; simp [foot, e]
    · rw [if_neg e] at h; cases h
  · rename_i o i o' cs ho he
    by_cases e : id = i ∧ o' ≤ off ∧ off < o' + cs.length
    · right; rw [List.getD, he]; simp only [Option.getD_some, foot, List.mem_map, List.mem_range]
      exact ⟨off - o', by omega, by rw [e.1]; congr 1; omega⟩
    · rw [if_neg e] at h; cases h
  · cases h

section
variable {X : Fr} {w0 : World} {n : Nat} {ops : Array Oper} {s0 : St} {es : List (Option Eff)} (F : Facts ops s0 es)
include F

/-- at a place that operation i touches (reads or writes), the writers before i are listed, those behind are not -/
theorem tm_at {L : Nat → Bool} (hL : Closed ops L) {i : Nat} {o : Oper} (hi : ops[i]? = some o) (hn : L i = false) (hready : ∀ e ∈ o.after, Region.binds .any e = true → L e.on = true) {t : Nat} (ht : t ∈ o.looksAt ops ∨ o.dst = some t) :
    (∀ k, k < i → (wrT s0 ops.toList es t k).isSome = true → L k = true) ∧ (∀ k, i < k → k < ops.size → (wrT s0 ops.toList es t k).isSome = true → L k = false) := by
  have hw : ∀ k, (wrT s0 ops.toList es t k).isSome = true → ∃ x, ops[k]? = some x ∧ x.dst = some t := fun k h => by
    unfold wrT at h
    split at h
    · rename_i x e hx he
      by_cases e : x.dst = some t
      · exact ⟨x, by simpa using hx, e⟩
      · rw [if_neg e] at h; cases h
    · cases h
  refine ⟨fun k hk h => ?_, fun k hk _ h => ?_⟩
  · obtain ⟨x, hx, hd⟩ := hw k h
    rcases F.apart k i x o hk hx hi with ⟨ha, _⟩ | hr
    · exfalso
      obtain ⟨h1, h2, h3⟩ := Oper.apart_spec ha
      rcases ht with ht | ht
      · exact h1 t hd ht
      · exact h2 t hd ht
    · exact hr L hL (fun o' ho' e he hb => by rw [hi] at ho'; cases ho'; exact hready e he hb)
  · obtain ⟨x, hx, hd⟩ := hw k h
    rcases F.apart i k o x hk hi hx with ⟨ha, _⟩ | hr
    · exfalso
      obtain ⟨h1, h2, h3⟩ := Oper.apart_spec ha
      rcases ht with ht | ht
      · exact h3 t hd ht
      · exact h2 t ht hd
    · cases hlk : L k with
      | false => rfl
      | true =>
        have := hr L hL (fun o' ho' e he hb => hL k o' ho' hlk e he hb)
        rw [hn] at this; cases this

theorem hp_at {L : Nat → Bool} (hL : Closed ops L) {i : Nat} {o : Oper} (hi : ops[i]? = some o) (hn : L i = false) (hready : ∀ e ∈ o.after, Region.binds .any e = true → L e.on = true) {id off : Nat}
    (ht : (id, off) ∈ (foot (stAt s0 ops.toList es i) (es.getD i none)).rd ∨ (id, off) ∈ (foot (stAt s0 ops.toList es i) (es.getD i none)).wr ∨ newId s0 ops.toList es i = some id) :
    (∀ k, k < i → (wrH s0 ops.toList es id off k).isSome = true → L k = true) ∧ (∀ k, i < k → k < ops.size → (wrH s0 ops.toList es id off k).isSome = true → L k = false) := by
  have hw : ∀ k, (wrH s0 ops.toList es id off k).isSome = true → ∃ x, ops[k]? = some x := fun k h => by
    unfold wrH at h
    split at h
    · rename_i x _ hx _; exact ⟨x, by simpa using hx⟩
    · rename_i x _ _ _ hx _; exact ⟨x, by simpa using hx⟩
    · cases h
  have hnew : ∀ k, (foot (stAt s0 ops.toList es k) (es.getD k none)).new = some id → k < ops.size → newId s0 ops.toList es k = some id := fun k h hk => by
    unfold newId
    have : ops.toList[k]? = some ops[k] := by simp [hk]
    rw [this]
    rw [List.getD] at h
    cases he : es[k]? with
    | none => rw [he] at h; simp [foot] at h
    | some e =>
      rw [he] at h
      cases e with
      | none => simp [foot] at h
      | some e => cases e <;> simp [foot] at h; simp [h]
  have newFoot : ∀ k, newId s0 ops.toList es k = some id → (foot (stAt s0 ops.toList es k) (es.getD k none)).new = some id := fun k h => by
    unfold newId at h
    split at h
    · rename_i _ cs _ he; cases h; rw [List.getD, he]; rfl
    · cases h
  have hsz : ∀ k x, ops[k]? = some x → k < ops.size := fun k y hy => by
    rcases Nat.lt_or_ge k ops.size with h | h
    · exact h
    · rw [Array.getElem?_eq_none h] at hy; cases hy
  have noClash : ∀ k, k ≠ i → (wrH s0 ops.toList es id off k).isSome = true →
      (clash (foot (stAt s0 ops.toList es i) (es.getD i none)) (foot (stAt s0 ops.toList es k) (es.getD k none)) = false → False) ∧ (clash (foot (stAt s0 ops.toList es k) (es.getD k none)) (foot (stAt s0 ops.toList es i) (es.getD i none)) = false → False) := fun k hki h => by
    obtain ⟨x, hx⟩ := hw k h
    have hkn := hsz k x hx
    rcases wrH_foot h with h1 | h1
    · constructor <;> intro hc <;> simp only [clash, Bool.or_eq_false_iff] at hc
      · rcases ht with ht | ht | ht
        · rw [h1] at hc; exact inNew_mem hc.1.2 ht
        · rw [h1] at hc; exact inNew_mem hc.2 ht
        · have h2 := hnew k h1 hkn
          rcases Nat.lt_or_gt_of_ne hki with h3 | h3
          · have := newId_lt F.ng h3 h2 ht; omega
          · have := newId_lt F.ng h3 ht h2; omega
      · rcases ht with ht | ht | ht
        · rw [h1] at hc; exact inNew_mem hc.1.1.1.2 ht
        · rw [h1] at hc; exact inNew_mem hc.1.1.2 ht
        · have h2 := hnew k h1 hkn
          rcases Nat.lt_or_gt_of_ne hki with h3 | h3
          · have := newId_lt F.ng h3 h2 ht; omega
          · have := newId_lt F.ng h3 ht h2; omega
    · constructor <;> intro hc <;> simp only [clash, Bool.or_eq_false_iff] at hc
      · rcases ht with ht | ht | ht
        · exact hits_mem hc.1.1.1.1.2 ht h1
        · exact hits_mem hc.1.1.1.1.1.1 ht h1
        · rw [newFoot i ht] at hc; exact inNew_mem hc.1.1.2 h1
      · rcases ht with ht | ht | ht
        · exact hits_mem hc.1.1.1.1.1.2 h1 ht
        · exact hits_mem hc.1.1.1.1.1.1 h1 ht
        · rw [newFoot i ht] at hc; exact inNew_mem hc.2 h1
  refine ⟨fun k hk h => ?_, fun k hk _ h => ?_⟩
  · obtain ⟨x, hx⟩ := hw k h
    rcases F.apart k i x o hk hx hi with ⟨_, hc⟩ | hr
    · exact ((noClash k (by omega) h).2 hc).elim
    · exact hr L hL (fun o' ho' e he hb => by rw [hi] at ho'; cases ho'; exact hready e he hb)
  · obtain ⟨x, hx⟩ := hw k h
    rcases F.apart i k o x hk hi hx with ⟨_, hc⟩ | hr
    · exact ((noClash k (by omega) h).1 hc).elim
    · cases hlk : L k with
      | false => rfl
      | true =>
        have := hr L hL (fun o' ho' e he hb => hL k o' ho' hlk e he hb)
        rw [hn] at this; cases this

end
end


section
variable {P : Program} {α : Type} {X : Fr} {w0 : World} {n : Nat} {ops : Array Oper} {s0 : St} {es : List (Option Eff)}

theorem closed_add {L : Nat → Bool} (hL : Closed ops L) {i : Nat} {o : Oper} (hi : ops[i]? = some o) (hready : ∀ e ∈ o.after, Region.binds .any e = true → L e.on = true) : Closed ops (addL L i) := by
  intro k o' ho' hk e he hb
  have key : L e.on = true → addL L i e.on = true := fun h => by unfold addL; split; rfl; exact h
  unfold addL at hk
  by_cases h : k = i
  · subst h; rw [hi] at ho'; cases ho'; exact key (hready e he hb)
  · rw [if_neg h] at hk; exact key (hL k o' ho' hk e he hb)

theorem wrT_at {i t : Nat} {o : Oper} {e : Option Eff} (hi : ops[i]? = some o) (he : es[i]? = some e) : wrT s0 ops.toList es t i = if o.dst = some t then some (dstVal (stAt s0 ops.toList es i) e) else none := by
  have : ops.toList[i]? = some o := by simpa using hi
  simp only [wrT, this, he]

/-- operation i, at whatever time it comes up -/
theorem arr_of_fold (F : Facts ops s0 es) (L : Nat → Bool) {id : Nat} {e : Sh} {l : List e.Ty} : ∀ k, fold (wrH s0 ops.toList es id 0) L (s0.hp id 0) k = some (.arr e l) → s0.hp id 0 = some (.arr e l)
  | 0, h => h
  | k + 1, h => by
    simp only [fold] at h
    split at h
    · cases hw : wrH s0 ops.toList es id 0 k with
      | none => rw [hw] at h; exact arr_of_fold F L k h
      | some c =>
        rw [hw] at h
        have h : c = some (.arr e l) := h
        subst h
        exfalso
        unfold wrH at hw
        split at hw
        · rename_i o cs ho he
          split at hw
          · have hmem := List.mem_of_getElem? (Option.some.inj hw)
            exact F.nice _ _ he _ hmem e l rfl
          · cases hw
        · rename_i o i o' cs ho he
          split at hw
          · have hmem := List.mem_of_getElem? (Option.some.inj hw)
            have := (F.nice _ _ he).2.1 _ hmem
            cases this
          · cases hw
        · cases hw
    · exact arr_of_fold F L k h

theorem arr_stays (F : Facts ops s0 es) {id : Nat} {e : Sh} {l : List e.Ty} (h0 : s0.hp id 0 = some (.arr e l)) : ∀ k, (stAt s0 ops.toList es k).hp id 0 = some (.arr e l)
  | 0 => h0
  | k + 1 => by
    have ih := arr_stays F h0 k
    rw [hp_fold _ _ _ F.ng] at ih ⊢
    simp only [fold, if_true]
    cases hw : wrH s0 ops.toList es id 0 k with
    | none => exact ih
    | some c =>
      exfalso
      have ih' := arr_stays F h0 k
      unfold wrH at hw
      split at hw
      · rename_i o cs ho he
        split at hw
        · rename_i hid
          have h1 := F.hx _ _ _ h0
          have := nx_le s0 ops.toList es F.ng 0 k (by omega)
          simp only [stAt] at this; omega
        · cases hw
      · rename_i o i o' cs ho he
        split at hw
        · rename_i hc
          obtain ⟨rfl, _⟩ := hc
          exact (F.nice _ _ he).1 e l ih'
        · cases hw
      · cases hw

theorem arr_put (F : Facts ops s0 es) {L : Nat → Bool} {i id off : Nat} {cs : List CS} {e : Sh} {l : List e.Ty} (he : es[i]? = some (some (.put id off cs))) (hc : fold (wrH s0 ops.toList es id 0) L (s0.hp id 0) ops.size = some (.arr e l)) : False :=
  (F.nice _ _ he).1 e l (arr_stays F (arr_of_fold F L _ hc) i)

theorem hp_nx (F : Facts ops s0 es) {id off : Nat} : ∀ k {c : CS}, (stAt s0 ops.toList es k).hp id off = some c → ∀ {off' : Nat} {c' : CS}, (stAt s0 ops.toList es k).hp id off' = some c' → id < (stAt s0 ops.toList es k).nx := by
  intro k
  have key : ∀ k (off' : Nat) (c' : CS), (stAt s0 ops.toList es k).hp id off' = some c' → id < (stAt s0 ops.toList es k).nx := by
    intro k
    induction k with
    | zero => intro off' c' h; exact F.hx _ _ _ h
    | succ k ih =>
      intro off' c' h
      have hle := nx_le s0 ops.toList es F.ng k (k + 1) (by omega)
      rw [hp_fold _ _ _ F.ng] at h
      simp only [fold, if_true] at h
      cases hw : wrH s0 ops.toList es id off' k with
      | none =>
        rw [hw] at h
        have h : fold (wrH s0 ops.toList es id off') (fun _ => true) (s0.hp id off') k = some c' := h
        rw [← hp_fold _ _ _ F.ng] at h
        have := ih _ _ h; omega
      | some c =>
        unfold wrH at hw
        split at hw
        · rename_i o cs ho he
          split at hw
          · rename_i hid
            have e1 : (stAt s0 ops.toList es (k + 1)).nx = (stAt s0 ops.toList es k).nx + 1 := by simp only [stAt, ho, he]; rfl
            omega
          · cases hw
        · rename_i o i o' cs ho he
          split at hw
          · rename_i hc
            obtain ⟨rfl, _⟩ := hc
            obtain ⟨c2, o2, h2⟩ := (F.nice _ _ he).2.2
            have := ih _ _ h2; omega
          · cases hw
        · cases hw
  exact fun {c} h {off' c'} h' => key k _ _ h'

theorem hp_lt (F : Facts ops s0 es) (L : Nat → Bool) {id off : Nat} {c : CS} : ∀ n, n ≤ ops.size → fold (wrH s0 ops.toList es id off) L (s0.hp id off) n = some c → id < (stAt s0 ops.toList es ops.size).nx
  | 0, _, h => by
    have := F.hx _ _ _ h
    have := nx_le s0 ops.toList es F.ng 0 ops.size (by omega)
    simp only [stAt] at this; omega
  | k + 1, hk, h => by
    simp only [fold] at h
    split at h
    · cases hw : wrH s0 ops.toList es id off k with
      | none => rw [hw] at h; exact hp_lt F L k (by omega) h
      | some c1 =>
        unfold wrH at hw
        split at hw
        · rename_i o cs ho he
          split at hw
          · rename_i hid
            have e1 : (stAt s0 ops.toList es (k + 1)).nx = (stAt s0 ops.toList es k).nx + 1 := by simp only [stAt, ho, he]; rfl
            have := nx_le s0 ops.toList es F.ng (k + 1) ops.size (by omega)
            omega
          · cases hw
        · rename_i o i o' cs ho he
          split at hw
          · rename_i hc
            obtain ⟨rfl, _⟩ := hc
            obtain ⟨c2, o2, h2⟩ := (F.nice _ _ he).2.2
            have h3 := hp_nx F k h2 h2
            have := nx_le s0 ops.toList es F.ng k ops.size (by omega)
            omega
          · cases hw
        · cases hw
    · exact hp_lt F L k (by omega) h

theorem any_step (F : Facts ops s0 es) {L : Nat → Bool} {g : Gh} {a : Act} {w : World} (inv : AnyInv X w0 n ops s0 es L g a w) {i : Nat} {o : Oper} {e : Option Eff} (hi : ops[i]? = some o) (hn : L i = false)
    (hready : ∀ e ∈ o.after, Region.binds .any e = true → L e.on = true) (he : es[i]? = some e) (hg : guardVal ops o (stAt s0 ops.toList es i) = some e.isSome) (heff : ∀ e', e = some e' → EffOk P o (stAt s0 ops.toList es i) e')
    (hd : ∀ x, o.dst = some x → x < n) {Q : Exit → Act → World → Prop} {K : Act → World → Prop} (hk : ∀ g' a' w', AnyInv X w0 n ops s0 es (addL L i) g' a' w' → K a' w') : wpOp P ops Q i K a w := by
  have hsz : i < ops.size := by
    rcases Nat.lt_or_ge i ops.size with h | h
    · exact h
    · rw [Array.getElem?_eq_none h] at hi; cases hi
  have hcl := inv.closed
  have hil : ops.toList[i]? = some o := by simpa using hi
  have hgetD : es.getD i none = e := by rw [List.getD, he]; rfl
  -- what operation i reads is what it reads in the order of the text
  have rdT : ∀ t, t ∈ o.looksAt ops → relV g ((stAt s0 ops.toList es i).tm t) (a.tmps.getD t undef) := fun t ht => by
    obtain ⟨h1, h2⟩ := tm_at F hcl hi hn hready (.inl ht)
    rw [tm_fold _ _ _ F.ng, ← fold_agree (L := L) h1 ops.size (by omega) (fun k h3 h4 h5 => by
      by_cases hki : k = i
      · subst hki; exact hn
      · exact h2 k (by omega) h4 h5)]
    exact inv.tm t
  have rdH : ∀ id off, ((id, off) ∈ (foot (stAt s0 ops.toList es i) (es.getD i none)).rd ∨ (id, off) ∈ (foot (stAt s0 ops.toList es i) (es.getD i none)).wr) →
      fold (wrH s0 ops.toList es id off) L (s0.hp id off) ops.size = (stAt s0 ops.toList es i).hp id off := fun id off ht => by
    obtain ⟨h1, h2⟩ := hp_at F hcl hi hn hready (id := id) (off := off) (by rcases ht with h | h; exact .inl h; exact .inr (.inl h))
    rw [hp_fold _ _ _ F.ng, ← fold_agree (L := L) h1 ops.size (by omega) (fun k h3 h4 h5 => by
      by_cases hki : k = i
      · subst hki; exact hn
      · exact h2 k (by omega) h4 h5)]
  have hops : ∀ x ∈ o.op.operands.toList, relV g ((stAt s0 ops.toList es i).ev x) (a.eval x) := fun x hx => by
    cases x with
    | tmp t => exact rdT t (by unfold Oper.looksAt; exact List.mem_append_left _ (List.mem_filterMap.2 ⟨.tmp t, hx, rfl⟩))
    | const v => exact relV_ofValue g v
    | global b => trivial
    | func f => exact ⟨#[], rfl, rfl, fun j u hu => by simp at hu⟩
  have hwanted := wanted_of_guardVal hg (g := g) (tmps := a.tmps) (fun d ⟨j, b, h1, h2⟩ => rdT d (by unfold Oper.looksAt; rw [h1]; simp only [h2]; exact List.mem_append_right _ (by simp)))
  -- the frame behind it
  have tmNext : ∀ {g' : Gh} {v : Value}, g.le g' → relV g' (dstVal (stAt s0 ops.toList es i) e) v → ∀ t, relV g' (fold (wrT s0 ops.toList es t) (addL L i) (s0.tm t) ops.size) ((a.put o.dst v).tmps.getD t undef) := fun {g' v} hle hv t => by
    by_cases hdt : o.dst = some t
    · rw [fold_add_eq (by rw [wrT_at hi he, if_pos hdt]) ops.size hsz (tm_at F hcl hi hn hready (.inr hdt)).2]
      have : (a.put o.dst v).tmps.getD t undef = v := by rw [hdt]; simp [Act.put, inv.len, hd t hdt]
      rw [this]; exact hv
    · rw [fold_add_ne (by rw [wrT_at hi he, if_neg hdt])]
      have : (a.put o.dst v).tmps.getD t undef = a.tmps.getD t undef := by
        cases hdd : o.dst with
        | none => rfl
        | some d =>
          have hne : d ≠ t := fun h => hdt (by rw [hdd, h])
          simp [Act.put, Array.getElem?_setIfInBounds_ne hne]
      rw [this]; exact relV_mono hle _ _ (inv.tm t)
  have hclN := closed_add hcl hi hready
  have nxNext : ∀ i' b, g.β i' = some b → i' < s0.nx ∨ ∃ k, addL L i k = true ∧ newId s0 ops.toList es k = some i' := fun i' b hb => by
    rcases inv.nx i' b hb with h | ⟨k, h1, h2⟩
    · exact .inl h
    · exact .inr ⟨k, by unfold addL; split; rfl; exact h1, h2⟩
  have wrHnone : (∀ cs, e ≠ some (.new cs)) → (∀ i o cs, e ≠ some (.put i o cs)) → ∀ id off, wrH s0 ops.toList es id off i = none := fun h1 h2 id off => by
    unfold wrH
    rw [hil, he]
    cases e with
    | none => rfl
    | some e => cases e with
      | val cv deps => rfl
      | new cs => exact (h1 cs rfl).elim
      | put i o cs => exact (h2 i o cs rfl).elim
      | gen s' => exact absurd he (F.ng _ _)
  have free : ∀ i', (stAt s0 ops.toList es ops.size).nx ≤ i' → g.β i' = none := fun i' h => by
    cases hb : g.β i' with
    | none => rfl
    | some b =>
      rcases inv.nx _ _ hb with h1 | ⟨k, h1, h2⟩
      · have := nx_le s0 ops.toList es F.ng 0 ops.size (by omega); simp only [stAt] at this; omega
      · unfold newId at h2
        split at h2
        · rename_i o cs ho he; cases h2
          have hk : k < ops.size := by
            rcases Nat.lt_or_ge k ops.size with h | h
            · exact h
            · rw [List.getElem?_eq_none (by simpa using h)] at ho; cases ho
          have e1 : (stAt s0 ops.toList es (k + 1)).nx = (stAt s0 ops.toList es k).nx + 1 := by simp only [stAt, ho, he]; rfl
          have := nx_le s0 ops.toList es F.ng (k + 1) ops.size (by omega)
          omega
        · cases h2
  have hxs : ∀ (L' : Nat → Bool) id off c, fold (wrH s0 ops.toList es id off) L' (s0.hp id off) ops.size = some c → id < (stAt s0 ops.toList es ops.size).nx := fun L' id off c hc => hp_lt F L' ops.size (Nat.le_refl _) hc
  unfold wpOp
  simp only [hi]
  rw [hwanted]
  cases e with
  | none =>
    simp only [Option.isSome_none, Bool.false_eq_true, if_false]
    exact hk g _ w ⟨tmNext g.le_refl rfl, by rw [put_size]; exact inv.len, by rw [put_defers']; exact inv.df, inv.ok, fun id off c hc => by
      rw [fold_add_ne (wrHnone (by simp) (by simp) id off)] at hc; exact inv.cells id off c hc, nxNext, hclN, inv.lo, inv.ln⟩
  | some e =>
    simp only [Option.isSome_some, if_true]
    left
    have hE := heff e rfl
    cases e with
    | val cv deps =>
      obtain ⟨hdep, hh⟩ := hE
      have hcellAll : ∀ id off c, fold (wrH s0 ops.toList es id off) (addL L i) (s0.hp id off) ops.size = some c → CellRel g w id off c := fun id off c hc => by
        rw [fold_add_ne (wrHnone (by simp) (by simp) id off)] at hc; exact inv.cells id off c hc
      refine hh X g w0 w a K Q hops (fun d hdd => ?_) inv.ok ⟨(stAt s0 ops.toList es ops.size).nx, by have := nx_le s0 ops.toList es F.ng 0 ops.size (by omega); simp only [stAt] at this; have := inv.ln; omega, fun d hdd => hxs L _ _ _ (by
        rw [rdH _ _ (.inl (by rw [hgetD]; exact List.mem_map_of_mem (f := fun d : Nat × Nat × CS => (d.1, d.2.1)) hdd))]
        exact hdep d hdd), free⟩ fun v g' w' haf hv => ?_
      · refine inv.cells _ _ _ ?_
        rw [rdH _ _ (.inl (by rw [hgetD]; exact List.mem_map_of_mem (f := fun d : Nat × Nat × CS => (d.1, d.2.1)) hdd))]
        exact hdep d hdd
      · refine hk g' _ w' ⟨tmNext haf.le hv, by rw [put_size]; exact inv.len, by rw [put_defers']; exact inv.df, haf.ok, fun id off c hc => (hcellAll id off c hc).after haf inv.ok, fun i' b hb => nxNext i' b (by rw [← haf.β]; exact hb), hclN, inv.lo, inv.ln⟩
    | new cs =>
      have hnew : newId s0 ops.toList es i = some (stAt s0 ops.toList es i).nx := by unfold newId; rw [hil, he]
      have hβ : g.β (stAt s0 ops.toList es i).nx = none := by
        cases hb : g.β (stAt s0 ops.toList es i).nx with
        | none => rfl
        | some b =>
          rcases inv.nx _ _ hb with h | ⟨k, h1, h2⟩
          · have := nx_le s0 ops.toList es F.ng 0 i (by omega)
            simp only [stAt] at this; omega
          · have hki : k ≠ i := fun h => by subst h; rw [hn] at h1; cases h1
            rcases Nat.lt_or_gt_of_ne hki with h3 | h3
            · have := newId_lt F.ng h3 h2 hnew; omega
            · have := newId_lt F.ng h3 hnew h2; omega
      refine hE.2 g w a K Q hops fun arr T hs hr => ?_
      refine hk (g.bind (stAt s0 ops.toList es i).nx w.heap.size 0) _ _ ⟨tmNext (Gh.le_bind hβ) ⟨w.heap.size, (Gh.bind_same g _ _ _).1, rfl⟩, by rw [put_size]; exact inv.len, by rw [put_defers']; exact inv.df, inv.ok.alloc _ _ (by have := nx_le s0 ops.toList es F.ng 0 i (by omega); simp only [stAt] at this; have := inv.ln; omega) arr T, fun id off c hc => ?_, fun i' b hb => ?_, hclN, inv.lo, inv.ln⟩
      · by_cases hid : id = (stAt s0 ops.toList es i).nx
        · subst hid
          rw [fold_add_eq (x := cs[off]?) (by unfold wrH; rw [hil, he]; simp) ops.size hsz (hp_at F hcl hi hn hready (.inr (.inr hnew))).2] at hc
          exact CellRel.fresh hβ hs hr hc
        · rw [fold_add_ne (by unfold wrH; rw [hil, he]; simp [hid])] at hc
          exact CellRel.alloc inv.ok hβ arr T hid (inv.cells _ _ _ hc)
      · have hb : (if i' = (stAt s0 ops.toList es i).nx then some w.heap.size else g.β i') = some b := hb
        by_cases hid : i' = (stAt s0 ops.toList es i).nx
        · subst hid; exact .inr ⟨i, by unfold addL; rw [if_pos rfl], hnew⟩
        · rw [if_neg hid] at hb; exact nxNext i' b hb
    | put id off cs =>
      obtain ⟨⟨h0, hsome, hna, _⟩, hh⟩ := hE
      have hwr : ∀ j, j < cs.length → (id, off + j) ∈ (foot (stAt s0 ops.toList es i) (es.getD i none)).wr := fun j hj => by
        rw [hgetD]; simp only [foot, List.mem_map, List.mem_range]; exact ⟨j, hj, rfl⟩
      obtain ⟨b, arr, T, hb, hheap, hl⟩ := block_of_cells (hp := fun id off => fold (wrH s0 ops.toList es id off) L (s0.hp id off) ops.size) inv.cells (id := id) (off := off) h0 (fun j hj => by
        rw [rdH _ _ (.inr (hwr j hj))]; exact hsome j hj)
      refine hh g w a K Q b arr T hops hb hheap hl fun us hu hr => ?_
      refine hk g _ _ ⟨tmNext g.le_refl rfl, by rw [put_size]; exact inv.len, by rw [put_defers']; exact inv.df, inv.ok.setRow hb hheap _, fun i' o' c hc => ?_, nxNext, hclN, inv.lo, inv.ln⟩
      by_cases hid : i' = id ∧ off ≤ o' ∧ o' < off + cs.length
      · obtain ⟨rfl, h1, h2⟩ := hid
        have hmem := hwr (o' - off) (by omega)
        rw [show off + (o' - off) = o' by omega] at hmem
        rw [fold_add_eq (x := cs[o' - off]?) (by unfold wrH; rw [hil, he]; simp [h1, h2]) ops.size hsz (hp_at F hcl hi hn hready (.inr (.inl hmem))).2] at hc
        exact CellRel.setRow_in hb hheap hl hu hr h1 h2 hc
      · rw [fold_add_ne (by unfold wrH; rw [hil, he]; simp only; rw [if_neg hid])] at hc
        refine CellRel.setRow_out inv.ok hb hheap (by omega) (inv.cells _ _ _ hc) ?_
        by_cases hi' : i' = id
        · refine .inr ⟨fun e l hce => ?_, ?_⟩
          · subst hce hi'
            rcases inv.cells _ _ _ hc with ⟨e', l', h3, h4, _⟩ | ⟨_, _, _, _, _, _, _, hf⟩
            · subst h4
              exact arr_put F he hc
            · exact hf
          · rcases Nat.lt_or_ge o' off with h1 | h1
            · exact .inl h1
            · right
              rcases Nat.lt_or_ge o' (off + us.length) with h2 | h2
              · exact (hid ⟨hi', h1, by omega⟩).elim
              · exact h2
        · exact .inl hi'
    | gen s' => exact absurd he (F.ng _ _)

theorem least_unlisted (F : Facts ops s0 es) {listed : Array Bool} (hsz : listed.size = ops.size) : ∀ m, m ≤ ops.size → (∃ k, k < m ∧ listed.getD k false = false) → Region.ready .any ops listed ≠ [] := by
  intro m
  induction m with
  | zero => rintro _ ⟨k, hk, _⟩; omega
  | succ m ih =>
    rintro hm ⟨k, hk, hl⟩
    by_cases hex : ∃ k, k < m ∧ listed.getD k false = false
    · exact ih (by omega) hex
    · have hkm : k = m := by
        rcases Nat.lt_or_ge k m with h | h
        · exact (hex ⟨k, h, hl⟩).elim
        · omega
      subst hkm
      have hall : ∀ j, j < k → listed.getD j false = true := fun j hj => by
        cases h : listed.getD j false with
        | true => rfl
        | false => exact (hex ⟨j, hj, h⟩).elim
      have hmem : k ∈ Region.ready .any ops listed := by
        unfold Region.ready
        rw [List.mem_filter]
        have hk' : k < ops.size := by omega
        refine ⟨by simpa using hk', ?_⟩
        have h1 : listed.getD k true = false := by
          have hlt : k < listed.size := by omega
          simp [hlt] at hl ⊢; exact hl
        have h2 : ops[k]? = some ops[k] := by simp [hk']
        rw [h1, h2]
        simp only [Bool.not_false, Bool.true_and, Option.map_some, Option.getD_some]
        rw [Array.all_eq_true_iff_forall_mem]
        intro e he
        cases hb : Region.binds .any e with
        | false => rfl
        | true => simp only [Bool.not_true, Bool.false_or]; exact hall _ (F.edges k _ h2 e he hb)
      intro h; rw [h] at hmem; cases hmem

theorem any_order (F : Facts ops s0 es) (htr : ∀ (k : Nat) o, ops[k]? = some o → ∃ e, es[k]? = some e ∧ guardVal ops o (stAt s0 ops.toList es k) = some e.isSome ∧ ∀ e', e = some e' → EffOk P o (stAt s0 ops.toList es k) e')
    (hd : ∀ o ∈ ops.toList, ∀ x, o.dst = some x → x < n) {Q : Exit → Act → World → Prop} (hq : ∀ g a w, Sim X w0 n (stAt s0 ops.toList es ops.size) g a w → Q .normal a w) :
    ∀ (fuel : Nat) (listed : Array Bool) (g : Gh) (a : Act) (w : World), listed.size = ops.size → cnt (fun k => listed.getD k false) ops.size ≤ fuel → AnyInv X w0 n ops s0 es (fun k => listed.getD k false) g a w → wpAny P .any ops Q fuel listed a w := by
  have done : ∀ (listed : Array Bool) (g : Gh) (a : Act) (w : World), (∀ k, k < ops.size → listed.getD k false = true) → AnyInv X w0 n ops s0 es (fun k => listed.getD k false) g a w → Q .normal a w := fun listed g a w hall inv => by
    have agreeT : ∀ t, fold (wrT s0 ops.toList es t) (fun k => listed.getD k false) (s0.tm t) ops.size = (stAt s0 ops.toList es ops.size).tm t := fun t => by
      rw [tm_fold _ _ _ F.ng]; exact fold_agree (fun k hk _ => hall k hk) ops.size (Nat.le_refl _) (fun k h1 h2 => by omega)
    have agreeH : ∀ id off, fold (wrH s0 ops.toList es id off) (fun k => listed.getD k false) (s0.hp id off) ops.size = (stAt s0 ops.toList es ops.size).hp id off := fun id off => by
      rw [hp_fold _ _ _ F.ng]; exact fold_agree (fun k hk _ => hall k hk) ops.size (Nat.le_refl _) (fun k h1 h2 => by omega)
    refine hq g a w ⟨fun t => by rw [← agreeT]; exact inv.tm t, inv.len, inv.df, inv.ok, fun id off c hc => inv.cells id off c (by rw [agreeH]; exact hc), fun i b hb => ?_, fun id off c hc => hp_nx F _ hc hc, by rw [lo_at F.ng]; exact inv.lo, by have := nx_le s0 ops.toList es F.ng 0 ops.size (by omega); simp only [stAt] at this; have := inv.ln; omega⟩
    rcases inv.nx i b hb with h | ⟨k, h1, h2⟩
    · have := nx_le s0 ops.toList es F.ng 0 ops.size (by omega); simp only [stAt] at this; omega
    · unfold newId at h2
      split at h2
      · rename_i o cs ho he; cases h2
        have hk : k < ops.size := by
          rcases Nat.lt_or_ge k ops.size with h | h
          · exact h
          · rw [List.getElem?_eq_none (by simpa using h)] at ho; cases ho
        have e1 : (stAt s0 ops.toList es (k + 1)).nx = (stAt s0 ops.toList es k).nx + 1 := by simp only [stAt, ho, he]; rfl
        have := nx_le s0 ops.toList es F.ng (k + 1) ops.size (by omega)
        omega
      · cases h2
  intro fuel
  induction fuel with
  | zero =>
    intro listed g a w hsz hc inv
    have hall := cnt_zero (L := fun k => listed.getD k false) ops.size (by omega)
    refine ⟨?_, done listed g a w hall inv⟩
    unfold Region.ready
    rw [List.filter_eq_nil_iff]
    intro i hi
    have hi' : i < ops.size := by simpa using hi
    have h1 : listed.getD i true = true := by
      have := hall i hi'
      have hlt : i < listed.size := by omega
      simp [hlt] at this ⊢; exact this
    rw [h1]; simp
  | succ fuel ih =>
    intro listed g a w hsz hc inv
    refine ⟨fun hr => ?_, fun i hi => ?_⟩
    · by_cases hex : ∃ k, k < ops.size ∧ listed.getD k false = false
      · exact (least_unlisted F hsz ops.size (Nat.le_refl _) hex hr).elim
      · exact done listed g a w (fun k hk => by
          cases h : listed.getD k false with
          | true => rfl
          | false => exact (hex ⟨k, hk, h⟩).elim) inv
    · unfold Region.ready at hi
      rw [List.mem_filter] at hi
      obtain ⟨h1, h2⟩ := hi
      have hi' : i < ops.size := by simpa using h1
      have ho : ops[i]? = some ops[i] := by simp [hi']
      rw [ho] at h2
      simp only [Bool.and_eq_true, Bool.not_eq_true', Option.map_some, Option.getD_some, Array.all_eq_true_iff_forall_mem] at h2
      obtain ⟨h3, h4⟩ := h2
      have hlt : i < listed.size := by omega
      have hn : listed.getD i false = false := by simp [hlt] at h3 ⊢; exact h3
      have hready : ∀ e ∈ (ops[i]).after, Region.binds .any e = true → listed.getD e.on false = true := fun e he hb => by
        have := h4 e he; rw [hb] at this; simpa using this
      obtain ⟨e, he, hg, heff⟩ := htr i _ ho
      refine any_step F inv ho hn hready he hg heff (hd _ (by simp)) fun g' a' w' inv' => ?_
      have hfun : (fun k => (listed.setIfInBounds i true).getD k false) = addL (fun k => listed.getD k false) i := by
        funext k
        unfold addL
        by_cases hk : k = i
        · subst hk; simp [hlt]
        · have hk' : i ≠ k := fun h => hk h.symm
          simp [hk, Array.getElem?_setIfInBounds_ne hk']
      refine ih (listed.setIfInBounds i true) g' a' w' (by simpa using hsz) ?_ (by rw [hfun]; exact inv')
      rw [hfun]
      have := cnt_add (L := fun k => listed.getD k false) hn ops.size hi'
      omega

/-- a region that draws its order -/
theorem cops_any {Γ : CEnv} (hΓ : GoodC P Γ) (hm : P.follows .mixedOrders = true) {id : Nat} {s : St} {K : St → Tr α} {rv : α} (hd : ∀ o ∈ ops.toList, ∀ x, o.dst = some x → x < n)
    (h : (cops R P Γ ops ops.toList s [] fun s' feet => brT (orderOk ops feet.reverse) (K s') none) = some rv) {g : Gh} {a : Act} {w : World} (hs : Sim X w0 n s g a w) {Q : Exit → Act → World → Prop}
    (hq : ∀ s' g' a' w', K s' = some rv → Sim X w0 n s' g' a' w' → Q .normal a' w') : (Code.region id ops true).wp P Q a w := by
  obtain ⟨es, h1, h23, h4⟩ := cops_trace hΓ _ _ _ _ _ h
  obtain ⟨h2, h3⟩ := brT_req h23
  simp only [List.append_nil, List.reverse_reverse] at h2
  have hlen : es.length = ops.size := by simpa using h1
  have hnice : ∀ (k : Nat) e, es[k]? = some (some e) → Nice (stAt s ops.toList es k) e := fun k e he => by
    have hk : k < ops.size := by
      rw [← hlen]
      rcases Nat.lt_or_ge k es.length with h5 | h5
      · exact h5
      · rw [List.getElem?_eq_none h5] at he; cases he
    obtain ⟨e', h5, _, h6⟩ := h4 k ops[k] (by simp [hk])
    rw [he] at h5; cases h5
    exact nice_of (h6 e rfl)
  have F := facts_of_orderOk hlen hnice hs.hx h2
  refine wp_region_any hm ?_
  have hlist : ops.toList.length = ops.size := by simp
  rw [hlist] at h3
  refine any_order F (fun k o ho => h4 k o (by simpa using ho)) hd (fun g a w hs' => hq _ g a w h3 hs') ops.size _ g a _ (by simp) ?_ ?_
  · have : ∀ m, cnt (fun k => (Array.replicate ops.size false).getD k false) m ≤ m := by
      intro m
      induction m with
      | zero => exact Nat.le_refl _
      | succ m ih => simp only [cnt]; split <;> omega
    exact this _
  · have hL : (fun k => (Array.replicate ops.size false).getD k false) = fun _ => false := by
      funext k
      rcases Nat.lt_or_ge k ops.size with h | h
      · simp [h]
      · simp [h]
    rw [hL]
    have hf : ∀ {X : Type} (wr : Nat → Option X) (x0 : X) m, fold wr (fun _ => false) x0 m = x0 := fun wr x0 m => by
      induction m with
      | zero => rfl
      | succ m ih => simp [fold, ih]
    have hdr : After X w0 g w g { w with drawn := w.drawn + 1 } := After.drewN hs.ok 1
    have hs' := hs.after hdr
    exact ⟨fun t => by rw [hf]; exact hs'.tm t, hs'.len, hs'.df, hs'.ok, fun id off c hc => by rw [hf] at hc; exact hs'.cells id off c hc, fun i b hb => .inl (hs'.nx i b hb), (fun k o _ hk => by cases hk), hs'.lo, hs'.ln⟩

end

end Go.Dv
