/- A region that draws its order: where every two operations that touch one place are ordered by an edge, each order ends as the order of the text does. -/
import Derived.Test.YtmhmedbhngmmpaaCvF
namespace Go.Cv
open Go.RowKit

/-! ### the last listed writer of a place -/

def fold {X : Type} (wr : Nat → Option X) (L : Nat → Bool) (x0 : X) : Nat → X
  | 0 => x0
  | k + 1 => if L k then (wr k).getD (fold wr L x0 k) else fold wr L x0 k

def addL (L : Nat → Bool) (i : Nat) : Nat → Bool := fun k => if k = i then true else L k

theorem fold_agree {X : Type} {wr : Nat → Option X} {L : Nat → Bool} {x0 : X} {i : Nat} (h1 : ∀ k, k < i → (wr k).isSome = true → L k = true) : ∀ n, i ≤ n →
    (∀ k, i ≤ k → k < n → (wr k).isSome = true → L k = false) → fold wr L x0 n = fold wr (fun _ => true) x0 i := by
  have base : fold wr L x0 i = fold wr (fun _ => true) x0 i := by
    induction i with
    | zero => rfl
    | succ i ih =>
      have ih := ih (fun k hk => h1 k (by omega))
      simp only [fold, if_true]
      cases hw : wr i with
      | none => simp [ih]
      | some x => rw [h1 i (by omega) (by rw [hw]; rfl)]; simp
  intro n hn
  induction n with
  | zero => intro _; have : i = 0 := by omega
            subst this; exact base
  | succ n ih =>
    intro h2
    by_cases e : i = n + 1
    · subst e; exact base
    · have ih := ih (by omega) (fun k h3 h4 => h2 k h3 (by omega))
      simp only [fold]
      cases hw : wr n with
      | none => simp [ih]
      | some x => rw [h2 n (by omega) (by omega) (by rw [hw]; rfl)]; simp [ih]

theorem fold_add_ne {X : Type} {wr : Nat → Option X} {L : Nat → Bool} {x0 : X} {i : Nat} (h : wr i = none) : ∀ n, fold wr (addL L i) x0 n = fold wr L x0 n
  | 0 => rfl
  | n + 1 => by
    simp only [fold, fold_add_ne h n, addL]
    by_cases e : n = i
    · subst e; simp [h]
    · simp [e]

theorem fold_add_eq {X : Type} {wr : Nat → Option X} {L : Nat → Bool} {x0 : X} {i : Nat} {x : X} (h : wr i = some x) : ∀ n, i < n → (∀ k, i < k → k < n → (wr k).isSome = true → L k = false) →
    fold wr (addL L i) x0 n = x
  | 0, hn, _ => by omega
  | n + 1, hn, h2 => by
    simp only [fold, addL]
    by_cases e : n = i
    · subst e; simp [h]
    · have ih := fold_add_eq (x0 := x0) h n (by omega) (fun k h3 h4 => h2 k h3 (by omega))
      simp only [e, if_false]
      cases hw : wr n with
      | none => simp [ih]
      | some y => rw [h2 n (by omega) (by omega) (by rw [hw]; rfl)]; simp [ih]

def cnt (L : Nat → Bool) : Nat → Nat
  | 0 => 0
  | k + 1 => cnt L k + (if L k then 0 else 1)

theorem cnt_add_ge {L : Nat → Bool} {i : Nat} : ∀ n, n ≤ i → cnt (addL L i) n = cnt L n
  | 0, _ => rfl
  | n + 1, h => by
    have ih : cnt (addL L i) n = cnt L n := cnt_add_ge n (Nat.le_of_succ_le h)
    have e : ¬ n = i := by omega
    simp [cnt, ih, addL, e]

theorem cnt_add {L : Nat → Bool} {i : Nat} (hi : L i = false) : ∀ n, i < n → cnt (addL L i) n + 1 = cnt L n
  | 0, h => by omega
  | n + 1, h => by
    by_cases e : n = i
    · subst e; simp [cnt, cnt_add_ge n (Nat.le_refl _), addL, hi]
    · have := cnt_add hi n (by omega)
      simp only [cnt, addL, e, if_false]
      omega

theorem cnt_zero {L : Nat → Bool} : ∀ n, cnt L n = 0 → ∀ k, k < n → L k = true
  | 0, _, k, hk => by omega
  | n + 1, h, k, hk => by
    simp only [cnt] at h
    have h1 : cnt L n = 0 := by omega
    have h2 : L n = true := by cases hl : L n; (rw [hl] at h; simp at h); rfl
    by_cases e : k = n
    · subst e; exact h2
    · exact cnt_zero n h1 k (by omega)

/-! ### the edges -/

def Closed (ops : Array Oper) (L : Nat → Bool) : Prop :=
  ∀ k o, ops[k]? = some o → L k = true → ∀ e ∈ o.after, Region.binds .any e = true → L e.on = true

def Reach (ops : Array Oper) (k i : Nat) : Prop :=
  ∀ L : Nat → Bool, Closed ops L → (∀ o, ops[k]? = some o → ∀ e ∈ o.after, Region.binds .any e = true → L e.on = true) → L i = true

theorem bits_spec (acc : List Nat) (i : Nat) : ∀ (es : List Edge) (s : Nat), (es.foldl (fun s e => if Region.binds .any e then s ||| (2 ^ e.on ||| acc.getD e.on 0) else s) s).testBit i = true →
    s.testBit i = true ∨ ∃ e ∈ es, Region.binds .any e = true ∧ (i = e.on ∨ (acc.getD e.on 0).testBit i = true)
  | [], s, h => .inl h
  | e :: es, s, h => by
    simp only [List.foldl_cons] at h
    rcases bits_spec acc i es _ h with h | ⟨e', he', h1, h2⟩
    · by_cases hb : Region.binds .any e = true
      · rw [if_pos hb] at h
        simp only [Nat.testBit_or, Bool.or_eq_true] at h
        rcases h with h | h | h
        · exact .inl h
        · refine .inr ⟨e, by simp, hb, .inl ?_⟩
          rw [Nat.testBit_two_pow] at h
          exact (of_decide_eq_true h).symm
        · exact .inr ⟨e, by simp, hb, .inr h⟩
      · rw [if_neg hb] at h; exact .inl h
    · exact .inr ⟨e', by simp [he'], h1, h2⟩

theorem before_reach {ops : Array Oper} : ∀ (rest : List Oper) (acc : List Nat), (∀ j, rest[j]? = ops[acc.length + j]?) → (∀ k i, (acc.getD k 0).testBit i = true → Reach ops k i) →
    ∀ k i, ((beforeGo rest acc).getD k 0).testBit i = true → Reach ops k i
  | [], acc, _, h => h
  | o :: rest, acc, hl, h => by
    have h0 : ops[acc.length]? = some o := by simpa using (hl 0).symm
    refine before_reach rest (acc ++ [beforeBits acc o]) (fun j => ?_) (fun k i hb => ?_)
    · have := hl (j + 1)
      simp only [List.length_append, List.length_cons, List.length_nil]
      rw [show acc.length + (0 + 1) + j = acc.length + (j + 1) by omega, ← this]; simp
    · rcases Nat.lt_trichotomy k acc.length with hk | hk | hk
      · refine h k i ?_
        simpa [List.getD, List.getElem?_append_left hk] using hb
      · subst hk
        have hb : (beforeBits acc o).testBit i = true := by simpa [List.getD] using hb
        intro L hL he
        rcases bits_spec acc i _ 0 hb with h1 | ⟨e, he1, he2, he3⟩
        · simp at h1
        · have hon := he o h0 e (by simpa using he1) he2
          rcases he3 with rfl | he3
          · exact hon
          · exact h e.on i he3 L hL (fun o' ho' e' h3 h4 => hL e.on o' ho' hon e' h3 h4)
      · rw [List.getD, List.getElem?_eq_none (by simp; omega)] at hb
        simp at hb

/-! ### the trace of the order of the text -/

def stAt (s0 : St) (l : List Oper) (es : List (Option Eff)) : Nat → St
  | 0 => s0
  | k + 1 => match l[k]?, es[k]? with
    | some o, some e => stepSt (stAt s0 l es k) o.dst e
    | _, _ => stAt s0 l es k

theorem stAt_cons (s : St) (o : Oper) (l : List Oper) (e : Option Eff) (es : List (Option Eff)) : ∀ k, stAt s (o :: l) (e :: es) (k + 1) = stAt (stepSt s o.dst e) l es k
  | 0 => rfl
  | k + 1 => by
    rw [stAt, stAt_cons s o l e es k]
    simp only [List.getElem?_cons_succ]
    rfl

section
variable {P : Program}

theorem cops_trace {Γ : CEnv} (hΓ : GoodC P Γ) {ops : Array Oper} : ∀ (l : List Oper) (s : St) (acc : List Foot) (K : St → List Foot → Tr) (rv : CV), cops R P Γ ops l s acc K = some rv →
    ∃ es : List (Option Eff), es.length = l.length ∧ K (stAt s l es l.length) (((List.range l.length).map fun k => foot (stAt s l es k) (es.getD k none)).reverse ++ acc) = some rv ∧
      ∀ (k : Nat) o, l[k]? = some o → ∃ e, es[k]? = some e ∧ guardVal ops o (stAt s l es k) = some e.isSome ∧ ∀ e', e = some e' → EffOk P o (stAt s l es k) e'
  | [], s, acc, K, rv, h => ⟨[], rfl, by simpa [cops, stAt] using h, fun k o h => by simp at h⟩
  | o :: l, s, acc, K, rv, h => by
    have key : ∀ (e : Option Eff), guardVal ops o s = some e.isSome → (∀ e', e = some e' → EffOk P o s e') → cops R P Γ ops l (stepSt s o.dst e) (foot s e :: acc) K = some rv →
        ∃ es : List (Option Eff), es.length = (o :: l).length ∧ K (stAt s (o :: l) es (o :: l).length) (((List.range (o :: l).length).map fun k => foot (stAt s (o :: l) es k) (es.getD k none)).reverse ++ acc) = some rv ∧
      ∀ (k : Nat) o', (o :: l)[k]? = some o' → ∃ e, es[k]? = some e ∧ guardVal ops o' (stAt s (o :: l) es k) = some e.isSome ∧ ∀ e', e = some e' → EffOk P o' (stAt s (o :: l) es k) e' := by
      intro e hg he hc
      obtain ⟨es, h1, h2, h3⟩ := cops_trace hΓ l _ _ K rv hc
      refine ⟨e :: es, by simp [h1], ?_, fun k o' hk => ?_⟩
      · simp only [List.length_cons]
        rw [stAt_cons]
        rw [List.range_succ_eq_map]
        simp only [List.map_cons, List.map_map, List.reverse_cons, List.append_assoc, List.singleton_append]
        have e1 : ((fun k => foot (stAt s (o :: l) (e :: es) k) ((e :: es).getD k none)) ∘ Nat.succ) = fun k => foot (stAt (stepSt s o.dst e) l es k) (es.getD k none) := by
          funext k
          show foot (stAt s (o :: l) (e :: es) (k + 1)) ((e :: es).getD (k + 1) none) = _
          rw [stAt_cons]; rfl
        rw [e1]
        exact h2
      · cases k with
        | zero => simp at hk; subst hk; exact ⟨e, rfl, hg, he⟩
        | succ k =>
          obtain ⟨e', h4, h5, h6⟩ := h3 k o' (by simpa using hk)
          exact ⟨e', by simpa using h4, by rw [stAt_cons]; exact h5, fun e'' h7 => by rw [stAt_cons]; exact h6 e'' h7⟩
    have hc := cops_cons h
    clear h
    rcases hc with ⟨ht, h⟩ | ⟨ht, h⟩
    · obtain ⟨e, he1, he2⟩ := cop_sound hΓ h
      exact key (some e) ht (fun e' h => by cases h; exact he2) he1
    · exact key none ht (fun e' h => by cases h) h

/-! ### writers -/

def dstVal (s : St) : Option Eff → CV
  | none => ex undef
  | some (.val cv _) => cv
  | some (.new _) => .one (.s (.ptr s.nx 0))
  | some (.put _ _ _) => ex undef

def wrT (s0 : St) (l : List Oper) (es : List (Option Eff)) (t k : Nat) : Option CV :=
  match l[k]?, es[k]? with
  | some o, some e => if o.dst = some t then some (dstVal (stAt s0 l es k) e) else none
  | _, _ => none

def wrH (s0 : St) (l : List Oper) (es : List (Option Eff)) (id off k : Nat) : Option (Option CS) :=
  match l[k]?, es[k]? with
  | some _, some (some (.new cs)) => if id = (stAt s0 l es k).nx then some cs[off]? else none
  | some _, some (some (.put i o cs)) => if id = i ∧ o ≤ off ∧ off < o + cs.length then some cs[off - o]? else none
  | _, _ => none

theorem upd_eq_getD (f : Nat → CV) (d : Option Nat) (x : CV) (t : Nat) : upd f d x t = (if d = some t then some x else none).getD (f t) := by
  cases d with
  | none => rfl
  | some d =>
    by_cases e : t = d
    · subst e; simp [upd_same]
    · rw [upd_ne _ _ e, if_neg (by intro h; cases h; exact e rfl)]; rfl

theorem tm_fold (s0 : St) (l : List Oper) (es : List (Option Eff)) (t : Nat) : ∀ k, (stAt s0 l es k).tm t = fold (wrT s0 l es t) (fun _ => true) (s0.tm t) k
  | 0 => rfl
  | k + 1 => by
    simp only [fold, if_true, ← tm_fold s0 l es t k]
    simp only [stAt, wrT]
    split
    · rename_i o e ho he
      rw [← upd_eq_getD]
      cases e with
      | none => rfl
      | some e => cases e <;> rfl
    · rfl

theorem hp_fold (s0 : St) (l : List Oper) (es : List (Option Eff)) (id off : Nat) : ∀ k, (stAt s0 l es k).hp id off = fold (wrH s0 l es id off) (fun _ => true) (s0.hp id off) k
  | 0 => rfl
  | k + 1 => by
    simp only [fold, if_true, ← hp_fold s0 l es id off k]
    simp only [stAt, wrH]
    cases ho : l[k]? with
    | none => rfl
    | some o =>
      cases he : es[k]? with
      | none => rfl
      | some e =>
        cases e with
        | none => rfl
        | some e =>
          cases e with
          | val cv deps => rfl
          | new cs =>
            simp only [stepSt, applyEff]
            by_cases e : id = (stAt s0 l es k).nx
            · simp [e]
            · have hb : Nat.beq id (stAt s0 l es k).nx = false := by cases hb : Nat.beq id (stAt s0 l es k).nx; rfl; exact absurd (Nat.eq_of_beq_eq_true hb) e
              simp [e, hb]
          | put i o cs =>
            simp only [stepSt, applyEff]
            by_cases e : id = i ∧ o ≤ off ∧ off < o + cs.length
            · obtain ⟨e1, e2, e3⟩ := e
              have h1 : Nat.beq id i = true := by rw [e1]; exact Nat.beq_refl i
              have h2 : Nat.ble o off = true := Nat.ble_eq_true_of_le e2
              have h3 : Nat.blt off (o + cs.length) = true := Nat.ble_eq_true_of_le e3
              rw [if_pos ⟨e1, e2, e3⟩]
              simp [h1, h2, h3]
            · have : (Nat.beq id i && (Nat.ble o off && Nat.blt off (o + cs.length))) = false := by
                cases hb : (Nat.beq id i && (Nat.ble o off && Nat.blt off (o + cs.length)))
                · rfl
                · simp only [Bool.and_eq_true] at hb
                  exact absurd ⟨Nat.eq_of_beq_eq_true hb.1, Nat.le_of_ble_eq_true hb.2.1, Nat.le_of_ble_eq_true hb.2.2⟩ e
              rw [this, if_neg e]
              rfl

theorem nx_le (s0 : St) (l : List Oper) (es : List (Option Eff)) : ∀ i k, i ≤ k → (stAt s0 l es i).nx ≤ (stAt s0 l es k).nx := by
  intro i k hik
  induction k with
  | zero => have : i = 0 := by omega
            subst this; exact Nat.le_refl _
  | succ k ih =>
    by_cases e : i = k + 1
    · subst e; exact Nat.le_refl _
    · refine Nat.le_trans (ih (by omega)) ?_
      simp only [stAt]
      split
      · rename_i o e ho he
        cases e with
        | none => exact Nat.le_refl _
        | some e => cases e <;> simp [stepSt, applyEff, St.put]
      · exact Nat.le_refl _

def newId (s0 : St) (l : List Oper) (es : List (Option Eff)) (k : Nat) : Option Nat :=
  match l[k]?, es[k]? with
  | some _, some (some (.new _)) => some (stAt s0 l es k).nx
  | _, _ => none

theorem newId_lt {s0 : St} {l : List Oper} {es : List (Option Eff)} {i k a b : Nat} (h : i < k) (hi : newId s0 l es i = some a) (hk : newId s0 l es k = some b) : a < b := by
  unfold newId at hi hk
  split at hi
  · rename_i o cs ho he; cases hi
    split at hk
    · cases hk
      have h1 : (stAt s0 l es (i + 1)).nx = (stAt s0 l es i).nx + 1 := by simp only [stAt, ho, he]; rfl
      have := nx_le s0 l es (i + 1) k (by omega)
      omega
    · cases hk
  · cases hi

end
end Go.Cv
