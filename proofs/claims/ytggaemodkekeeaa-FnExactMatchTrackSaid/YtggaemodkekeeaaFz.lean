/- A result's new arrays, handed on as lists that nobody writes. -/
import Derived.Test.YtggaemodkekeeaaDr

namespace Go.Dv
open Go.RowKit Go.Cv

def frzC (nw : List CS) : CS → CS
  | .own i _ => match nw[i]? with
    | some (.arr e l) => .ls false e l
    | _ => .any
  | .v x => .v x
  | .fl k n => .fl k n
  | .cx k a b => .cx k a b
  | .ifc o => .ifc o
  | .ls bw e l => .ls bw e l
  | _ => .any
def frz1 (nw : List CS) : CV1 → CV1
  | .s c => .s (frzC nw c)
  | .agg cs => .agg (cs.map (frzC nw))
def frzV (nw : List CS) : CV → CV
  | .one c => .one (frz1 nw c)
  | .tup vs => .tup (vs.map (frz1 nw))

/-- the lengths are those of the lists -/
def frzL (nw : List CS) : CS → Bool
  | .own i n => match nw[i]? with
    | some (.arr _ l) => Nat.beq n l.length
    | _ => true
  | _ => true
def frzL1 (nw : List CS) : CV1 → Bool
  | .s c => frzL nw c
  | .agg cs => cs.all (frzL nw)
def frzLV (nw : List CS) : CV → Bool
  | .one c => frzL1 nw c
  | .tup vs => vs.all (frzL1 nw)

/-- the contract with lists for new arrays -/
def frzS (S : FSpec) : FSpec := fun hp args => match S hp args with
  | some r => match r.wr, r.eat with
    | [], none => some { pre := r.pre, cv := frzV r.nw r.cv, nw := [], rd := r.rd, wr := [] }
    | _, _ => none
  | none => none

section
open Classical
variable {P : Program} {X : Fr} {w0 w w' : World} {g g' : Gh} {base : Nat}

/-- the names from 'base' on are given up, their blocks are written no more -/
noncomputable def frzG (g' : Gh) (w' : World) (base : Nat) : Gh where
  β := fun i => if i < base then g'.β i else none
  cp := g'.cp
  im := fun k => if ∃ i, base ≤ i ∧ g'.β i = some k then w'.heap[k]? else g'.im k
  bi := fun k => if ∃ i, base ≤ i ∧ g'.β i = some k then w'.heap[k]? else g'.bi k

theorem frz_im (hok : WOk X w0 g' w') : ∀ k o, g'.im k = some o → (frzG g' w' base).im k = some o := fun k o h => by
  by_cases hn : ∃ i, base ≤ i ∧ g'.β i = some k
  · obtain ⟨i, _, hi⟩ := hn
    have h1 := (hok.fresh i k hi).2.2
    rw [hok.im k o h] at h1; cases h1
  · show (if _ then _ else _) = _
    rw [if_neg hn]; exact h
theorem frz_bi (hok : WOk X w0 g' w') : ∀ k o, g'.bi k = some o → (frzG g' w' base).bi k = some o := fun k o h => by
  by_cases hn : ∃ i, base ≤ i ∧ g'.β i = some k
  · obtain ⟨i, _, hi⟩ := hn
    have h1 := (hok.fresh i k hi).2.2
    rw [h] at h1; cases h1
  · show (if _ then _ else _) = _
    rw [if_neg hn]; exact h
theorem frz_new {i k : Nat} (hi : base ≤ i) (h : g'.β i = some k) : (frzG g' w' base).im k = w'.heap[k]? := by
  show (if _ then _ else _) = _
  rw [if_pos ⟨i, hi, h⟩]

theorem frz_le (hok : WOk X w0 g' w') (hle : g.le g') (htop : ∀ i, base ≤ i → g.β i = none) : g.le (frzG g' w' base) := by
  refine ⟨fun i b h => ?_, fun k o h => frz_im hok k o (hle.im k o h), fun k o h => frz_bi hok k o (hle.bi k o h)⟩
  have hi : i < base := by
    rcases Nat.lt_or_ge i base with h' | h'
    · exact h'
    · rw [htop i h'] at h; cases h
  obtain ⟨h1, h2⟩ := hle.β i b h
  refine ⟨?_, h2⟩
  show (if _ then _ else _) = _
  rw [if_pos hi]; exact h1

theorem frz_ok' (hok : WOk X w0 g' w') (hb : X.n ≤ base) : WOk X w0 (frzG g' w' base) w' := by
  have hβ : ∀ i b, (frzG g' w' base).β i = some b → i < base ∧ g'.β i = some b := fun i b h => by
    by_cases hi : i < base
    · refine ⟨hi, ?_⟩
      have h : (if i < base then g'.β i else none) = some b := h
      rwa [if_pos hi] at h
    · have h : (if i < base then g'.β i else none) = some b := h
      rw [if_neg hi] at h; cases h
  refine ⟨hok.keep, fun k o h => ?_, fun k o h => ?_, fun i j b hi hj => hok.inj i j b (hβ i b hi).2 (hβ j b hj).2, fun i b hi => ?_, trivial, fun k o h => frz_im hok k o (hok.base k o h), fun k o h => ?_, fun i hi => ?_⟩
  · by_cases hn : ∃ i, base ≤ i ∧ g'.β i = some k
    · have h : (if _ then _ else _) = some o := h
      rw [if_pos hn] at h
      show (if _ then _ else _) = _
      rw [if_pos hn]; exact h
    · have h : (if _ then _ else _) = some o := h
      rw [if_neg hn] at h
      show (if _ then _ else _) = _
      rw [if_neg hn]; exact hok.im k o h
  · by_cases hn : ∃ i, base ≤ i ∧ g'.β i = some k
    · have h : (if _ then _ else _) = some o := h
      rw [if_pos hn] at h; exact h
    · have h : (if _ then _ else _) = some o := h
      rw [if_neg hn] at h; exact hok.bi k o h
  · obtain ⟨h1, h2⟩ := hβ i b hi
    obtain ⟨h3, h4, h5⟩ := hok.fresh i b h2
    refine ⟨h3, h4, ?_⟩
    have hn : ¬ ∃ i, base ≤ i ∧ g'.β i = some b := fun ⟨j, hj, hjb⟩ => by
      have := hok.inj i j b h2 hjb; omega
    show (if _ then _ else _) = _
    rw [if_neg hn]; exact h5
  · by_cases hn : ∃ i, base ≤ i ∧ g'.β i = some k
    · obtain ⟨i, hi, hik⟩ := hn
      rcases (hok.fresh i k hik).1 with h1 | ⟨_, h1⟩
      · exact .inr h1
      · omega
    · have h : (if _ then _ else _) = some o := h
      rw [if_neg hn] at h; exact hok.imf k o h
  · obtain ⟨h1, h2⟩ := hok.pin i hi
    refine ⟨?_, h2⟩
    show (if _ then _ else _) = _
    rw [if_pos (by omega)]; exact h1

theorem frz_rel (hok : WOk X w0 g' w') {nw : List CS} (hnw : ∀ k c, nw[k]? = some c → CellRel g' w' (base + k) 0 c) : ∀ (c : CS) (u : Value), frzL nw c = true → rel g' (shiftC base c) u → rel (frzG g' w' base) (shiftC base (frzC nw c)) u := by
  intro c u hl h
  cases c with
  | own i n =>
    simp only [frzC, frzL] at hl ⊢
    split
    · rename_i e l hi
      rw [hi] at hl
      have hn : n = l.length := Nat.eq_of_beq_eq_true hl
      subst hn
      show relL _ e l u
      rcases h with ⟨h0, rfl⟩ | ⟨b, hb, rfl, hle⟩
      · exact ⟨none, 0, by rw [h0], by omega, fun _ => rfl, fun h => by omega⟩
      · refine ⟨some ⟨b, 0, none⟩, g'.cp (base + i), rfl, hle, (fun h => nomatch h), fun _ => ⟨b, 0, rfl, fun j x hx => ?_⟩⟩
        rcases hnw i _ hi with ⟨e', l', he, _, hr⟩ | ⟨_, _, _, _, _, _, _, hf⟩
        · cases he
          rcases hr with ⟨_, h2⟩ | ⟨b', arr, T, h1, h2, h3, h4, h5⟩
          · rw [h2] at hb; cases hb
          · rw [hb] at h1; cases h1
            refine relT_mono (frz_im hok) e x (fun k u hk => ?_) (h5 j x hx)
            exact h2.at (frz_new (by omega) hb) (by rw [Nat.zero_add]; exact hk)
        · cases hf
    · exact True.intro
  | v x => exact h
  | fl k n => exact h
  | cx k a b => exact h
  | ifc o => exact h
  | ls bw e l =>
    cases bw
    · exact relL_mono (frz_im hok) h
    · exact relL_mono (frz_bi hok) h
  | _ => exact True.intro

theorem frz_rel1 (hok : WOk X w0 g' w') {nw : List CS} (hnw : ∀ k c, nw[k]? = some c → CellRel g' w' (base + k) 0 c) : ∀ (c : CV1) (u : Value), frzL1 nw c = true → rel1 g' (shift1 base c) u → rel1 (frzG g' w' base) (shift1 base (frz1 nw c)) u := by
  intro c u hl h
  cases c with
  | s c => exact frz_rel hok hnw c u hl h
  | agg cs =>
    obtain ⟨arr, rfl, h1, h2⟩ := h
    refine ⟨arr, rfl, by simpa using h1, fun j c u hc hu => ?_⟩
    simp only [List.getElem?_map, Option.map_eq_some_iff] at hc
    obtain ⟨c1, ⟨c0, h3, rfl⟩, rfl⟩ := hc
    refine frz_rel hok hnw c0 u (List.all_eq_true.1 hl c0 (List.mem_of_getElem? h3)) (h2 j _ u ?_ hu)
    simp only [List.getElem?_map, h3, Option.map_some]

theorem frz_relV (hok : WOk X w0 g' w') {nw : List CS} (hnw : ∀ k c, nw[k]? = some c → CellRel g' w' (base + k) 0 c) : ∀ (c : CV) (u : Value), frzLV nw c = true → relV g' (shiftV base c) u → relV (frzG g' w' base) (shiftV base (frzV nw c)) u := by
  intro c u hl h
  cases c with
  | one c => exact frz_rel1 hok hnw c u hl h
  | tup cs =>
    obtain ⟨arr, rfl, h1, h2⟩ := h
    refine ⟨arr, rfl, by simpa using h1, fun j c u hc hu => ?_⟩
    simp only [List.getElem?_map, Option.map_eq_some_iff] at hc
    obtain ⟨c1, ⟨c0, h3, rfl⟩, rfl⟩ := hc
    refine frz_rel1 hok hnw c0 u (List.all_eq_true.1 hl c0 (List.mem_of_getElem? h3)) (h2 j _ u ?_ hu)
    simp only [List.getElem?_map, h3, Option.map_some]

theorem callOk_mono {f : FuncId} {vals : Array Value} {R R' : Value → World → Prop} (h : ∀ v w, R v w → R' v w) (hc : CallOk P f vals w R) : CallOk P f vals w R' := by
  unfold CallOk at hc ⊢
  split at hc
  · exact h _ _ hc
  · exact hc.mono fun e w'' ⟨v, h1, h2⟩ => ⟨v, h1, h _ _ h2⟩
  · exact hc

theorem frz_okFn {f : FuncId} {S : FSpec} (hl : ∀ hp args r, S hp args = some r → frzLV r.nw r.cv = true) (h : OkFn P f S) : OkFn P f (frzS S) := by
  intro hp args r' hr' hpre'
  unfold frzS at hr'
  split at hr'
  · rename_i r hr
    split at hr'
    · rename_i hwr heat
      cases hr'
      have hpre : r.pre = true := hpre'
      have hlen := hl hp args r hr
      obtain ⟨h1, _, _, h4⟩ := h hp args r hr hpre
      refine ⟨h1, (fun d hd => nomatch hd), (fun c hc => nomatch hc), ?_⟩
      intro X g w0 w base vals hv hrel hrd hok hb hrdb htop
      refine callOk_mono ?_ (h4 X g w0 w base vals hv hrel hrd hok hb hrdb htop)
      rintro v w' ⟨g', hd, hr⟩
      have hno : ∀ id, r.eat = some id → False := fun id h => by rw [heat] at h; cases h
      have ok1 := hd.ok (fun id h => (hno id h).elim)
      have le1 := hd.le
      have β1 := hd.β
      rw [heat] at le1 β1
      refine ⟨frzG g' w' base, ⟨frz_le ok1 le1 htop, fun i hi => ?_, fun i hi => ?_, fun _ => frz_ok' ok1 hb, fun _ => hd.size heat, fun k hk _ _ => hd.same k hk (by rw [hwr]; exact fun d hd => nomatch hd) (fun id h => (hno id h).elim), (fun d hd => nomatch hd), (fun k c hc => by simp at hc)⟩, frz_relV ok1 hd.nw _ _ hlen hr⟩
      · show (if _ then _ else _) = _
        rw [if_pos hi]; exact β1 i hi
      · show (if _ then _ else _) = _
        rw [if_neg (by simp at hi; omega)]
    · cases hr'
  · cases hr'

end

theorem encC_frz : ∀ (s : Sh) (x : s.Ty) (k : Nat) (L : List CS), (∀ j c, (encC s x k).2[j]? = some c → L[k + j]? = some c) → ∀ c ∈ (encC s x k).1, frzL L c = true := by
  intro s
  induction s with
  | ls e _ =>
    intro l k L h c hc
    simp only [encC, List.mem_singleton] at hc
    subst hc
    have := h 0 (.arr e l) rfl
    simp only [Nat.add_zero] at this
    simp only [frzL, this]
    exact Nat.beq_refl _
  | pair a b iha ihb =>
    intro x k L h c hc
    simp only [encC, List.mem_append] at hc
    rcases hc with hc | hc
    · refine iha x.1 k L (fun j c hj => h j c ?_) c hc
      show ((encC a x.1 k).2 ++ _)[j]? = _
      rw [List.getElem?_append_left (by have := (List.getElem?_eq_some_iff.1 hj).1; exact this)]; exact hj
    · refine ihb x.2 _ L (fun j c hj => ?_) c hc
      rw [Nat.add_assoc]
      refine h _ c ?_
      show ((encC a x.1 k).2 ++ _)[_]? = _
      rw [List.getElem?_append_right (by omega), Nat.add_sub_cancel_left]; exact hj
  | fl k => intro x n L h c hc; simp only [encC, cells, List.mem_singleton] at hc; subst hc; rfl
  | int k => intro x n L h c hc; simp only [encC, cells, List.mem_singleton] at hc; subst hc; rfl
  | bool => intro x n L h c hc; simp only [encC, cells, List.mem_singleton] at hc; subst hc; rfl
  | str => intro x n L h c hc; simp only [encC, cells, List.mem_singleton] at hc; subst hc; rfl
  | cx k => intro x n L h c hc; simp only [encC, cells, List.mem_singleton] at hc; subst hc; rfl
  | ifc => intro x n L h c hc; simp only [encC, cells, List.mem_singleton] at hc; subst hc; rfl

theorem encR_frz : ∀ (a : AS) (x : a.Ty) (k : Nat) (L : List CS), (∀ j c, (encR a x k).2[j]? = some c → L[k + j]? = some c) → ∀ c ∈ (encR a x k).1, frzL1 L c = true := by
  intro a
  induction a with
  | cons a r iha ihr =>
    intro x k L h c hc
    simp only [encR, List.mem_append] at hc
    rcases hc with hc | hc
    · refine iha x.1 k L (fun j c hj => h j c ?_) c hc
      show ((encR a x.1 k).2 ++ _)[j]? = _
      rw [List.getElem?_append_left (by have := (List.getElem?_eq_some_iff.1 hj).1; exact this)]; exact hj
    · refine ihr x.2 _ L (fun j c hj => ?_) c hc
      rw [Nat.add_assoc]
      refine h _ c ?_
      show ((encR a x.1 k).2 ++ _)[_]? = _
      rw [List.getElem?_append_right (by omega), Nat.add_sub_cancel_left]; exact hj
  | one s =>
    intro x k L h c hc
    simp only [encR, List.mem_singleton] at hc
    subst hc
    show frzL L _ = true
    rw [List.getD_eq_getElem?_getD]
    cases h0 : (encC s x k).1[0]? with
    | none => rfl
    | some c => exact encC_frz s x k L h c (List.mem_of_getElem? h0)
  | agg s =>
    intro x k L h c hc
    simp only [encR, List.mem_singleton] at hc
    subst hc
    exact List.all_eq_true.2 (encC_frz s x k L h)
  | raw => intro x k L h c hc; simp only [encR, List.mem_singleton] at hc; subst hc; rfl
  | pe e => intro x k L h c hc; simp only [encR, List.mem_singleton] at hc; subst hc; rfl
  | _ => intro x k L h c hc; simp only [encR] at hc; cases hc

theorem frz_mk {sig ra : AS} {pre : sig.Ty → Bool} {p : sig.Ty → ra.Ty × List CS} (hp : Hp) (args : List CV1) (r : Res) (h : mkSpec sig ra pre p hp args = some r) : frzLV r.nw r.cv = true := by
  unfold mkSpec at h
  split at h
  · rename_i x d o k _
    have hall := encR_frz ra (p x).1 0 (encR ra (p x).1 0).2 (fun j c hj => by rw [Nat.zero_add]; exact hj)
    have key : r.nw = (encR ra (p x).1 0).2 ∧ r.cv = retCV (encR ra (p x).1 0).1 := by
      cases hb : nodupB (o.map (·.1)) && d.all (fun q => !memB q.1 (o.map (·.1))) <;> rw [hb] at h
      · cases h
      · simp only [cond_true, Option.some.injEq] at h
        subst h; exact ⟨rfl, rfl⟩
    rw [key.1, key.2]
    generalize (encR ra (p x).1 0).1 = cs at hall ⊢
    unfold retCV
    split
    · exact hall _ (by simp)
    · exact List.all_eq_true.2 hall
  · cases h

end Go.Dv
