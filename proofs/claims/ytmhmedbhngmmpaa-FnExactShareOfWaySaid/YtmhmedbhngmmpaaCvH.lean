/- The theorem on regions that draw their order; statements; functions. -/
import Derived.Test.YtmhmedbhngmmpaaCvG
namespace Go.Cv
open Go.RowKit

section
variable {P : Program}

/-- the state of a region under way: every listed operation has written its places, the last in the order of the text -/
structure AnyInv (w0 : World) (n : Nat) (ops : Array Oper) (s0 : St) (es : List (Option Eff)) (L : Nat → Bool) (g : Gh) (a : Act) (w : World) : Prop where
  tm : ∀ t, relV g (fold (wrT s0 ops.toList es t) L (s0.tm t) ops.size) (a.tmps.getD t undef)
  len : a.tmps.size = n
  df : a.defers = []
  ok : WOk w0 g w
  cells : ∀ id off c, fold (wrH s0 ops.toList es id off) L (s0.hp id off) ops.size = some c → CellRel g w id off c
  nx : ∀ i b, g.β i = some b → i < s0.nx ∨ ∃ k, L k = true ∧ newId s0 ops.toList es k = some i
  closed : Closed ops L

/-- what the check gives: before operation i, at a listing L that is closed and does not hold i but all that i waits for -/
structure Facts (ops : Array Oper) (s0 : St) (es : List (Option Eff)) : Prop where
  len : es.length = ops.size
  edges : ∀ k o, ops[k]? = some o → ∀ e ∈ o.after, Region.binds .any e = true → e.on < k
  apart : ∀ i k x y, i < k → ops[i]? = some x → ops[k]? = some y → (Oper.apart ops x y = true ∧ clash (foot (stAt s0 ops.toList es i) (es.getD i none)) (foot (stAt s0 ops.toList es k) (es.getD k none)) = false) ∨ Reach ops k i

theorem facts_of_orderOk {ops : Array Oper} {s0 : St} {es : List (Option Eff)} (hl : es.length = ops.size)
    (h : orderOk ops ((List.range ops.toList.length).map fun k => foot (stAt s0 ops.toList es k) (es.getD k none)) = true) : Facts ops s0 es := by
  have hreach : ∀ k i, ((beforeGo ops.toList []).getD k 0).testBit i = true → Reach ops k i :=
    before_reach ops.toList [] (by simp) (fun k i hb => by simp at hb)
  unfold orderOk at h
  simp only [List.all_eq_true, List.mem_range] at h
  have hk : ∀ k y, ops[k]? = some y → k < ops.size := fun k y hy => by
    rcases Nat.lt_or_ge k ops.size with h | h
    · exact h
    · rw [Array.getElem?_eq_none h] at hy; cases hy
  have hf : ∀ k, k < ops.size → ((List.range ops.toList.length).map fun k => foot (stAt s0 ops.toList es k) (es.getD k none))[k]? = some (foot (stAt s0 ops.toList es k) (es.getD k none)) := fun k hk => by
    rw [List.getElem?_map, List.getElem?_range (by simpa using hk)]; rfl
  refine ⟨hl, fun k o ho e he hb => ?_, fun i k x y hik hx hy => ?_⟩
  · have := h k (hk k o ho)
    rw [ho, hf k (hk k o ho)] at this
    simp only [Bool.and_eq_true, Array.all_eq_true_iff_forall_mem] at this
    have h1 := this.1 e he
    rw [hb] at h1
    simpa using h1
  · have := h k (hk k y hy)
    rw [hy, hf k (hk k y hy)] at this
    simp only [Bool.and_eq_true, List.all_eq_true, List.mem_range] at this
    have h1 := this.2 i hik
    rw [hx, hf i (hk i x hx)] at h1
    simp only [Bool.or_eq_true, Bool.and_eq_true, Bool.not_eq_true'] at h1
    rcases h1 with h1 | h1
    · exact .inl h1
    · exact .inr (hreach k i h1)

theorem hits_mem {xs ys : List (Nat × Nat)} (h : hits xs ys = false) {p : Nat × Nat} (h1 : p ∈ xs) (h2 : p ∈ ys) : False := by
  have : hits xs ys = true := by
    unfold hits
    rw [List.any_eq_true]
    refine ⟨p, h1, ?_⟩
    rw [List.any_eq_true]
    exact ⟨p, h2, by simp⟩
  rw [h] at this; cases this

theorem inNew_mem {i : Nat} {xs : List (Nat × Nat)} (h : inNew (some i) xs = false) {off : Nat} (h1 : (i, off) ∈ xs) : False := by
  have : inNew (some i) xs = true := by
    unfold inNew
    simp only
    rw [List.any_eq_true]
    exact ⟨_, h1, by simp⟩
  rw [h] at this; cases this

/-- who writes a cell shows it in the foot -/
theorem wrH_foot {s0 : St} {l : List Oper} {es : List (Option Eff)} {id off k : Nat} (h : (wrH s0 l es id off k).isSome = true) :
    (foot (stAt s0 l es k) (es.getD k none)).new = some id ∨ (id, off) ∈ (foot (stAt s0 l es k) (es.getD k none)).wr := by
  unfold wrH at h
  split at h
  · rename_i o cs ho he
    by_cases e : id = (stAt s0 l es k).nx
    · left; rw [List.getD, he]; simp [foot, e]
    · rw [if_neg e] at h; cases h
  · rename_i o i o' cs ho he
    by_cases e : id = i ∧ o' ≤ off ∧ off < o' + cs.length
    · right; rw [List.getD, he]; simp only [Option.getD_some, foot, List.mem_map, List.mem_range]
      exact ⟨off - o', by omega, by rw [e.1]; congr 1; omega⟩
    · rw [if_neg e] at h; cases h
  · cases h

section
variable {w0 : World} {n : Nat} {ops : Array Oper} {s0 : St} {es : List (Option Eff)} (F : Facts ops s0 es)
include F

/-- at a place that operation i touches (reads or writes), the writers before i are listed, those behind are not -/
theorem tm_at {L : Nat → Bool} (hL : Closed ops L) {i : Nat} {o : Oper} (hi : ops[i]? = some o) (hn : L i = false) (hready : ∀ e ∈ o.after, Region.binds .any e = true → L e.on = true) {t : Nat} (ht : t ∈ o.looksAt ops ∨ o.dst = some t) :
    (∀ k, k < i → (wrT s0 ops.toList es t k).isSome = true → L k = true) ∧ (∀ k, i < k → k < ops.size → (wrT s0 ops.toList es t k).isSome = true → L k = false) := by
  have hw : ∀ k, (wrT s0 ops.toList es t k).isSome = true → ∃ x, ops[k]? = some x ∧ x.dst = some t := fun k h => by
    unfold wrT at h
    split at h
    · rename_i x e hx he
      by_cases e : x.dst = some t
      · exact ⟨x, by simpa using hx, e⟩
      · rw [if_neg e] at h; cases h
    · cases h
  refine ⟨fun k hk h => ?_, fun k hk _ h => ?_⟩
  · obtain ⟨x, hx, hd⟩ := hw k h
    rcases F.apart k i x o hk hx hi with ⟨ha, _⟩ | hr
    · exfalso
      obtain ⟨h1, h2, h3⟩ := Oper.apart_spec ha
      rcases ht with ht | ht
      · exact h1 t hd ht
      · exact h2 t hd ht
    · exact hr L hL (fun o' ho' e he hb => by rw [hi] at ho'; cases ho'; exact hready e he hb)
  · obtain ⟨x, hx, hd⟩ := hw k h
    rcases F.apart i k o x hk hi hx with ⟨ha, _⟩ | hr
    · exfalso
      obtain ⟨h1, h2, h3⟩ := Oper.apart_spec ha
      rcases ht with ht | ht
      · exact h3 t hd ht
      · exact h2 t ht hd
    · cases hlk : L k with
      | false => rfl
      | true =>
        have := hr L hL (fun o' ho' e he hb => hL k o' ho' hlk e he hb)
        rw [hn] at this; cases this

theorem hp_at {L : Nat → Bool} (hL : Closed ops L) {i : Nat} {o : Oper} (hi : ops[i]? = some o) (hn : L i = false) (hready : ∀ e ∈ o.after, Region.binds .any e = true → L e.on = true) {id off : Nat}
    (ht : (id, off) ∈ (foot (stAt s0 ops.toList es i) (es.getD i none)).rd ∨ (id, off) ∈ (foot (stAt s0 ops.toList es i) (es.getD i none)).wr ∨ newId s0 ops.toList es i = some id) :
    (∀ k, k < i → (wrH s0 ops.toList es id off k).isSome = true → L k = true) ∧ (∀ k, i < k → k < ops.size → (wrH s0 ops.toList es id off k).isSome = true → L k = false) := by
  have hw : ∀ k, (wrH s0 ops.toList es id off k).isSome = true → ∃ x, ops[k]? = some x := fun k h => by
    unfold wrH at h
    split at h
    · rename_i x _ hx _; exact ⟨x, by simpa using hx⟩
    · rename_i x _ _ _ hx _; exact ⟨x, by simpa using hx⟩
    · cases h
  have hnew : ∀ k, (foot (stAt s0 ops.toList es k) (es.getD k none)).new = some id → k < ops.size → newId s0 ops.toList es k = some id := fun k h hk => by
    unfold newId
    have : ops.toList[k]? = some ops[k] := by simp [hk]
    rw [this]
    rw [List.getD] at h
    cases he : es[k]? with
    | none => rw [he] at h; simp [foot] at h
    | some e =>
      rw [he] at h
      cases e with
      | none => simp [foot] at h
      | some e => cases e <;> simp [foot] at h; simp [h]
  have newFoot : ∀ k, newId s0 ops.toList es k = some id → (foot (stAt s0 ops.toList es k) (es.getD k none)).new = some id := fun k h => by
    unfold newId at h
    split at h
    · rename_i _ cs _ he; cases h; rw [List.getD, he]; rfl
    · cases h
  have hsz : ∀ k x, ops[k]? = some x → k < ops.size := fun k y hy => by
    rcases Nat.lt_or_ge k ops.size with h | h
    · exact h
    · rw [Array.getElem?_eq_none h] at hy; cases hy
  have noClash : ∀ k, k ≠ i → (wrH s0 ops.toList es id off k).isSome = true →
      (clash (foot (stAt s0 ops.toList es i) (es.getD i none)) (foot (stAt s0 ops.toList es k) (es.getD k none)) = false → False) ∧ (clash (foot (stAt s0 ops.toList es k) (es.getD k none)) (foot (stAt s0 ops.toList es i) (es.getD i none)) = false → False) := fun k hki h => by
    obtain ⟨x, hx⟩ := hw k h
    have hkn := hsz k x hx
    rcases wrH_foot h with h1 | h1
    · constructor <;> intro hc <;> simp only [clash, Bool.or_eq_false_iff] at hc
      · rcases ht with ht | ht | ht
        · rw [h1] at hc; exact inNew_mem hc.1.2 ht
        · rw [h1] at hc; exact inNew_mem hc.2 ht
        · have h2 := hnew k h1 hkn
          rcases Nat.lt_or_gt_of_ne hki with h3 | h3
          · have := newId_lt h3 h2 ht; omega
          · have := newId_lt h3 ht h2; omega
      · rcases ht with ht | ht | ht
        · rw [h1] at hc; exact inNew_mem hc.1.1.1.2 ht
        · rw [h1] at hc; exact inNew_mem hc.1.1.2 ht
        · have h2 := hnew k h1 hkn
          rcases Nat.lt_or_gt_of_ne hki with h3 | h3
          · have := newId_lt h3 h2 ht; omega
          · have := newId_lt h3 ht h2; omega
    · constructor <;> intro hc <;> simp only [clash, Bool.or_eq_false_iff] at hc
      · rcases ht with ht | ht | ht
        · exact hits_mem hc.1.1.1.1.2 ht h1
        · exact hits_mem hc.1.1.1.1.1.1 ht h1
        · rw [newFoot i ht] at hc; exact inNew_mem hc.1.1.2 h1
      · rcases ht with ht | ht | ht
        · exact hits_mem hc.1.1.1.1.1.2 h1 ht
        · exact hits_mem hc.1.1.1.1.1.1 h1 ht
        · rw [newFoot i ht] at hc; exact inNew_mem hc.2 h1
  refine ⟨fun k hk h => ?_, fun k hk _ h => ?_⟩
  · obtain ⟨x, hx⟩ := hw k h
    rcases F.apart k i x o hk hx hi with ⟨_, hc⟩ | hr
    · exact ((noClash k (by omega) h).2 hc).elim
    · exact hr L hL (fun o' ho' e he hb => by rw [hi] at ho'; cases ho'; exact hready e he hb)
  · obtain ⟨x, hx⟩ := hw k h
    rcases F.apart i k o x hk hi hx with ⟨_, hc⟩ | hr
    · exact ((noClash k (by omega) h).1 hc).elim
    · cases hlk : L k with
      | false => rfl
      | true =>
        have := hr L hL (fun o' ho' e he hb => hL k o' ho' hlk e he hb)
        rw [hn] at this; cases this

end
end
end Go.Cv
