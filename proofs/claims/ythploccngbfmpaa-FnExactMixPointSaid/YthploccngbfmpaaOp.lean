/- Arguments from the outside, opened: data of any shape. -/
import Derived.Test.YthploccngbfmpaaDt
import Derived.RowKit3
import Derived.ChangeSame
import Derived.JoinedOf
import Derived.JoinedAt
import Derived.ChangeReads
import Derived.Lib.SmallJoins
namespace Go.Dv
open Go.RowKit Go.Cv

theorem mapM_get {α β : Type} {f : α → Option β} : ∀ {l : List α} {r : List β}, l.mapM f = some r → l.length = r.length ∧ ∀ (j : Nat) x, l[j]? = some x → ∃ y, r[j]? = some y ∧ f x = some y
  | [], r, h => by simp at h; subst h; exact ⟨rfl, fun j x hj => by simp at hj⟩
  | a :: l, r, h => by
    rw [List.mapM_cons] at h
    cases ha : f a with
    | none => simp [ha] at h
    | some b =>
      cases hl : l.mapM f with
      | none => simp [ha, hl] at h
      | some bs =>
        simp [ha, hl] at h
        subst h
        obtain ⟨h1, h2⟩ := mapM_get hl
        refine ⟨by simp [h1], fun j x hj => ?_⟩
        cases j with
        | zero => simp at hj; subst hj; exact ⟨b, rfl, ha⟩
        | succ j => exact h2 j x (by simpa using hj)

/-- what an argument from the outside is known to be -/
def Sm : (s : Sh) → s.Ty → Prop
  | .fl k, n => ∃ d, d < lim k ∧ cn k d = n
  | .int k, n => k.min ≤ n ∧ n ≤ k.max
  | .bool, _ => True
  | .str, s => s.size ≤ maxLen
  | .cx _, _ => True
  | .ls e, l => l.length ≤ maxLen ∧ ∀ (i : Nat) x, l[i]? = some x → Sm e x
  | .pair a b, x => Sm a x.1 ∧ Sm b x.2

/-- a type has a shape -/
def fitFs (f : Sh → TypeId → Bool) (P : Program) : List Field → Sh → Nat → Bool
  | [], _, _ => false
  | [a], s, off => f s a.type && (Nat.beq a.offset off && Nat.beq (P.cellsOf a.type) s.size)
  | a :: b :: r, s, off => match s with
    | .pair x y => (f x a.type && (Nat.beq a.offset off && Nat.beq (P.cellsOf a.type) x.size)) && fitFs f P (b :: r) y (off + x.size)
    | _ => false

def fitB (P : Program) : Nat → Sh → TypeId → Bool
  | 0, _, _ => false
  | n + 1, s, t => match P.underlying t with
    | some (.float k') => match s with | .fl k => eqK k k' | _ => false
    | some (.int k') => match s with | .int k => eqI k k' | _ => false
    | some .bool => match s with | .bool => true | _ => false
    | some .string => match s with | .str => true | _ => false
    | some (.slice t') => match s with | .ls e => fitB P n e t' && Nat.beq (P.cellsOf t') e.size | _ => false
    | some (.struct fs) => fitFs (fitB P n) P fs.toList s 0
    | _ => false

section
variable {H : Type} {enc : TypeId × Value → H} {P : Program} {w : World} {base : Nat} {spare : Nat → Bool} {held : Bool}

theorem cell_at {b off : Nat} {v : Value} {a : Addr} (ha : a.block = b ∧ a.off = off) (h : w.cell? a = some v) : CellAt (fun k => w.heap[k]?) b off v ∧ a.spot = none := by
  unfold World.cell? at h
  obtain ⟨rfl, rfl⟩ := ha
  split at h
  · rename_i c T fr hc
    split at h
    · cases h
    · rename_i hs
      exact ⟨⟨c, T, fr, hc, h⟩, by simpa using hs⟩
  · cases h

theorem add_at (a : Addr) (n : Nat) : (a.add n).block = a.block ∧ (a.add n).off = a.off + n := by
  unfold Addr.add
  split
  · rename_i h; subst h; exact ⟨rfl, rfl⟩
  · exact ⟨rfl, rfl⟩

theorem cells_get {a : Addr} {n : Nat} {cs : List Value} (h : w.cells? base a n = some cs) : cs.length = n ∧ ∀ j v, cs[j]? = some v → w.cell? (a.add j) = some v := by
  unfold World.cells? at h
  split at h
  · obtain ⟨h1, h2⟩ := mapM_get h
    refine ⟨by simpa using h1.symm, fun j v hj => ?_⟩
    have hlt : j < n := by
      rcases Nat.lt_or_ge j cs.length with h3 | h3
      · simpa [← h1] using h3
      · rw [List.getElem?_eq_none h3] at hj; cases hj
    obtain ⟨y, h3, h4⟩ := h2 j j (by simp [hlt])
    rw [hj] at h3; cases h3; exact h4
  · cases h

theorem fields_open {f : Sh → TypeId → Bool} {r : TypeId → List Value → Option (DataW H × List MemPlace)} {cs : List Value}
    (hr : ∀ s t cs' y, f s t = true → r t cs' = some y → ∃ x : s.Ty, Sm s x ∧ relT (fun k => w.heap[k]?) s x (fun k u => cs'[k]? = some u)) :
    ∀ (fs : List Field) (s : Sh) (off : Nat), fitFs f P fs s off = true → (∀ g ∈ fs, ∃ y, r g.type ((cs.drop g.offset).take (P.cellsOf g.type)) = some y) →
      ∃ x : s.Ty, Sm s x ∧ relT (fun k => w.heap[k]?) s x (fun k u => cs[off + k]? = some u) := by
  have one : ∀ (g : Field) (s : Sh) (off : Nat), (f s g.type && (Nat.beq g.offset off && Nat.beq (P.cellsOf g.type) s.size)) = true → (∃ y, r g.type ((cs.drop g.offset).take (P.cellsOf g.type)) = some y) →
      ∃ x : s.Ty, Sm s x ∧ relT (fun k => w.heap[k]?) s x (fun k u => cs[off + k]? = some u) := by
    intro g s off h ⟨y, hy⟩
    simp only [Bool.and_eq_true] at h
    obtain ⟨x, h1, h2⟩ := hr _ _ _ _ h.1 hy
    obtain rfl := Nat.eq_of_beq_eq_true h.2.1
    refine ⟨x, h1, relT_mono (fun _ _ h => h) s x (fun k u hu => ?_) h2⟩
    have hlt : k < P.cellsOf g.type := by
      rcases Nat.lt_or_ge k (P.cellsOf g.type) with h3 | h3
      · exact h3
      · have : ((cs.drop g.offset).take (P.cellsOf g.type))[k]? = none := List.getElem?_eq_none (by rw [List.length_take]; omega)
        rw [this] at hu; cases hu
    rwa [List.getElem?_take_of_lt hlt, List.getElem?_drop] at hu
  intro fs
  induction fs with
  | nil => intro s off h; cases h
  | cons g r' ih =>
    intro s off h hall
    cases r' with
    | nil => exact one g s off h (hall g (by simp))
    | cons g' r' =>
      simp only [fitFs] at h
      split at h
      · rename_i a b
        rw [Bool.and_eq_true] at h
        obtain ⟨x, h1, h2⟩ := one g a off h.1 (hall g (by simp))
        obtain ⟨z, h3, h4⟩ := ih b _ h.2 (fun k hk => hall k (by simp [hk]))
        refine ⟨(x, z), ⟨h1, h3⟩, h2, relT_mono (fun _ _ h => h) b z (fun k u hu => ?_) h4⟩
        show cs[off + (a.size + k)]? = some u
        rw [← Nat.add_assoc]; exact hu
      · cases h

open Classical in
theorem open_sh : ∀ (n : Nat) (s : Sh) (t : TypeId) (m : Nat) (cs : List Value) (y : DataW H × List MemPlace), fitB P n s t = true → DataW.trod enc P w base spare held m t cs = some y →
    ∃ x : s.Ty, Sm s x ∧ relT (fun k => w.heap[k]?) s x (fun k u => cs[k]? = some u) := by
  intro n
  induction n with
  | zero => intro s t m cs y h; cases h
  | succ n ih =>
    intro s t m cs y hf hy
    cases m with
    | zero => simp [DataW.trod] at hy
    | succ m =>
      rw [DataW.trod_step] at hy
      simp only [fitB] at hf
      split at hf
      · -- a float
        rename_i k' ht
        cases s with
        | fl k =>
          obtain rfl := eqK_spec hf
          simp only [DataW.trodStep, ht] at hy
          split at hy <;> first | (cases hy; done) | (injections; done) | skip
          rename_i k1 k2 b h1
          cases h1
          split at hy
          · rename_i hc
            obtain ⟨rfl, hwf⟩ := hc
            have hl : b < lim k2 := by
              cases k2
              · exact of_decide_eq_true hwf
              · exact of_decide_eq_true hwf
            exact ⟨cn k2 b, ⟨b, hl, rfl⟩, b, rfl, rfl, hl⟩
          · cases hy
        | _ => cases hf
      · -- an integer
        rename_i k' ht
        cases s with
        | int k =>
          obtain rfl := eqI_spec hf
          simp only [DataW.trodStep, ht] at hy
          split at hy <;> first | (cases hy; done) | (injections; done) | skip
          rename_i k1 k2 b h1
          cases h1
          split at hy
          · rename_i hc
            obtain ⟨rfl, hwf⟩ := hc
            simp only [Lit.wf, Bool.and_eq_true, decide_eq_true_eq] at hwf
            exact ⟨b, hwf, rfl⟩
          · cases hy
        | _ => cases hf
      · rename_i ht
        cases s with
        | bool =>
          simp only [DataW.trodStep, ht] at hy
          split at hy <;> first | (injections; done) | skip
          · rename_i b h1; exact ⟨b, trivial, rfl⟩
          all_goals (cases hy)
        | _ => cases hf
      · rename_i ht
        cases s with
        | str =>
          simp only [DataW.trodStep, ht] at hy
          split at hy <;> first | (injections; done) | skip
          · rename_i b h1
            split at hy
            · rename_i hs; exact ⟨b, hs, rfl⟩
            · cases hy
          all_goals (cases hy)
        | _ => cases hf
      · -- a slice
        rename_i t' ht
        cases s with
        | ls e =>
          rw [Bool.and_eq_true] at hf
          have hsz := Nat.eq_of_beq_eq_true hf.2
          simp only [DataW.trodStep, ht] at hy
          split at hy <;> first | (injections; done) | skip
          · exact ⟨[], ⟨by simp, fun i x h => by simp at h⟩, none, 0, rfl, Nat.le_refl _, fun _ => rfl, fun h => by simp at h⟩
          · rename_i e' a len cap h1
            cases h1
            split at hy
            rotate_left
            · cases hy
            rename_i hc
            simp only [Option.bind_eq_some_iff] at hy
            obtain ⟨elems, he, _⟩ := hy
            obtain ⟨_, hel⟩ := mapM_get he
            have hone : ∀ i, i < len → ∃ x : e.Ty, (Sm e x ∧ relT (fun k => w.heap[k]?) e x (fun k u => CellAt (fun k => w.heap[k]?) a.block (a.off + i * e.size + k) u)) ∧ a.spot = none := by
              intro i hi
              obtain ⟨z, _, hz⟩ := hel i i (by simp [hi])
              simp only [Option.bind_eq_some_iff] at hz
              obtain ⟨cs', hc', hz⟩ := hz
              obtain ⟨x, h2, h3⟩ := ih e t' m cs' z hf.1 hz
              obtain ⟨h4, h5⟩ := cells_get hc'
              have hat : ∀ k u, cs'[k]? = some u → CellAt (fun k => w.heap[k]?) a.block (a.off + i * e.size + k) u := fun k u hu => by
                have h6 := h5 k u hu
                obtain ⟨p1, p2⟩ := add_at (a.add (i * P.cellsOf t')) k
                obtain ⟨q1, q2⟩ := add_at a (i * P.cellsOf t')
                exact (cell_at ⟨p1.trans q1, by rw [p2, q2, hsz]⟩ h6).1
              refine ⟨x, ⟨h2, relT_mono (fun _ _ h => h) e x (fun k u hu => hat k u hu) h3⟩, ?_⟩
              have hp := size_pos e
              have hlen : 0 < cs'.length := by rw [h4, hsz]; exact hp
              have h6 := h5 0 cs'[0] (List.getElem?_eq_getElem hlen)
              have e0 : (a.add (i * P.cellsOf t')).add 0 = a.add (i * P.cellsOf t') := rfl
              rw [e0] at h6
              -- the first cell of the first element
              by_cases hi0 : i * P.cellsOf t' = 0
              · have : a.add (i * P.cellsOf t') = a := by unfold Addr.add; rw [if_pos hi0]
                rw [this] at h6
                exact (cell_at ⟨rfl, rfl⟩ h6).2
              · obtain ⟨z0, _, hz0⟩ := hel 0 0 (by rw [List.getElem?_range (by omega)])
                simp only [Option.bind_eq_some_iff] at hz0
                obtain ⟨cs0, hc0, _⟩ := hz0
                obtain ⟨h7, h8⟩ := cells_get hc0
                have hlen0 : 0 < cs0.length := by rw [h7, hsz]; exact hp
                have h9 := h8 0 cs0[0] (List.getElem?_eq_getElem hlen0)
                have : (a.add (0 * P.cellsOf t')).add 0 = a := by rw [Nat.zero_mul]; rfl
                rw [this] at h9
                exact (cell_at ⟨rfl, rfl⟩ h9).2
            let l : List e.Ty := List.ofFn (fun i : Fin len => Classical.choose (hone i.1 i.2))
            have hl : l.length = len := by simp [l]
            have hget : ∀ (i : Nat) x, l[i]? = some x → ∃ h : i < len, x = Classical.choose (hone i h) := fun i x hx => by
              have hi : i < len := by
                rcases Nat.lt_or_ge i len with h | h
                · exact h
                · rw [List.getElem?_eq_none (by omega)] at hx; cases hx
              refine ⟨hi, ?_⟩
              rw [List.getElem?_eq_getElem (by omega)] at hx
              simp [l] at hx
              exact hx.symm
            refine ⟨l, ⟨by rw [hl]; omega, fun i x hx => ?_⟩, some a, cap, by rw [hl]; rfl, by rw [hl]; exact hc.2.1, (fun h => by cases h), fun h0 => ?_⟩
            · obtain ⟨hi, rfl⟩ := hget i x hx
              exact (Classical.choose_spec (hone i hi)).1.1
            · rw [hl] at h0
              have hs := (Classical.choose_spec (hone 0 h0)).2
              refine ⟨a.block, a.off, by cases a; simp_all, fun i x hx => ?_⟩
              obtain ⟨hi, rfl⟩ := hget i x hx
              exact (Classical.choose_spec (hone i hi)).1.2
          all_goals (cases hy)
        | _ => cases hf
      · -- a struct
        rename_i fs ht
        simp only [DataW.trodStep, ht] at hy
        split at hy <;> first | (injections; done) | skip
        simp only [Option.map_eq_some_iff] at hy
        obtain ⟨xs, hxs, _⟩ := hy
        obtain ⟨h2, h3⟩ := mapM_get hxs
        obtain ⟨x, h4, h5⟩ := fields_open (w := w) (cs := cs) (fun s t cs' y h1 h2 => ih s t m cs' y h1 h2) fs.toList s 0 hf (fun g hg => by
          obtain ⟨j, hj, rfl⟩ := List.mem_iff_getElem.1 hg
          obtain ⟨y, _, hy⟩ := h3 j _ (List.getElem?_eq_getElem hj)
          exact ⟨y, hy⟩)
        exact ⟨x, h4, by simpa using h5⟩
      · cases hf
end
end Go.Dv
