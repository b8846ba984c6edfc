/- Op, Or: merged by merge.py. -/
import Derived.Test.YtggaemodkekeeaaDt
import Derived.RowKit3
import Derived.ChangeSame
import Derived.JoinedOf
import Derived.JoinedAt
import Derived.ChangeReads
import Derived.Lib.SmallJoins
import Derived.Carry
import Derived.ChangeCalls

/- Arguments from the outside, opened: data of any shape. -/
namespace Go.Dv
open Go.RowKit Go.Cv

theorem mapM_get {α β : Type} {f : α → Option β} : ∀ {l : List α} {r : List β}, l.mapM f = some r → l.length = r.length ∧ ∀ (j : Nat) x, l[j]? = some x → ∃ y, r[j]? = some y ∧ f x = some y
  | [], r, h => by simp at h; subst h; exact ⟨rfl, fun j x hj => by simp at hj⟩
  | a :: l, r, h => by
    rw [List.mapM_cons] at h
    cases ha : f a with
    | none => simp [ha] at h
    | some b =>
      cases hl : l.mapM f with
      | none => simp [ha, hl] at h
      | some bs =>
        simp [ha, hl] at h
        subst h
        obtain ⟨h1, h2⟩ := mapM_get hl
        refine ⟨by simp [h1], fun j x hj => ?_⟩
        cases j with
        | zero => simp at hj; subst hj; exact ⟨b, rfl, ha⟩
        | succ j => exact h2 j x (by simpa using hj)

/-- what an argument from the outside is known to be -/
def Sm : (s : Sh) → s.Ty → Prop
  | .fl k, n => ∃ d, d < lim k ∧ cn k d = n
  | .int k, n => k.min ≤ n ∧ n ≤ k.max
  | .bool, _ => True
  | .str, s => s.size ≤ maxLen
  | .cx _, _ => True
  | .ifc, _ => True
  | .ls e, l => l.length ≤ maxLen ∧ ∀ (i : Nat) x, l[i]? = some x → Sm e x
  | .pair a b, x => Sm a x.1 ∧ Sm b x.2

/-- a type has a shape -/
def fitFs (f : Sh → TypeId → Bool) (P : Program) : List Field → Sh → Nat → Bool
  | [], _, _ => false
  | [a], s, off => f s a.type && (Nat.beq a.offset off && Nat.beq (P.cellsOf a.type) s.size)
  | a :: b :: r, s, off => match s with
    | .pair x y => (f x a.type && (Nat.beq a.offset off && Nat.beq (P.cellsOf a.type) x.size)) && fitFs f P (b :: r) y (off + x.size)
    | _ => false

def fitB (P : Program) : Nat → Sh → TypeId → Bool
  | 0, _, _ => false
  | n + 1, s, t => match P.underlying t with
    | some (.float k') => match s with | .fl k => eqK k k' | _ => false
    | some (.int k') => match s with | .int k => eqI k k' | _ => false
    | some .bool => match s with | .bool => true | _ => false
    | some .string => match s with | .str => true | _ => false
    | some (.slice t') => match s with | .ls e => fitB P n e t' && Nat.beq (P.cellsOf t') e.size | _ => false
    | some (.struct fs) => fitFs (fitB P n) P fs.toList s 0
    | _ => false

section
variable {H : Type} {enc : TypeId × Value → H} {P : Program} {w : World} {base : Nat} {spare : Nat → Bool} {held : Bool}

theorem cell_at {b off : Nat} {v : Value} {a : Addr} (ha : a.block = b ∧ a.off = off) (h : w.cell? a = some v) : CellAt (fun k => w.heap[k]?) b off v ∧ a.spot = none := by
  unfold World.cell? at h
  obtain ⟨rfl, rfl⟩ := ha
  split at h
  · rename_i c T fr hc
    split at h
    · cases h
    · rename_i hs
      exact ⟨⟨c, T, fr, hc, h⟩, by simpa using hs⟩
  · cases h

theorem add_at (a : Addr) (n : Nat) : (a.add n).block = a.block ∧ (a.add n).off = a.off + n := by
  unfold Addr.add
  split
  · rename_i h; subst h; exact ⟨rfl, rfl⟩
  · exact ⟨rfl, rfl⟩

theorem cells_get {a : Addr} {n : Nat} {cs : List Value} (h : w.cells? base a n = some cs) : cs.length = n ∧ ∀ j v, cs[j]? = some v → w.cell? (a.add j) = some v := by
  unfold World.cells? at h
  split at h
  · obtain ⟨h1, h2⟩ := mapM_get h
    refine ⟨by simpa using h1.symm, fun j v hj => ?_⟩
    have hlt : j < n := by
      rcases Nat.lt_or_ge j cs.length with h3 | h3
      · simpa [← h1] using h3
      · rw [List.getElem?_eq_none h3] at hj; cases hj
    obtain ⟨y, h3, h4⟩ := h2 j j (by simp [hlt])
    rw [hj] at h3; cases h3; exact h4
  · cases h

theorem fields_open {f : Sh → TypeId → Bool} {r : TypeId → List Value → Option (DataW H × List MemPlace)} {cs : List Value}
    (hr : ∀ s t cs' y, f s t = true → r t cs' = some y → ∃ x : s.Ty, Sm s x ∧ relT (fun k => w.heap[k]?) s x (fun k u => cs'[k]? = some u)) :
    ∀ (fs : List Field) (s : Sh) (off : Nat), fitFs f P fs s off = true → (∀ g ∈ fs, ∃ y, r g.type ((cs.drop g.offset).take (P.cellsOf g.type)) = some y) →
      ∃ x : s.Ty, Sm s x ∧ relT (fun k => w.heap[k]?) s x (fun k u => cs[off + k]? = some u) := by
  have one : ∀ (g : Field) (s : Sh) (off : Nat), (f s g.type && (Nat.beq g.offset off && Nat.beq (P.cellsOf g.type) s.size)) = true → (∃ y, r g.type ((cs.drop g.offset).take (P.cellsOf g.type)) = some y) →
      ∃ x : s.Ty, Sm s x ∧ relT (fun k => w.heap[k]?) s x (fun k u => cs[off + k]? = some u) := by
    intro g s off h ⟨y, hy⟩
    simp only [Bool.and_eq_true] at h
    obtain ⟨x, h1, h2⟩ := hr _ _ _ _ h.1 hy
    obtain rfl := Nat.eq_of_beq_eq_true h.2.1
    refine ⟨x, h1, relT_mono (fun _ _ h => h) s x (fun k u hu => ?_) h2⟩
    have hlt : k < P.cellsOf g.type := by
      rcases Nat.lt_or_ge k (P.cellsOf g.type) with h3 | h3
      · exact h3
      · have : ((cs.drop g.offset).take (P.cellsOf g.type))[k]? = none := List.getElem?_eq_none (by rw [List.length_take]; omega)
        rw [this] at hu; cases hu
    rwa [List.getElem?_take_of_lt hlt, List.getElem?_drop] at hu
  intro fs
  induction fs with
  | nil => intro s off h; cases h
  | cons g r' ih =>
    intro s off h hall
    cases r' with
    | nil => exact one g s off h (hall g (by simp))
    | cons g' r' =>
      simp only [fitFs] at h
      split at h
      · rename_i a b
        rw [Bool.and_eq_true] at h
        obtain ⟨x, h1, h2⟩ := one g a off h.1 (hall g (by simp))
        obtain ⟨z, h3, h4⟩ := ih b _ h.2 (fun k hk => hall k (by simp [hk]))
        refine ⟨(x, z), ⟨h1, h3⟩, h2, relT_mono (fun _ _ h => h) b z (fun k u hu => ?_) h4⟩
        show cs[off + (a.size + k)]? = some u
        rw [← Nat.add_assoc]; exact hu
      · cases h

open Classical in
theorem open_sh : ∀ (n : Nat) (s : Sh) (t : TypeId) (m : Nat) (cs : List Value) (y : DataW H × List MemPlace), fitB P n s t = true → DataW.trod enc P w base spare held m t cs = some y →
    ∃ x : s.Ty, Sm s x ∧ relT (fun k => w.heap[k]?) s x (fun k u => cs[k]? = some u) := by
  intro n
  induction n with
  | zero => intro s t m cs y h; cases h
  | succ n ih =>
    intro s t m cs y hf hy
    cases m with
    | zero => simp [DataW.trod] at hy
    | succ m =>
      rw [DataW.trod_step] at hy
      simp only [fitB] at hf
      split at hf
      · -- a float
        rename_i k' ht
        cases s with
        | fl k =>
          obtain rfl := eqK_spec hf
          simp only [DataW.trodStep, ht] at hy
          split at hy <;> first | (cases hy; done) | (injections; done) | skip
          rename_i k1 k2 b h1
          cases h1
          split at hy
          · rename_i hc
            obtain ⟨rfl, hwf⟩ := hc
            have hl : b < lim k2 := by
              cases k2
              · exact of_decide_eq_true hwf
              · exact of_decide_eq_true hwf
            exact ⟨cn k2 b, ⟨b, hl, rfl⟩, b, rfl, rfl, hl⟩
          · cases hy
        | _ => cases hf
      · -- an integer
        rename_i k' ht
        cases s with
        | int k =>
          obtain rfl := eqI_spec hf
          simp only [DataW.trodStep, ht] at hy
          split at hy <;> first | (cases hy; done) | (injections; done) | skip
          rename_i k1 k2 b h1
          cases h1
          split at hy
          · rename_i hc
            obtain ⟨rfl, hwf⟩ := hc
            simp only [Lit.wf, Bool.and_eq_true, decide_eq_true_eq] at hwf
            exact ⟨b, hwf, rfl⟩
          · cases hy
        | _ => cases hf
      · rename_i ht
        cases s with
        | bool =>
          simp only [DataW.trodStep, ht] at hy
          split at hy <;> first | (injections; done) | skip
          · rename_i b h1; exact ⟨b, trivial, rfl⟩
          all_goals (cases hy)
        | _ => cases hf
      · rename_i ht
        cases s with
        | str =>
          simp only [DataW.trodStep, ht] at hy
          split at hy <;> first | (injections; done) | skip
          · rename_i b h1
            split at hy
            · rename_i hs; exact ⟨b, hs, rfl⟩
            · cases hy
          all_goals (cases hy)
        | _ => cases hf
      · -- a slice
        rename_i t' ht
        cases s with
        | ls e =>
          rw [Bool.and_eq_true] at hf
          have hsz := Nat.eq_of_beq_eq_true hf.2
          simp only [DataW.trodStep, ht] at hy
          split at hy <;> first | (injections; done) | skip
          · exact ⟨[], ⟨by simp, fun i x h => by simp at h⟩, none, 0, rfl, Nat.le_refl _, fun _ => rfl, fun h => by simp at h⟩
          · rename_i e' a len cap h1
            cases h1
            split at hy
            rotate_left
            · cases hy
            rename_i hc
            simp only [Option.bind_eq_some_iff] at hy
            obtain ⟨elems, he, _⟩ := hy
            obtain ⟨_, hel⟩ := mapM_get he
            have hone : ∀ i, i < len → ∃ x : e.Ty, (Sm e x ∧ relT (fun k => w.heap[k]?) e x (fun k u => CellAt (fun k => w.heap[k]?) a.block (a.off + i * e.size + k) u)) ∧ a.spot = none := by
              intro i hi
              obtain ⟨z, _, hz⟩ := hel i i (by simp [hi])
              simp only [Option.bind_eq_some_iff] at hz
              obtain ⟨cs', hc', hz⟩ := hz
              obtain ⟨x, h2, h3⟩ := ih e t' m cs' z hf.1 hz
              obtain ⟨h4, h5⟩ := cells_get hc'
              have hat : ∀ k u, cs'[k]? = some u → CellAt (fun k => w.heap[k]?) a.block (a.off + i * e.size + k) u := fun k u hu => by
                have h6 := h5 k u hu
                obtain ⟨p1, p2⟩ := add_at (a.add (i * P.cellsOf t')) k
                obtain ⟨q1, q2⟩ := add_at a (i * P.cellsOf t')
                exact (cell_at ⟨p1.trans q1, by rw [p2, q2, hsz]⟩ h6).1
              refine ⟨x, ⟨h2, relT_mono (fun _ _ h => h) e x (fun k u hu => hat k u hu) h3⟩, ?_⟩
              have hp := size_pos e
              have hlen : 0 < cs'.length := by rw [h4, hsz]; exact hp
              have h6 := h5 0 cs'[0] (List.getElem?_eq_getElem hlen)
              have e0 : (a.add (i * P.cellsOf t')).add 0 = a.add (i * P.cellsOf t') := rfl
              rw [e0] at h6
              -- the first cell of the first element
              by_cases hi0 : i * P.cellsOf t' = 0
              · have : a.add (i * P.cellsOf t') = a := by unfold Addr.add; rw [if_pos hi0]
                rw [this] at h6
                exact (cell_at ⟨rfl, rfl⟩ h6).2
              · obtain ⟨z0, _, hz0⟩ := hel 0 0 (by rw [List.getElem?_range (by omega)])
                simp only [Option.bind_eq_some_iff] at hz0
                obtain ⟨cs0, hc0, _⟩ := hz0
                obtain ⟨h7, h8⟩ := cells_get hc0
                have hlen0 : 0 < cs0.length := by rw [h7, hsz]; exact hp
                have h9 := h8 0 cs0[0] (List.getElem?_eq_getElem hlen0)
                have : (a.add (0 * P.cellsOf t')).add 0 = a := by rw [Nat.zero_mul]; rfl
                rw [this] at h9
                exact (cell_at ⟨rfl, rfl⟩ h9).2
            let l : List e.Ty := List.ofFn (fun i : Fin len => Classical.choose (hone i.1 i.2))
            have hl : l.length = len := by simp [l]
            have hget : ∀ (i : Nat) x, l[i]? = some x → ∃ h : i < len, x = Classical.choose (hone i h) := fun i x hx => by
              have hi : i < len := by
                rcases Nat.lt_or_ge i len with h | h
                · exact h
                · rw [List.getElem?_eq_none (by omega)] at hx; cases hx
              refine ⟨hi, ?_⟩
              rw [List.getElem?_eq_getElem (by omega)] at hx
              simp [l] at hx
              exact hx.symm
            refine ⟨l, ⟨by rw [hl]; omega, fun i x hx => ?_⟩, some a, cap, by rw [hl]; rfl, by rw [hl]; exact hc.2.1, (fun h => by cases h), fun h0 => ?_⟩
            · obtain ⟨hi, rfl⟩ := hget i x hx
              exact (Classical.choose_spec (hone i hi)).1.1
            · rw [hl] at h0
              have hs := (Classical.choose_spec (hone 0 h0)).2
              refine ⟨a.block, a.off, by cases a; simp_all, fun i x hx => ?_⟩
              obtain ⟨hi, rfl⟩ := hget i x hx
              exact (Classical.choose_spec (hone i hi)).1.2
          all_goals (cases hy)
        | _ => cases hf
      · -- a struct
        rename_i fs ht
        simp only [DataW.trodStep, ht] at hy
        split at hy <;> first | (injections; done) | skip
        simp only [Option.map_eq_some_iff] at hy
        obtain ⟨xs, hxs, _⟩ := hy
        obtain ⟨h2, h3⟩ := mapM_get hxs
        obtain ⟨x, h4, h5⟩ := fields_open (w := w) (cs := cs) (fun s t cs' y h1 h2 => ih s t m cs' y h1 h2) fs.toList s 0 hf (fun g hg => by
          obtain ⟨j, hj, rfl⟩ := List.mem_iff_getElem.1 hg
          obtain ⟨y, _, hy⟩ := h3 j _ (List.getElem?_eq_getElem hj)
          exact ⟨y, hy⟩)
        exact ⟨x, h4, by simpa using h5⟩
      · cases hf
end
end Go.Dv

/- From a function's contract to the row of a law: arguments of any shape. -/
namespace Go.Dv
open Go.Cv Go.ChangeShapes Go.WideShapes Go.ChangeAt Go.RowKit Go.Joins

/-- what the outside's memory is to a call -/
def gOut (W : World) : Gh := { β := fun _ => none, cp := fun _ => 0, im := fun k => W.heap[k]?, bi := fun k => W.heap[k]? }
def xOut (W : World) (q : GQ (fun k => W.heap[k]?)) : Fr := { n := 0, β0 := fun _ => none, cp0 := fun _ => 0, m0 := fun k => W.heap[k]?, q := q }
theorem xOut_wr (W : World) (q : GQ (fun k => W.heap[k]?)) (k : Nat) : ¬ (xOut W q).wr k := fun ⟨_, hi, _⟩ => Nat.not_lt_zero _ hi
theorem wok_out (W : World) (q : GQ (fun k => W.heap[k]?)) : WOk (xOut W q) W (gOut W) W :=
  ⟨Keep.refl _ _, fun _ _ h => h, fun _ _ h => h, (fun _ _ _ h => nomatch h), (fun _ _ h => nomatch h), trivial, fun _ _ h => h, fun _ _ h => .inl h, fun _ hi => (Nat.not_lt_zero _ hi).elim⟩

theorem below_of_wok {W W' : World} {q : GQ (fun k => W.heap[k]?)} {g : Gh} (h : WOk (xOut W q) W g W') : Below W.heap.size W W' :=
  ⟨h.keep.os, h.keep.tape, h.keep.output, h.keep.size, fun k hk => h.keep.block k hk (xOut_wr W q k)⟩

/-! ### arguments -/

def isAggB (P : Program) (t : TypeId) : Bool := match P.underlying t with | some (.struct _) => true | _ => false
def isCellB (P : Program) (t : TypeId) : Bool := match P.underlying t with
  | some (.float _) => true
  | some (.int _) => true
  | some .bool => true
  | some .string => true
  | some (.slice _) => true
  | _ => false

def fitA (P : Program) : AS → List TypeId → Bool
  | .nil, [] => true
  | .cons (.one s) r, t :: ts => (fitB P 8 s t && (Nat.beq s.size 1 && isCellB P t)) && fitA P r ts
  | .cons (.fz s) r, t :: ts => (fitB P 8 s t && (Nat.beq s.size 1 && isCellB P t)) && fitA P r ts
  | .cons (.agg s) r, t :: ts => (fitB P 8 s t && (isAggB P t && Nat.beq (P.cellsOf t) s.size)) && fitA P r ts
  | _, _ => false

/-- what the arguments from the outside are known to be -/
def SmA : (a : AS) → a.Ty → Prop
  | .cons a r, x => SmA a x.1 ∧ SmA r x.2
  | .one s, x => Sm s x
  | .fz s, x => Sm s x
  | .agg s, x => Sm s x
  | _, _ => True

theorem uX_cells (hp : Hp) : ∀ (s : Sh) (x : s.Ty) (f : Nat → CS), (∀ j, j < s.size → f j = (cells true s x).getD j .any) → uX hp s f = some (x, [], true) := by
  intro s
  induction s with
  | fl k => intro x f h; simp only [uX]; rw [h 0 (by simp [Sh.size])]; cases k <;> rfl
  | int k => intro x f h; simp only [uX]; rw [h 0 (by simp [Sh.size])]; cases k <;> rfl
  | bool => intro x f h; simp only [uX]; rw [h 0 (by simp [Sh.size])]; rfl
  | str => intro x f h; simp only [uX]; rw [h 0 (by simp [Sh.size])]; rfl
  | cx k => intro x f h; simp only [uX]; rw [h 0 (by simp [Sh.size])]; cases k <;> rfl
  | ifc => intro x f h; simp only [uX]; rw [h 0 (by simp [Sh.size])]; rfl
  | ls e _ =>
    intro x f h; simp only [uX]; rw [h 0 (by simp [Sh.size])]
    show (match castLs e e x with | some l => some (l, [], true) | none => none) = _
    unfold castLs; rw [dif_pos rfl]
  | pair a b iha ihb =>
    intro x f h
    have hl := cells_length true a x.1
    simp only [uX]
    rw [iha x.1 f (fun j hj => by
      rw [h j (by simp [Sh.size]; omega)]
      show (cells true a x.1 ++ cells true b x.2).getD j .any = _
      simp [List.getD_eq_getElem?_getD, List.getElem?_append_left (show j < (cells true a x.1).length by omega)]),
      ihb x.2 _ (fun j hj => by
        rw [h (a.size + j) (by simp [Sh.size]; omega)]
        show (cells true a x.1 ++ cells true b x.2).getD (a.size + j) .any = _
        rw [List.getD_eq_getElem?_getD, List.getElem?_append_right (by omega), hl, Nat.add_sub_cancel_left, ← List.getD_eq_getElem?_getD])]
    rfl

theorem decD_cells : ∀ (s : Sh) (x : s.Ty) (f : Nat → CS), (∀ j, j < s.size → f j = (cells false s x).getD j .any) → decD false s f = some x := by
  intro s
  induction s with
  | fl k => intro x f h; simp only [decD]; rw [h 0 (by simp [Sh.size])]; cases k <;> rfl
  | int k => intro x f h; simp only [decD]; rw [h 0 (by simp [Sh.size])]; cases k <;> rfl
  | bool => intro x f h; simp only [decD]; rw [h 0 (by simp [Sh.size])]; rfl
  | str => intro x f h; simp only [decD]; rw [h 0 (by simp [Sh.size])]; rfl
  | cx k => intro x f h; simp only [decD]; rw [h 0 (by simp [Sh.size])]; cases k <;> rfl
  | ifc => intro x f h; simp only [decD]; rw [h 0 (by simp [Sh.size])]; rfl
  | ls e _ =>
    intro x f h; simp only [decD]; rw [h 0 (by simp [Sh.size])]
    show castLs e e x = _
    unfold castLs; rw [dif_pos rfl]
  | pair a b iha ihb =>
    intro x f h
    have hl := cells_length false a x.1
    simp only [decD]
    rw [iha x.1 f (fun j hj => by
      rw [h j (by simp [Sh.size]; omega)]
      show (cells false a x.1 ++ cells false b x.2).getD j .any = _
      simp [List.getD_eq_getElem?_getD, List.getElem?_append_left (show j < (cells false a x.1).length by omega)]),
      ihb x.2 _ (fun j hj => by
        rw [h (a.size + j) (by simp [Sh.size]; omega)]
        show (cells false a x.1 ++ cells false b x.2).getD (a.size + j) .any = _
        rw [List.getD_eq_getElem?_getD, List.getElem?_append_right (by omega), hl, Nat.add_sub_cancel_left, ← List.getD_eq_getElem?_getD])]

section
variable {H : Type} {enc : TypeId × Value → H} {P : Program}

theorem cell_form {W : World} {r : Go.Reach} {b0 : Nat} {t : TypeId} {v : Value} (h : isCellB P t = true) (hv : Value.okWide P W r b0 t v) : v.cells = #[v] := by
  unfold isCellB at h
  split at h <;> first | (cases h; done) | skip
  all_goals
    rename_i ht
    simp only [Value.okWide, ht, Cell.okWide] at hv
    cases v <;> first | rfl | (simp_all [Cell.ok]; done)

theorem agg_form {W : World} {r : Go.Reach} {b0 : Nat} {t : TypeId} {v : Value} (h : isAggB P t = true) (hv : Value.okWide P W r b0 t v) : ∃ cs, v = .agg cs ∧ cs.size = P.cellsOf t := by
  unfold isAggB at h
  split at h <;> first | (cases h; done) | skip
  rename_i ht
  simp only [Value.okWide, ht] at hv
  obtain ⟨cs, h1, h2, _⟩ := hv
  exact ⟨cs, h1, h2⟩

theorem open_args {W : World} : ∀ (sig : AS) (ts : List TypeId) (vs : List Value) (ds : List (DataW H)) (ps : List MemPlace), fitA P sig ts = true → DataW.TrodAll enc P W 0 (fun _ => true) true ts vs ds ps →
    (∀ (j : Nat) t v, ts[j]? = some t → vs[j]? = some v → ∃ r b0, Value.okWide P W r b0 t v) → ∀ k, ∃ x : sig.Ty, SmA sig x ∧ (∀ hp, uA hp sig (encA sig x k).1 = some ((x, [], [], true), [])) ∧ (encA sig x k).1.length = vs.length ∧
      ∀ (j : Nat) c u, (encA sig x k).1[j]? = some c → vs[j]? = some u → rel1 (gOut W) c u := by
  intro sig
  induction sig with
  | nil =>
    intro ts vs ds ps hf hA _ k
    cases ts with
    | cons t ts => cases hf
    | nil =>
      cases vs with
      | cons v vs => cases ds <;> exact hA.elim
      | nil => exact ⟨(), trivial, fun hp => rfl, rfl, fun j c u h => by simp [encA] at h⟩
  | cons a r _ ih =>
    intro ts vs ds ps hf hA hv k
    cases ts with
    | nil => cases a <;> cases hf
    | cons t ts =>
      cases vs with
      | nil => cases ds <;> exact hA.elim
      | cons v vs =>
        cases ds with
        | nil => exact hA.elim
        | cons d ds =>
          obtain ⟨p, q, ⟨m, h1⟩, h2, _⟩ := hA
          obtain ⟨rr, b0, hv0⟩ := hv 0 t v rfl rfl
          have rest := fun (hfr : fitA P r ts = true) k => ih ts vs ds q hfr h2 (fun j t v a b => hv (j + 1) t v (by simpa using a) (by simpa using b)) k
          cases a with
          | one s =>
            simp only [fitA, Bool.and_eq_true] at hf
            obtain ⟨⟨hf1, hf2, hf3⟩, hf4⟩ := hf
            obtain ⟨z, hz, hu, hl, hr⟩ := rest hf4 (k + (AS.one s).nOwn)
            obtain ⟨x, hx, hrel⟩ := open_sh 8 s t m _ _ hf1 h1
            rw [cell_form hf3 hv0] at hrel
            have hs := Nat.eq_of_beq_eq_true hf2
            refine ⟨(x, z), ⟨hx, hz⟩, fun hp => ?_, by simp [encA]; omega, fun j c u hj hu' => ?_⟩
            · have : uX hp s (fun _ => (cells true s x).getD 0 .any) = some (x, [], true) := uX_cells hp s x _ (fun j hj => by rw [show j = 0 by omega])
              have e : (encA (.cons (.one s) r) (x, z) k).1 = .s ((cells true s x).getD 0 .any) :: (encA r z (k + (AS.one s).nOwn)).1 := rfl
              rw [e]
              simp only [uA, hf2, cond_true, this, hu hp]
              rfl
            · cases j with
              | zero =>
                have hj : some (CV1.s ((cells true s x).getD 0 .any)) = some c := hj
                cases hj
                simp at hu'; subst hu'
                have hlen := cells_length true s x
                have h0 : 0 < (cells true s x).length := by omega
                obtain ⟨u, h5, h6⟩ := (relT_cells (g := gOut W) (bw := true) s x _).1 hrel 0 _ (List.getElem?_eq_getElem h0)
                simp at h5; subst h5
                show rel (gOut W) ((cells true s x).getD 0 .any) v
                rw [List.getD_eq_getElem?_getD, List.getElem?_eq_getElem h0]; exact h6
              | succ j => exact hr j c u hj (by simpa using hu')
          | fz s =>
            simp only [fitA, Bool.and_eq_true] at hf
            obtain ⟨⟨hf1, hf2, hf3⟩, hf4⟩ := hf
            obtain ⟨z, hz, hu, hl, hr⟩ := rest hf4 (k + (AS.fz s).nOwn)
            obtain ⟨x, hx, hrel⟩ := open_sh 8 s t m _ _ hf1 h1
            rw [cell_form hf3 hv0] at hrel
            have hs := Nat.eq_of_beq_eq_true hf2
            refine ⟨(x, z), ⟨hx, hz⟩, fun hp => ?_, by simp [encA]; omega, fun j c u hj hu' => ?_⟩
            · have : decD false s (fun _ => (cells false s x).getD 0 .any) = some x := decD_cells s x _ (fun j hj => by rw [show j = 0 by omega])
              have e : (encA (.cons (.fz s) r) (x, z) k).1 = .s ((cells false s x).getD 0 .any) :: (encA r z (k + (AS.fz s).nOwn)).1 := rfl
              rw [e]
              simp only [uA, hf2, cond_true, this, hu hp]
              rfl
            · cases j with
              | zero =>
                have hj : some (CV1.s ((cells false s x).getD 0 .any)) = some c := hj
                cases hj
                simp at hu'; subst hu'
                have hlen := cells_length false s x
                have h0 : 0 < (cells false s x).length := by omega
                obtain ⟨u, h5, h6⟩ := (relT_cells (g := gOut W) (bw := false) s x _).1 hrel 0 _ (List.getElem?_eq_getElem h0)
                simp at h5; subst h5
                show rel (gOut W) ((cells false s x).getD 0 .any) v
                rw [List.getD_eq_getElem?_getD, List.getElem?_eq_getElem h0]; exact h6
              | succ j => exact hr j c u hj (by simpa using hu')
          | agg s =>
            simp only [fitA, Bool.and_eq_true] at hf
            obtain ⟨⟨hf1, hf2, hf3⟩, hf4⟩ := hf
            obtain ⟨z, hz, hu, hl, hr⟩ := rest hf4 (k + (AS.agg s).nOwn)
            obtain ⟨x, hx, hrel⟩ := open_sh 8 s t m _ _ hf1 h1
            obtain ⟨cs, rfl, hcs⟩ := agg_form hf2 hv0
            have hs := Nat.eq_of_beq_eq_true hf3
            have hlen := cells_length true s x
            refine ⟨(x, z), ⟨hx, hz⟩, fun hp => ?_, by simp [encA]; omega, fun j c u hj hu' => ?_⟩
            · have : uX hp s (fun j => (cells true s x).getD j .any) = some (x, [], true) := uX_cells hp s x _ (fun j hj => rfl)
              have e : (encA (.cons (.agg s) r) (x, z) k).1 = .agg (cells true s x) :: (encA r z (k + (AS.agg s).nOwn)).1 := rfl
              have hb : Nat.beq (cells true s x).length s.size = true := by rw [hlen]; exact Nat.beq_refl _
              rw [e]
              simp only [uA, hb, cond_true, this, hu hp]
              rfl
            · cases j with
              | zero =>
                have hj : some (CV1.agg (cells true s x)) = some c := hj
                cases hj
                simp at hu'; subst hu'
                refine ⟨cs, rfl, by omega, fun j c u h3 h4 => ?_⟩
                obtain ⟨u', h5, h6⟩ := (relT_cells (g := gOut W) (bw := true) s x _).1 hrel j c h3
                have h5 : cs.toList[j]? = some u' := h5
                rw [Array.getElem?_toList] at h5
                rw [h4] at h5; cases h5; exact h6
              | succ j => exact hr j c u hj (by simpa using hu')
          | _ => cases hf
  | _ => intro ts vs ds ps hf; cases ts <;> cases hf
end

section
variable {H : Type} {enc : TypeId × Value → H} {P : Program}
theorem trodAll_below (hl : laidOutB P = true) {W W' : World} (hb : Below W.heap.size W W') : ∀ {ts : List TypeId} {vs : List Value} {ds : List (DataW H)} {ps : List MemPlace},
    ts.all (fun t => P.readableRec t && decide (t < P.types.size)) = true → DataW.TrodAll enc P W 0 (fun _ => true) true ts vs ds ps → (∀ x ∈ ps, x.block < W.heap.size) →
    DataW.TrodAll enc P W' 0 (fun b => decide (b < W.heap.size)) true ts vs ds ps
  | [], [], [], _, _, h, _ => h
  | _ :: _, _ :: _, _ :: _, _, ht, ⟨p, q, h1, h2, e⟩, hs => by
    rw [List.all_cons, Bool.and_eq_true, Bool.and_eq_true, decide_eq_true_eq] at ht
    exact ⟨p, q, Below.trod hl ht.1.1 ht.1.2 h1 hb (fun x hx => hs x (by rw [e]; exact List.mem_append_left _ hx)), trodAll_below hl hb ht.2 h2 (fun x hx => hs x (by rw [e]; exact List.mem_append_right _ hx)), e⟩
end

@[reducible] def raB : AS := .cons (.one .bool) .nil

variable {P : Program}
theorem calls_true_below {f : FuncId} {fn : Func} {body : Code} (hf : P.funcs[f]? = some fn) (hb : fn.body = some body) (hname : (fn.name == "runtime.NumGoroutine") = false) {sig : AS} {pre : sig.Ty → Bool} {p : sig.Ty → raB.Ty × List CS} (h : OkFn P f (mkSpec sig raB pre p))
    {args : List CV1} {x : sig.Ty} (hu : uA (fun _ _ => none) sig args = some ((x, [], [], true), [])) (hx : pre x = true) (hp : p x = ((true, ()), [])) (vals : Array Value) (W : World) (q : GQ (fun k => W.heap[k]?)) (hsz : vals.size = args.length)
    (hrel : ∀ (j : Nat) c u, args[j]? = some c → vals[j]? = some u → rel1 (gOut W) c u) :
    Calls P f vals W (fun e W' => e = .returned (.bool true) ∧ Below W.heap.size W W') := by
  have hS : mkSpec sig raB pre p (fun _ _ => none) args = some { pre := true && pre x, cv := retCV (encR raB (p x).1 0).1, nw := (encR raB (p x).1 0).2, rd := [] ++ ([] : List (Nat × CS)).map (fun q => (q.1, 0, q.2)), wr := zipW [] (p x).2 } := by
    unfold mkSpec; rw [hu]; rfl
  rw [hp] at hS
  obtain ⟨_, _, _, hc⟩ := h _ args _ hS hx
  have h1 := hc (xOut W q) (gOut W) W W 0 vals hsz hrel (fun d hd => nomatch hd) (wok_out W q) (Nat.le_refl _) (fun d hd => nomatch hd) (fun _ _ => rfl)
  have hcall : (callFunc f vals).run P W = .ok (.enter f vals) W := by
    have hname' : ¬ fn.name = "runtime.NumGoroutine" := by simpa using hname
    simp [callFunc, hf, hname', hb]
  unfold CallOk at h1
  rw [hcall] at h1
  exact h1.mono fun e W' ⟨v, he, g', hd, hr⟩ => by
    have : v = .bool true := hr
    subst this
    exact ⟨he, below_of_wok (hd.ok (fun _ h => nomatch h))⟩

/-- **THE ROW OF A LAW**: out of its contract, at arguments of any shape -/
theorem law_row {H : Type} {enc : TypeId × Value → H} {C : Checked} {os : Os} {f : FuncId} {fn : Func} {body : Code} {s : ChangeSpec} {conds : List PathCond} {tb : TypeId}
    (own : ownKnob C.prog.godebug = none) (started : os.Started) (noInit : C.prog.inits.idxOf? f = none) (hf : C.prog.funcs[f]? = some fn) (hb : fn.body = some body) (hname : (fn.name == "runtime.NumGoroutine") = false)
    (witness : ∃ (w : World) (tape : Tape) (i : Input), w.os = os ∧ (w.forCall tape i).Shaped C.prog ∧ i.vars = [] ∧ Input.okWide C.prog (w.forCall tape i) .any w.heap.size f i ∧
      s.pre6 enc C.prog fn conds false (w.forCall tape i).memory i.args ∧ Assume.holds {} C.prog (lone (Frame.enter C.prog f i.args .normal) [] (w.forCall tape i)))
    (hl : laidOutB C.prog = true) (hts : fn.params.toList.all (fun t => C.prog.readableRec t && decide (t < C.prog.types.size)) = true)
    (hres : fn.resultTypes = #[tb]) (htb : C.prog.underlying tb = some .bool)
    (hvars : s.vars = []) (hsf : ∀ ds : List (DataW H), ds.length = fn.params.size → (s.fn H ds).results = [.lit (.bool true)] ∧ (s.fn H ds).args = ds ∧ (s.fn H ds).vars = [])
    {sig : AS} (hfit : fitA C.prog sig fn.params.toList = true) {pre : sig.Ty → Bool} {p : sig.Ty → raB.Ty × List CS} (h : OkFn C.prog f (mkSpec sig raB pre p)) (hlaw : ∀ x, SmA sig x → pre x = true ∧ p x = ((true, ()), [])) (hq : ∀ W : World, GQ (fun k => W.heap[k]?)) :
    ReturnsInHanded {} C os f .any (s.pre6 enc C.prog fn conds false) (s.post enc C.prog fn false true false false) := by
  refine returnsInHanded_of_change own started noInit hf witness ?_
  intro W base args ds gs before hval hW _ _
  have hW0 := hW
  have hlt := hW.lt
  obtain ⟨q, q', hA, hV, rfl, _, _⟩ := hW
  rw [hvars] at hV
  obtain ⟨rfl, rfl⟩ := trodVars_none hV
  obtain ⟨x, hx, hu, hsz, hrel⟩ := open_args (P := C.prog) (W := W) sig fn.params.toList args.toList ds q hfit hA (fun j t v h1 h2 => ⟨.any, base, hval j t v (by simpa using h1) (by simpa using h2)⟩) 0
  obtain ⟨hpre, hp⟩ := hlaw x hx
  have hlen : ds.length = fn.params.size := by
    have := (trodAll_length hA).2
    simpa using this
  obtain ⟨r1, r2, r3⟩ := hsf ds hlen
  refine (calls_true_below hf hb hname h (hu _) hpre hp _ W (hq W) (by simpa using hsz.symm) (fun j c u h1 h2 => hrel j c u h1 (by simpa using h2))).mono fun e W' ⟨he, hbl⟩ => ⟨_, he, ?_⟩
  refine ⟨ds, [], q ++ [], [], q, [], hW0, ?_, ?_, ?_, hbl.frame _, fun h => nomatch h⟩
  · rw [List.append_nil, r1, hres]
    exact trodAll_mk1 (shut_bool htb _)
  · rw [List.append_nil, r2]
    exact trodAll_below hl hbl hts hA (fun x hx => hlt x (by simpa using hx))
  · rw [List.append_nil, r3, hvars]
    rfl
end Go.Dv
