/- The model's operations do what 'cop' says (part 4): new arrays; append. -/
import Derived.Test.YtmhmedbhngmmpaaDf
namespace Go.Dv
open Go.RowKit Go.Cv

section
variable {P : Program} {α : Type}

/-- a new block gets the next name -/
def Gh.bind (g : Gh) (i b c : Nat) : Gh := { β := fun j => if j = i then some b else g.β j, cp := fun j => if j = i then c else g.cp j, im := g.im, bi := g.bi }

theorem Gh.bind_ne (g : Gh) {i j b c : Nat} (h : j ≠ i) : (g.bind i b c).β j = g.β j := by simp [Gh.bind, h]
theorem Gh.bind_same (g : Gh) (i b c : Nat) : (g.bind i b c).β i = some b ∧ (g.bind i b c).cp i = c := by simp [Gh.bind]

theorem Gh.le_bind {g : Gh} {i b c : Nat} (h : g.β i = none) : g.le (g.bind i b c) := by
  refine ⟨fun j d hd => ?_, fun _ _ h => h, fun _ _ h => h⟩
  have e : j ≠ i := fun e => by subst e; rw [h] at hd; cases hd
  exact ⟨by rw [Gh.bind_ne g e]; exact hd, by simp [Gh.bind, e]⟩

theorem heap_alloc_same (w : World) (o : Obj) : (w.alloc o).heap[w.heap.size]? = some o := by
  show (w.heap.push _)[w.heap.size]? = _
  simp

theorem fz_push {w : World} {p : Nat → Prop} (h : ∀ k c t fr, p k → w.heap[k]? = some (.cells c t fr) → fr = (0, 0)) (arr : Array Value) (T : TypeId) :
    ∀ k c t fr, p k → (w.alloc (.cells arr T)).heap[k]? = some (.cells c t fr) → fr = (0, 0) := by
  intro k c t fr hk hc
  by_cases e : k = w.heap.size
  · subst e
    rw [heap_alloc_same] at hc; cases hc; rfl
  · rcases Nat.lt_or_ge k w.heap.size with h1 | h1
    · rw [Below.heap_alloc _ _ _ h1] at hc; exact h k c t fr hk hc
    · have : (w.alloc (.cells arr T)).heap[k]? = none := by
        show (w.heap.push _)[k]? = _
        rw [Array.getElem?_eq_none (by simp; omega)]
      rw [this] at hc; cases hc

/-- a new block, under a name that is free (or is given up) -/
theorem WOk.alloc {X : Fr} {w0 : World} {g : Gh} {w : World} (h : WOk X w0 g w) (i c : Nat) (hi : X.n ≤ i) (arr : Array Value) (T : TypeId) : WOk X w0 (g.bind i w.heap.size c) (w.alloc (.cells arr T)) := by
  have hle : w0.heap.size ≤ w.heap.size := h.keep.size
  have hbn : ∀ k o, g.bi k = some o → k < w.heap.size := fun k o ho => lt_of_block (h.bi k o ho)
  have key : ∀ j b, (if j = i then some w.heap.size else g.β j) = some b → (j = i ∧ b = w.heap.size) ∨ (j ≠ i ∧ g.β j = some b ∧ b < w.heap.size) := fun j b hj => by
    by_cases e : j = i
    · rw [if_pos e] at hj; cases hj; exact .inl ⟨e, rfl⟩
    · rw [if_neg e] at hj; exact .inr ⟨e, hj, (h.fresh _ _ hj).2.1⟩
  refine ⟨h.keep.alloc _, h.im, fun k o ho => ?_, fun j k b hj hk => ?_, fun j b hj => ?_, fz_push (p := fun k => w0.heap.size ≤ k ∨ X.wr k) h.fz _ _, h.base, h.imf, fun j hj => by simp [Gh.bind, show j ≠ i by omega, h.pin j hj]⟩
  · rw [Below.heap_alloc _ _ _ (hbn k o ho)]; exact h.bi k o ho
  · rcases key j b hj with ⟨e1, e2⟩ | ⟨_, e1, e2⟩ <;> rcases key k b hk with ⟨e3, e4⟩ | ⟨_, e3, e4⟩
    · rw [e1, e3]
    · omega
    · omega
    · exact h.inj _ _ _ e1 e3
  · rcases key j b hj with ⟨e1, e2⟩ | ⟨_, e1, e2⟩
    · subst e2
      refine ⟨.inl hle, by simp, ?_⟩
      show g.bi w.heap.size = none
      cases ho : g.bi w.heap.size with
      | none => rfl
      | some o => have := hbn _ _ ho; omega
    · obtain ⟨h1, h2, h3⟩ := h.fresh _ _ e1
      exact ⟨h1, by simp; omega, h3⟩

theorem free_nx {X : Fr} {w0 : World} {n : Nat} {s : St} {g : Gh} {a : Act} {w : World} (h : Sim X w0 n s g a w) : ∀ i, s.nx ≤ i → g.β i = none := fun i hi => by
  cases hb : g.β i with
  | none => rfl
  | some b => have := h.nx _ _ hb; omega

/-- the state behind a new array -/
theorem Sim.born {X : Fr} {w0 : World} {n : Nat} {s : St} {g : Gh} {a : Act} {w : World} (h : Sim X w0 n s g a w) {d : Option Nat} (hd : ∀ x, d = some x → x < n) {e : Sh} {l : List e.Ty} {arr : Array Value} {T : TypeId} {c : Nat}
    (hsz : arr.size = c * e.size) (hl : l.length ≤ c) (hr : ∀ i x, l[i]? = some x → relT g.im e x (fun k u => arr[i * e.size + k]? = some u)) :
    Sim X w0 n (bornSt s d e l) (g.bind s.nx w.heap.size c) (a.put d (.slice (some ⟨w.heap.size, 0, none⟩) l.length c)) (w.alloc (.cells arr T)) := by
  have hi := free_nx h s.nx (Nat.le_refl _)
  have hle := Gh.le_bind (b := w.heap.size) (c := c) hi
  obtain ⟨hb1, hb2⟩ := Gh.bind_same g s.nx w.heap.size c
  refine ⟨tm_put (fun t => relV_mono hle _ _ (h.tm t)) h.len hd ?_, by rw [put_size]; exact h.len, by rw [put_defers']; exact h.df, h.ok.alloc _ _ h.ln arr T, fun i o cc hc => ?_, fun i b hb => ?_, fun i o cc hc => ?_, h.lo, by show X.n ≤ s.nx + 1; have := h.ln; omega⟩
  · exact .inr ⟨w.heap.size, hb1, by rw [hb2], by rw [hb2]; exact hl⟩
  · have hc : withArr s.hp s.nx (.arr e l) i o = some cc := hc
    by_cases e1 : i = s.nx
    · subst e1
      rw [withArr_id] at hc
      split at hc
      · rename_i e2; cases hc
        exact .inl ⟨e, l, rfl, e2, .inr ⟨_, arr, T, hb1, heap_alloc_same _ _, by rw [hb2]; exact hsz, by rw [hb2]; exact hl, hr⟩⟩
      · cases hc
    · rw [withArr_ne _ _ _ e1] at hc
      exact (h.cells _ _ _ hc).keep hle (Gh.bind_ne g e1) (fun b hb => Below.heap_alloc _ _ _ (h.ok.fresh _ _ hb).2.1)
  · show i < s.nx + 1
    by_cases e1 : i = s.nx
    · omega
    · rw [Gh.bind_ne g e1] at hb; have := h.nx _ _ hb; omega
  · have hc : withArr s.hp s.nx (.arr e l) i o = some cc := hc
    show i < s.nx + 1
    by_cases e1 : i = s.nx
    · omega
    · rw [withArr_ne _ _ _ e1] at hc; have := h.hx _ _ _ hc; omega

theorem Sim.drewN {X : Fr} {w0 : World} {n : Nat} {s : St} {g : Gh} {a : Act} {w : World} (h : Sim X w0 n s g a w) (m : Nat) : Sim X w0 n s g a (w.drewN m) := h.after (After.drewN h.ok m)

/-! ### zeros -/

theorem eqZs_append : ∀ {zs as bs : List Value}, eqZs zs (as ++ bs) = true → ∃ z1 z2, zs = z1 ++ z2 ∧ eqZs z1 as = true ∧ eqZs z2 bs = true ∧ z1.length = as.length
  | zs, [], bs, h => ⟨[], zs, rfl, rfl, h, rfl⟩
  | [], a :: as, bs, h => by cases h
  | z :: zs, a :: as, bs, h => by
    simp only [List.cons_append, eqZs, Bool.and_eq_true] at h
    obtain ⟨z1, z2, e1, h1, h2, h3⟩ := eqZs_append h.2
    exact ⟨z :: z1, z2, by rw [e1]; rfl, by simp only [eqZs, Bool.and_eq_true]; exact ⟨h.1, h1⟩, h2, by simp [h3]⟩

theorem eqZs_one {zs : List Value} {a : Value} (h : eqZs zs [a] = true) : ∃ z, zs = [z] ∧ eqZ z a = true := by
  match zs, h with
  | [z], h => simp only [eqZs, Bool.and_eq_true] at h; exact ⟨z, rfl, h.1⟩
  | _ :: _ :: _, h => simp only [eqZs, Bool.and_eq_true] at h; cases h.2

theorem zeroV_length : ∀ e : Sh, (zeroV e).length = e.size
  | .fl _ | .int _ | .bool | .str | .cx _ | .ls _ => rfl
  | .pair a b => by simp [zeroV, Sh.size, zeroV_length a, zeroV_length b]

theorem cn0 (k : FloatKind) : cn k 0 = 0 := by cases k <;> decide
theorem lim0 (k : FloatKind) : 0 < lim k := by cases k <;> decide

theorem zero_rel {m : Nat → Option Obj} : ∀ (e : Sh) (zs : List Value), eqZs zs (zeroV e) = true → relT m e e.dflt (fun k u => zs[k]? = some u)
  | .fl k, zs, h => by
    obtain ⟨z, hz, h'⟩ := eqZs_one h
    subst hz
    clear h
    have h := h'
    clear h'
    unfold eqZ at h
    split at h
    · rename_i h1; cases h1
      simp only [Bool.and_eq_true] at h
      obtain ⟨h1, h2, h3⟩ := h
      obtain rfl := eqK_spec h1
      obtain rfl := Nat.eq_of_beq_eq_true h2
      exact ⟨0, rfl, cn0 _, lim0 _⟩
    all_goals first | (rename_i h1; cases h1; done) | cases h
  | .int k, zs, h => by
    obtain ⟨z, hz, h'⟩ := eqZs_one h
    subst hz
    clear h
    have h := h'
    clear h'
    unfold eqZ at h
    split at h
    any_goals first | (rename_i h1; cases h1; done) | (cases h; done)
    rename_i h1; cases h1
    simp only [Bool.and_eq_true, decide_eq_true_eq] at h
    obtain ⟨h1, h2, h3⟩ := h
    obtain rfl := eqI_spec h1
    subst h2
    rfl
  | .bool, zs, h => by
    obtain ⟨z, hz, h'⟩ := eqZs_one h
    subst hz
    clear h
    have h := h'
    clear h'
    unfold eqZ at h
    split at h
    any_goals first | (rename_i h1; cases h1; done) | (cases h; done)
    rename_i a b h1; cases h1
    simp at h
    subst h
    rfl
  | .str, zs, h => by
    obtain ⟨z, hz, h'⟩ := eqZs_one h
    subst hz
    clear h
    have h := h'
    clear h'
    unfold eqZ at h
    split at h
    any_goals first | (rename_i h1; cases h1; done) | (cases h; done)
    rename_i a b h1; cases h1
    simp only [Bool.and_eq_true] at h
    have h2 := Nat.eq_of_beq_eq_true h.1
    have : a = ByteArray.mk #[] := by
      cases a with
      | mk d =>
        have : d.size = 0 := h2
        rw [Array.eq_empty_of_size_eq_zero this]
    subst this
    rfl
  | .cx k, zs, h => by
    obtain ⟨z, hz, h'⟩ := eqZs_one h
    subst hz
    clear h
    have h := h'
    clear h'
    unfold eqZ at h
    split at h
    any_goals first | (rename_i h1; cases h1; done) | (cases h; done)
    rename_i h1; cases h1
    simp only [Bool.and_eq_true] at h
    obtain ⟨h1, ⟨h2, h3⟩, h4⟩ := h
    obtain rfl := eqK_spec h1
    obtain rfl := Nat.eq_of_beq_eq_true h2
    obtain rfl := Nat.eq_of_beq_eq_true h3
    exact ⟨0, 0, rfl, cn0 _, cn0 _, lim0 _, lim0 _⟩
  | .ls e, zs, h => by
    obtain ⟨z, hz, h'⟩ := eqZs_one h
    subst hz
    clear h
    have h := h'
    clear h'
    unfold eqZ at h
    split at h
    any_goals first | (rename_i h1; cases h1; done) | (cases h; done)
    exact ⟨none, 0, rfl, Nat.le_refl _, fun _ => rfl, fun h => by simp [Sh.dflt] at h⟩
  | .pair a b, zs, h => by
    obtain ⟨z1, z2, rfl, h1, h2, h3⟩ := eqZs_append h
    rw [zeroV_length] at h3
    refine ⟨relT_lt a _ (fun k u hk hz => ?_) (zero_rel a z1 h1), relT_mono (fun _ _ h => h) b _ (fun k u hz => ?_) (zero_rel b z2 h2)⟩
    · show (z1 ++ z2)[k]? = some u
      rw [List.getElem?_append_left (by omega)]; exact hz
    · show (z1 ++ z2)[a.size + k]? = some u
      rw [List.getElem?_append_right (by omega), h3]
      have : a.size + k - a.size = k := by omega
      rw [this]; exact hz

theorem elemOk_spec {T : TypeId} {e : Sh} (h : elemOk P T e = true) : ∃ E i z, P.underlying T = some (.slice E) ∧ P.info? E = some i ∧ i.zero = some z ∧ i.size = e.size ∧ eqZs z.cells.toList (zeroV e) = true ∧ i.bytes ≤ 4096 := by
  unfold elemOk at h
  split at h
  · rename_i E hE
    split at h
    · rename_i i hi
      split at h
      · rename_i z hz
        simp only [Bool.and_eq_true] at h
        exact ⟨E, i, z, hE, hi, hz, Nat.eq_of_beq_eq_true h.1, h.2.1, Nat.le_of_ble_eq_true h.2.2⟩
      · cases h
    · cases h
  · cases h

theorem eqZs_length : ∀ {as bs : List Value}, eqZs as bs = true → as.length = bs.length
  | [], [], _ => rfl
  | [], _ :: _, h => by cases h
  | _ :: _, [], h => by cases h
  | a :: as, b :: bs, h => by
    simp only [eqZs, Bool.and_eq_true] at h
    simp [eqZs_length h.2]

theorem made_rel {m : Nat → Option Obj} {e : Sh} {z : Value} (hz : eqZs z.cells.toList (zeroV e) = true) {c i : Nat} (hi : i < c) : relT m e e.dflt (fun k u => (madeCells z.cells (c * e.size))[i * e.size + k]? = some u) := by
  have hzl : z.cells.size = e.size := by have := eqZs_length hz; rw [zeroV_length] at this; simpa using this
  refine relT_lt e _ (fun k u hk hu => ?_) (zero_rel e _ hz)
  have hlt : i * e.size + k < c * e.size := by
    have : (i + 1) * e.size ≤ c * e.size := Nat.mul_le_mul_right _ hi
    rw [Nat.add_mul] at this; omega
  have hmod : (i * e.size + k) % z.cells.size = k := by rw [hzl, Nat.mul_comm, Nat.mul_add_mod, Nat.mod_eq_of_lt hk]
  have hk' : k < z.cells.size := by omega
  show _ = some u
  simp only [madeCells, Array.getElem?_map, Array.getElem?_range, hlt]
  simp [hmod, hk'] at hu ⊢
  exact hu

theorem makeSlice_sound {o : Oper} {s : St} {T : TypeId} {len cap : Operand} {e : Sh} {n c : Int} (ho : o.op = .makeSlice T len cap) (he : elemOk P T e = true) (hl : idxOf (s.ev len) = some n) (hc : idxOf (s.ev cap) = some c)
    (h0 : 0 ≤ n) (h1 : n ≤ c) (h2 : c ≤ (mostLen : Int)) : EffOk P o s (.gen (bornSt s o.dst e (List.replicate n.toNat e.dflt))) := by
  obtain ⟨E, i, z, hE, hi, hz, hsz, hzz, hby⟩ := elemOk_spec he
  have idx : ∀ {cv : CV} {m : Int} {g : Gh} {y : Value}, idxOf cv = some m → relV g cv y → ∃ k, y = .int k m := fun {cv m g y} h hr => by
    unfold idxOf at h
    split at h
    · cases h; exact ⟨_, hr⟩
    · cases h
  intro X w0 m g a w K Q hsim hd hk
  obtain ⟨kl, el⟩ := idx hl (hsim.ev len)
  obtain ⟨kc, ec⟩ := idx hc (hsim.ev cap)
  have hcn : (i.bytes : Int) * c ≤ 281474976710656 := by
    have h3 : (i.bytes : Int) ≤ 4096 := by omega
    have h4 : c ≤ 1073741824 := by unfold mostLen at h2; omega
    have h5 : (i.bytes : Int) * c ≤ 4096 * c := Int.mul_le_mul_of_nonneg_right h3 (by omega)
    omega
  have h63 : c ≤ 9223372036854775807 := by unfold mostLen at h2; omega
  have hrun := run_make (P := P) w T E i z hE hi hz kl kc n c h0 h1 hcn h63
  refine wp_of_run (w' := w.alloc (.cells (madeCells z.cells (c.toNat * i.size)) E)) (v := .slice (some ⟨w.heap.size, 0, none⟩) n.toNat c.toNat) ?_ ?_
  · simp [execOp, ho, el, ec, hrun]
  · have hb := hsim.born (d := o.dst) hd (e := e) (l := List.replicate n.toNat e.dflt) (arr := madeCells z.cells (c.toNat * i.size)) (T := E) (c := c.toNat) (by rw [size_madeCells, hsz]) (by simp; omega) (fun j x hx => by
      rw [List.getElem?_replicate] at hx
      split at hx
      · cases hx
        rw [hsz]
        exact made_rel hzz (by omega)
      · cases hx)
    have e1 : (List.replicate n.toNat e.dflt).length = n.toNat := List.length_replicate ..
    rw [e1] at hb
    exact hk _ _ _ hb
end
end Go.Dv
