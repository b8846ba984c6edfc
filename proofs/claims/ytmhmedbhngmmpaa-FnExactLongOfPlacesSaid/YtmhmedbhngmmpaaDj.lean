/- The model's operations do what 'cop' says (part 7): parts of lists, new lists, lengths; all operations. -/
import Derived.Test.YtmhmedbhngmmpaaDi
namespace Go.Dv
open Go.RowKit Go.Cv

section
variable {P : Program} {α : Type}

theorem idxOf_spec {cv : CV} {m : Int} {g : Gh} {y : Value} (h : idxOf cv = some m) (hr : relV g cv y) : ∃ k, y = .int k m := by
  unfold idxOf at h
  split at h
  · cases h; exact ⟨_, hr⟩
  · cases h

theorem optIdx_spec {ev : Operand → CV} {x : Option Operand} {m : Option Int} {g : Gh} {a : Act} (h : optIdx ev x = some m) (hr : ∀ y, x = some y → relV g (ev y) (a.eval y)) :
    (x = none ∧ m = none ∧ x.map a.eval = none) ∨ ∃ k i, m = some i ∧ x.map a.eval = some (.int k i) := by
  cases x with
  | none => cases h; exact .inl ⟨rfl, rfl, rfl⟩
  | some y =>
    simp only [optIdx] at h
    split at h
    · rename_i i hi; cases h
      obtain ⟨k, hk⟩ := idxOf_spec hi (hr y rfl)
      exact .inr ⟨k, i, rfl, by simp [hk]⟩
    · cases h

/-- the model's bounds -/
theorem run_sliceBounds (w : World) (isSlice : Bool) {len cap : Nat} {lo hi : Option Value} {l h : Option Int} (hl : (l = none ∧ lo = none) ∨ ∃ k i, l = some i ∧ lo = some (.int k i)) (hh : (h = none ∧ hi = none) ∨ ∃ k i, h = some i ∧ hi = some (.int k i))
    (h0 : 0 ≤ l.getD 0) (h1 : l.getD 0 ≤ h.getD len) (h2 : h.getD len ≤ cap) :
    (Instr.sliceBounds isSlice len cap lo hi none).run P w = .ok ((l.getD 0).toNat, (h.getD len).toNat, cap) w := by
  rcases hl with ⟨rfl, rfl⟩ | ⟨kl, il, rfl, rfl⟩ <;> rcases hh with ⟨rfl, rfl⟩ | ⟨kh, ih, rfl, rfl⟩
  · simp [Instr.sliceBounds]
  · simp at h0 h1 h2
    simp [Instr.sliceBounds, Instr.sliceBound, asIntOf, h1, h2]
  · simp at h0 h1 h2
    simp [Instr.sliceBounds, Instr.sliceBound, asIntOf, h0, h1]
  · simp at h0 h1 h2
    have h3 : (0 : Int) ≤ ih := by omega
    simp [Instr.sliceBounds, Instr.sliceBound, asIntOf, h0, h2, h3]
    intro h4; omega

/-- a part of a list of which nobody writes -/
theorem relL_part {m : Nat → Option Obj} {e : Sh} {xs : List e.Ty} {a : Option Addr} {cap lo hi : Nat} (h1 : xs.length ≤ cap) (h2 : a = none → cap = 0) (h3 : 0 < xs.length → ∃ b off, a = some ⟨b, off, none⟩ ∧ ∀ i x, xs[i]? = some x → relT m e x (fun k u => CellAt m b (off + i * e.size + k) u))
    (hlh : lo ≤ hi) (hhi : hi ≤ xs.length) : relL m e ((xs.take hi).drop lo) (.slice (if cap = lo then a else a.map (·.add (lo * e.size))) (hi - lo) (cap - lo)) := by
  have hlen : ((xs.take hi).drop lo).length = hi - lo := by rw [List.length_drop, List.length_take]; omega
  refine ⟨if cap = lo then a else a.map (·.add (lo * e.size)), cap - lo, by rw [hlen], by omega, fun hn => ?_, fun h0 => ?_⟩
  · split at hn
    · omega
    · cases a with
      | none => have := h2 rfl; omega
      | some a => cases hn
  · rw [hlen] at h0
    obtain ⟨b, off, rfl, h4⟩ := h3 (by omega)
    have hadd : (⟨b, off, none⟩ : Addr).add (lo * e.size) = ⟨b, off + lo * e.size, none⟩ := by unfold Addr.add; split <;> simp_all
    refine ⟨b, off + lo * e.size, ?_, fun i x hx => ?_⟩
    · rw [if_neg (by omega)]; simp [hadd]
    · rw [List.getElem?_drop] at hx
      have hlt : lo + i < hi := by
        rcases Nat.lt_or_ge (lo + i) hi with h5 | h5
        · exact h5
        · rw [List.getElem?_eq_none (by rw [List.length_take]; omega)] at hx; cases hx
      rw [List.getElem?_take_of_lt hlt] at hx
      have h5 := h4 (lo + i) x hx
      have e1 : off + (lo + i) * e.size = off + lo * e.size + i * e.size := by rw [Nat.add_mul]; omega
      rw [e1] at h5
      exact h5

theorem slice_sound {o : Oper} {s : St} {T : TypeId} {x : Operand} {lo hi : Option Operand} {l h : Option Int} {K : Eff → Tr α} {rv : α} (ho : o.op = .slice T x lo hi none) (hl : optIdx s.ev lo = some l) (hh : optIdx s.ev hi = some h)
    (hk : (match tyElem P T with
        | some sz => csliceL (s.ev x) l h sz K
        | none => brT (tyString P T) (csliceS (s.ev x) l h K) none) = some rv) : ∃ e, K e = some rv ∧ EffOk P o s e := by
  have idx : ∀ {g : Gh} {a : Act}, (∀ x ∈ o.op.operands.toList, relV g (s.ev x) (a.eval x)) → ((l = none ∧ lo.map a.eval = none) ∨ ∃ k i, l = some i ∧ lo.map a.eval = some (.int k i)) ∧ ((h = none ∧ hi.map a.eval = none) ∨ ∃ k i, h = some i ∧ hi.map a.eval = some (.int k i)) := by
    intro g a hops
    constructor
    · rcases optIdx_spec (a := a) hl (fun y hy => hops y (by rw [ho]; simp [Op.operands, hy])) with ⟨_, h2, h3⟩ | h2
      · exact .inl ⟨h2, h3⟩
      · exact .inr h2
    · rcases optIdx_spec (a := a) hh (fun y hy => hops y (by rw [ho]; simp [Op.operands, hy])) with ⟨_, h2, h3⟩ | h2
      · exact .inl ⟨h2, h3⟩
      · exact .inr h2
  split at hk
  · rename_i sz hsz
    obtain ⟨E, inf, hE, hi', hs'⟩ := tyElem_spec hsz
    unfold csliceL at hk
    split at hk
    · rename_i bw e xs hx
      -- a list
      have main : ∀ (hh' : Nat), (h.getD xs.length).toNat = hh' → Nat.beq e.size sz = true → 0 ≤ l.getD 0 → l.getD 0 ≤ h.getD xs.length → h.getD xs.length ≤ xs.length → EffOk P o s (.val (sc (.ls bw e ((xs.take hh').drop (l.getD 0).toNat))) []) := by
        intro hh' he h1 h2 h3 h4
        have h1 := Nat.eq_of_beq_eq_true h1
        refine val_of_run fun g w a hops => ?_
        have hxa := hops x (by rw [ho]; simp [Op.operands])
        rw [hx] at hxa
        obtain ⟨ad, cap, hv, h5, h6, h7⟩ := hxa
        obtain ⟨i1, i2⟩ := idx hops
        have hb := run_sliceBounds (P := P) w true (len := xs.length) (cap := cap) i1 i2 h2 h3 (by omega)
        subst he
        refine ⟨_, 0, ?_, relL_part (m := g.mem bw) h5 h6 h7 (lo := (l.getD 0).toNat) (hi := (h.getD xs.length).toNat) (by omega) (by omega)⟩
        simp [execOp, ho, hv, Instr.sliceAt, Instr.slice, run_underlying hE, hb, sizeOf, typeInfo, hi', hs', ← h1]
        rfl
      split at hk
      · have hbr := brT_req hk; clear hk; obtain ⟨hc, hk⟩ := hbr
        simp only [Bool.and_eq_true, decide_eq_true_eq] at hc
        refine ⟨_, hk, ?_⟩
        have := main xs.length (by simp) hc.1 hc.2.1 (by simpa using hc.2.2) (by simp)
        rw [List.take_length] at this
        exact this
      · have hbr := brT_req hk; clear hk; obtain ⟨hc, hk⟩ := hbr
        simp only [Bool.and_eq_true, decide_eq_true_eq] at hc
        exact ⟨_, hk, main _ (by simp) hc.1.1 hc.1.2.1 (by simpa using hc.1.2.2) (by simpa using hc.2)⟩
    · rename_i id n hx
      have hbr := brT_req hk; clear hk; obtain ⟨hc, hk⟩ := hbr
      simp only [Bool.and_eq_true, decide_eq_true_eq] at hc
      obtain ⟨⟨h1, h2⟩, h3⟩ := hc
      refine ⟨_, hk, val_of_run fun g w a hops => ?_⟩
      have hxa := hops x (by rw [ho]; simp [Op.operands])
      rw [hx] at hxa
      obtain ⟨i1, i2⟩ := idx hops
      rcases hxa with ⟨rfl, hv⟩ | ⟨b, hb, hv, hle⟩
      · have hb := run_sliceBounds (P := P) w true (len := 0) (cap := 0) i1 i2 h1 h2 (by simpa using h3)
        have e1 : (l.getD 0).toNat = 0 := by omega
        have e2 : (h.getD ((0 : Nat) : Int)).toNat = 0 := by omega
        have e3 : (h.getD ((0 : Nat) : Int) - l.getD 0).toNat = 0 := by omega
        rw [e1, e2] at hb
        refine ⟨.slice none 0 0, 0, ?_, none, 0, by rw [e3], by omega, fun _ => rfl, fun h0 => by omega⟩
        simp [execOp, ho, hv, Instr.sliceAt, Instr.slice, run_underlying hE, hb, sizeOf, typeInfo, hi']
        rfl
      · have hbn := run_sliceBounds (P := P) w true (len := n) (cap := g.cp id) i1 i2 h1 h2 (by omega)
        refine ⟨.slice (if g.cp id = (l.getD 0).toNat then some ⟨b, 0, none⟩ else (some (⟨b, 0, none⟩ : Addr)).map (·.add ((l.getD 0).toNat * sz))) ((h.getD n).toNat - (l.getD 0).toNat) (g.cp id - (l.getD 0).toNat), 0, ?_, (if g.cp id = (l.getD 0).toNat then some ⟨b, 0, none⟩ else (some (⟨b, 0, none⟩ : Addr)).map (·.add ((l.getD 0).toNat * sz))), g.cp id - (l.getD 0).toNat, ?_, ?_, ?_, ?_⟩
        · simp [execOp, ho, hv, Instr.sliceAt, Instr.slice, run_underlying hE, hbn, sizeOf, typeInfo, hi', hs']
          rfl
        · have : (h.getD n - l.getD 0).toNat = (h.getD n).toNat - (l.getD 0).toNat := by omega
          rw [this]
        · omega
        · intro hn
          split at hn <;> cases hn
        · intro h0
          have hadd : (⟨b, 0, none⟩ : Addr).add ((l.getD 0).toNat * sz) = ⟨b, (l.getD 0).toNat * sz, none⟩ := by unfold Addr.add; split <;> simp_all
          exact ⟨b, hb, by rw [if_neg (by omega)]; simp [hadd]⟩
    · cases hk
  · have hbr := brT_req hk; clear hk; obtain ⟨hT, hk⟩ := hbr
    have hT' : P.underlying T = some .string := by
      unfold tyString at hT
      split at hT
      · assumption
      · cases hT
    unfold csliceS at hk
    split at hk
    · rename_i t hx
      have hbr := brT_req hk; clear hk; obtain ⟨hc, hk⟩ := hbr
      simp only [Bool.and_eq_true, decide_eq_true_eq] at hc
      obtain ⟨⟨h1, h2⟩, h3⟩ := hc
      refine ⟨_, hk, val_of_run fun g w a hops => ?_⟩
      have hxa := hops x (by rw [ho]; simp [Op.operands])
      rw [hx] at hxa
      have hv : a.eval x = .string t := hxa
      obtain ⟨i1, i2⟩ := idx hops
      have hb := run_sliceBounds (P := P) w false (len := t.size) (cap := t.size) i1 i2 h1 h2 h3
      refine ⟨.string (t.extract (l.getD 0).toNat (h.getD t.size).toNat), 0, ?_, rfl⟩
      simp [execOp, ho, hv, Instr.sliceAt, Instr.slice, run_underlying hT', hb]
      rfl
    · cases hk

theorem decRow_spec {e : Sh} {f : Nat → CS} : ∀ {k i : Nat} {l : List e.Ty}, decRow e f k i = some l → l.length = k ∧ ∀ j x, l[j]? = some x → decD false e (fun q => f ((i + j) * e.size + q)) = some x
  | 0, i, l, h => by simp only [decRow] at h; cases h; exact ⟨rfl, fun j x hx => by simp at hx⟩
  | k + 1, i, l, h => by
    simp only [decRow] at h
    split at h
    · rename_i x xs h1 h2
      cases h
      obtain ⟨h3, h4⟩ := decRow_spec h2
      refine ⟨by simp [h3], fun j y hy => ?_⟩
      cases j with
      | zero => simp at hy; subst hy; exact h1
      | succ j =>
        have := h4 j y (by simpa using hy)
        have e1 : i + (j + 1) = i + 1 + j := by omega
        rw [e1]; exact this
    · cases h

/-- a literal of a list: its row -/
theorem run_buildSlice_row {g : Gh} {o : Oper} {s : St} {T : TypeId} {len : Nat} {parts : Array (Nat × Operand)} {e : Sh} {cs : List CS} {ps : List (Nat × List CS)} {l : List e.Ty} (ho : o.op = .buildSlice T len parts) (hok : elemOk P T e = true)
    (hps : partsOf s.ev parts.toList = some ps) (hf : fillC ((List.range len).map fun i => (i * e.size, e.size)) ((List.range len).flatMap fun _ => cells false e e.dflt) ps = some cs) (hl : len * e.size ≤ 16777216) (hd : decRow e (fun j => cs.getD j .any) len 0 = some l)
    (hsub : ∀ k o, g.im k = some o → g.bi k = some o) {w : World} {a : Act} (hops : ∀ x ∈ o.op.operands.toList, relV g (s.ev x) (a.eval x)) :
    ∃ arr E, arr.size = len * e.size ∧ (execOp a.eval o).run P w = .ok (.value (.slice (some ⟨w.heap.size, 0, none⟩) len len)) (w.alloc (.cells arr E)) ∧ l.length = len ∧
      ∀ i x, l[i]? = some x → relT g.im e x (fun k u => arr[i * e.size + k]? = some u) := by
  have hx : ∀ x ∈ parts.toList, relV g (s.ev x.2) (a.eval x.2) := fun x hx => hops x.2 (by
    rw [ho]; simp only [Op.operands]; exact List.mem_map_of_mem hx)
  obtain ⟨h1, h2⟩ := partsOf_rel hps hx
  obtain ⟨E, i, z, hu, hi, hz', hsz, hzz, _⟩ := elemOk_spec hok
  have hzs : z.cells.size = e.size := by have := eqZs_length hzz; rw [zeroV_length] at this; simpa using this
  have hp := size_pos e
  have hcl := cells_length false e e.dflt
  have hmade : ∀ j, j < len * e.size → (madeCells z.cells (len * e.size))[j]? = z.cells[j % e.size]? := fun j hj => by
    have h7 : j % e.size < z.cells.size := by rw [hzs]; exact Nat.mod_lt _ hp
    simp [madeCells, hj, hzs]
    rw [getElem!_pos z.cells _ h7, Array.getElem?_eq_getElem h7]
  have hrel0 : CellsRel g ((List.range len).flatMap fun _ => cells false e e.dflt) (madeCells z.cells (len * e.size)) := by
    refine ⟨by rw [flat_length, size_madeCells, hcl], fun j c u h3 h4 => ?_⟩
    obtain ⟨h5, h6⟩ := flat_get _ _ j c h3
    rw [hcl] at h5 h6
    rw [hmade j h6] at h4
    obtain ⟨u', h7, h8⟩ := (relT_cells (g := g) (bw := false) e e.dflt _).1 (zero_rel (m := g.im) e _ hzz) _ c h5
    have h7 : z.cells.toList[j % e.size]? = some u' := h7
    have h9 : z.cells[j % e.size]? = some u' := by simpa using h7
    rw [h9] at h4; cases h4; exact h8
  obtain ⟨arr', h3, h4⟩ := fill_sound (g := g) hf hrel0 h1 h2
  have h3' : Instr.fill (fun i => some (i * e.size, e.size)) (madeCells z.cells (len * e.size)) (parts.map fun (i, x) => (i, a.eval x)).toList = some arr' := by
    refine fill_congr (fun i x hp => ?_) (by simpa using h3)
    have := slice_places len e.size i
    have hp' : ((List.range len).map fun i => (i * e.size, e.size))[i]? = some x := by simpa using hp
    rw [this] at hp'
    split at hp'
    · exact hp'
    · cases hp'
  have hsize : arr'.size = len * e.size := by
    have : arr'.size = (madeCells z.cells (len * e.size)).size := by
      have hlen : ∀ {vs : List (Nat × Value)} {p : Nat → Option (Nat × Nat)} {a b : Array Value}, Instr.fill p a vs = some b → b.size = a.size := by
        intro vs
        induction vs with
        | nil => intro p a b h; simp only [Instr.fill] at h; cases h; rfl
        | cons v vs ih =>
          intro p a b h
          obtain ⟨i, v⟩ := v
          simp only [Instr.fill] at h
          split at h
          · cases h
          · rename_i off sz _
            split at h
            · cases h
            · rename_i hcond
              rw [ih h]
              have := (fill_fold off v.cells.toList 0 a (by simp at hcond ⊢; omega)).1
              rw [← this, ← Array.foldl_toList, Array.toList_zipIdx]
      exact hlen h3'
    rw [this, size_madeCells]
  obtain ⟨hd1, hd2⟩ := decRow_spec hd
  refine ⟨arr', E, hsize, ?_, hd1, fun i x hx => ?_⟩
  · have hgt : ¬ 16777216 < len * e.size := by omega
    have h3e := h3'
    rcases Nat.eq_zero_or_pos (len * e.size) with h0 | h0
    · rw [h0] at h3e
      simp [madeCells, Array.range_zero'] at h3e
      simp [execOp, ho, Instr.buildSlice, run_underlying hu, sizeOf, typeInfo, hi, hsz, newRow, h0, Array.range_zero', h3e]
    · have hne : len * e.size ≠ 0 := by omega
      simp [madeCells] at h3e
      simp [execOp, ho, Instr.buildSlice, run_underlying hu, sizeOf, typeInfo, hi, hsz, newRow, zeroValue, hz', hgt, h3e]
      intro h7; omega
  · have hi' : i < len := by
      rw [← hd1]
      rcases Nat.lt_or_ge i l.length with h | h
      · exact h
      · rw [List.getElem?_eq_none h] at hx; cases hx
    have h5 := hd2 i x hx
    refine decD_sound hsub (bw := false) e _ x _ h5 fun j hj => ?_
    have hlt : i * e.size + j < len * e.size := by
      have : (i + 1) * e.size ≤ len * e.size := Nat.mul_le_mul_right _ hi'
      rw [Nat.add_mul] at this; omega
    have hlt1 : i * e.size + j < arr'.size := by omega
    have hlt2 : i * e.size + j < cs.length := by have := h4.1; omega
    refine ⟨arr'[i * e.size + j], by simp [hlt1], ?_⟩
    have := h4.2 (i * e.size + j) cs[i * e.size + j] arr'[i * e.size + j] (by simp [hlt2]) (by simp [hlt1])
    rw [Nat.zero_add]
    have e2 : cs.getD (i * e.size + j) .any = cs[i * e.size + j] := by simp [List.getD, hlt2]
    rw [e2]; exact this

theorem buildSlice_sound {o : Oper} {s : St} {T : TypeId} {len : Nat} {parts : Array (Nat × Operand)} {e : Sh} {cs : List CS} {ps : List (Nat × List CS)} {l : List e.Ty} (ho : o.op = .buildSlice T len parts) (hok : elemOk P T e = true)
    (hps : partsOf s.ev parts.toList = some ps) (hf : fillC ((List.range len).map fun i => (i * e.size, e.size)) ((List.range len).flatMap fun _ => cells false e e.dflt) ps = some cs) (hl : len * e.size ≤ 16777216) (hd : decRow e (fun j => cs.getD j .any) len 0 = some l) :
    EffOk P o s (.val (sc (.ls false e l)) []) ∧ EffOk P o s (.gen (bornSt s o.dst e l)) := by
  constructor
  · refine ⟨(fun _ h => by cases h), fun X g w0 w a K Q hops hdeps hw _ hk => ?_⟩
    obtain ⟨arr, E, h1, h2, h3, h4⟩ := run_buildSlice_row (w := w) ho hok hps hf hl hd hw.im hops
    let g' : Gh := { β := g.β, cp := g.cp, im := fun k => if k = w.heap.size then some (.cells arr E) else g.im k, bi := fun k => if k = w.heap.size then some (.cells arr E) else g.bi k }
    have hlt : ∀ k o', g.bi k = some o' → k < w.heap.size := fun k o' hk' => lt_of_block (hw.bi _ _ hk')
    have hle : g.le g' := ⟨fun _ _ h => ⟨h, rfl⟩, fun k o' hk' => by
      show (if k = w.heap.size then some (Obj.cells arr E) else g.im k) = some o'
      rw [if_neg (by have := hlt k o' (hw.im _ _ hk'); omega)]; exact hk', fun k o' hk' => by
      show (if k = w.heap.size then some (Obj.cells arr E) else g.bi k) = some o'
      rw [if_neg (by have := hlt k o' hk'; omega)]; exact hk'⟩
    have haf : After X w0 g w g' (w.alloc (.cells arr E)) := by
      refine ⟨hle, rfl, ⟨hw.keep.alloc _, fun k o' hk' => ?_, fun k o' hk' => ?_, hw.inj, fun i b hb => ?_, fz_push (p := fun k => w0.heap.size ≤ k ∨ X.wr k) hw.fz _ _, fun k o' hk' => hle.im k o' (hw.base k o' hk'), fun k o' hk' => ?_, hw.pin⟩, by simp, fun k hk' => Below.heap_alloc _ _ _ hk'⟩
      · have hk'' : (if k = w.heap.size then some (Obj.cells arr E) else g.im k) = some o' := hk'
        show (if k = w.heap.size then some (Obj.cells arr E) else g.bi k) = some o'
        by_cases e1 : k = w.heap.size
        · rw [if_pos e1] at hk'' ⊢; exact hk''
        · rw [if_neg e1] at hk'' ⊢; exact hw.im _ _ hk''
      · have hk'' : (if k = w.heap.size then some (Obj.cells arr E) else g.bi k) = some o' := hk'
        by_cases e1 : k = w.heap.size
        · rw [if_pos e1] at hk''; cases hk''; subst e1
          exact heap_alloc_same _ _
        · rw [if_neg e1] at hk''
          rw [Below.heap_alloc _ _ _ (hlt k o' hk'')]; exact hw.bi _ _ hk''
      · obtain ⟨h5, h6, h7⟩ := hw.fresh i b hb
        refine ⟨h5, by simp; omega, ?_⟩
        show (if b = w.heap.size then some (Obj.cells arr E) else g.bi b) = none
        rw [if_neg (by omega)]; exact h7
      · have hk'' : (if k = w.heap.size then some (Obj.cells arr E) else g.im k) = some o' := hk'
        by_cases e1 : k = w.heap.size
        · right; rw [e1]; exact hw.keep.size
        · rw [if_neg e1] at hk''; exact hw.imf _ _ hk''
    refine wp_of_run h2 (hk _ g' _ haf ?_)
    refine ⟨some ⟨w.heap.size, 0, none⟩, len, by rw [h3], by omega, fun h => (by cases h), fun h0 => ⟨w.heap.size, 0, rfl, fun i x hx => relT_mono (fun k o' hk' => hle.im k o' hk') e x (fun k u hu => ?_) (h4 i x hx)⟩⟩
    refine ⟨arr, E, (0, 0), ?_, by rw [Nat.zero_add]; exact hu⟩
    show (if w.heap.size = w.heap.size then some (Obj.cells arr E) else _) = _
    rw [if_pos rfl]
  · intro X w0 n g a w K Q hsim hdst hk
    obtain ⟨arr, E, h1, h2, h3, h4⟩ := run_buildSlice_row (w := w) ho hok hps hf hl hd hsim.ok.im (fun x _ => hsim.ev x)
    have hb := hsim.born (d := o.dst) hdst (e := e) (l := l) (arr := arr) (T := E) (c := len) h1 (by omega) h4
    rw [h3] at hb
    exact wp_of_run h2 (hk _ _ _ hb)

end
end Go.Dv
