/- The model's operations do what 'cop' says (part 3): arrays of the call's own. -/
import Derived.Test.YtmhmedbhngmmpaaDe
import Derived.Deep.AppendSrc
import Derived.Laws.MakeOwn
namespace Go.Dv
open Go.RowKit Go.Cv

section
variable {P : Program} {α : Type}

theorem castLs_spec {e' e : Sh} {l : List e'.Ty} {x : List e.Ty} (h : castLs e' e l = some x) : ∃ he : e' = e, x = he ▸ l := by
  unfold castLs at h
  split at h
  · rename_i he; cases h; exact ⟨he, rfl⟩
  · cases h

theorem decD_sound {g : Gh} {bw : Bool} (hsub : ∀ k o, g.im k = some o → g.bi k = some o) : ∀ (s : Sh) (f : Nat → CS) (x : s.Ty) (A : Nat → Value → Prop), decD bw s f = some x → (∀ j, j < s.size → ∃ u, A j u ∧ rel g (f j) u) → relT (g.mem bw) s x A := by
  intro s
  induction s with
  | fl k =>
    intro f x A h hf
    obtain ⟨u, h1, h2⟩ := hf 0 (by simp [Sh.size])
    simp only [decD] at h
    split at h
    · rename_i k' n hc
      cases hk : eqK k' k
      · rw [hk] at h; cases h
      · rw [hk] at h; cases h
        obtain rfl := eqK_spec hk
        rw [hc] at h2
        obtain ⟨m, rfl, h3, h4⟩ := h2
        exact ⟨m, h1, h3, h4⟩
    · cases h
  | int k =>
    intro f x A h hf
    obtain ⟨u, h1, h2⟩ := hf 0 (by simp [Sh.size])
    simp only [decD] at h
    split at h
    · rename_i k' n hc
      cases hk : eqI k' k
      · rw [hk] at h; cases h
      · rw [hk] at h; cases h
        obtain rfl := eqI_spec hk
        rw [hc] at h2
        obtain rfl : u = _ := h2
        exact h1
    · cases h
  | bool =>
    intro f x A h hf
    obtain ⟨u, h1, h2⟩ := hf 0 (by simp [Sh.size])
    simp only [decD] at h
    split at h
    · rename_i b hc
      cases h
      rw [hc] at h2
      obtain rfl : u = _ := h2
      exact h1
    · cases h
  | str =>
    intro f x A h hf
    obtain ⟨u, h1, h2⟩ := hf 0 (by simp [Sh.size])
    simp only [decD] at h
    split at h
    · rename_i b hc
      cases h
      rw [hc] at h2
      obtain rfl : u = _ := h2
      exact h1
    · cases h
  | cx k =>
    intro f x A h hf
    obtain ⟨u, h1, h2⟩ := hf 0 (by simp [Sh.size])
    simp only [decD] at h
    split at h
    · rename_i k' a b hc
      cases hk : eqK k' k
      · rw [hk] at h; cases h
      · rw [hk] at h; cases h
        obtain rfl := eqK_spec hk
        rw [hc] at h2
        obtain ⟨c, d, rfl, h3⟩ := h2
        exact ⟨c, d, h1, h3⟩
    · cases h
  | ls e _ =>
    intro f x A h hf
    obtain ⟨u, h1, h2⟩ := hf 0 (by simp [Sh.size])
    simp only [decD] at h
    split at h
    · rename_i bw' e' l hc
      rw [hc] at h2
      have h3 : (bw || !bw') = true := by
        cases hb : (bw || !bw')
        · rw [hb] at h; cases h
        · rfl
      rw [h3] at h
      simp only [cond_true] at h
      obtain ⟨rfl, h6⟩ := castLs_spec h
      have h6 : x = l := h6
      subst h6
      have h4 : relL (g.mem bw) e' x u := by
        refine relL_mono ?_ h2
        cases bw <;> cases bw' <;> first | (cases h3; done) | exact fun _ _ h => h | exact hsub
      obtain ⟨a, cap, rfl, h5⟩ := h4
      exact ⟨a, cap, h1, h5⟩
    · rename_i hc
      cases h
      rw [hc] at h2
      obtain rfl : u = _ := h2
      exact ⟨none, 0, h1, Nat.le_refl _, fun _ => rfl, fun h => by simp at h⟩
    · cases h
  | pair a b iha ihb =>
    intro f x A h hf
    simp only [decD] at h
    split at h
    · rename_i x1 x2 h1 h2
      cases h
      refine ⟨iha f x1 A h1 fun j hj => hf j (by simp [Sh.size]; omega), ihb _ x2 _ h2 fun j hj => hf (a.size + j) (by simp [Sh.size]; omega)⟩
    · cases h

theorem withArr_id (hp : Hp) (id : Nat) (c : CS) (o : Nat) : withArr hp id c id o = if o = 0 then some c else none := by
  cases o with
  | zero => simp [withArr]
  | succ o => have h : Nat.beq (o + 1) 0 = false := rfl
              simp [withArr, h]
theorem withArr_ne (hp : Hp) {id i : Nat} (c : CS) (o : Nat) (h : i ≠ id) : withArr hp id c i o = hp i o := by
  have : Nat.beq i id = false := by cases hb : Nat.beq i id; rfl; exact absurd (Nat.eq_of_beq_eq_true hb) h
  simp [withArr, this]

theorem Keep.setRow {X : Nat → Prop} {w0 w : World} (h : Keep X w0 w) {b : Nat} (hb : w0.heap.size ≤ b ∨ X b) (arr : Array Value) : Keep X w0 (w.setRow b arr) := by
  refine ⟨h.os, h.tape, h.output, by have := h.size; simpa using this, fun k hk hx => ?_⟩
  rw [setRow_other _ _ _ _ (fun e => by subst e; rcases hb with hb | hb; omega; exact hx hb)]
  exact h.block k hk hx

theorem WOk.setRow {X : Fr} {w0 : World} {g : Gh} {w : World} (hok : WOk X w0 g w) {id b : Nat} {arr : Array Value} {T : TypeId} (hb : g.β id = some b)
    (hh : w.heap[b]? = some (.cells arr T (0, 0))) (arr' : Array Value) : WOk X w0 g (w.setRow b arr') := by
  obtain ⟨h1, h2, h3⟩ := hok.fresh _ _ hb
  refine ⟨hok.keep.setRow (h1.imp_right And.left) _, hok.im, fun k o ho => ?_, hok.inj, fun i c hc => ?_, fun k c t fr hk hc => ?_, hok.base, hok.imf, hok.pin⟩
  · have hne : k ≠ b := fun e1 => by subst e1; rw [h3] at ho; cases ho
    rw [setRow_other _ _ _ _ hne]; exact hok.bi k o ho
  · obtain ⟨h4, h5, h6⟩ := hok.fresh _ _ hc
    exact ⟨h4, by simpa using h5, h6⟩
  · by_cases e1 : k = b
    · subst e1
      rw [setRow_heap w k arr arr' T (0, 0) hh] at hc
      cases hc; rfl
    · rw [setRow_other _ _ _ _ e1] at hc
      exact hok.fz k c t fr hk hc

/-- the state behind a change of one array's content, in its place -/
theorem Sim.arrSet {X : Fr} {w0 : World} {n : Nat} {s : St} {g : Gh} {a : Act} {w : World} (h : Sim X w0 n s g a w) {id b : Nat} {arr : Array Value} {T : TypeId} {e : Sh} {l : List e.Ty} (hb : g.β id = some b)
    (hh : w.heap[b]? = some (.cells arr T (0, 0))) (arr' : Array Value) (hr : ArrRel g (w.setRow b arr') id e l) :
    Sim X w0 n { s with hp := withArr s.hp id (.arr e l) } g a (w.setRow b arr') := by
  have hok := h.ok
  refine ⟨h.tm, h.len, h.df, hok.setRow hb hh arr', fun i o c hc => ?_, h.nx, fun i o c hc => ?_, h.lo, h.ln⟩
  · have hc : withArr s.hp id (.arr e l) i o = some c := hc
    by_cases e1 : i = id
    · subst e1
      rw [withArr_id] at hc
      split at hc
      · rename_i e2; cases hc; exact .inl ⟨e, l, rfl, e2, hr⟩
      · cases hc
    · rw [withArr_ne _ _ _ e1] at hc
      refine (h.cells _ _ _ hc).keep (Gh.le_refl g) rfl (fun b' hb' => setRow_other _ _ _ _ fun e2 => ?_)
      subst e2
      exact e1 (hok.inj _ _ _ hb' hb)
  · have hc : withArr s.hp id (.arr e l) i o = some c := hc
    by_cases e1 : i = id
    · subst e1; exact h.nx _ _ hb
    · rw [withArr_ne _ _ _ e1] at hc; exact h.hx _ _ _ hc

theorem tm_put {g : Gh} {f : Nat → CV} {a : Act} {n : Nat} {d : Option Nat} {cv : CV} {v : Value} (h : ∀ t, relV g (f t) (a.tmps.getD t undef)) (hl : a.tmps.size = n)
    (hd : ∀ x, d = some x → x < n) (hv : relV g cv v) : ∀ t, relV g (upd f d cv t) ((a.put d v).tmps.getD t undef) := by
  intro t
  cases d with
  | none => exact h t
  | some d =>
    have hdn := hd d rfl
    by_cases e : t = d
    · subst e
      rw [upd_same]
      have : (a.put (some t) v).tmps.getD t undef = v := by simp [Act.put, hl, hdn]
      rw [this]; exact hv
    · rw [upd_ne _ _ e]
      have : (a.put (some d) v).tmps.getD t undef = a.tmps.getD t undef := by
        have hne : d ≠ t := fun h => e h.symm
        simp [Act.put, Array.getElem?_setIfInBounds_ne hne]
      rw [this]; exact h t

theorem put_size (a : Act) (d : Option Nat) (v : Value) : (a.put d v).tmps.size = a.tmps.size := by cases d <;> simp [Act.put]
theorem put_defers' (a : Act) (d : Option Nat) (v : Value) : (a.put d v).defers = a.defers := by cases d <;> simp [Act.put]

theorem Sim.ev {X : Fr} {w0 : World} {n : Nat} {s : St} {g : Gh} {a : Act} {w : World} (h : Sim X w0 n s g a w) (x : Operand) : relV g (s.ev x) (a.eval x) := by
  cases x with
  | tmp t => exact h.tm t
  | const v => exact relV_ofValue g v
  | global b => trivial
  | func f => exact ⟨#[], rfl, rfl, fun j u hu => by simp at hu⟩

theorem Sim.after {X : Fr} {w0 : World} {n : Nat} {s : St} {g g' : Gh} {a : Act} {w w' : World} (h : Sim X w0 n s g a w) (haf : After X w0 g w g' w') : Sim X w0 n s g' a w' :=
  ⟨fun t => relV_mono haf.le _ _ (h.tm t), h.len, h.df, haf.ok, fun id off c hc => (h.cells id off c hc).after haf h.ok, fun i b hb => h.nx i b (by rw [← haf.β]; exact hb), h.hx, h.lo, h.ln⟩

theorem Sim.put {X : Fr} {w0 : World} {n : Nat} {s : St} {g : Gh} {a : Act} {w : World} (h : Sim X w0 n s g a w) {d : Option Nat} {cv : CV} {v : Value} (hd : ∀ x, d = some x → x < n) (hv : relV g cv v) :
    Sim X w0 n (s.put d cv) g (a.put d v) w :=
  ⟨tm_put h.tm h.len hd hv, by rw [put_size]; exact h.len, by rw [put_defers']; exact h.df, h.ok, h.cells, h.nx, h.hx, h.lo, h.ln⟩

/-- where an element's cells lie -/
theorem cell_div {i j sz a b : Nat} (ha : a < sz) (hb : b < sz) (h : i * sz + a = j * sz + b) : i = j ∧ a = b := by
  have h0 : 0 < sz := by omega
  have h1 : (i * sz + a) / sz = i := by rw [Nat.mul_comm, Nat.mul_add_div h0, Nat.div_eq_of_lt ha, Nat.add_zero]
  have h2 : (j * sz + b) / sz = j := by rw [Nat.mul_comm, Nat.mul_add_div h0, Nat.div_eq_of_lt hb, Nat.add_zero]
  have h3 : i = j := by rw [← h1, ← h2, h]
  subst h3
  exact ⟨rfl, by omega⟩

theorem relT_lt {m : Nat → Option Obj} : ∀ (s : Sh) (x : s.Ty) {A A' : Nat → Value → Prop}, (∀ k u, k < s.size → A k u → A' k u) → relT m s x A → relT m s x A'
  | .fl _, _, _, _, hA, ⟨d, h1, h2⟩ => ⟨d, hA _ _ Nat.one_pos h1, h2⟩
  | .int _, _, _, _, hA, h1 => hA _ _ Nat.one_pos h1
  | .bool, _, _, _, hA, h1 => hA _ _ Nat.one_pos h1
  | .str, _, _, _, hA, h1 => hA _ _ Nat.one_pos h1
  | .cx _, _, _, _, hA, ⟨c, d, h1, h2⟩ => ⟨c, d, hA _ _ Nat.one_pos h1, h2⟩
  | .ls _, _, _, _, hA, ⟨a, cap, h1, h2⟩ => ⟨a, cap, hA _ _ Nat.one_pos h1, h2⟩
  | .pair a b, x, _, _, hA, ⟨h1, h2⟩ => ⟨relT_lt a x.1 (fun k u hk => hA k u (by simp [Sh.size]; omega)) h1, relT_lt b x.2 (fun k u hk => hA _ u (by simp [Sh.size]; omega)) h2⟩

theorem splice_get (arr : Array Value) (off : Nat) (us : List Value) (h : off + us.length ≤ arr.size) (j : Nat) :
    (arr.toList.take off ++ us ++ arr.toList.drop (off + us.length)).toArray[j]? = if off ≤ j ∧ j < off + us.length then us[j - off]? else arr[j]? := by
  simp only [List.getElem?_toArray]
  rw [List.append_assoc]
  rcases Nat.lt_or_ge j off with h1 | h1
  · rw [if_neg (by omega), List.getElem?_append_left (by simp; omega), List.getElem?_take_of_lt h1]; simp
  · rw [List.getElem?_append_right (by simp; omega)]
    have e : (arr.toList.take off).length = off := by simp; omega
    rw [e]
    rcases Nat.lt_or_ge j (off + us.length) with h2 | h2
    · rw [if_pos ⟨h1, h2⟩, List.getElem?_append_left (by omega)]
    · rw [if_neg (by omega), List.getElem?_append_right (by omega), List.getElem?_drop]
      simp
      congr 1; omega

theorem splice_size (arr : Array Value) (off : Nat) (us : List Value) (h : off + us.length ≤ arr.size) : (arr.toList.take off ++ us ++ arr.toList.drop (off + us.length)).toArray.size = arr.size := by
  simp; omega

/-- a store into an element -/
theorem store_pe_sound {o : Oper} {s : St} {T : TypeId} {ad x : Operand} {ag : Bool} {n id i k : Nat} {e : Sh} {l : List e.Ty} {cs : List CS} {y : e.Ty} (ho : o.op = .store T ad x) (hs : tyShape P T = some (ag, n))
    (ha : s.ev ad = .one (.s (.pe id e.size i k))) (hh : s.hp id 0 = some (.arr e l)) (hc : cellsOf (s.ev x) = some cs) (hi : i < l.length) (hk : k + cs.length ≤ e.size) (hn : cs.length = n) (hp : cs.all plain = true)
    (hy : decD false e (fun j => (over (cells false e (l.getD i e.dflt)) k cs).getD j .any) = some y) :
    EffOk P o s (.gen { tm := upd s.tm o.dst (ex undef), hp := withArr s.hp id (.arr e (l.set i y)), nx := s.nx, lo := s.lo }) := by
  intro X w0 m g a w K Q hsim hd hkk
  have hxa := hsim.ev x
  have hada := hsim.ev ad
  rw [ha] at hada
  obtain ⟨b, hb, hae⟩ := hada
  rcases hsim.cells _ _ _ hh with ⟨e', l', h1, _, har⟩ | ⟨_, _, _, _, _, _, _, h⟩
  · cases h1
    have har0 := har
    obtain ⟨b', arr, T', h4, h5, h6, h7⟩ := har.elem hi
    rw [hb] at h4; cases h4
    rcases har0 with ⟨e1, _⟩ | ⟨b', arr', T'', h8, h9, h10, h11, h12⟩
    · subst e1; simp at hi
    rw [hb] at h8; cases h8
    rw [h5] at h9; cases h9
    have hoff : i * e.size + k + cs.length ≤ arr.size := by omega
    obtain ⟨us, hu1, hu2, hu3⟩ := run_store_at ho hs hc hn hp hxa hae h5 hoff
    refine wp_of_skip hu3 (hkk g _ _ ?_)
    have hs2 := hsim.put (d := o.dst) (cv := ex undef) (v := undef) hd rfl
    refine hs2.arrSet hb h5 _ (.inr ⟨b, _, T', hb, setRow_heap w b arr _ T' _ h5, by rw [splice_size _ _ _ (by omega)]; exact h10, by simpa using h11, fun i' x' hx' => ?_⟩)
    rw [List.getElem?_set] at hx'
    by_cases e1 : i = i'
    · subst e1
      rw [if_pos rfl, if_pos hi] at hx'
      cases hx'
      refine decD_sound hsim.ok.im (bw := false) e _ y _ hy fun j hj => ?_
      have hcl := cells_length false e (l.getD i e.dflt)
      have hov : (over (cells false e (l.getD i e.dflt)) k cs).length = e.size := by rw [over_length (by omega)]; exact hcl
      have hg := over_get (cells := cells false e (l.getD i e.dflt)) (off := k) (cs := cs) (by omega) j
      by_cases hjk : k ≤ j ∧ j < k + cs.length
      · rw [if_pos hjk] at hg
        have h13 : j - k < cs.length := by omega
        have h14 : (over (cells false e (l.getD i e.dflt)) k cs).getD j .any = cs[j - k] := by rw [List.getD_eq_getElem?_getD, hg]; simp [h13]
        refine ⟨us[j - k], ?_, ?_⟩
        · show _ = some _
          rw [splice_get _ _ _ (by omega), if_pos (by omega)]
          have e2 : i * e.size + j - (i * e.size + k) = j - k := by omega
          rw [e2]; simp [hu1, h13]
        · show rel g ((over (cells false e (l.getD i e.dflt)) k cs).getD j .any) _
          rw [h14]
          exact hu2 (j - k) _ _ (by simp [h13]) (by simp [hu1, h13])
      · rw [if_neg hjk] at hg
        have h13 : j < (cells false e (l.getD i e.dflt)).length := by omega
        obtain ⟨u, h14, h15⟩ := h7 j (cells false e (l.getD i e.dflt))[j] (List.getElem?_eq_getElem h13)
        refine ⟨u, ?_, ?_⟩
        · show _ = some _
          rw [splice_get _ _ _ (by omega), if_neg (by omega)]
          exact h14
        · show rel g ((over (cells false e (l.getD i e.dflt)) k cs).getD j .any) _
          rw [List.getD_eq_getElem?_getD, hg, List.getElem?_eq_getElem h13]
          exact h15
    · rw [if_neg e1] at hx'
      refine relT_lt e x' (fun j u hj h13 => ?_) (h12 i' x' hx')
      show _ = some _
      rw [splice_get _ _ _ (by omega), if_neg (fun h14 => ?_)]
      · exact h13
      · have h15 := cell_div (i := i) (j := i') (sz := e.size) (a := (i' * e.size + j) - i * e.size) (b := j) (by omega) hj (by omega)
        exact e1 h15.1
  · exact h.elim
end
end Go.Dv
