/- A function's contract out of its evaluation. -/
import Derived.Test.YtmhmedbhngmmpaaDo
namespace Go.Dv
open Go.RowKit Go.Cv

section
variable {P : Program}

/-- a cell of the caller's, of which nobody writes for the time of the call -/
def DepOk (g gc : Gh) (w : World) (q : Dep) : Prop := CellRel g w q.1 q.2.1 q.2.2 ∧ ∀ b, g.β q.1 = some b → gc.bi b = w.heap[b]?

theorem decX_view {hp : Hp} {g gc : Gh} {w : World} (hb : ∀ k o, g.bi k = some o → gc.bi k = some o) (hi : ∀ k o, g.im k = some o → g.bi k = some o) : ∀ (s : Sh) (f : Nat → CS) (x : s.Ty) (d : List Dep) (A : Nat → Value → Prop), decX hp s f = some (x, d) →
    (∀ q ∈ d, DepOk g gc w q) → (∀ j, j < s.size → ∃ u, A j u ∧ rel g (f j) u) → relT gc.bi s x A := by
  intro s
  induction s with
  | fl k =>
    intro f x d A h _ hf
    obtain ⟨u, h1, h2⟩ := hf 0 (by simp [Sh.size])
    simp only [decX] at h
    split at h
    · rename_i k' n hc
      cases hk : eqK k' k
      · rw [hk] at h; cases h
      · rw [hk] at h; cases h
        obtain rfl := eqK_spec hk
        rw [hc] at h2
        obtain ⟨m, rfl, h3, h4⟩ := h2
        exact ⟨m, h1, h3, h4⟩
    · cases h
  | int k =>
    intro f x d A h _ hf
    obtain ⟨u, h1, h2⟩ := hf 0 (by simp [Sh.size])
    simp only [decX] at h
    split at h
    · rename_i k' n hc
      cases hk : eqI k' k
      · rw [hk] at h; cases h
      · rw [hk] at h; cases h
        obtain rfl := eqI_spec hk
        rw [hc] at h2
        obtain rfl : u = _ := h2
        exact h1
    · cases h
  | bool =>
    intro f x d A h _ hf
    obtain ⟨u, h1, h2⟩ := hf 0 (by simp [Sh.size])
    simp only [decX] at h
    split at h
    · rename_i b hc
      cases h
      rw [hc] at h2
      obtain rfl : u = _ := h2
      exact h1
    · cases h
  | str =>
    intro f x d A h _ hf
    obtain ⟨u, h1, h2⟩ := hf 0 (by simp [Sh.size])
    simp only [decX] at h
    split at h
    · rename_i b hc
      cases h
      rw [hc] at h2
      obtain rfl : u = _ := h2
      exact h1
    · cases h
  | cx k =>
    intro f x d A h _ hf
    obtain ⟨u, h1, h2⟩ := hf 0 (by simp [Sh.size])
    simp only [decX] at h
    split at h
    · rename_i k' a b hc
      cases hk : eqK k' k
      · rw [hk] at h; cases h
      · rw [hk] at h; cases h
        obtain rfl := eqK_spec hk
        rw [hc] at h2
        obtain ⟨c, d, rfl, h3⟩ := h2
        exact ⟨c, d, h1, h3⟩
    · cases h
  | ls e _ =>
    intro f x d A h hd hf
    obtain ⟨u, h1, h2⟩ := hf 0 (by simp [Sh.size])
    simp only [decX] at h
    -- a row of an array of the caller's
    have row : ∀ (id : Nat) (l : List e.Ty) (lo n : Nat), DepOk g gc w (id, 0, .arr e l) → lo + n ≤ l.length → x = (l.drop lo).take n → (∃ a cap, u = .slice a n cap ∧ n ≤ cap ∧ (a = none → cap = 0) ∧ (0 < n → ∃ b, g.β id = some b ∧ a = some ⟨b, lo * e.size, none⟩)) → relT gc.bi (.ls e) x A := by
      rintro id l lo n ⟨hc, hk⟩ hle rfl ⟨a, cap, rfl, h3, h4, h5⟩
      have hlen : ((l.drop lo).take n).length = n := by rw [List.length_take, List.length_drop]; omega
      refine ⟨a, cap, by rw [hlen]; exact h1, by omega, h4, fun h0 => ?_⟩
      rw [hlen] at h0
      obtain ⟨b, h6, h7⟩ := h5 h0
      refine ⟨b, lo * e.size, h7, fun i y hy => ?_⟩
      rcases hc with ⟨e', l', h8, _, h9⟩ | ⟨_, _, _, _, _, _, _, hf⟩
      · cases h8
        rcases h9 with ⟨h9, h10⟩ | ⟨b', arr, T, h9, h10, h11, h12, h13⟩
        · rw [h6] at h10; cases h10
        · rw [h6] at h9; cases h9
          have hi' : i < n := by
            rcases Nat.lt_or_ge i n with h | h
            · exact h
            · rw [List.getElem?_eq_none (by omega)] at hy; cases hy
          rw [List.getElem?_take_of_lt hi', List.getElem?_drop] at hy
          refine relT_mono (fun k o ho => hb k o (hi k o ho)) e y (fun k v hv => ?_) (h13 _ y hy)
          have e1 : lo * e.size + i * e.size + k = (lo + i) * e.size + k := by rw [Nat.add_mul]
          show CellAt gc.bi b (lo * e.size + i * e.size + k) v
          rw [e1]
          exact ⟨arr, T, (0, 0), by rw [hk b h6]; exact h10, hv⟩
      · exact hf.elim
    split at h
    · rename_i bw' e' l hc
      split at h
      · rename_i l' hl'
        cases h
        rw [hc] at h2
        obtain ⟨rfl, h6⟩ := castLs_spec hl'
        have h6 : x = l := h6
        subst h6
        have h4 : relL gc.bi e' x u := by
          refine relL_mono ?_ h2
          cases bw'
          · exact fun k o ho => hb k o (hi k o ho)
          · exact hb
        obtain ⟨a, cap, rfl, h5⟩ := h4
        exact ⟨a, cap, h1, h5⟩
      · cases h
    · rename_i hc
      cases h
      rw [hc] at h2
      obtain rfl : u = _ := h2
      exact ⟨none, 0, h1, Nat.le_refl _, fun _ => rfl, fun h => by simp at h⟩
    · rename_i id n hc
      split at h
      · rename_i l hl
        cases hn : Nat.beq n l.length
        · rw [hn] at h; cases h
        · rw [hn] at h; cases h
          have hn := Nat.eq_of_beq_eq_true hn
          subst hn
          rw [hc] at h2
          refine row id x 0 x.length (hd _ (by simp)) (by omega) (by simp) ?_
          rcases h2 with ⟨h3, rfl⟩ | ⟨b, h3, rfl, h4⟩
          · exact ⟨none, 0, by rw [h3], by omega, fun _ => rfl, fun h => by omega⟩
          · exact ⟨_, _, rfl, h4, (fun h => by cases h), fun _ => ⟨b, h3, by simp⟩⟩
      · cases h
    · rename_i id sz lo n hc
      split at h
      · rename_i l hl
        cases hn : Nat.beq sz e.size && Nat.ble (lo + n) l.length
        · rw [hn] at h; cases h
        · rw [hn] at h; cases h
          rw [Bool.and_eq_true] at hn
          have hn1 := Nat.eq_of_beq_eq_true hn.1
          have hn2 := Nat.le_of_ble_eq_true hn.2
          subst hn1
          rw [hc] at h2
          obtain ⟨a, cap, h3⟩ := h2
          exact row id l lo n (hd _ (by simp)) hn2 rfl ⟨a, cap, h3⟩
      · cases h
    · cases h
  | pair a b iha ihb =>
    intro f x d A h hd hf
    simp only [decX] at h
    split at h
    · rename_i x1 d1 x2 d2 h1 h2
      cases h
      refine ⟨iha f x1 d1 A h1 (fun q hq => hd q (List.mem_append_left _ hq)) fun j hj => hf j (by simp [Sh.size]; omega), ihb _ x2 d2 _ h2 (fun q hq => hd q (List.mem_append_right _ hq)) fun j hj => hf (a.size + j) (by simp [Sh.size]; omega)⟩
    · cases h

theorem decX_deps {hp : Hp} : ∀ (s : Sh) (f : Nat → CS) (x : s.Ty) (d : List Dep), decX hp s f = some (x, d) → ∀ q ∈ d, hp q.1 q.2.1 = some q.2.2 := by
  intro s
  induction s with
  | ls e _ =>
    intro f x d h q hq
    simp only [decX] at h
    split at h
    · split at h
      · cases h; simp at hq
      · cases h
    · cases h; simp at hq
    · rename_i id n hc
      split at h
      · rename_i l hl
        cases hn : Nat.beq n l.length <;> rw [hn] at h <;> cases h
        simp at hq; subst hq
        exact arrAt_spec hl
      · cases h
    · rename_i id sz lo n hc
      split at h
      · rename_i l hl
        cases hn : (Nat.beq sz e.size && Nat.ble (lo + n) l.length) <;> rw [hn] at h <;> cases h
        simp at hq; subst hq
        exact arrAt_spec hl
      · cases h
    · cases h
  | pair a b iha ihb =>
    intro f x d h q hq
    simp only [decX] at h
    split at h
    · rename_i x1 d1 x2 d2 h1 h2
      cases h
      rcases List.mem_append.1 hq with hq | hq
      · exact iha _ _ _ h1 q hq
      · exact ihb _ _ _ h2 q hq
    · cases h
  | _ =>
    intro f x d h q hq
    simp only [decX] at h
    split at h
    · first
        | (cases h; simp at hq; done)
        | (rename_i hc; revert h; cases (eqK _ _) <;> intro h <;> cases h <;> simp at hq)
        | (rename_i hc; revert h; cases (eqI _ _) <;> intro h <;> cases h <;> simp at hq)
    · cases h

theorem decA_deps {hp : Hp} : ∀ (a : AS) (cs rest : List CV1) (x : a.Ty) (d : List Dep) (o : List (Nat × CS)), decA hp a cs = some ((x, d, o), rest) →
    (∀ q ∈ d, hp q.1 q.2.1 = some q.2.2) ∧ (∀ q ∈ o, hp q.1 0 = some q.2 ∧ ∃ e l, q.2 = .arr e l) ∧ o.length = a.nOwn := by
  intro a
  induction a with
  | nil => intro cs rest x d o h; simp only [decA] at h; cases h; exact ⟨fun q hq => by simp at hq, fun q hq => by simp at hq, rfl⟩
  | cons a r iha ihr =>
    intro cs rest x d o h
    simp only [decA] at h
    split at h
    · rename_i x1 d1 o1 cs' h1
      split at h
      · rename_i x2 d2 o2 cs'' h2
        cases h
        obtain ⟨p1, p2, p3⟩ := iha _ _ _ _ _ h1
        obtain ⟨q1, q2, q3⟩ := ihr _ _ _ _ _ h2
        refine ⟨fun q hq => ?_, fun q hq => ?_, by simp [AS.nOwn, p3, q3]⟩
        · rcases List.mem_append.1 hq with hq | hq
          · exact p1 q hq
          · exact q1 q hq
        · rcases List.mem_append.1 hq with hq | hq
          · exact p2 q hq
          · exact q2 q hq
      · cases h
    · cases h
  | one s =>
    intro cs rest x d o h
    simp only [decA] at h
    split at h
    · rename_i c rest'
      cases hs : Nat.beq s.size 1 <;> rw [hs] at h
      · cases h
      · simp only [cond_true] at h
        split at h
        · rename_i x' d' h1; cases h
          exact ⟨decX_deps _ _ _ _ h1, fun q hq => by simp at hq, rfl⟩
        · cases h
    · cases h
  | agg s =>
    intro cs rest x d o h
    simp only [decA] at h
    split at h
    · rename_i l rest'
      cases hs : Nat.beq l.length s.size <;> rw [hs] at h
      · cases h
      · simp only [cond_true] at h
        split at h
        · rename_i x' d' h1; cases h
          exact ⟨decX_deps _ _ _ _ h1, fun q hq => by simp at hq, rfl⟩
        · cases h
    · cases h
  | ptr s =>
    intro cs rest x d o h
    simp only [decA] at h
    split at h
    · rename_i id off rest'
      split at h
      · rename_i l hl
        cases hs : l.all plain <;> rw [hs] at h
        · cases h
        · simp only [cond_true] at h
          split at h
          · rename_i x' d' h1; cases h
            refine ⟨fun q hq => ?_, fun q hq => by simp at hq, rfl⟩
            rcases List.mem_append.1 hq with hq | hq
            · obtain ⟨j, c, hj, rfl⟩ := mem_depsOf hq
              exact readFrom_get hl j c hj
            · exact decX_deps _ _ _ _ h1 q hq
          · cases h
      · cases h
    · rename_i m f rest'
      cases hs : Nat.ble s.size m <;> rw [hs] at h
      · cases h
      · simp only [cond_true] at h
        split at h
        · rename_i x' d' h1; cases h
          exact ⟨decX_deps _ _ _ _ h1, fun q hq => by simp at hq, rfl⟩
        · cases h
    · rename_i id sz i k rest'
      split at h
      · rename_i e l hh
        cases hs : ((Nat.beq sz e.size && Nat.blt i l.length) && Nat.ble (k + s.size) e.size) <;> rw [hs] at h
        · cases h
        · simp only [cond_true] at h
          split at h
          · rename_i x' d' h1; cases h
            refine ⟨fun q hq => ?_, fun q hq => by simp at hq, rfl⟩
            rcases List.mem_cons.1 hq with rfl | hq
            · exact hh
            · exact decX_deps _ _ _ _ h1 q hq
          · cases h
      · cases h
    · cases h
  | own e =>
    intro cs rest x d o h
    simp only [decA] at h
    split at h
    · rename_i id n rest'
      split at h
      · rename_i l hl
        cases hs : Nat.beq n l.length <;> rw [hs] at h
        · cases h
        · cases h
          exact ⟨fun q hq => by simp at hq, fun q hq => by simp at hq; subst hq; exact ⟨arrAt_spec hl, _, _, rfl⟩, rfl⟩
      · cases h
    · cases h
  | fn f c ih =>
    intro cs rest x d o h
    simp only [decA] at h
    split at h
    · rename_i f' n cap rest'
      cases hs : Nat.beq f' f <;> rw [hs] at h
      · cases h
      · simp only [cond_true] at h
        split at h
        · rename_i r h1; cases h
          exact ih _ _ _ _ _ h1
        · cases h
    · cases h
  | raw =>
    intro cs rest x d o h
    simp only [decA] at h
    split at h
    · cases h; exact ⟨fun q hq => by simp at hq, fun q hq => by simp at hq, rfl⟩
    · cases h

/-- names of the call's, and where they stand in the caller's -/
def Named (g gc : Gh) (k : Nat) (o : List (Nat × CS)) : Prop := ∀ i id c, o[i]? = some (id, c) → gc.β (k + i) = g.β id ∧ gc.cp (k + i) = g.cp id

theorem decA_view {hp : Hp} {g gc : Gh} {w : World} (hb : ∀ k o, g.bi k = some o → gc.bi k = some o) (hi : ∀ k o, g.im k = some o → g.bi k = some o) : ∀ (a : AS) (cs rest : List CV1) (x : a.Ty) (d : List Dep) (o : List (Nat × CS)) (k : Nat) (vs : Array Value) (off : Nat), decA hp a cs = some ((x, d, o), rest) →
    (∀ q ∈ d, DepOk g gc w q) → Named g gc k o → (∀ (j : Nat) c u, cs[j]? = some c → vs[off + j]? = some u → rel1 g c u) →
    (encA a x k).1.length + rest.length = cs.length ∧ (∀ (j : Nat) c, rest[j]? = some c → cs[(encA a x k).1.length + j]? = some c) ∧ (encA a x k).2 = o.map (·.2) ∧
      (off + cs.length ≤ vs.size → ∀ (j : Nat) c u, (encA a x k).1[j]? = some c → vs[off + j]? = some u → rel1 gc c u) := by
  intro a
  have one : ∀ {s : Sh} {x : s.Ty} {u : Value} {bwc : CS}, s.size = 1 → (cells true s x).getD 0 .any = bwc → relT gc.bi s x (fun k v => k = 0 ∧ v = u) → rel gc bwc u := fun {s x u bwc} h1 h2 h3 => by
    have hl := cells_length true s x
    have h4 : (cells true s x)[0]? = some bwc := by
      have : 0 < (cells true s x).length := by omega
      rw [List.getD_eq_getElem?_getD, List.getElem?_eq_getElem this] at h2
      rw [List.getElem?_eq_getElem this, ← h2]; rfl
    obtain ⟨v, ⟨_, rfl⟩, h5⟩ := (relT_cells (g := gc) (bw := true) s x _).1 h3 0 _ h4
    exact h5
  induction a with
  | nil =>
    intro cs rest x d o k vs off h _ _ _
    simp only [decA] at h; cases h
    exact ⟨by simp [encA], fun j c hj => by simpa [encA] using hj, rfl, fun _ j c u hj => by simp [encA] at hj⟩
  | cons a r iha ihr =>
    intro cs rest x d o k vs off h hd hn hr
    simp only [decA] at h
    split at h
    · rename_i x1 d1 o1 cs' h1
      split at h
      · rename_i x2 d2 o2 cs'' h2
        cases h
        have hol := (decA_deps _ _ _ _ _ _ h1).2.2
        obtain ⟨p1, p2, p3, p4⟩ := iha cs cs' x1 d1 o1 k vs off h1 (fun q hq => hd q (List.mem_append_left _ hq)) (fun i id c hic => hn i id c (by
          rw [List.getElem?_append_left]
          · exact hic
          · rcases Nat.lt_or_ge i o1.length with h | h
            · exact h
            · rw [List.getElem?_eq_none h] at hic; cases hic)) hr
        obtain ⟨q1, q2, q3, q4⟩ := ihr cs' rest x2 d2 o2 (k + a.nOwn) vs (off + (encA a x1 k).1.length) h2 (fun q hq => hd q (List.mem_append_right _ hq)) (fun i id c hic => by
          have := hn (o1.length + i) id c (by rw [List.getElem?_append_right (by omega)]; simpa using hic)
          rw [hol, ← Nat.add_assoc] at this
          exact this) (fun j c u hj hu => hr _ c u (p2 j c hj) (by rw [← Nat.add_assoc]; exact hu))
        refine ⟨by simp [encA]; omega, fun j c hj => ?_, by simp [encA, p3, q3], fun hsz j c u hj hu => ?_⟩
        · simp only [encA, List.length_append]
          have := p2 _ c (q2 j c hj)
          rw [← Nat.add_assoc] at this; exact this
        · simp only [encA] at hj
          rcases Nat.lt_or_ge j (encA a x1 k).1.length with h3 | h3
          · rw [List.getElem?_append_left h3] at hj
            exact p4 hsz j c u hj hu
          · rw [List.getElem?_append_right h3] at hj
            refine q4 (by omega) _ c u hj ?_
            have e1 : off + (encA a x1 k).1.length + (j - (encA a x1 k).1.length) = off + j := by omega
            rw [e1]; exact hu
      · cases h
    · cases h
  | one s =>
    intro cs rest x d o k vs off h hd hn hr
    simp only [decA] at h
    split at h
    · rename_i c rest'
      cases hs : Nat.beq s.size 1 <;> rw [hs] at h
      · cases h
      · simp only [cond_true] at h
        split at h
        · rename_i x' d' h1; cases h
          refine ⟨by simp [encA]; omega, fun j c hj => by simpa [encA, Nat.add_comm 1] using hj, rfl, fun _ j cc u hj hu => ?_⟩
          cases j with
          | zero =>
            simp [encA] at hj; subst hj
            have hcu := hr 0 _ u rfl hu
            have hs1 := Nat.eq_of_beq_eq_true hs
            refine one hs1 (by simp) (decX_view hb hi s _ x d _ h1 hd fun j hj => ?_)
            have : j = 0 := by omega
            subst this
            exact ⟨u, ⟨rfl, rfl⟩, hcu⟩
          | succ j => simp [encA] at hj
        · cases h
    · cases h
  | agg s =>
    intro cs rest x d o k vs off h hd hn hr
    simp only [decA] at h
    split at h
    · rename_i l rest'
      cases hs : Nat.beq l.length s.size <;> rw [hs] at h
      · cases h
      · simp only [cond_true] at h
        split at h
        · rename_i x' d' h1; cases h
          refine ⟨by simp [encA]; omega, fun j c hj => by simpa [encA, Nat.add_comm 1] using hj, rfl, fun _ j cc u hj hu => ?_⟩
          cases j with
          | zero =>
            simp [encA] at hj; subst hj
            obtain ⟨arr, rfl, hsz, hc⟩ := hr 0 _ u rfl hu
            have hs1 := Nat.eq_of_beq_eq_true hs
            have hv := decX_view hb hi s _ x d (fun k v => arr[k]? = some v) h1 hd fun j hj => by
              have h2 : j < l.length := by omega
              have h3 : j < arr.size := by omega
              refine ⟨arr[j], by simp [h3], ?_⟩
              have := hc j l[j] arr[j] (by simp [h2]) (by simp [h3])
              have e2 : l.getD j .any = l[j] := by simp [List.getD, h2]
              rw [e2]; exact this
            refine ⟨arr, rfl, by rw [cells_length]; omega, fun j c u h2 h3 => ?_⟩
            obtain ⟨v, h4, h5⟩ := (relT_cells (g := gc) (bw := true) s x _).1 hv j c h2
            have h4 : arr[j]? = some v := h4
            rw [h3] at h4; cases h4; exact h5
          | succ j => simp [encA] at hj
        · cases h
    · cases h
  | ptr s =>
    intro cs rest x d o k vs off h hd hn hr
    -- a pointer to cells of which nobody writes
    have fin : ∀ (u : Value) (b ofs : Nat), u = .pointer (some ⟨b, ofs, none⟩) → relT gc.bi s x (fun k v => CellAt gc.bi b (ofs + k) v) → rel1 gc (.s (.ip s.size (fun j => (cells true s x).getD j .any))) u := by
      rintro u b ofs rfl hv
      refine ⟨b, ofs, rfl, fun j hj => ?_⟩
      have hl := cells_length true s x
      have hj' : j < (cells true s x).length := by omega
      obtain ⟨v, h4, h5⟩ := (relT_cells (g := gc) (bw := true) s x _).1 hv j _ (List.getElem?_eq_getElem hj')
      refine ⟨v, h4, ?_⟩
      show rel gc ((cells true s x).getD j .any) v
      rw [List.getD_eq_getElem?_getD, List.getElem?_eq_getElem hj']
      exact h5
    have shape : ∀ {rest' : List CV1} {c0 : CV1}, cs = c0 :: rest' → rest = rest' → o = [] → (∀ u, vs[off]? = some u → rel1 gc (.s (.ip s.size (fun j => (cells true s x).getD j .any))) u) → (encA (.ptr s) x k).1.length + rest.length = cs.length ∧ (∀ (j : Nat) c, rest[j]? = some c → cs[(encA (.ptr s) x k).1.length + j]? = some c) ∧ (encA (.ptr s) x k).2 = o.map (·.2) ∧
      (off + cs.length ≤ vs.size → ∀ (j : Nat) c u, (encA (.ptr s) x k).1[j]? = some c → vs[off + j]? = some u → rel1 gc c u) := by
      rintro rest' c0 rfl rfl rfl hu
      refine ⟨by simp [encA]; omega, fun j c hj => by simpa [encA, Nat.add_comm 1] using hj, rfl, fun _ j cc u hj hu' => ?_⟩
      cases j with
      | zero => simp [encA] at hj; subst hj; exact hu u hu'
      | succ j => simp [encA] at hj
    simp only [decA] at h
    split at h
    · rename_i id ofs rest'
      split at h
      · rename_i l hl
        cases hs : l.all plain <;> rw [hs] at h
        · cases h
        · simp only [cond_true] at h
          split at h
          · rename_i x' d' h1; cases h
            have hlen := readFrom_length hl
            refine shape rfl rfl rfl fun u hu => ?_
            obtain ⟨b, hbb, he⟩ := hr 0 _ u rfl hu
            refine fin u b ofs he (decX_view hb hi s _ x d' _ h1 (fun q hq => hd q (List.mem_append_right _ hq)) fun j hj => ?_)
            have hjl : j < l.length := by omega
            obtain ⟨hc, hk⟩ := hd _ (List.mem_append_left d' (depsOf_mem (id := id) (off := ofs) j l[j] (by simp [hjl])))
            obtain ⟨b', arr, T, v, h4, h5, h6, h7⟩ := plainCell (List.all_eq_true.1 hs _ (List.getElem_mem hjl)) hc
            rw [hbb] at h4; cases h4
            refine ⟨v, ⟨arr, T, (0, 0), by rw [hk b hbb]; exact h5, h6⟩, ?_⟩
            have e2 : l.getD j .any = l[j] := by simp [List.getD, hjl]
            rw [e2]; exact h7
          · cases h
      · cases h
    · rename_i m f rest'
      cases hs : Nat.ble s.size m <;> rw [hs] at h
      · cases h
      · simp only [cond_true] at h
        have hs := Nat.le_of_ble_eq_true hs
        split at h
        · rename_i x' d' h1; cases h
          refine shape rfl rfl rfl fun u hu => ?_
          obtain ⟨b, ofs, he, hc⟩ := hr 0 _ u rfl hu
          refine fin u b ofs he (decX_view hb hi s _ x d _ h1 hd fun j hj => ?_)
          obtain ⟨v, h4, h5⟩ := hc j (by omega)
          exact ⟨v, h4.mono hb, h5⟩
        · cases h
    · rename_i id sz i kk rest'
      split at h
      · rename_i e l hh
        cases hs : ((Nat.beq sz e.size && Nat.blt i l.length) && Nat.ble (kk + s.size) e.size) <;> rw [hs] at h
        · cases h
        · simp only [cond_true] at h
          rw [Bool.and_eq_true, Bool.and_eq_true] at hs
          obtain ⟨⟨hs1, hs2⟩, hs3⟩ := hs
          obtain rfl := Nat.eq_of_beq_eq_true hs1
          have hs2 : i < l.length := Nat.le_of_ble_eq_true hs2
          have hs3 := Nat.le_of_ble_eq_true hs3
          split at h
          · rename_i x' d' h1; cases h
            refine shape rfl rfl rfl fun u hu => ?_
            obtain ⟨b, hbb, he⟩ := hr 0 _ u rfl hu
            refine fin u b _ he (decX_view hb hi s _ x d' _ h1 (fun q hq => hd q (List.mem_cons_of_mem _ hq)) fun j hj => ?_)
            obtain ⟨hc, hk⟩ := hd _ (List.mem_cons_self ..)
            rcases hc with ⟨e', l', h2, _, h3⟩ | ⟨_, _, _, _, _, _, _, hf⟩
            · cases h2
              obtain ⟨b', arr, T, h4, h5, h6, h7⟩ := h3.elem hs2
              rw [hbb] at h4; cases h4
              have hcl := cells_length false e (l.getD i e.dflt)
              have hj' : kk + j < (cells false e (l.getD i e.dflt)).length := by omega
              obtain ⟨v, h8, h9⟩ := h7 (kk + j) _ (List.getElem?_eq_getElem hj')
              refine ⟨v, ⟨arr, T, (0, 0), by rw [hk b hbb]; exact h5, by rw [← h8]; congr 1; omega⟩, ?_⟩
              have e2 : (cells false e (l.getD i e.dflt)).getD (kk + j) .any = (cells false e (l.getD i e.dflt))[kk + j] := by rw [List.getD_eq_getElem?_getD, List.getElem?_eq_getElem hj']; rfl
              rw [e2]; exact h9
            · exact hf.elim
          · cases h
      · cases h
    · cases h
  | own e =>
    intro cs rest x d o k vs off h hd hn hr
    simp only [decA] at h
    split at h
    · rename_i id n rest'
      split at h
      · rename_i l hl
        cases hs : Nat.beq n l.length <;> rw [hs] at h
        · cases h
        · cases h
          have hs := Nat.eq_of_beq_eq_true hs
          refine ⟨by simp [encA]; omega, fun j c hj => by simpa [encA, Nat.add_comm 1] using hj, rfl, fun _ j cc u hj hu => ?_⟩
          cases j with
          | zero =>
            simp [encA] at hj; subst hj
            obtain ⟨h1, h2⟩ := hn 0 id _ rfl
            rw [Nat.add_zero] at h1 h2
            rcases hr 0 _ u rfl hu with ⟨h3, h4⟩ | ⟨b, h3, h4, h5⟩
            · exact .inl ⟨by omega, h4⟩
            · exact .inr ⟨b, by rw [h1]; exact h3, by rw [h2, ← hs]; exact h4, by rw [h2]; omega⟩
          | succ j => simp [encA] at hj
      · cases h
    · cases h
  | fn f c ih =>
    intro cs rest x d o k vs off h hd hn hr
    simp only [decA] at h
    split at h
    · rename_i f' n cap rest'
      cases hs : Nat.beq f' f <;> rw [hs] at h
      · cases h
      · simp only [cond_true] at h
        have hs := Nat.eq_of_beq_eq_true hs
        subst hs
        split at h
        · rename_i r h1; cases h
          -- what it has caught
          have hcap : ∀ u arr, u = Value.func (.func f') #[] arr → arr.size = n → (∀ j v, arr[j]? = some v → rel g (cap j) v) → rel1 gc (.s (.fn (.func f') (encA c x k).1.length (fun j => asC (encA c x k).1[j]?))) u := by
            rintro u arr rfl hsz hc
            obtain ⟨p1, p2, p3, p4⟩ := ih _ _ x d o k arr 0 h1 hd hn (fun j cc v hj hv => by
              rw [Nat.zero_add] at hv
              rw [List.getElem?_map] at hj
              rcases Nat.lt_or_ge j n with h2 | h2
              · rw [List.getElem?_range h2] at hj; cases hj; exact hc j v hv
              · rw [List.getElem?_eq_none (by simpa using h2)] at hj; cases hj)
            simp at p1
            refine ⟨arr, rfl, by omega, fun j v hv => ?_⟩
            have hj : j < (encA c x k).1.length := by
              rw [p1, ← hsz]
              rcases Nat.lt_or_ge j arr.size with h | h
              · exact h
              · rw [Array.getElem?_eq_none h] at hv; cases hv
            have := p4 (by simp; omega) j _ v (List.getElem?_eq_getElem hj) (by rw [Nat.zero_add]; exact hv)
            show rel gc (asC (encA c x k).1[j]?) v
            rw [List.getElem?_eq_getElem hj]
            cases hcc : (encA c x k).1[j] with
            | s cc => rw [hcc] at this; exact this
            | agg l => trivial
          obtain ⟨p1, p2, p3, p4⟩ := ih _ _ x d o k #[] 0 h1 hd hn (fun j cc v hj hv => by simp at hv)
          refine ⟨by simp [encA]; omega, fun j c hj => by simpa [encA, Nat.add_comm 1] using hj, p3, fun _ j cc u hj hu => ?_⟩
          cases j with
          | zero =>
            simp [encA] at hj; subst hj
            obtain ⟨arr, h2, h3, h4⟩ := hr 0 _ u rfl hu
            exact hcap u arr h2 h3 h4
          | succ j => simp [encA] at hj
        · cases h
    · cases h
  | raw =>
    intro cs rest x d o k vs off h hd hn hr
    simp only [decA] at h
    split at h
    · cases h
      refine ⟨by simp [encA]; omega, fun j c hj => by simpa [encA, Nat.add_comm 1] using hj, rfl, fun _ j cc u hj hu => ?_⟩
      cases j with
      | zero => simp [encA] at hj; subst hj; exact hr 0 _ u rfl hu
      | succ j => simp [encA] at hj
    · cases h
end
end Go.Dv
