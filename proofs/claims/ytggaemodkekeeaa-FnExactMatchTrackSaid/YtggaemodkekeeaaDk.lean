/- Dh, Di, Dj, Dk: merged by merge.py. -/
import Derived.Test.YtggaemodkekeeaaDg

/- The model's operations do what 'cop' says (part 5): append. -/
namespace Go.Dv
open Go.RowKit Go.Cv

section
variable {P : Program} {α : Type}

/-- but for one name all is the same -/
structure Gh.but (g g' : Gh) (id : Nat) : Prop where
  β : ∀ j, j ≠ id → g'.β j = g.β j
  cp : ∀ j, j ≠ id → g'.cp j = g.cp j
  im : g'.im = g.im
  bi : g'.bi = g.bi

theorem Gh.but_refl (g : Gh) (id : Nat) : g.but g id := ⟨fun _ _ => rfl, fun _ _ => rfl, rfl, rfl⟩
theorem Gh.but_bind (g : Gh) (id b c : Nat) : g.but (g.bind id b c) id := ⟨fun j h => by simp [Gh.bind, h], fun j h => by simp [Gh.bind, h], rfl, rfl⟩

theorem beq_ne {i id : Nat} (h : i ≠ id) : Nat.beq i id = false := by cases hb : Nat.beq i id; rfl; exact absurd (Nat.eq_of_beq_eq_true hb) h

theorem rel_kill {g g' : Gh} {id : Nat} (h : g.but g' id) : ∀ (c : CS) (y : Value), rel g c y → rel g' (killC id c) y := by
  have hm : ∀ bw, g'.mem bw = g.mem bw := fun bw => by cases bw; exact h.im; exact h.bi
  intro c
  induction c with
  | any => intro y _; trivial
  | v x => intro y hy; exact hy
  | fl k n => intro y hy; exact hy
  | cx k a b => intro y hy; exact hy
  | ifc o => intro y hy; exact hy
  | ptr i off =>
    rintro y ⟨b, hb, e⟩
    by_cases e1 : i = id
    · subst e1; simp only [killC, Nat.beq_refl, cond_true]; trivial
    · simp only [killC, beq_ne e1, cond_false]
      exact ⟨b, by rw [h.β _ e1]; exact hb, e⟩
  | ip n f ih =>
    rintro y ⟨b, off, e, hc⟩
    refine ⟨b, off, e, fun j hj => ?_⟩
    obtain ⟨u, h1, h2⟩ := hc j hj
    exact ⟨u, by rw [h.bi]; exact h1, ih j u h2⟩
  | pe i sz k j =>
    rintro y ⟨b, hb, e⟩
    by_cases e1 : i = id
    · subst e1; simp only [killC, Nat.beq_refl, cond_true]; trivial
    · simp only [killC, beq_ne e1, cond_false]
      exact ⟨b, by rw [h.β _ e1]; exact hb, e⟩
  | ls bw e l =>
    intro y hy
    show relL (g'.mem bw) e l y
    rw [hm]; exact hy
  | own i n =>
    rintro y hy
    by_cases e1 : i = id
    · subst e1; simp only [killC, Nat.beq_refl, cond_true]; trivial
    · simp only [killC, beq_ne e1, cond_false]
      rcases hy with hy | ⟨b, h1, h2, h3⟩
      · exact .inl hy
      · exact .inr ⟨b, by rw [h.β _ e1]; exact h1, by rw [h.cp _ e1]; exact h2, by rw [h.cp _ e1]; exact h3⟩
  | win i sz lo n =>
    rintro y ⟨a, cap, h1, h2, h3, h4⟩
    by_cases e1 : i = id
    · subst e1; simp only [killC, Nat.beq_refl, cond_true]; trivial
    · simp only [killC, beq_ne e1, cond_false]
      refine ⟨a, cap, h1, h2, h3, fun h0 => ?_⟩
      obtain ⟨b, h5, h6⟩ := h4 h0
      exact ⟨b, by rw [h.β _ e1]; exact h5, h6⟩
  | fn f n c ih => rintro y ⟨arr, e, hs, hc⟩; exact ⟨arr, e, hs, fun j u hu => ih j u (hc j u hu)⟩
  | agc n c ih => rintro y ⟨arr, e, hs, hc⟩; exact ⟨arr, e, hs, fun j u hu => ih j u (hc j u hu)⟩
  | arr e l => intro y hy; exact hy.elim

theorem rel1_kill {g g' : Gh} {id : Nat} (h : g.but g' id) (c : CV1) (y : Value) (hr : rel1 g c y) : rel1 g' (kill1 id c) y := by
  cases c with
  | s c => exact rel_kill h c y hr
  | agg cs =>
    obtain ⟨arr, e, hs, hc⟩ := hr
    refine ⟨arr, e, by simpa using hs, fun j c u h1 h2 => ?_⟩
    simp at h1
    obtain ⟨c', h3, rfl⟩ := h1
    exact rel_kill h c' u (hc j c' u h3 h2)

theorem relV_kill {g g' : Gh} {id : Nat} (h : g.but g' id) (c : CV) (y : Value) (hr : relV g c y) : relV g' (killV id c) y := by
  cases c with
  | one c => exact rel1_kill h c y hr
  | tup cs =>
    obtain ⟨arr, e, hs, hc⟩ := hr
    refine ⟨arr, e, by simpa using hs, fun j c u h1 h2 => ?_⟩
    simp at h1
    obtain ⟨c', h3, rfl⟩ := h1
    exact rel1_kill h c' u (hc j c' u h3 h2)

theorem CellRel.kill {g g' : Gh} {w w' : World} {id i o : Nat} {c : CS} (h : g.but g' id) (hi : i ≠ id) (hs : ∀ b, g.β i = some b → w'.heap[b]? = w.heap[b]?) (hc : CellRel g w i o c) : CellRel g' w' i o (killC id c) := by
  rcases hc with ⟨e, l, rfl, h2, h3⟩ | ⟨b, arr, T, u, h1, h2, h3, h4⟩
  · refine .inl ⟨e, l, rfl, h2, ?_⟩
    rcases h3 with ⟨h3, h4⟩ | ⟨b, arr, T, h3, h4, h5, h6, h7⟩
    · exact .inl ⟨h3, by rw [h.β _ hi]; exact h4⟩
    · exact .inr ⟨b, arr, T, by rw [h.β _ hi]; exact h3, h4.lift (hs b h3), by rw [h.cp _ hi]; exact h5, by rw [h.cp _ hi]; exact h6, fun i x hx => by rw [h.im]; exact h7 i x hx⟩
  · exact .inr ⟨b, arr, T, u, by rw [h.β _ hi]; exact h1, h2.lift (hs b h1), h3, rel_kill h _ _ h4⟩

theorem grown_hp {s : St} {d : Option Nat} {id : Nat} {e : Sh} {l : List e.Ty} {i o : Nat} {c : CS} (h : (grownSt s d id e l).hp i o = some c) : (i = id ∧ o = 0 ∧ c = .arr e l) ∨ (i ≠ id ∧ ∃ c', s.hp i o = some c' ∧ c = killC id c') := by
  have h : (bif Nat.beq i id then (bif Nat.beq o 0 then some (CS.arr e l) else none) else (match s.hp i o with | some c => some (killC id c) | none => none)) = some c := h
  by_cases e1 : i = id
  · subst e1
    rw [Nat.beq_refl, cond_true] at h
    cases o with
    | zero => cases h; exact .inl ⟨rfl, rfl, rfl⟩
    | succ o => have h0 : Nat.beq (o + 1) 0 = false := rfl
                rw [h0] at h; cases h
  · rw [beq_ne e1, cond_false] at h
    cases hc : s.hp i o with
    | none => rw [hc] at h; cases h
    | some c' => rw [hc] at h; cases h; exact .inr ⟨e1, c', rfl, rfl⟩

/-- the state behind an append that lays a new row -/
theorem Sim.grown {X : Fr} {w0 : World} {n : Nat} {s : St} {g : Gh} {a : Act} {w : World} (h : Sim X w0 n s g a w) {d : Option Nat} (hd : ∀ x, d = some x → x < n) {id : Nat} {c0 : CS} (hid : s.hp id 0 = some c0) (hlo : s.lo ≤ id) {e : Sh} {l : List e.Ty} {arr : Array Value} {T : TypeId} {c : Nat}
    (hsz : arr.size = c * e.size) (hl : l.length ≤ c) (hr : ∀ i x, l[i]? = some x → relT g.im e x (fun k u => arr[i * e.size + k]? = some u)) :
    Sim X w0 n (grownSt s d id e l) (g.bind id w.heap.size c) (a.put d (.slice (some ⟨w.heap.size, 0, none⟩) l.length c)) (w.alloc (.cells arr T)) := by
  have hb := Gh.but_bind g id w.heap.size c
  obtain ⟨hb1, hb2⟩ := Gh.bind_same g id w.heap.size c
  have hlt := h.hx _ _ _ hid
  refine ⟨tm_put (fun t => relV_kill hb _ _ (h.tm t)) h.len hd ?_, by rw [put_size]; exact h.len, by rw [put_defers']; exact h.df, h.ok.alloc _ _ (by rw [← h.lo]; exact hlo) arr T, fun i o cc hc => ?_, fun i b hbb => ?_, fun i o cc hc => ?_, h.lo, h.ln⟩
  · exact .inr ⟨w.heap.size, hb1, by rw [hb2], by rw [hb2]; exact hl⟩
  · rcases grown_hp hc with ⟨rfl, rfl, rfl⟩ | ⟨e1, c', h1, rfl⟩
    · exact .inl ⟨e, l, rfl, rfl, .inr ⟨_, arr, T, hb1, .of (heap_alloc_same _ _), by rw [hb2]; exact hsz, by rw [hb2]; exact hl, hr⟩⟩
    · exact (h.cells _ _ _ h1).kill hb e1 (fun b hb' => Below.heap_alloc _ _ _ (h.ok.fresh _ _ hb').2.1)
  · show i < s.nx
    by_cases e1 : i = id
    · subst e1; exact hlt
    · rw [Gh.bind_ne g e1] at hbb; exact h.nx _ _ hbb
  · show i < s.nx
    rcases grown_hp hc with ⟨rfl, _, _⟩ | ⟨e1, c', h1, _⟩
    · exact hlt
    · exact h.hx _ _ _ h1

/-- the state behind an append in its place -/
theorem Sim.grownIn {X : Fr} {w0 : World} {n : Nat} {s : St} {g : Gh} {a : Act} {w : World} (h : Sim X w0 n s g a w) {d : Option Nat} (hd : ∀ x, d = some x → x < n) {id b : Nat} {arr : Array Value} {T : TypeId} {e : Sh} {l : List e.Ty} (hb : g.β id = some b)
    (hh : RowAt w b arr T) (arr' : Array Value) (hr : ArrRel g (w.setRow b arr') id e l) {v : Value} (hv : rel g (.own id l.length) v) :
    Sim X w0 n (grownSt s d id e l) g (a.put d v) (w.setRow b arr') := by
  have hok := h.ok
  have hbut := Gh.but_refl g id
  refine ⟨tm_put (fun t => relV_kill hbut _ _ (h.tm t)) h.len hd hv, by rw [put_size]; exact h.len, by rw [put_defers']; exact h.df, hok.setRow hb hh arr', fun i o c hc => ?_, h.nx, fun i o c hc => ?_, h.lo, h.ln⟩
  · rcases grown_hp hc with ⟨rfl, rfl, rfl⟩ | ⟨e1, c', h1, rfl⟩
    · exact .inl ⟨e, l, rfl, rfl, hr⟩
    · refine (h.cells _ _ _ h1).kill hbut e1 (fun b' hb' => setRow_other _ _ _ _ fun e2 => ?_)
      subst e2
      exact e1 (hok.inj _ _ _ hb' hb)
  · show i < s.nx
    rcases grown_hp hc with ⟨rfl, _, _⟩ | ⟨e1, c', h1, _⟩
    · exact h.nx _ _ hb
    · exact h.hx _ _ _ h1

theorem cells_plain {bw : Bool} : ∀ (s : Sh) (x : s.Ty) (c : CS), c ∈ cells bw s x → plain c = true
  | .fl _, _, c, h => by simp [cells] at h; subst h; rfl
  | .int _, _, c, h => by simp [cells] at h; subst h; rfl
  | .bool, _, c, h => by simp [cells] at h; subst h; rfl
  | .str, _, c, h => by simp [cells] at h; subst h; rfl
  | .ifc, _, c, h => by simp [cells] at h; subst h; rfl
  | .cx _, _, c, h => by simp [cells] at h; subst h; rfl
  | .ls _, _, c, h => by simp [cells] at h; subst h; rfl
  | .pair a b, x, c, h => by
    simp only [cells, List.mem_append] at h
    rcases h with h | h
    · exact cells_plain a x.1 c h
    · exact cells_plain b x.2 c h

theorem one_of_rel {g : Gh} {c : CS} {u : Value} (hp : plain c = true) (h : rel g c u) : u.oneCell' = true := by
  have h5 := plain_cells hp h
  cases u <;> first | rfl | exact (h5.2.1 _ rfl).elim | exact (h5.2.2 _ rfl).elim

/-- elements in a row of cells -/
theorem row_of {g : Gh} {e : Sh} {ys : List e.Ty} {arr : Array Value} {off : Nat} (h : ∀ i x, ys[i]? = some x → relT g.im e x (fun k u => arr[off + i * e.size + k]? = some u)) :
    ∃ news : List Value, news.length = ys.length * e.size ∧ (∀ j u, news[j]? = some u → arr[off + j]? = some u) ∧ (∀ u ∈ news, u.oneCell' = true) ∧ ∀ i x, ys[i]? = some x → relT g.im e x (fun k u => news[i * e.size + k]? = some u) := by
  have hp := size_pos e
  have cell : ∀ i (hi : i < ys.length) k, k < e.size → ∃ c u, plain c = true ∧ arr[off + i * e.size + k]? = some u ∧ rel g c u := fun i hi k hk => by
    have h1 := h i ys[i] (by simp [hi])
    have hl := cells_length false e ys[i]
    have hk' : k < (cells false e ys[i]).length := by omega
    obtain ⟨u, h2, h3⟩ := (relT_cells (g := g) (bw := false) e ys[i] _).1 h1 k _ (List.getElem?_eq_getElem hk')
    exact ⟨_, u, cells_plain e ys[i] _ (List.getElem_mem hk'), h2, h3⟩
  have hsz : ys.length = 0 ∨ off + ys.length * e.size ≤ arr.size := by
    rcases Nat.eq_zero_or_pos ys.length with h0 | h0
    · exact .inl h0
    · right
      obtain ⟨c, u, _, h2, _⟩ := cell (ys.length - 1) (by omega) (e.size - 1) (by omega)
      rcases Nat.lt_or_ge (off + (ys.length - 1) * e.size + (e.size - 1)) arr.size with h3 | h3
      · have h4 : ys.length * e.size = (ys.length - 1) * e.size + e.size := by
          have : ys.length = (ys.length - 1) + 1 := by omega
          conv => lhs; rw [this, Nat.add_mul, Nat.one_mul]
        omega
      · rw [Array.getElem?_eq_none h3] at h2; cases h2
  have hlen : ((arr.toList.drop off).take (ys.length * e.size)).length = ys.length * e.size := by
    have ea : arr.toList.length = arr.size := Array.length_toList
    rw [List.length_take, List.length_drop, ea]
    rcases hsz with h0 | h0
    · rw [h0]; simp
    · omega
  have hget : ∀ j, j < ys.length * e.size → ((arr.toList.drop off).take (ys.length * e.size))[j]? = arr[off + j]? := fun j hj => by
    rw [List.getElem?_take_of_lt hj, List.getElem?_drop]; simp
  have hlt : ∀ i k, i < ys.length → k < e.size → i * e.size + k < ys.length * e.size := fun i k hi hk => by
    have : (i + 1) * e.size ≤ ys.length * e.size := Nat.mul_le_mul_right _ hi
    rw [Nat.add_mul] at this; omega
  refine ⟨(arr.toList.drop off).take (ys.length * e.size), hlen, fun j u hj => ?_, fun u hu => ?_, fun i x hx => ?_⟩
  · have hj' : j < ys.length * e.size := by
      rw [← hlen]
      rcases Nat.lt_or_ge j ((arr.toList.drop off).take (ys.length * e.size)).length with h1 | h1
      · exact h1
      · rw [List.getElem?_eq_none h1] at hj; cases hj
    rw [hget j hj'] at hj; exact hj
  · obtain ⟨j, hj⟩ := List.getElem?_of_mem hu
    have hj' : j < ys.length * e.size := by
      rw [← hlen]
      rcases Nat.lt_or_ge j ((arr.toList.drop off).take (ys.length * e.size)).length with h1 | h1
      · exact h1
      · rw [List.getElem?_eq_none h1] at hj; cases hj
    rw [hget j hj'] at hj
    have hi : j / e.size < ys.length := (Nat.div_lt_iff_lt_mul hp).2 hj'
    obtain ⟨c, u', h1, h2, h3⟩ := cell (j / e.size) hi (j % e.size) (Nat.mod_lt _ hp)
    have e1 : off + j / e.size * e.size + j % e.size = off + j := by
      have := Nat.div_add_mod j e.size
      rw [Nat.mul_comm] at this; omega
    rw [e1, hj] at h2; cases h2
    exact one_of_rel h1 h3
  · have hi : i < ys.length := by
      rcases Nat.lt_or_ge i ys.length with h1 | h1
      · exact h1
      · rw [List.getElem?_eq_none h1] at hx; cases hx
    refine relT_lt e x (fun k u hk hu => ?_) (h i x hx)
    show _ = some u
    rw [hget _ (hlt i k hi hk)]
    have e1 : off + i * e.size + k = off + (i * e.size + k) := by omega
    rw [← e1]; exact hu

theorem arrAt_spec {hp : Hp} {id : Nat} {e : Sh} {l : List e.Ty} (h : arrAt hp id e = some l) : hp id 0 = some (.arr e l) := by
  unfold arrAt at h
  split at h
  · rename_i e' l' hc
    obtain ⟨rfl, h1⟩ := castLs_spec h
    have h1 : l = l' := h1
    subst h1; exact hc
  · cases h

theorem tySlice_spec {T : TypeId} (h : tySlice P T = true) : ∃ e, P.underlying T = some (.slice e) := by
  unfold tySlice at h
  split at h
  · exact ⟨_, by assumption⟩
  · cases h

/-- the source of an append -/
theorem srcOf_sound {X : Fr} {w0 : World} {n : Nat} {s : St} {g : Gh} {a : Act} {w : World} (hsim : Sim X w0 n s g a w) {e : Sh} {yv : CV} {ys : List e.Ty} {ds : List Dep} {T' : TypeId} (h : srcOf s.hp e yv = some (ys, ds)) (hT : tySlice P T' = true)
    {u : Value} (hu : relV g yv u) : ∃ news, Src P e.size T' u ys.length news w ∧ ∀ i x, ys[i]? = some x → relT g.im e x (fun k v => news[i * e.size + k]? = some v) := by
  obtain ⟨E', hE'⟩ := tySlice_spec hT
  have hadd : ∀ (b off j : Nat), (⟨b, off, none⟩ : Addr).add j = ⟨b, off + j, none⟩ := fun b off j => by unfold Addr.add; split <;> simp_all
  have fin : ∀ (b off cap : Nat) (arr : Array Value) (T : TypeId) (fr : Nat × Nat) (m : Nat), ys.length = m → u = .slice (some ⟨b, off, none⟩) m cap → w.heap[b]? = some (.cells arr T fr) → (∀ i x, ys[i]? = some x → relT g.im e x (fun k u => arr[off + i * e.size + k]? = some u)) →
      ∃ news, Src P e.size T' u ys.length news w ∧ ∀ i x, ys[i]? = some x → relT g.im e x (fun k v => news[i * e.size + k]? = some v) := by
    intro b off cap arr T fr m hm hu hh hr
    obtain ⟨news, h1, h2, h3, h4⟩ := row_of hr
    subst hm hu
    refine ⟨news, Src.ofSlice w hE' _ _ _ news h1 (fun j v hj => ?_) h3, h4⟩
    rw [hadd]
    simp [World.cell?, hh, h2 j v hj]
  have nil : ys = [] → u = .slice none 0 0 → ∃ news, Src P e.size T' u ys.length news w ∧ ∀ i x, ys[i]? = some x → relT g.im e x (fun k v => news[i * e.size + k]? = some v) := by
    rintro rfl rfl
    exact ⟨[], Src.ofNil w hE' 0, fun i x hx => by simp at hx⟩
  unfold srcOf at h
  split at h
  · rename_i bw e' l'
    split at h
    · rename_i l hc
      cases hfl : (!bw || flatSh e)
      · rw [hfl] at h; cases h
      rw [hfl] at h
      cases h
      obtain ⟨rfl, h1⟩ := castLs_spec hc
      have h1 : ys = l' := h1
      subst h1
      have toIm : ∀ (x : e'.Ty) {A : Nat → Value → Prop}, relT (g.mem bw) e' x A → relT g.im e' x A := fun x A hx => by
        cases bw with
        | false => exact hx
        | true => exact relT_flat e' x (by simpa using hfl) hx
      obtain ⟨ad, cap, rfl, h2, h3, h4⟩ := hu
      rcases Nat.eq_zero_or_pos ys.length with h0 | h0
      · have h0' : ys = [] := List.eq_nil_of_length_eq_zero h0
        cases ad with
        | none => exact nil h0' (by rw [h0, h3 rfl])
        | some ad =>
          refine ⟨[], ?_, fun i x hx => by rw [h0'] at hx; simp at hx⟩
          exact Src.ofSlice w hE' ad _ _ [] (by rw [h0]; simp) (fun j v hj => by simp at hj) (fun u hu => by simp at hu)
      · obtain ⟨b, off, rfl, h5⟩ := h4 h0
        have h6 := h5 0 ys[0] (by simp [h0])
        have hex : ∃ arr T fr, g.mem bw b = some (.cells arr T fr) := by
          have hl := cells_length bw e' ys[0]
          have hp := size_pos e'
          have hk' : 0 < (cells bw e' ys[0]).length := by omega
          obtain ⟨u, ⟨arr, T, fr, h7, _⟩, _⟩ := (relT_cells (g := g) (bw := bw) e' ys[0] _).1 h6 0 _ (List.getElem?_eq_getElem hk')
          exact ⟨arr, T, fr, h7⟩
        obtain ⟨arr, T, fr, h7⟩ := hex
        have h7h : w.heap[b]? = some (.cells arr T fr) := by
          cases bw with
          | false => exact hsim.ok.imh _ _ h7
          | true => exact hsim.ok.bi _ _ h7
        refine fin b off cap arr T fr _ rfl rfl h7h fun i x hx => toIm x (relT_mono (fun _ _ h => h) e' x (fun k u hcell => ?_) (h5 i x hx))
        obtain ⟨arr', T', fr', h8, h9⟩ := hcell
        have h8 : g.mem bw b = some (.cells arr' T' fr') := h8
        rw [h7] at h8; cases h8; exact h9
    · cases h
  · rename_i id m
    split at h
    · rename_i l hl
      cases hb : Nat.beq m l.length
      · rw [hb] at h; cases h
      · rw [hb] at h; cases h
        have hb := Nat.eq_of_beq_eq_true hb
        rcases hsim.cells _ _ _ (arrAt_spec hl) with ⟨e', l', h1, _, har⟩ | ⟨_, _, _, _, _, _, _, h⟩
        · cases h1
          rcases hu with ⟨h2, rfl⟩ | ⟨b, h2, rfl, h3⟩
          · exact nil (List.eq_nil_of_length_eq_zero (by omega)) rfl
          · rcases har with ⟨h4, h5⟩ | ⟨b', arr, T, h4, h5, h6, h7, h8⟩
            · rw [h2] at h5; cases h5
            · rw [h2] at h4; cases h4
              obtain ⟨fr, h5, _⟩ := h5
              exact fin b 0 _ arr T fr m hb.symm rfl h5 (fun i x hx => relT_mono (fun _ _ h => h) e x (fun k u hcell => by
                show arr[0 + i * e.size + k]? = some u
                rw [Nat.zero_add]; exact hcell) (h8 i x hx))
        · exact h.elim
    · cases h
  · rename_i id sz lo m
    split at h
    · rename_i l hl
      cases hb : Nat.beq sz e.size && Nat.ble (lo + m) l.length
      · rw [hb] at h; cases h
      · rw [hb] at h; cases h
        rw [Bool.and_eq_true] at hb
        have hsz := Nat.eq_of_beq_eq_true hb.1
        have hle := Nat.le_of_ble_eq_true hb.2
        subst hsz
        obtain ⟨ad, cap, rfl, h2, h3, h4⟩ := hu
        have hlen : ((l.drop lo).take m).length = m := by rw [List.length_take, List.length_drop]; omega
        rcases Nat.eq_zero_or_pos m with h0 | h0
        · have h0' : (l.drop lo).take m = [] := List.eq_nil_of_length_eq_zero (by omega)
          cases ad with
          | none => exact nil h0' (by rw [h0, h3 rfl])
          | some ad =>
            refine ⟨[], ?_, fun i x hx => by rw [h0'] at hx; simp at hx⟩
            rw [hlen]
            exact Src.ofSlice w hE' ad _ _ [] (by rw [h0]; simp) (fun j v hj => by simp at hj) (fun u hu => by simp at hu)
        · obtain ⟨b, h5, rfl⟩ := h4 h0
          rcases hsim.cells _ _ _ (arrAt_spec hl) with ⟨e', l', h1, _, har⟩ | ⟨_, _, _, _, _, _, _, h⟩
          · cases h1
            rcases har with ⟨h6, h7⟩ | ⟨b', arr, T, h6, h7, h8, h9, h10⟩
            · rw [h5] at h7; cases h7
            · rw [h5] at h6; cases h6
              obtain ⟨fr, h7, _⟩ := h7
              refine fin b (lo * e.size) _ arr T fr m hlen rfl h7 (fun i x hx => ?_)
              have hi : i < m := by
                rcases Nat.lt_or_ge i m with h | h
                · exact h
                · rw [List.getElem?_eq_none (by omega)] at hx; cases hx
              rw [List.getElem?_take_of_lt hi, List.getElem?_drop] at hx
              refine relT_mono (fun _ _ h => h) e x (fun k u hcell => ?_) (h10 _ x hx)
              have e1 : lo * e.size + i * e.size + k = (lo + i) * e.size + k := by rw [Nat.add_mul]
              show arr[lo * e.size + i * e.size + k]? = some u
              rw [e1]; exact hcell
          · exact h.elim
    · cases h
  · cases h
    exact nil rfl hu
  · cases h

/-- a source, cut short -/
theorem srcOf_cut {hp : Hp} {g : Gh} {e : Sh} {yv : CV} {ys : List e.Ty} {ds : List Dep} (h : srcOf hp e yv = some (ys, ds)) {u : Value} (hu : relV g yv u) (k : Nat) (hk : k ≤ ys.length) :
    ∃ a cap yv' ds', u = .slice a ys.length cap ∧ relV g yv' (.slice a k cap) ∧ srcOf hp e yv' = some (ys.take k, ds') := by
  unfold srcOf at h
  split at h
  · rename_i bw e' l'
    split at h
    · rename_i l hc
      cases hfl : (!bw || flatSh e)
      · rw [hfl] at h; cases h
      rw [hfl] at h
      cases h
      obtain ⟨rfl, h1⟩ := castLs_spec hc
      have h1 : ys = l' := h1
      subst h1
      obtain ⟨ad, cap, rfl, h2, h3, h4⟩ := hu
      have hlk : (ys.take k).length = k := by rw [List.length_take]; omega
      refine ⟨ad, cap, .one (.s (.ls bw e' (ys.take k))), [], rfl, ⟨ad, cap, by rw [hlk], by omega, h3, fun h0 => ?_⟩, ?_⟩
      · obtain ⟨b, off, h5, h6⟩ := h4 (by omega)
        refine ⟨b, off, h5, fun i x hx => h6 i x ?_⟩
        have hi : i < k := by
          rcases Nat.lt_or_ge i k with h | h
          · exact h
          · rw [List.getElem?_eq_none (by omega)] at hx; cases hx
        rw [List.getElem?_take_of_lt hi] at hx; exact hx
      · have : castLs e' e' (ys.take k) = some (ys.take k) := by unfold castLs; rw [dif_pos rfl]
        simp only [srcOf, this, hfl, cond_true]
    · cases h
  · rename_i id m
    split at h
    · rename_i l hl
      cases hb : Nat.beq m l.length
      · rw [hb] at h; cases h
      · rw [hb] at h; cases h
        have hb := Nat.eq_of_beq_eq_true hb
        subst hb
        have hsrc : srcOf hp e (.one (.s (.win id e.size 0 k))) = some (ys.take k, [(id, 0, .arr e ys)]) := by
          simp only [srcOf, hl, Nat.beq_refl, Nat.ble_eq_true_of_le (show 0 + k ≤ ys.length by omega), Bool.and_true, cond_true, List.drop_zero]
        rcases hu with ⟨h2, rfl⟩ | ⟨b, h2, rfl, h3⟩
        · have hk0 : k = 0 := by omega
          subst hk0
          exact ⟨none, 0, .one (.s (.win id e.size 0 0)), [(id, 0, .arr e ys)], by rw [h2], ⟨none, 0, rfl, Nat.le_refl _, fun _ => rfl, fun h => by omega⟩, hsrc⟩
        · refine ⟨_, _, .one (.s (.win id e.size 0 k)), [(id, 0, .arr e ys)], rfl, ⟨_, _, rfl, by omega, (fun h => by cases h), fun h => ⟨b, h2, ?_⟩⟩, hsrc⟩
          rw [Nat.zero_mul]
    · cases h
  · rename_i id sz lo m
    split at h
    · rename_i l hl
      cases hb : Nat.beq sz e.size && Nat.ble (lo + m) l.length
      · rw [hb] at h; cases h
      · rw [hb] at h; cases h
        rw [Bool.and_eq_true] at hb
        have hsz := Nat.eq_of_beq_eq_true hb.1
        have hle := Nat.le_of_ble_eq_true hb.2
        subst hsz
        obtain ⟨ad, cap, rfl, h2, h3, h4⟩ := hu
        have hlen : ((l.drop lo).take m).length = m := by rw [List.length_take, List.length_drop]; omega
        refine ⟨ad, cap, .one (.s (.win id e.size lo k)), [(id, 0, .arr e l)], by rw [hlen], ⟨ad, cap, rfl, by omega, h3, fun h0 => h4 (by omega)⟩, ?_⟩
        simp only [srcOf, hl, Nat.beq_refl, Nat.ble_eq_true_of_le (show lo + k ≤ l.length by omega), Bool.and_true, cond_true]
        rw [List.take_take, Nat.min_eq_left (by omega)]
    · cases h
  · cases h
    have hu : u = .slice none 0 0 := hu
    have hk0 : k = 0 := by simpa using hk
    subst hu hk0
    exact ⟨none, 0, .one (.s (.v (.slice none 0 0))), [], rfl, rfl, rfl⟩
  · cases h

theorem dstOf_spec {hp : Hp} {g : Gh} {e : Sh} {xv : CV} {id lo n : Nat} {l : List e.Ty} (h : dstOf hp e xv = some (id, lo, n, l, true)) {u : Value} (hu : relV g xv u) :
    arrAt hp id e = some l ∧ lo + n ≤ l.length ∧ ∃ a cap, u = .slice a n cap ∧ (0 < n → ∃ b, g.β id = some b ∧ a = some ⟨b, lo * e.size, none⟩) := by
  unfold dstOf at h
  split at h
  · split at h
    · rename_i l' hl
      simp only [Option.some.injEq, Prod.mk.injEq] at h
      obtain ⟨rfl, rfl, rfl, rfl, hb⟩ := h
      have hb := Nat.eq_of_beq_eq_true hb
      refine ⟨hl, by omega, ?_⟩
      rcases hu with ⟨h2, rfl⟩ | ⟨b, h2, rfl, h3⟩
      · exact ⟨none, 0, by rw [h2], fun h => by omega⟩
      · exact ⟨_, _, rfl, fun _ => ⟨b, h2, by rw [Nat.zero_mul]⟩⟩
    · cases h
  · split at h
    · rename_i l' hl
      simp only [Option.some.injEq, Prod.mk.injEq] at h
      obtain ⟨rfl, rfl, rfl, rfl, hb⟩ := h
      rw [Bool.and_eq_true] at hb
      have hsz := Nat.eq_of_beq_eq_true hb.1
      have hle := Nat.le_of_ble_eq_true hb.2
      subst hsz
      obtain ⟨ad, cap, rfl, h2, h3, h4⟩ := hu
      exact ⟨hl, hle, ad, cap, rfl, h4⟩
    · cases h
  · cases h

/-- elements laid over others, as cells -/
theorem laid_over {m : Nat → Option Obj} {e : Sh} {l zs : List e.Ty} {arr : Array Value} {news : List Value} {lo : Nat} (hl : lo + zs.length ≤ l.length) (hs : l.length * e.size ≤ arr.size) (hn : news.length = zs.length * e.size)
    (h1 : ∀ i x, l[i]? = some x → relT m e x (fun k u => arr[i * e.size + k]? = some u)) (h2 : ∀ i x, zs[i]? = some x → relT m e x (fun k u => news[i * e.size + k]? = some u)) :
    ∀ i x, (l.take lo ++ zs ++ l.drop (lo + zs.length))[i]? = some x → relT m e x (fun k u => (arr.toList.take (lo * e.size) ++ news ++ arr.toList.drop (lo * e.size + news.length)).toArray[i * e.size + k]? = some u) := by
  intro i x hx
  have hlo : (l.take lo).length = lo := by rw [List.length_take]; omega
  have hmul : (lo + zs.length) * e.size ≤ l.length * e.size := Nat.mul_le_mul_right _ hl
  rw [Nat.add_mul] at hmul
  have halo : (arr.toList.take (lo * e.size)).length = lo * e.size := by
    rw [List.length_take, Array.length_toList]; omega
  have small : ∀ {i j k : Nat}, i < j → k < e.size → i * e.size + k < j * e.size := fun {i j k} h hk => by
    have : (i + 1) * e.size ≤ j * e.size := Nat.mul_le_mul_right _ h
    rw [Nat.add_mul] at this; omega
  have big : ∀ {i j k : Nat}, j ≤ i → j * e.size ≤ i * e.size + k := fun {i j k} h => by
    have : j * e.size ≤ i * e.size := Nat.mul_le_mul_right _ h
    omega
  rcases Nat.lt_or_ge i lo with hi | hi
  · rw [List.append_assoc, List.getElem?_append_left (by omega), List.getElem?_take_of_lt hi] at hx
    refine relT_lt e x (fun k u hk hu => ?_) (h1 i x hx)
    have := small hi hk
    show (arr.toList.take (lo * e.size) ++ news ++ arr.toList.drop (lo * e.size + news.length)).toArray[i * e.size + k]? = some u
    rw [List.getElem?_toArray, List.append_assoc, List.getElem?_append_left (by omega), List.getElem?_take_of_lt this, Array.getElem?_toList]
    exact hu
  · rcases Nat.lt_or_ge i (lo + zs.length) with hi2 | hi2
    · rw [List.append_assoc, List.getElem?_append_right (by omega), hlo, List.getElem?_append_left (by omega)] at hx
      refine relT_lt e x (fun k u hk hu => ?_) (h2 _ x hx)
      have e1 : i * e.size + k - lo * e.size = (i - lo) * e.size + k := by
        rw [Nat.sub_mul]; have := big (k := 0) hi; omega
      have := small (i := i - lo) (j := zs.length) (by omega) hk
      have := big (k := k) hi
      show (arr.toList.take (lo * e.size) ++ news ++ arr.toList.drop (lo * e.size + news.length)).toArray[i * e.size + k]? = some u
      rw [List.getElem?_toArray, List.append_assoc, List.getElem?_append_right (by omega), halo, e1, List.getElem?_append_left (by omega)]
      exact hu
    · rw [List.getElem?_append_right (by rw [List.length_append]; omega), List.length_append, hlo, List.getElem?_drop] at hx
      have e0 : lo + zs.length + (i - (lo + zs.length)) = i := by omega
      rw [e0] at hx
      refine relT_lt e x (fun k u hk hu => ?_) (h1 i x hx)
      have := big (k := k) hi2
      rw [Nat.add_mul] at this
      show (arr.toList.take (lo * e.size) ++ news ++ arr.toList.drop (lo * e.size + news.length)).toArray[i * e.size + k]? = some u
      rw [List.getElem?_toArray, List.getElem?_append_right (by rw [List.length_append]; omega), List.length_append, halo, List.getElem?_drop, Array.getElem?_toList, hn]
      have e2 : lo * e.size + zs.length * e.size + (i * e.size + k - (lo * e.size + zs.length * e.size)) = i * e.size + k := by omega
      rw [e2]; exact hu

theorem copy_sound {o : Oper} {s : St} {T T' ty : TypeId} {x y : Operand} {K : Eff → Tr α} {rv : α} (hrun : ∀ (a : Act) w, (execOp a.eval o).run P w = ((Builtin.copy_ #[T, T'] ty #[a.eval x, a.eval y]) >>= fun v => pure (Next.value v)).run P w)
    (h : ccopy P o.dst [T, T'] s (s.ev x) (s.ev y) K = some rv) : ∃ e, K e = some rv ∧ EffOk P o s e := by
  simp only [ccopy] at h
  split at h
  · rename_i e he
    have hbr := brT_req h; clear h; obtain ⟨hh, h⟩ := hbr
    rw [Bool.and_eq_true] at hh
    obtain ⟨hok, hT'⟩ := hh
    obtain ⟨E, i, z, hE, hi, hz, hsz, hzz, hby⟩ := elemOk_spec hok
    split at h
    · rename_i ys ok hysU
      split at h
      · rename_i id lo n l ok' hdst
        have hbr := brT_req h; clear h; obtain ⟨hc, h⟩ := hbr
        rw [Bool.and_eq_true, Bool.and_eq_true] at hc
        obtain ⟨⟨rfl, rfl⟩, hlo⟩ := hc
        obtain ⟨ds, hys⟩ := srcU_spec hysU
        refine ⟨_, h, ?_⟩
        intro X w0 m g a w K' Q hsim hd hk
        generalize hkk : Nat.min ys.length n = k at *
        have hk1 : k ≤ ys.length := by rw [← hkk]; exact Nat.min_le_left _ _
        have hk2 : k ≤ n := by rw [← hkk]; exact Nat.min_le_right _ _
        obtain ⟨hl, hln, ad, dcap, hxe, hbase⟩ := dstOf_spec hdst (hsim.ev x)
        obtain ⟨sa, scap, yv', ds', hye, hrel, hsrc⟩ := srcOf_cut hys (hsim.ev y) k hk1
        obtain ⟨news, hs1, hs2⟩ := srcOf_sound hsim hsrc hT' hrel
        have htk : (ys.take k).length = k := by rw [List.length_take]; omega
        rw [htk] at hs1
        have hcells : (Builtin.firstCells e.size k (.slice sa ys.length scap)).run P w = .ok news.toArray w := by
          have := hs1.cells
          cases sa <;> exact this
        have hid := arrAt_spec hl
        rcases Nat.eq_zero_or_pos k with h0 | h0
        · -- nothing is copied
          subst h0
          have hnews : news = [] := List.eq_nil_of_length_eq_zero (by rw [hs1.newsLen]; simp)
          subst hnews
          refine wp_of_run (v := goInt 0) (w' := w) ?_ ?_
          · rw [hrun, hxe, hye]
            cases ad with
            | none => simp [Builtin.copy_, run_underlying hE, Builtin.lenOf, sizeOf, typeInfo, hi, hsz, hkk, hcells]
            | some ad => simp [Builtin.copy_, run_underlying hE, Builtin.lenOf, sizeOf, typeInfo, hi, hsz, hkk, hcells, storeCells]
          · refine hk g _ w ?_
            have hll : l.take lo ++ ys.take 0 ++ l.drop (lo + 0) = l := by simp
            have hs : Sim X w0 m { s with hp := withArr s.hp id (.arr e l) } g a w := by
              refine ⟨hsim.tm, hsim.len, hsim.df, hsim.ok, fun i o c hc => ?_, hsim.nx, fun i o c hc => ?_, hsim.lo, hsim.ln⟩
              · have hc : withArr s.hp id (.arr e l) i o = some c := hc
                by_cases e1 : i = id
                · subst e1
                  rw [withArr_id] at hc
                  split at hc
                  · rename_i e2; cases hc; rw [e2]; exact hsim.cells _ _ _ hid
                  · cases hc
                · rw [withArr_ne _ _ _ e1] at hc; exact hsim.cells _ _ _ hc
              · have hc : withArr s.hp id (.arr e l) i o = some c := hc
                by_cases e1 : i = id
                · subst e1; exact hsim.hx _ _ _ hid
                · rw [withArr_ne _ _ _ e1] at hc; exact hsim.hx _ _ _ hc
            rw [hll]
            exact hs.put (cv := exI ((0 : Nat) : Int)) hd rfl
        · obtain ⟨b, hb, rfl⟩ := hbase (by omega)
          rcases hsim.cells _ _ _ hid with ⟨e', l', h2, _, har⟩ | ⟨_, _, _, _, _, _, _, hf⟩
          · cases h2
            rcases har with ⟨h4, h5⟩ | ⟨b', arr, T0, h4, h5, h6, h7, h8⟩
            · rw [hb] at h5; cases h5
            · rw [hb] at h4; cases h4
              have hmul : l.length * e.size ≤ arr.size := by rw [h6]; exact Nat.mul_le_mul_right _ h7
              have hmul2 : (lo + k) * e.size ≤ l.length * e.size := Nat.mul_le_mul_right _ (by omega)
              rw [Nat.add_mul] at hmul2
              have hnl := hs1.newsLen
              have hst := run_storeCells_row (P := P) b (lo * e.size) T0 news 0 arr w h5 (by rw [hnl]; omega) hs1.one
              simp only [Nat.add_zero] at hst
              refine wp_of_run (v := goInt k) (w' := w.setRow b (arr.toList.take (lo * e.size) ++ news ++ arr.toList.drop (lo * e.size + news.length)).toArray) ?_ ?_
              · rw [hrun, hxe, hye]
                simp [Builtin.copy_, run_underlying hE, Builtin.lenOf, sizeOf, typeInfo, hi, hsz, hkk, hcells, hst]
              · refine hk g _ _ ?_
                have hsz2 : (arr.toList.take (lo * e.size) ++ news ++ arr.toList.drop (lo * e.size + news.length)).toArray.size = arr.size := by
                  simp [hnl]; omega
                have hll := laid_over (m := g.im) (l := l) (zs := ys.take k) (arr := arr) (news := news) (lo := lo) (by rw [htk]; omega) hmul (by rw [htk]; exact hnl) h8 hs2
                rw [htk] at hll
                have hs := hsim.arrSet (id := id) (e := e) (l := l.take lo ++ ys.take k ++ l.drop (lo + k)) hb h5 (arr.toList.take (lo * e.size) ++ news ++ arr.toList.drop (lo * e.size + news.length)).toArray
                  (.inr ⟨b, _, T0, hb, h5.set hsz2, by rw [hsz2]; exact h6, by
                    rw [List.length_append, List.length_append, List.length_take, List.length_drop, htk]; omega, hll⟩)
                exact hs.put (cv := exI ((k : Nat) : Int)) hd rfl
          · exact hf.elim
      · cases h
    · cases h
  · cases h

theorem zeroCells_size (z : Array Value) (n : Nat) : (Builtin.zeroCells z n).size = n * z.size := by simp [Builtin.zeroCells]

theorem run_append_room_row (w : World) (t tx ty E : TypeId) (i : TypeInfo) (ht : P.underlying t = some (.slice E)) (hi : P.info? E = some i) (b sLen sCap : Nat) (x : Value) (n : Nat) (news : List Value) (hs : Src P i.size tx x n news w)
    (hroom : sLen + n ≤ sCap) {arr : Array Value} {T : TypeId} (hh : RowAt w b arr T) (hl : sLen * i.size + news.length ≤ arr.size) :
    (Builtin.append_ #[t, tx] ty #[.slice (some ⟨b, 0, none⟩) sLen sCap, x]).run P w = .ok (.slice (some ⟨b, 0, none⟩) (sLen + n) sCap) (w.setRow b (arr.toList.take (sLen * i.size) ++ news ++ arr.toList.drop (sLen * i.size + news.length)).toArray) := by
  have hst := run_storeCells_row (P := P) b (sLen * i.size) T news 0 arr w hh (by simpa using hl) hs.one
  simp only [Nat.add_zero] at hst
  have hadd : (⟨b, 0, none⟩ : Addr).add (sLen * i.size) = ⟨b, sLen * i.size, none⟩ := by unfold Addr.add; split <;> simp_all
  rcases hs.kind with ⟨e', hk⟩ | hk <;> simp [Builtin.append_, run_underlying ht, run_underlying hk, sizeOf, typeInfo, hi, hs.len, hroom, hs.cells, hadd, hst]

theorem append_sound {o : Oper} {s : St} {T T' ty : TypeId} {x y : Operand} {K : Eff → Tr α} {rv : α} (hrun : ∀ (a : Act) w, (execOp a.eval o).run P w = ((Builtin.append_ #[T, T'] ty #[a.eval x, a.eval y]) >>= fun v => pure (Next.value v)).run P w)
    (h : cappend P o.dst [T, T'] s (s.ev x) (s.ev y) K = some rv) : ∃ e, K e = some rv ∧ EffOk P o s e := by
  simp only [cappend] at h
  split at h
  · rename_i e he
    have hbr := brT_req h; clear h; obtain ⟨hh, h⟩ := hbr
    rw [Bool.and_eq_true] at hh
    obtain ⟨hok, hT'⟩ := hh
    obtain ⟨E, i, z, hE, hi, hz, hsz, hzz, hby⟩ := elemOk_spec hok
    have hzl : z.cells.size = e.size := by have := eqZs_length hzz; rw [zeroV_length] at this; simpa using this
    split at h
    · rename_i ys ok hysU
      have hbr := brT_req h; clear h; obtain ⟨hoku, h⟩ := hbr
      subst hoku
      obtain ⟨ds, hys⟩ := srcU_spec hysU
      -- a new row, whatever was there
      have grow : ∀ {w : World} {a : Act} {base : Option Addr} {sLen sCap : Nat} {olds news : List Value}, a.eval x = .slice base sLen sCap → (Builtin.firstCells i.size sLen (.slice base sLen sCap)).run P w.drew = .ok olds.toArray w.drew → Src P i.size T' (a.eval y) ys.length news w →
          sCap < sLen + ys.length → sLen + ys.length ≤ mostLen → olds.length = sLen * e.size → news.length = ys.length * e.size →
          ∃ c arr, sLen + ys.length ≤ c ∧ arr.size = c * e.size ∧ (∀ j, j < (olds ++ news).length → arr[j]? = (olds ++ news)[j]?) ∧ (execOp a.eval o).run P w = .ok (.value (.slice (some ⟨w.heap.size, 0, none⟩) (sLen + ys.length) c)) ((w.drewN 1).alloc (.cells arr E)) := by
        intro w a base sLen sCap olds news hx hold hsrc hg hm ho hn
        have hcap : Builtin.nextslicecap (sLen + ys.length) sCap * i.bytes ≤ 281474976710656 := by
          have h1 := nextslicecap_le (need := sLen + ys.length) (old := sCap) hg
          unfold mostLen at hm
          have h2 : Builtin.nextslicecap (sLen + ys.length) sCap * i.bytes ≤ 2147483648 * 4096 := Nat.mul_le_mul (by omega) hby
          omega
        have hr := run_append_grow_src w T T' ty E i z hE hi hz base sLen sCap olds hold (a.eval y) ys.length news hsrc hg (by unfold mostLen at hm; omega) hcap
        have hge := grownCap_ge w (sLen + ys.length) sCap E
        refine ⟨grownCap w (sLen + ys.length) sCap E, (olds ++ news).toArray ++ Builtin.zeroCells z.cells (grownCap w (sLen + ys.length) sCap E - (sLen + ys.length)), hge, ?_, ?_, ?_⟩
        rotate_left 2
        · rw [hrun, hx]
          simp only [Sem.run_bind, hr, Result.andThen_ok, Sem.run_pure]
          rfl
        · rw [Array.size_append, zeroCells_size, hzl]
          simp only [List.size_toArray, List.length_append, ho, hn]
          rw [← Nat.add_mul, ← Nat.add_mul]
          congr 1; omega
        · intro j hj
          rw [Array.getElem?_append_left (by simpa using hj)]
          simp
      split at h
      · rename_i hxe
        have hbr := brT_req h; clear h; obtain ⟨hc, h⟩ := hbr
        rw [Bool.and_eq_true] at hc
        have h0 : 0 < ys.length := Nat.le_of_ble_eq_true hc.1
        have h1 := Nat.le_of_ble_eq_true hc.2
        refine ⟨_, h, ?_⟩
        intro X w0 m g a w K' Q hsim hd hk
        have hxa := hsim.ev x
        rw [hxe] at hxa
        have hxa : a.eval x = .slice none 0 0 := hxa
        obtain ⟨news, hs1, hs2⟩ := srcOf_sound hsim hys hT' (hsim.ev y)
        obtain ⟨c, arr, h2, h3, h4, h5⟩ := grow (olds := []) hxa (run_firstCells_none _ _ _ _ _) (by rw [hsz]; exact hs1) (by omega) (by omega) (by simp) hs1.newsLen
        refine wp_of_run h5 ?_
        have hb := (hsim.drewN 1).born (d := o.dst) hd (e := e) (l := ys) (arr := arr) (T := E) (c := c) h3 (by omega) (fun j x hx => relT_lt e x (fun k u hkk hu => by
          have hj : j < ys.length := by
            rcases Nat.lt_or_ge j ys.length with h6 | h6
            · exact h6
            · rw [List.getElem?_eq_none h6] at hx; cases hx
          have hlt : j * e.size + k < news.length := by
            rw [hs1.newsLen]
            have : (j + 1) * e.size ≤ ys.length * e.size := Nat.mul_le_mul_right _ hj
            rw [Nat.add_mul] at this; omega
          show _ = some u
          rw [h4 _ (by simpa using hlt)]; simpa using hu) (hs2 j x hx))
        have e0 : 0 + ys.length = ys.length := by omega
        rw [e0]
        exact hk _ _ _ hb
      · rename_i id n hxe
        split at h
        · rename_i l hl
          have hbr := brT_req h; clear h; obtain ⟨hc, h⟩ := hbr
          rw [Bool.and_eq_true, Bool.and_eq_true] at hc
          have hlo := Nat.le_of_ble_eq_true hc.1
          have h0 := Nat.eq_of_beq_eq_true hc.2.1
          have h1 := Nat.le_of_ble_eq_true hc.2.2
          have hid := arrAt_spec hl
          refine ⟨_, h, ?_⟩
          intro X w0 m g a w K' Q hsim hd hk
          have hxa := hsim.ev x
          rw [hxe] at hxa
          obtain ⟨news, hs1, hs2⟩ := srcOf_sound hsim hys hT' (hsim.ev y)
          have hs1' : Src P i.size T' (a.eval y) ys.length news w := by rw [hsz]; exact hs1
          have hp := size_pos e
          have inl : ∀ {zs : List e.Ty} {j : Nat} {x : e.Ty} {k : Nat}, zs[j]? = some x → k < e.size → j < zs.length ∧ j * e.size + k < zs.length * e.size := fun {zs j x k} hx hkk => by
            have hj : j < zs.length := by
              rcases Nat.lt_or_ge j zs.length with h6 | h6
              · exact h6
              · rw [List.getElem?_eq_none h6] at hx; cases hx
            have : (j + 1) * e.size ≤ zs.length * e.size := Nat.mul_le_mul_right _ hj
            rw [Nat.add_mul] at this
            exact ⟨hj, by omega⟩
          -- the longer list's elements lie behind the old ones
          have joined : ∀ {olds : List Value} {arr : Array Value}, olds.length = l.length * e.size → (∀ i x, l[i]? = some x → relT g.im e x (fun k u => olds[i * e.size + k]? = some u)) → (∀ j, j < (olds ++ news).length → arr[j]? = (olds ++ news)[j]?) →
              ∀ i x, (l ++ ys)[i]? = some x → relT g.im e x (fun k u => arr[i * e.size + k]? = some u) := by
            intro olds arr ho hr ha j x hx
            rcases Nat.lt_or_ge j l.length with hj | hj
            · rw [List.getElem?_append_left hj] at hx
              refine relT_lt e x (fun k u hkk hu => ?_) (hr j x hx)
              have h6 := inl hx hkk
              show _ = some u
              rw [ha _ (by simp; omega), List.getElem?_append_left (by omega)]; exact hu
            · rw [List.getElem?_append_right hj] at hx
              refine relT_lt e x (fun k u hkk hu => ?_) (hs2 _ x hx)
              have h6 := inl hx hkk
              have h7 : j * e.size + k = l.length * e.size + ((j - l.length) * e.size + k) := by
                have : j = l.length + (j - l.length) := by omega
                conv => lhs; rw [this, Nat.add_mul]
                omega
              show _ = some u
              have hnl := hs1.newsLen
              rw [ha _ (by rw [List.length_append]; omega), List.getElem?_append_right (by omega), ho]
              have h8 : j * e.size + k - l.length * e.size = (j - l.length) * e.size + k := by omega
              rw [h8]; exact hu
          rcases hsim.cells _ _ _ hid with ⟨e', l', h2, _, har⟩ | ⟨_, _, _, _, _, _, _, hf⟩
          · cases h2
            rcases hxa with ⟨hn0, hxv⟩ | ⟨b, hb, hxv, hle⟩
            · -- the list has no row yet
              have hl0 : l = [] := List.eq_nil_of_length_eq_zero (by omega)
              rcases Nat.eq_zero_or_pos ys.length with hy0 | hy0
              · have hy : ys = [] := List.eq_nil_of_length_eq_zero hy0
                subst hl0 hy
                have hnews : news = [] := List.eq_nil_of_length_eq_zero (by rw [hs1.newsLen]; simp)
                subst hnews
                refine wp_of_run (w' := w) (v := .slice none 0 0) ?_ ?_
                · rw [hrun, hxv]
                  obtain ⟨E', hE'⟩ := tySlice_spec hT'
                  have hlen : ∀ w' : World, (Builtin.lenOf (a.eval y)).run P w' = .ok 0 w' := hs1'.len
                  have hcells : (Builtin.firstCells i.size 0 (a.eval y)).run P w = .ok #[] w := hs1'.cells
                  simp [Builtin.append_, run_underlying hE, run_underlying hE', sizeOf, typeInfo, hi, hlen, hcells]
                · have hs' : Sim X w0 m (grownSt s o.dst id e ([] ++ [])) g (a.put o.dst (.slice none 0 0)) w := by
                    have hbut := Gh.but_refl g id
                    refine ⟨tm_put (fun t => relV_kill hbut _ _ (hsim.tm t)) hsim.len hd (.inl ⟨rfl, rfl⟩), by rw [put_size]; exact hsim.len, by rw [put_defers']; exact hsim.df, hsim.ok, fun i o c hc => ?_, hsim.nx, fun i o c hc => ?_, hsim.lo, hsim.ln⟩
                    · rcases grown_hp hc with ⟨rfl, rfl, rfl⟩ | ⟨e1, c', h1, rfl⟩
                      · exact .inl ⟨e, [], rfl, rfl, har⟩
                      · exact (hsim.cells _ _ _ h1).kill hbut e1 (fun _ _ => rfl)
                    · show i < s.nx
                      rcases grown_hp hc with ⟨rfl, _, _⟩ | ⟨e1, c', h1, _⟩
                      · exact hsim.hx _ _ _ hid
                      · exact hsim.hx _ _ _ h1
                  exact hk _ _ _ hs'
              · obtain ⟨c, arr, h2, h3, h4, h5⟩ := grow (olds := []) hxv (run_firstCells_none _ _ _ _ _) hs1' (by omega) (by omega) (by simp) hs1.newsLen
                refine wp_of_run h5 ?_
                have hg := (hsim.drewN 1).grown (d := o.dst) hd hid hlo (e := e) (l := l ++ ys) (arr := arr) (T := E) (c := c) h3 (by rw [List.length_append]; omega) (joined (olds := []) (by rw [hl0]; simp) (fun i x hx => by rw [hl0] at hx; simp at hx) h4)
                have e0 : (l ++ ys).length = 0 + ys.length := by rw [List.length_append]; omega
                rw [e0] at hg
                exact hk _ _ _ hg
            · rcases har with ⟨h2, h3⟩ | ⟨b', arr, Tr, h2, h3, h4, h5, h6⟩
              · rw [hb] at h3; cases h3
              · rw [hb] at h2; cases h2
                have hold : (arr.toList.take (l.length * e.size)).length = l.length * e.size := by
                  have ea : arr.toList.length = arr.size := Array.length_toList
                  have : l.length * e.size ≤ g.cp id * e.size := Nat.mul_le_mul_right _ h5
                  rw [List.length_take, ea]; omega
                have holdr : ∀ i x, l[i]? = some x → relT g.im e x (fun k u => (arr.toList.take (l.length * e.size))[i * e.size + k]? = some u) := fun j x hx => relT_lt e x (fun k u hkk hu => by
                  have h7 := inl hx hkk
                  show _ = some u
                  rw [List.getElem?_take_of_lt h7.2]; simpa using hu) (h6 j x hx)
                rcases Nat.lt_or_ge (g.cp id) (n + ys.length) with hcap | hcap
                · -- a new row
                  have hadd : ∀ j : Nat, (⟨b, 0, none⟩ : Addr).add j = ⟨b, j, none⟩ := fun j => by unfold Addr.add; split <;> simp_all
                  obtain ⟨c, arr', g2, g3, g4, g5⟩ := grow (olds := arr.toList.take (l.length * e.size)) hxv (run_firstCells_some _ _ _ _ _ _ _ (by rw [hold, h0, hsz]) (fun j v hj => by
                    rw [hadd]
                    have hj' : j < l.length * e.size := by
                      rw [← hold]
                      rcases Nat.lt_or_ge j (arr.toList.take (l.length * e.size)).length with h7 | h7
                      · exact h7
                      · rw [List.getElem?_eq_none h7] at hj; cases hj
                    rw [List.getElem?_take_of_lt hj'] at hj
                    have hh : RowAt w.drew b arr Tr := h3
                    rw [hh.cell]
                    simpa using hj)) hs1' hcap (by omega) (by rw [hold, h0]) hs1.newsLen
                  refine wp_of_run g5 ?_
                  have hg := (hsim.drewN 1).grown (d := o.dst) hd hid hlo (e := e) (l := l ++ ys) (arr := arr') (T := E) (c := c) g3 (by rw [List.length_append]; omega) (joined hold holdr g4)
                  have e0 : (l ++ ys).length = n + ys.length := by rw [List.length_append]; omega
                  rw [e0] at hg
                  exact hk _ _ _ hg
                · -- in its place
                  have hnl := hs1.newsLen
                  have hfit : n * i.size + news.length ≤ arr.size := by
                    rw [hnl, hsz, h4, ← Nat.add_mul]
                    exact Nat.mul_le_mul_right _ hcap
                  have hr := run_append_room_row w T T' ty E i hE hi b n (g.cp id) (a.eval y) ys.length news hs1' hcap h3 hfit
                  refine wp_of_run (w' := _) (v := _) (by rw [hrun, hxv]; simp only [Sem.run_bind, hr, Result.andThen_ok, Sem.run_pure]; rfl) ?_
                  have hlen : (l ++ ys).length = n + ys.length := by rw [List.length_append]; omega
                  refine hk _ _ _ (hsim.grownIn (d := o.dst) hd hb h3 _ (.inr ⟨b, _, Tr, hb, h3.set (splice_size _ _ _ hfit), by rw [splice_size _ _ _ hfit]; exact h4, by omega, ?_⟩) (.inr ⟨b, hb, by rw [hlen], by omega⟩))
                  refine fun j x hx => ?_
                  rcases Nat.lt_or_ge j l.length with hj | hj
                  · rw [List.getElem?_append_left hj] at hx
                    refine relT_lt e x (fun k u hkk hu => ?_) (h6 j x hx)
                    have h7 := inl hx hkk
                    show _ = some u
                    rw [splice_get _ _ _ hfit, if_neg (by rw [h0, hsz]; omega)]; exact hu
                  · rw [List.getElem?_append_right hj] at hx
                    refine relT_lt e x (fun k u hkk hu => ?_) (hs2 _ x hx)
                    have h7 := inl hx hkk
                    have h8 : j * e.size + k = l.length * e.size + ((j - l.length) * e.size + k) := by
                      have : j = l.length + (j - l.length) := by omega
                      conv => lhs; rw [this, Nat.add_mul]
                      omega
                    show _ = some u
                    rw [splice_get _ _ _ hfit, if_pos (by rw [h0, hsz]; omega), h0, hsz]
                    have h9 : j * e.size + k - l.length * e.size = (j - l.length) * e.size + k := by omega
                    rw [h9]; exact hu
          · exact hf.elim
        · cases h
      · cases h
    · cases h
  · cases h
end
end Go.Dv

/- The model's operations do what 'cop' says (part 6): parts of lists, new lists, lengths, calls. -/
namespace Go.Dv
open Go.RowKit Go.Cv

section
variable {P : Program} {α : Type}

theorem argsOf_rel {g : Gh} {ev : Operand → CV} {a : Act} : ∀ {xs : List Operand} {cs : List CV1}, argsOf (xs.map ev) = some cs → (∀ x ∈ xs, relV g (ev x) (a.eval x)) →
    (xs.map a.eval).length = cs.length ∧ ∀ (j : Nat) c u, cs[j]? = some c → (xs.map a.eval)[j]? = some u → rel1 g c u
  | [], cs, h, _ => by simp only [List.map_nil, argsOf] at h; cases h; exact ⟨rfl, fun j c u h => by simp at h⟩
  | x :: xs, cs, h, hr => by
    simp only [List.map_cons] at h
    cases hx : ev x with
    | tup vs => rw [hx] at h; simp [argsOf] at h
    | one c =>
      rw [hx] at h
      simp only [argsOf] at h
      split at h
      · rename_i cs' hcs; cases h
        obtain ⟨h1, h2⟩ := argsOf_rel hcs (fun y hy => hr y (by simp [hy]))
        refine ⟨by simpa using h1, fun j c' u h3 h4 => ?_⟩
        cases j with
        | zero =>
          simp at h3 h4; subst h3 h4
          have := hr x (by simp); rw [hx] at this; exact this
        | succ j => exact h2 j c' u (by simpa using h3) (by simpa using h4)
      · cases h

theorem scalarsOf_rel {g : Gh} {ev : Operand → CV} {a : Act} : ∀ {xs : List Operand} {cs : List CS}, scalarsOf (xs.map ev) = some cs → (∀ x ∈ xs, relV g (ev x) (a.eval x)) →
    (xs.map a.eval).length = cs.length ∧ ∀ (j : Nat) c u, cs[j]? = some c → (xs.map a.eval)[j]? = some u → rel g c u
  | [], cs, h, _ => by simp only [List.map_nil, scalarsOf] at h; cases h; exact ⟨rfl, fun j c u h => by simp at h⟩
  | x :: xs, cs, h, hr => by
    simp only [List.map_cons] at h
    cases hx : ev x with
    | tup vs => rw [hx] at h; simp [scalarsOf] at h
    | one c =>
      rw [hx] at h
      cases c with
      | agg ys =>
        simp only [scalarsOf] at h
        split at h
        · rename_i cs' hcs; cases h
          obtain ⟨h1, h2⟩ := scalarsOf_rel hcs (fun y hy => hr y (by simp [hy]))
          refine ⟨by simpa using h1, fun j c' u h3 h4 => ?_⟩
          cases j with
          | zero =>
            simp at h3 h4; subst h3 h4
            have := hr x (by simp); rw [hx] at this; exact rel_ofAgg this
          | succ j => exact h2 j c' u (by simpa using h3) (by simpa using h4)
        · cases h
      | s c =>
        simp only [scalarsOf] at h
        split at h
        · rename_i cs' hcs; cases h
          obtain ⟨h1, h2⟩ := scalarsOf_rel hcs (fun y hy => hr y (by simp [hy]))
          refine ⟨by simpa using h1, fun j c' u h3 h4 => ?_⟩
          cases j with
          | zero =>
            simp at h3 h4; subst h3 h4
            have := hr x (by simp); rw [hx] at this; exact this
          | succ j => exact h2 j c' u (by simpa using h3) (by simpa using h4)
        · cases h

/-- a call by its contract -/
theorem wp_of_callOk {o : Oper} {a : Act} {w : World} {K : Act → World → Prop} {Q : Exit → Act → World → Prop} {f : FuncId} {vals : Array Value} {R : Value → World → Prop}
    (hrun : (execOp a.eval o).run P w = (callFunc f vals).run P w) (h : CallOk P f vals w R) (hk : ∀ v w', R v w' → K (a.put o.dst v) w') : o.wp P a w K Q := by
  unfold Oper.wp
  rw [hrun]
  unfold CallOk at h
  generalize (callFunc f vals).run P w = r at *
  cases r with
  | halt x w' => cases h
  | ok n w' =>
    cases n <;> simp only at h <;> simp only [Oper.upon]
    · exact hk _ _ h
    · refine h.mono fun e w'' hh => ?_
      obtain ⟨v, rfl, hr⟩ := hh
      exact hk _ _ hr

theorem newArrs_get : ∀ {nw : List CS} {hp : Hp} {nx i o : Nat} {c : CS}, newArrs hp nx nw i o = some c → (∃ k, i = nx + k ∧ o = 0 ∧ nw[k]? = some c) ∨ ((∀ k, k < nw.length → i ≠ nx + k) ∧ hp i o = some c)
  | [], hp, nx, i, o, c, h => .inr ⟨fun k hk => by simp at hk, h⟩
  | c0 :: rest, hp, nx, i, o, c, h => by
    rcases newArrs_get (nw := rest) h with ⟨k, h1, h2, h3⟩ | ⟨h1, h2⟩
    · exact .inl ⟨k + 1, by omega, h2, by simpa using h3⟩
    · by_cases e : i = nx
      · subst e
        rw [withArr_id] at h2
        split at h2
        · rename_i e2; cases h2
          exact .inl ⟨0, rfl, e2, rfl⟩
        · cases h2
      · rw [withArr_ne _ _ _ e] at h2
        refine .inr ⟨fun k hk => ?_, h2⟩
        cases k with
        | zero => exact e
        | succ k => have := h1 k (by simpa using hk); omega

theorem wrote_get : ∀ {wr : List Dep} {hp : Hp} {i o : Nat} {c : CS}, wrote hp wr i o = some c → (∃ d ∈ wr, d.1 = i ∧ o = 0 ∧ c = d.2.2) ∨ ((∀ d ∈ wr, d.1 ≠ i) ∧ hp i o = some c)
  | [], hp, i, o, c, h => .inr ⟨fun d hd => by simp at hd, h⟩
  | (id, off, c0) :: rest, hp, i, o, c, h => by
    rcases wrote_get (wr := rest) h with ⟨d, h1, h2⟩ | ⟨h1, h2⟩
    · exact .inl ⟨d, List.mem_cons_of_mem _ h1, h2⟩
    · by_cases e : i = id
      · subst e
        rw [withArr_id] at h2
        split at h2
        · rename_i e2; cases h2
          exact .inl ⟨_, List.mem_cons_self .., rfl, e2, rfl⟩
        · cases h2
      · rw [withArr_ne _ _ _ e] at h2
        exact .inr ⟨fun d hd => by
          rcases List.mem_cons.1 hd with rfl | hd
          · exact fun e' => e e'.symm
          · exact h1 d hd, h2⟩

theorem shiftC_none {n : Nat} {c : CS} (h : ownC c = false) : shiftC n c = c := by
  cases c <;> first | rfl | cases h
theorem shift1_none {n : Nat} {c : CV1} (h : own1 c = false) : shift1 n c = c := by
  cases c with
  | s c => show CV1.s (shiftC n c) = _; rw [shiftC_none h]
  | agg cs =>
    show CV1.agg (cs.map (shiftC n)) = _
    have : cs.map (shiftC n) = cs := by
      have h : cs.any ownC = false := h
      rw [List.any_eq_false] at h
      exact (List.map_congr_left (g := id) fun c hc => shiftC_none (by simpa using h c hc)).trans (List.map_id cs)
    rw [this]
theorem shiftV_none {n : Nat} {c : CV} (h : ownV c = false) : shiftV n c = c := by
  cases c with
  | one c => show CV.one (shift1 n c) = _; rw [shift1_none h]
  | tup vs =>
    show CV.tup (vs.map (shift1 n)) = _
    have : vs.map (shift1 n) = vs := by
      have h : vs.any own1 = false := h
      rw [List.any_eq_false] at h
      exact (List.map_congr_left (g := id) fun c hc => shift1_none (by simpa using h c hc)).trans (List.map_id vs)
    rw [this]

theorem less_β {g : Gh} {o : Option Nat} {i b : Nat} (h : (g.less o).β i = some b) : g.β i = some b ∧ ∀ id, o = some id → i ≠ id := by
  cases o with
  | none => exact ⟨h, fun _ h => nomatch h⟩
  | some id =>
    have h : (if i = id then none else g.β i) = some b := h
    by_cases e : i = id
    · rw [if_pos e] at h; cases h
    · rw [if_neg e] at h
      exact ⟨h, fun id' h' => by cases h'; exact e⟩
theorem but_less (g : Gh) (id : Nat) : g.but (g.less (some id)) id := by
  refine ⟨fun i hi => ?_, fun _ _ => rfl, rfl, rfl⟩
  show (if i = id then none else g.β i) = _
  rw [if_neg hi]
theorem WOk.less {X : Fr} {w0 w : World} {g : Gh} (h : WOk X w0 g w) {o : Option Nat} (ho : ∀ id, o = some id → X.n ≤ id) : WOk X w0 (g.less o) w := by
  cases o with
  | none => exact h
  | some id =>
    refine ⟨h.keep, h.im, h.bi, fun i j b hi hj => h.inj i j b (less_β hi).1 (less_β hj).1, fun i b hi => h.fresh i b (less_β hi).1, trivial, h.base, h.imf, fun i hi => ?_⟩
    have := ho id rfl
    refine ⟨?_, (h.pin i hi).2⟩
    show (if i = id then none else g.β i) = _
    rw [if_neg (by omega)]
    exact (h.pin i hi).1
theorem dropHp_get {hp : Hp} {id i o : Nat} {c : CS} (h : dropHp hp id i o = some c) : i ≠ id ∧ ∃ c', hp i o = some c' ∧ c = killC id c' := by
  unfold dropHp at h
  by_cases e : i = id
  · subst e; rw [Nat.beq_refl] at h; cases h
  · rw [beq_ne e, cond_false] at h
    cases hc : hp i o with
    | none => rw [hc] at h; cases h
    | some c' => rw [hc] at h; cases h; exact ⟨e, c', rfl, rfl⟩
theorem Sim.less {X : Fr} {w0 : World} {n : Nat} {s : St} {g : Gh} {a : Act} {w : World} (h : Sim X w0 n s g a w) {o : Option Nat} (ho : ∀ id, o = some id → X.n ≤ id) : Sim X w0 n (lessSt s o) (g.less o) a w := by
  cases o with
  | none => exact h
  | some id =>
    refine ⟨fun t => relV_kill (but_less g id) _ _ (h.tm t), h.len, h.df, h.ok.less ho, fun i o c hc => ?_, fun i b hb => h.nx _ _ (less_β hb).1, fun i o c hc => ?_, h.lo, h.ln⟩
    · obtain ⟨e, c', h1, rfl⟩ := dropHp_get hc
      exact (h.cells _ _ _ h1).kill (but_less g id) e (fun _ _ => rfl)
    · obtain ⟨_, c', h1, _⟩ := dropHp_get hc
      exact h.hx _ _ _ h1
theorem lessSt_nx (s : St) (o : Option Nat) : (lessSt s o).nx = s.nx := by cases o <;> rfl
theorem ccall_sound {Γ : CEnv} (hΓ : GoodC P Γ) {o : Oper} {s : St} {c : Call} {f : Operand} {K : Eff → Tr α} {rv : α} (ho : o.op = .call c) (hcf : c.callee = .value f) (h : ccall R P Γ o.dst s c K = some rv) : ∃ e, K e = some rv ∧ EffOk P o s e := by
  unfold ccall at h
  rw [hcf] at h
  simp only at h
  split at h
  · rename_i fid n cap hf
    split at h
    · rename_i args hargs
      split at h
      · rename_i S hS
        split at h
        · rename_i r hr
          have hbr := brT_req h; clear h; obtain ⟨hpre, h⟩ := hbr
          rw [Bool.and_eq_true] at hpre
          obtain ⟨heat, hpre⟩ := hpre
          obtain ⟨hd, hwr, hnw, hok⟩ := hΓ _ _ hS _ _ _ hr hpre
          refine ⟨_, h, ?_⟩
          -- the call, from any world in which the operands are as told
          have main : ∀ X g w0 w (a : Act) (K' : Act → World → Prop) (Q : Exit → Act → World → Prop) (m : Nat), (∀ x ∈ o.op.operands.toList, relV g (s.ev x) (a.eval x)) → (∀ d ∈ r.rd, CellRel g w d.1 d.2.1 d.2.2) → WOk X w0 g w → X.n ≤ m → (∀ d ∈ r.rd, d.1 < m) → (∀ i, m ≤ i → g.β i = none) →
              (∀ v g' w', Done X w0 g w r m g' w' → relV g' (shiftV m r.cv) v → K' (a.put o.dst v) w') → o.wp P a w K' Q := by
            intro X g w0 w a K' Q m hops hdeps hw hxm hdm hfree hk
            have hopl : ∀ x ∈ c.operands.toList, relV g (s.ev x) (a.eval x) := by
              rw [ho] at hops; exact hops
            unfold Call.operands at hopl
            rw [hcf] at hopl
            have hfa := hopl f (by simp)
            rw [hf] at hfa
            obtain ⟨arr, he, hsz, hcap⟩ := hfa
            obtain ⟨h1, h2⟩ := argsOf_rel (a := a) hargs (fun x hx => hopl x (by simp [hx]))
            have hvals := hok X g w0 w m (c.args.map a.eval ++ arr) (by simp at h1; simp [h1, hsz]) (fun j c' u h3 h4 => by
              have hlen : (c.args.map a.eval).size = args.length := by simpa using h1
              rcases Nat.lt_or_ge j args.length with hj | hj
              · rw [List.getElem?_append_left hj] at h3
                rw [Array.getElem?_append_left (by omega)] at h4
                exact h2 j c' u h3 (by simpa using h4)
              · rw [List.getElem?_append_right hj] at h3
                rw [Array.getElem?_append_right (by omega)] at h4
                rw [hlen] at h4
                have hlt : j - args.length < n := by
                  rcases Nat.lt_or_ge (j - args.length) n with h | h
                  · exact h
                  · rw [Array.getElem?_eq_none (by omega)] at h4; cases h4
                rw [List.getElem?_map, List.getElem?_range hlt] at h3
                cases h3
                exact rel_capV (hcap _ u h4)) hdeps hw hxm hdm hfree
            refine wp_of_callOk ?_ hvals fun v w' ⟨g', hdone, hr⟩ => hk v g' w' hdone hr
            simp [execOp, ho, resolve, hcf, he, Deferred.ofValue, invoke]
          have gen : EffOk P o s (.gen (calledSt (lessSt s r.eat) o.dst r)) := by
            intro X w0 m g a w K' Q hsim hdst hk
            have hge : ∀ id, r.eat = some id → X.n ≤ id := fun id he => by
              rw [he] at heat
              have := Nat.le_of_ble_eq_true heat
              rw [hsim.lo] at this; exact this
            have hs1 := hsim.less (o := r.eat) hge
            have hnx := lessSt_nx s r.eat
            refine main X g w0 w a K' Q (lessSt s r.eat).nx (fun x _ => hsim.ev x) (fun d hd' => hsim.cells _ _ _ (hd d hd')) hsim.ok (by rw [hnx]; exact hsim.ln) (fun d hd' => by rw [hnx]; exact hsim.hx _ _ _ (hd d hd')) (by rw [hnx]; exact free_nx hsim) fun v g' w' hdone hv => hk g' _ w' ?_
            refine ⟨tm_put (fun t => relV_mono hdone.le _ _ (hs1.tm t)) hsim.len hdst hv, by rw [put_size]; exact hsim.len, by rw [put_defers']; exact hsim.df, hdone.ok hge, fun i off cc hc => ?_, fun i b hb => ?_, fun i off cc hc => ?_, hs1.lo, by show X.n ≤ (lessSt s r.eat).nx + r.nw.length; have := hs1.ln; omega⟩
            · rcases newArrs_get hc with ⟨k, rfl, rfl, h3⟩ | ⟨h1, h2⟩
              · exact hdone.nw k cc h3
              · rcases wrote_get h2 with ⟨d, h3, rfl, rfl, rfl⟩ | ⟨h3, h4⟩
                · have := hdone.wr d h3
                  rw [(hwr d h3).1] at this
                  exact this
                · have hlt := hs1.hx _ _ _ h4
                  refine (hs1.cells _ _ _ h4).keep hdone.le (hdone.β _ hlt) fun b hb => hdone.same _ (hs1.ok.fresh _ _ hb).2.1 (fun d hd' hb' => ?_) fun id he hb' => ?_
                  · exact h3 d hd' (hsim.ok.inj _ _ _ hb' (less_β hb).1)
                  · exact (less_β hb).2 id he (hsim.ok.inj _ _ _ (less_β hb).1 hb')
            · show i < (lessSt s r.eat).nx + r.nw.length
              rcases Nat.lt_or_ge i ((lessSt s r.eat).nx + r.nw.length) with h1 | h1
              · exact h1
              · rw [hdone.top i h1] at hb; cases hb
            · show i < (lessSt s r.eat).nx + r.nw.length
              rcases newArrs_get hc with ⟨k, rfl, rfl, h3⟩ | ⟨h1, h2⟩
              · have : k < r.nw.length := by
                  rcases Nat.lt_or_ge k r.nw.length with h4 | h4
                  · exact h4
                  · rw [List.getElem?_eq_none h4] at h3; cases h3
                omega
              · rcases wrote_get h2 with ⟨d, h3, rfl, rfl, rfl⟩ | ⟨h3, h4⟩
                · obtain ⟨_, e, l, _, _, h5, _⟩ := hwr d h3
                  have := hsim.hx _ _ _ h5; omega
                · have := hs1.hx _ _ _ h4; omega
          unfold resEff
          cases he : r.eat with
          | some id =>
            rw [he] at gen
            exact gen
          | none =>
            rw [he] at gen
            have hno : ∀ id, r.eat = some id → False := fun id h => by rw [he] at h; cases h
            simp only
            split
            · rename_i hn0 hw0 hown
              refine ⟨hd, fun X g w0 w a K' Q hops hdeps hw ⟨m, hxm, hdm, hfree⟩ hk => ?_⟩
              refine main X g w0 w a K' Q m hops hdeps hw hxm hdm hfree fun v g' w' hdone hv => ?_
              have hle := hdone.le
              have hβ := hdone.β
              rw [he] at hle hβ
              refine hk v g' w' ⟨hle, ?_, hdone.ok (fun id h => (hno id h).elim), hdone.size he, fun k hk' => hdone.same k hk' (fun d hd' => by rw [hw0] at hd'; simp at hd') (fun id h => (hno id h).elim)⟩ (by rw [shiftV_none hown] at hv; exact hv)
              funext i
              rcases Nat.lt_or_ge i m with h1 | h1
              · exact hβ i h1
              · rw [hfree i h1, hdone.top i (by rw [hn0]; simpa using h1)]
            · exact gen
        · cases h
      · cases h
    · cases h
  · cases h

/-- places of a fresh slice -/
theorem slice_places (len size i : Nat) : ((List.range len).map fun i => (i * size, size))[i]? = if i < len then some (i * size, size) else none := by
  rw [List.getElem?_map]
  split
  · rename_i h; rw [List.getElem?_range h]; rfl
  · rename_i h; rw [List.getElem?_eq_none (by simpa using h)]; rfl

theorem fill_congr {p q : Nat → Option (Nat × Nat)} : ∀ {vs : List (Nat × Value)} {arr arr' : Array Value}, (∀ i, ∀ x, p i = some x → q i = some x) → Instr.fill p arr vs = some arr' → Instr.fill q arr vs = some arr'
  | [], arr, arr', _, h => h
  | (i, v) :: vs, arr, arr', hpq, h => by
    simp only [Instr.fill] at h ⊢
    cases hp : p i with
    | none => rw [hp] at h; cases h
    | some x =>
      obtain ⟨off, size⟩ := x
      rw [hp] at h
      rw [hpq i _ hp]
      simp only at h ⊢
      split
      · rename_i hc; rw [if_pos hc] at h; cases h
      · rename_i hc; rw [if_neg hc] at h; exact fill_congr hpq h

theorem flat_get {α : Type} (z : List α) (len : Nat) : ∀ (j : Nat) c, ((List.range len).flatMap fun _ => z)[j]? = some c → z[j % z.length]? = some c ∧ j < len * z.length := by
  induction len with
  | zero => intro j c h; simp at h
  | succ len ih =>
    intro j c h
    rw [List.range_succ, List.flatMap_append] at h
    have hl : ((List.range len).flatMap fun _ => z).length = len * z.length := by
      clear h ih
      induction len with
      | zero => simp
      | succ len ih => rw [List.range_succ, List.flatMap_append, List.length_append, ih]; simp [Nat.succ_mul]
    rcases Nat.lt_or_ge j (len * z.length) with h1 | h1
    · rw [List.getElem?_append_left (by omega)] at h
      obtain ⟨h2, h3⟩ := ih j c h
      exact ⟨h2, by rw [Nat.succ_mul]; omega⟩
    · rw [List.getElem?_append_right (by omega), hl] at h
      simp at h
      have h2 : j - len * z.length < z.length := by
        rcases Nat.lt_or_ge (j - len * z.length) z.length with h' | h'
        · exact h'
        · rw [List.getElem?_eq_none h'] at h; cases h
      have h3 : j % z.length = j - len * z.length := by
        have : j = (j - len * z.length) + len * z.length := by omega
        rw [this, Nat.add_mul_mod_self_right, Nat.mod_eq_of_lt (by omega)]
        omega
      exact ⟨by rw [h3]; exact h, by rw [Nat.succ_mul]; omega⟩

theorem flat_length {α : Type} (z : List α) (len : Nat) : ((List.range len).flatMap fun _ => z).length = len * z.length := by
  induction len with
  | zero => simp
  | succ len ih => rw [List.range_succ, List.flatMap_append, List.length_append, ih]; simp [Nat.succ_mul]

end
end Go.Dv

/- The model's operations do what 'cop' says (part 7): parts of lists, new lists, lengths; all operations. -/
namespace Go.Dv
open Go.RowKit Go.Cv

section
variable {P : Program} {α : Type}

theorem idxOf_spec {cv : CV} {m : Int} {g : Gh} {y : Value} (h : idxOf cv = some m) (hr : relV g cv y) : ∃ k, y = .int k m := by
  unfold idxOf at h
  split at h
  · cases h; exact ⟨_, hr⟩
  · cases h

theorem optIdx_spec {ev : Operand → CV} {x : Option Operand} {m : Option Int} {g : Gh} {a : Act} (h : optIdx ev x = some m) (hr : ∀ y, x = some y → relV g (ev y) (a.eval y)) :
    (x = none ∧ m = none ∧ x.map a.eval = none) ∨ ∃ k i, m = some i ∧ x.map a.eval = some (.int k i) := by
  cases x with
  | none => cases h; exact .inl ⟨rfl, rfl, rfl⟩
  | some y =>
    simp only [optIdx] at h
    split at h
    · rename_i i hi; cases h
      obtain ⟨k, hk⟩ := idxOf_spec hi (hr y rfl)
      exact .inr ⟨k, i, rfl, by simp [hk]⟩
    · cases h

/-- the model's bounds -/
theorem run_sliceBounds (w : World) (isSlice : Bool) {len cap : Nat} {lo hi : Option Value} {l h : Option Int} (hl : (l = none ∧ lo = none) ∨ ∃ k i, l = some i ∧ lo = some (.int k i)) (hh : (h = none ∧ hi = none) ∨ ∃ k i, h = some i ∧ hi = some (.int k i))
    (h0 : 0 ≤ l.getD 0) (h1 : l.getD 0 ≤ h.getD len) (h2 : h.getD len ≤ cap) :
    (Instr.sliceBounds isSlice len cap lo hi none).run P w = .ok ((l.getD 0).toNat, (h.getD len).toNat, cap) w := by
  rcases hl with ⟨rfl, rfl⟩ | ⟨kl, il, rfl, rfl⟩ <;> rcases hh with ⟨rfl, rfl⟩ | ⟨kh, ih, rfl, rfl⟩
  · simp [Instr.sliceBounds]
  · simp at h0 h1 h2
    simp [Instr.sliceBounds, Instr.sliceBound, asIntOf, h1, h2]
  · simp at h0 h1 h2
    simp [Instr.sliceBounds, Instr.sliceBound, asIntOf, h0, h1]
  · simp at h0 h1 h2
    have h3 : (0 : Int) ≤ ih := by omega
    simp [Instr.sliceBounds, Instr.sliceBound, asIntOf, h0, h2, h3]
    intro h4; omega

/-- a part of a list of which nobody writes -/
theorem relL_part {m : Nat → Option Obj} {e : Sh} {xs : List e.Ty} {a : Option Addr} {cap lo hi : Nat} (h1 : xs.length ≤ cap) (h2 : a = none → cap = 0) (h3 : 0 < xs.length → ∃ b off, a = some ⟨b, off, none⟩ ∧ ∀ i x, xs[i]? = some x → relT m e x (fun k u => CellAt m b (off + i * e.size + k) u))
    (hlh : lo ≤ hi) (hhi : hi ≤ xs.length) : relL m e ((xs.take hi).drop lo) (.slice (if cap = lo then a else a.map (·.add (lo * e.size))) (hi - lo) (cap - lo)) := by
  have hlen : ((xs.take hi).drop lo).length = hi - lo := by rw [List.length_drop, List.length_take]; omega
  refine ⟨if cap = lo then a else a.map (·.add (lo * e.size)), cap - lo, by rw [hlen], by omega, fun hn => ?_, fun h0 => ?_⟩
  · split at hn
    · omega
    · cases a with
      | none => have := h2 rfl; omega
      | some a => cases hn
  · rw [hlen] at h0
    obtain ⟨b, off, rfl, h4⟩ := h3 (by omega)
    have hadd : (⟨b, off, none⟩ : Addr).add (lo * e.size) = ⟨b, off + lo * e.size, none⟩ := by unfold Addr.add; split <;> simp_all
    refine ⟨b, off + lo * e.size, ?_, fun i x hx => ?_⟩
    · rw [if_neg (by omega)]; simp [hadd]
    · rw [List.getElem?_drop] at hx
      have hlt : lo + i < hi := by
        rcases Nat.lt_or_ge (lo + i) hi with h5 | h5
        · exact h5
        · rw [List.getElem?_eq_none (by rw [List.length_take]; omega)] at hx; cases hx
      rw [List.getElem?_take_of_lt hlt] at hx
      have h5 := h4 (lo + i) x hx
      have e1 : off + (lo + i) * e.size = off + lo * e.size + i * e.size := by rw [Nat.add_mul]; omega
      rw [e1] at h5
      exact h5

theorem arrElem_spec {T : TypeId} {n sz : Nat} (h : arrElem P T = some (n, sz)) : ∃ E i, P.underlying T = some (.array n E) ∧ P.info? E = some i ∧ i.size = sz := by
  unfold arrElem at h
  split at h
  · rename_i n' E hE
    unfold tyArr at hE
    split at hE
    · rename_i n2 E2 hu
      cases hE
      split at h
      · rename_i i hi
        cases h
        exact ⟨_, i, hu, hi, rfl⟩
      · cases h
    · cases hE
  · cases h

theorem slice_sound {o : Oper} {s : St} {T : TypeId} {x : Operand} {lo hi : Option Operand} {l h : Option Int} {K : Eff → Tr α} {rv : α} (ho : o.op = .slice T x lo hi none) (hl : optIdx s.ev lo = some l) (hh : optIdx s.ev hi = some h)
    (hk : (match tyElem P T with
        | some sz => csliceL (s.ev x) l h sz K
        | none => match arrElem P T with
          | some (n, sz) => csliceA (s.ev x) l h n sz K
          | none => brT (tyString P T) (csliceS (s.ev x) l h K) none) = some rv) : ∃ e, K e = some rv ∧ EffOk P o s e := by
  have idx : ∀ {g : Gh} {a : Act}, (∀ x ∈ o.op.operands.toList, relV g (s.ev x) (a.eval x)) → ((l = none ∧ lo.map a.eval = none) ∨ ∃ k i, l = some i ∧ lo.map a.eval = some (.int k i)) ∧ ((h = none ∧ hi.map a.eval = none) ∨ ∃ k i, h = some i ∧ hi.map a.eval = some (.int k i)) := by
    intro g a hops
    constructor
    · rcases optIdx_spec (a := a) hl (fun y hy => hops y (by rw [ho]; simp [Op.operands, hy])) with ⟨_, h2, h3⟩ | h2
      · exact .inl ⟨h2, h3⟩
      · exact .inr h2
    · rcases optIdx_spec (a := a) hh (fun y hy => hops y (by rw [ho]; simp [Op.operands, hy])) with ⟨_, h2, h3⟩ | h2
      · exact .inl ⟨h2, h3⟩
      · exact .inr h2
  split at hk
  · rename_i sz hsz
    obtain ⟨E, inf, hE, hi', hs'⟩ := tyElem_spec hsz
    unfold csliceL at hk
    split at hk
    · rename_i bw e xs hx
      -- a list
      have main : ∀ (hh' : Nat), (h.getD xs.length).toNat = hh' → Nat.beq e.size sz = true → 0 ≤ l.getD 0 → l.getD 0 ≤ h.getD xs.length → h.getD xs.length ≤ xs.length → EffOk P o s (.val (sc (.ls bw e ((xs.take hh').drop (l.getD 0).toNat))) []) := by
        intro hh' he h1 h2 h3 h4
        have h1 := Nat.eq_of_beq_eq_true h1
        refine val_of_run fun g w a hops => ?_
        have hxa := hops x (by rw [ho]; simp [Op.operands])
        rw [hx] at hxa
        obtain ⟨ad, cap, hv, h5, h6, h7⟩ := hxa
        obtain ⟨i1, i2⟩ := idx hops
        have hb := run_sliceBounds (P := P) w true (len := xs.length) (cap := cap) i1 i2 h2 h3 (by omega)
        subst he
        refine ⟨_, 0, ?_, relL_part (m := g.mem bw) h5 h6 h7 (lo := (l.getD 0).toNat) (hi := (h.getD xs.length).toNat) (by omega) (by omega)⟩
        simp [execOp, ho, hv, Instr.sliceAt, Instr.slice, run_underlying hE, hb, sizeOf, typeInfo, hi', hs', ← h1]
        rfl
      split at hk
      · have hbr := brT_req hk; clear hk; obtain ⟨hc, hk⟩ := hbr
        simp only [Bool.and_eq_true, decide_eq_true_eq] at hc
        refine ⟨_, hk, ?_⟩
        have := main xs.length (by simp) hc.1 hc.2.1 (by simpa using hc.2.2) (by simp)
        rw [List.take_length] at this
        exact this
      · have hbr := brT_req hk; clear hk; obtain ⟨hc, hk⟩ := hbr
        simp only [Bool.and_eq_true, decide_eq_true_eq] at hc
        exact ⟨_, hk, main _ (by simp) hc.1.1 hc.1.2.1 (by simpa using hc.1.2.2) (by simpa using hc.2)⟩
    · rename_i id n hx
      have hbr := brT_req hk; clear hk; obtain ⟨hc, hk⟩ := hbr
      simp only [Bool.and_eq_true, decide_eq_true_eq] at hc
      obtain ⟨⟨h1, h2⟩, h3⟩ := hc
      refine ⟨_, hk, val_of_run fun g w a hops => ?_⟩
      have hxa := hops x (by rw [ho]; simp [Op.operands])
      rw [hx] at hxa
      obtain ⟨i1, i2⟩ := idx hops
      rcases hxa with ⟨rfl, hv⟩ | ⟨b, hb, hv, hle⟩
      · have hb := run_sliceBounds (P := P) w true (len := 0) (cap := 0) i1 i2 h1 h2 (by simpa using h3)
        have e1 : (l.getD 0).toNat = 0 := by omega
        have e2 : (h.getD ((0 : Nat) : Int)).toNat = 0 := by omega
        have e3 : (h.getD ((0 : Nat) : Int) - l.getD 0).toNat = 0 := by omega
        rw [e1, e2] at hb
        refine ⟨.slice none 0 0, 0, ?_, none, 0, by rw [e3], by omega, fun _ => rfl, fun h0 => by omega⟩
        simp [execOp, ho, hv, Instr.sliceAt, Instr.slice, run_underlying hE, hb, sizeOf, typeInfo, hi']
        rfl
      · have hbn := run_sliceBounds (P := P) w true (len := n) (cap := g.cp id) i1 i2 h1 h2 (by omega)
        refine ⟨.slice (if g.cp id = (l.getD 0).toNat then some ⟨b, 0, none⟩ else (some (⟨b, 0, none⟩ : Addr)).map (·.add ((l.getD 0).toNat * sz))) ((h.getD n).toNat - (l.getD 0).toNat) (g.cp id - (l.getD 0).toNat), 0, ?_, (if g.cp id = (l.getD 0).toNat then some ⟨b, 0, none⟩ else (some (⟨b, 0, none⟩ : Addr)).map (·.add ((l.getD 0).toNat * sz))), g.cp id - (l.getD 0).toNat, ?_, ?_, ?_, ?_⟩
        · simp [execOp, ho, hv, Instr.sliceAt, Instr.slice, run_underlying hE, hbn, sizeOf, typeInfo, hi', hs']
          rfl
        · have : (h.getD n - l.getD 0).toNat = (h.getD n).toNat - (l.getD 0).toNat := by omega
          rw [this]
        · omega
        · intro hn
          split at hn <;> cases hn
        · intro h0
          have hadd : (⟨b, 0, none⟩ : Addr).add ((l.getD 0).toNat * sz) = ⟨b, (l.getD 0).toNat * sz, none⟩ := by unfold Addr.add; split <;> simp_all
          exact ⟨b, hb, by rw [if_neg (by omega)]; simp [hadd]⟩
    · cases hk
  split at hk
  · rename_i n sz hsz
    obtain ⟨E, inf, hE, hi', hs'⟩ := arrElem_spec hsz
    unfold csliceA at hk
    split at hk
    · rename_i id sz' j k hx
      have hbr := brT_req hk; clear hk; obtain ⟨hc, hk⟩ := hbr
      simp only [Bool.and_eq_true, decide_eq_true_eq] at hc
      obtain ⟨⟨h1, h2, h3⟩, ⟨h4, h5⟩, h6⟩ := hc
      obtain rfl := Nat.eq_of_beq_eq_true h1
      obtain rfl := Nat.eq_of_beq_eq_true h2
      obtain rfl := Nat.eq_of_beq_eq_true h3
      refine ⟨_, hk, val_of_run fun g w a hops => ?_⟩
      have hxa := hops x (by rw [ho]; simp [Op.operands])
      rw [hx] at hxa
      obtain ⟨b, hb, hv⟩ := hxa
      simp only [Nat.zero_mul, Nat.add_zero] at hv
      obtain ⟨i1, i2⟩ := idx hops
      have hbn := run_sliceBounds (P := P) w false (len := n) (cap := n) i1 i2 h4 h5 h6
      refine ⟨.slice (some (if n = (l.getD 0).toNat then ⟨b, 0, none⟩ else (⟨b, 0, none⟩ : Addr).add ((l.getD 0).toNat * sz))) ((h.getD n).toNat - (l.getD 0).toNat) (n - (l.getD 0).toNat), 0, ?_, some (if n = (l.getD 0).toNat then ⟨b, 0, none⟩ else (⟨b, 0, none⟩ : Addr).add ((l.getD 0).toNat * sz)), n - (l.getD 0).toNat, ?_, ?_, ?_, ?_⟩
      · simp [execOp, ho, hv, Instr.sliceAt, Instr.sureAddr, run_underlying hE, hbn, sizeOf, typeInfo, hi', hs']
        rfl
      · have : (h.getD n - l.getD 0).toNat = (h.getD n).toNat - (l.getD 0).toNat := by omega
        rw [this]
      · omega
      · intro hn; cases hn
      · intro h0
        have hadd : (⟨b, 0, none⟩ : Addr).add ((l.getD 0).toNat * sz) = ⟨b, (l.getD 0).toNat * sz, none⟩ := by unfold Addr.add; split <;> simp_all
        exact ⟨b, hb, by rw [if_neg (by omega), hadd]⟩
    · cases hk
  · have hbr := brT_req hk; clear hk; obtain ⟨hT, hk⟩ := hbr
    have hT' : P.underlying T = some .string := by
      unfold tyString at hT
      split at hT
      · assumption
      · cases hT
    unfold csliceS at hk
    split at hk
    · rename_i t hx
      have hbr := brT_req hk; clear hk; obtain ⟨hc, hk⟩ := hbr
      simp only [Bool.and_eq_true, decide_eq_true_eq] at hc
      obtain ⟨⟨h1, h2⟩, h3⟩ := hc
      refine ⟨_, hk, val_of_run fun g w a hops => ?_⟩
      have hxa := hops x (by rw [ho]; simp [Op.operands])
      rw [hx] at hxa
      have hv : a.eval x = .string t := hxa
      obtain ⟨i1, i2⟩ := idx hops
      have hb := run_sliceBounds (P := P) w false (len := t.size) (cap := t.size) i1 i2 h1 h2 h3
      refine ⟨.string (t.extract (l.getD 0).toNat (h.getD t.size).toNat), 0, ?_, rfl⟩
      simp [execOp, ho, hv, Instr.sliceAt, Instr.slice, run_underlying hT', hb]
      rfl
    · cases hk

theorem decRow_spec {e : Sh} {f : Nat → CS} : ∀ {k i : Nat} {l : List e.Ty}, decRow e f k i = some l → l.length = k ∧ ∀ j x, l[j]? = some x → decD false e (fun q => f ((i + j) * e.size + q)) = some x
  | 0, i, l, h => by simp only [decRow] at h; cases h; exact ⟨rfl, fun j x hx => by simp at hx⟩
  | k + 1, i, l, h => by
    simp only [decRow] at h
    split at h
    · rename_i x xs h1 h2
      cases h
      obtain ⟨h3, h4⟩ := decRow_spec h2
      refine ⟨by simp [h3], fun j y hy => ?_⟩
      cases j with
      | zero => simp at hy; subst hy; exact h1
      | succ j =>
        have := h4 j y (by simpa using hy)
        have e1 : i + (j + 1) = i + 1 + j := by omega
        rw [e1]; exact this
    · cases h

/-- a literal of a list: its row -/
theorem run_buildSlice_cells {g : Gh} {o : Oper} {s : St} {T : TypeId} {len : Nat} {parts : Array (Nat × Operand)} {e : Sh} {cs : List CS} {ps : List (Nat × List CS)} (ho : o.op = .buildSlice T len parts) (hok : elemOk P T e = true)
    (hps : partsOf s.ev parts.toList = some ps) (hf : fillC ((List.range len).map fun i => (i * e.size, e.size)) ((List.range len).flatMap fun _ => cells false e e.dflt) ps = some cs) (hl : len * e.size ≤ 16777216)
    {w : World} {a : Act} (hops : ∀ x ∈ o.op.operands.toList, relV g (s.ev x) (a.eval x)) :
    ∃ arr E, arr.size = len * e.size ∧ (execOp a.eval o).run P w = .ok (.value (.slice (some ⟨w.heap.size, 0, none⟩) len len)) (w.alloc (.cells arr E)) ∧ CellsRel g cs arr := by
  have hx : ∀ x ∈ parts.toList, relV g (s.ev x.2) (a.eval x.2) := fun x hx => hops x.2 (by
    rw [ho]; simp only [Op.operands]; exact List.mem_map_of_mem hx)
  obtain ⟨h1, h2⟩ := partsOf_rel hps hx
  obtain ⟨E, i, z, hu, hi, hz', hsz, hzz, _⟩ := elemOk_spec hok
  have hzs : z.cells.size = e.size := by have := eqZs_length hzz; rw [zeroV_length] at this; simpa using this
  have hp := size_pos e
  have hcl := cells_length false e e.dflt
  have hmade : ∀ j, j < len * e.size → (madeCells z.cells (len * e.size))[j]? = z.cells[j % e.size]? := fun j hj => by
    have h7 : j % e.size < z.cells.size := by rw [hzs]; exact Nat.mod_lt _ hp
    simp [madeCells, hj, hzs]
    rw [getElem!_pos z.cells _ h7, Array.getElem?_eq_getElem h7]
  have hrel0 : CellsRel g ((List.range len).flatMap fun _ => cells false e e.dflt) (madeCells z.cells (len * e.size)) := by
    refine ⟨by rw [flat_length, size_madeCells, hcl], fun j c u h3 h4 => ?_⟩
    obtain ⟨h5, h6⟩ := flat_get _ _ j c h3
    rw [hcl] at h5 h6
    rw [hmade j h6] at h4
    obtain ⟨u', h7, h8⟩ := (relT_cells (g := g) (bw := false) e e.dflt _).1 (zero_rel (m := g.im) e _ hzz) _ c h5
    have h7 : z.cells.toList[j % e.size]? = some u' := h7
    have h9 : z.cells[j % e.size]? = some u' := by simpa using h7
    rw [h9] at h4; cases h4; exact h8
  obtain ⟨arr', h3, h4⟩ := fill_sound (g := g) hf hrel0 h1 h2
  have h3' : Instr.fill (fun i => some (i * e.size, e.size)) (madeCells z.cells (len * e.size)) (parts.map fun (i, x) => (i, a.eval x)).toList = some arr' := by
    refine fill_congr (fun i x hp => ?_) (by simpa using h3)
    have := slice_places len e.size i
    have hp' : ((List.range len).map fun i => (i * e.size, e.size))[i]? = some x := by simpa using hp
    rw [this] at hp'
    split at hp'
    · exact hp'
    · cases hp'
  have hsize : arr'.size = len * e.size := by
    have : arr'.size = (madeCells z.cells (len * e.size)).size := by
      have hlen : ∀ {vs : List (Nat × Value)} {p : Nat → Option (Nat × Nat)} {a b : Array Value}, Instr.fill p a vs = some b → b.size = a.size := by
        intro vs
        induction vs with
        | nil => intro p a b h; simp only [Instr.fill] at h; cases h; rfl
        | cons v vs ih =>
          intro p a b h
          obtain ⟨i, v⟩ := v
          simp only [Instr.fill] at h
          split at h
          · cases h
          · rename_i off sz _
            split at h
            · cases h
            · rename_i hcond
              rw [ih h]
              have := (fill_fold off v.cells.toList 0 a (by simp at hcond ⊢; omega)).1
              rw [← this, ← Array.foldl_toList, Array.toList_zipIdx]
      exact hlen h3'
    rw [this, size_madeCells]
  refine ⟨arr', E, hsize, ?_, h4⟩
  · have hgt : ¬ 16777216 < len * e.size := by omega
    have h3e := h3'
    rcases Nat.eq_zero_or_pos (len * e.size) with h0 | h0
    · rw [h0] at h3e
      simp [madeCells, Array.range_zero'] at h3e
      simp [execOp, ho, Instr.buildSlice, run_underlying hu, sizeOf, typeInfo, hi, hsz, newRow, h0, Array.range_zero', h3e]
    · have hne : len * e.size ≠ 0 := by omega
      simp [madeCells] at h3e
      simp [execOp, ho, Instr.buildSlice, run_underlying hu, sizeOf, typeInfo, hi, hsz, newRow, zeroValue, hz', hgt, h3e]
      intro h7; omega

/-- the elements of a row, out of its cells -/
theorem row_dec {g : Gh} {e : Sh} {cs : List CS} {arr' : Array Value} {len : Nat} {l : List e.Ty} (hsize : arr'.size = len * e.size) (h4 : CellsRel g cs arr') (hd : decRow e (fun j => cs.getD j .any) len 0 = some l)
    (hsub : ∀ k o, g.im k = some o → g.bi k = some o) : l.length = len ∧ ∀ i x, l[i]? = some x → relT g.im e x (fun k u => arr'[i * e.size + k]? = some u) := by
  obtain ⟨hd1, hd2⟩ := decRow_spec hd
  refine ⟨hd1, fun i x hx => ?_⟩
  have hi' : i < len := by
    rw [← hd1]
    rcases Nat.lt_or_ge i l.length with h | h
    · exact h
    · rw [List.getElem?_eq_none h] at hx; cases hx
  have h5 := hd2 i x hx
  refine decD_sound hsub (bw := false) e _ x _ h5 fun j hj => ?_
  have hlt : i * e.size + j < len * e.size := by
    have : (i + 1) * e.size ≤ len * e.size := Nat.mul_le_mul_right _ hi'
    rw [Nat.add_mul] at this; omega
  have hlt1 : i * e.size + j < arr'.size := by omega
  have hlt2 : i * e.size + j < cs.length := by have := h4.1; omega
  refine ⟨arr'[i * e.size + j], by simp [hlt1], ?_⟩
  have := h4.2 (i * e.size + j) cs[i * e.size + j] arr'[i * e.size + j] (by simp [hlt2]) (by simp [hlt1])
  rw [Nat.zero_add]
  have e2 : cs.getD (i * e.size + j) .any = cs[i * e.size + j] := by simp [List.getD, hlt2]
  rw [e2]; exact this

theorem run_buildSlice_row {g : Gh} {o : Oper} {s : St} {T : TypeId} {len : Nat} {parts : Array (Nat × Operand)} {e : Sh} {cs : List CS} {ps : List (Nat × List CS)} {l : List e.Ty} (ho : o.op = .buildSlice T len parts) (hok : elemOk P T e = true)
    (hps : partsOf s.ev parts.toList = some ps) (hf : fillC ((List.range len).map fun i => (i * e.size, e.size)) ((List.range len).flatMap fun _ => cells false e e.dflt) ps = some cs) (hl : len * e.size ≤ 16777216) (hd : decRow e (fun j => cs.getD j .any) len 0 = some l)
    (hsub : ∀ k o, g.im k = some o → g.bi k = some o) {w : World} {a : Act} (hops : ∀ x ∈ o.op.operands.toList, relV g (s.ev x) (a.eval x)) :
    ∃ arr E, arr.size = len * e.size ∧ (execOp a.eval o).run P w = .ok (.value (.slice (some ⟨w.heap.size, 0, none⟩) len len)) (w.alloc (.cells arr E)) ∧ l.length = len ∧
      ∀ i x, l[i]? = some x → relT g.im e x (fun k u => arr[i * e.size + k]? = some u) := by
  obtain ⟨arr, E, h1, h2, h3⟩ := run_buildSlice_cells (w := w) ho hok hps hf hl hops
  obtain ⟨h4, h5⟩ := row_dec h1 h3 hd hsub
  exact ⟨arr, E, h1, h2, h4, h5⟩

/-! ### arrays that are written no more -/
/-- a name is given up, and its block is one that nobody writes -/
def Gh.frz (g : Gh) (w : World) (id : Nat) : Gh :=
  { β := (g.less (some id)).β, cp := g.cp, im := fun k => if g.β id = some k then w.heap[k]? else g.im k, bi := fun k => if g.β id = some k then w.heap[k]? else g.bi k }
theorem frzN_le {X : Fr} {w0 w : World} {g : Gh} (h : WOk X w0 g w) (id : Nat) : (g.less (some id)).le (g.frz w id) := by
  refine ⟨fun i b hb => ⟨hb, rfl⟩, fun k o hk => ?_, fun k o hk => ?_⟩
  · show (if g.β id = some k then w.heap[k]? else g.im k) = some o
    by_cases e : g.β id = some k
    · rw [if_pos e]; exact h.bi _ _ (h.im _ _ hk)
    · rw [if_neg e]; exact hk
  · show (if g.β id = some k then w.heap[k]? else g.bi k) = some o
    by_cases e : g.β id = some k
    · rw [if_pos e]; exact h.bi _ _ hk
    · rw [if_neg e]; exact hk
theorem WOk.frz {X : Fr} {w0 w : World} {g : Gh} (h : WOk X w0 g w) {id : Nat} (hid : X.n ≤ id) : WOk X w0 (g.frz w id) w := by
  have h1 := h.less (o := some id) (fun _ e => by cases e; exact hid)
  refine ⟨h.keep, fun k o hk => ?_, fun k o hk => ?_, h1.inj, fun i b hb => ?_, trivial, fun k o hk => (frzN_le h id).im k o (h.base k o hk), fun k o hk => ?_, h1.pin⟩
  · have hk : (if g.β id = some k then w.heap[k]? else g.im k) = some o := hk
    show (if g.β id = some k then w.heap[k]? else g.bi k) = some o
    by_cases e : g.β id = some k
    · rw [if_pos e] at hk ⊢; exact hk
    · rw [if_neg e] at hk ⊢; exact h.im _ _ hk
  · have hk : (if g.β id = some k then w.heap[k]? else g.bi k) = some o := hk
    by_cases e : g.β id = some k
    · rw [if_pos e] at hk; exact hk
    · rw [if_neg e] at hk; exact h.bi _ _ hk
  · obtain ⟨h2, h3⟩ := less_β (g := g) (o := some id) hb
    obtain ⟨h4, h5, h6⟩ := h.fresh i b h2
    refine ⟨h4, h5, ?_⟩
    show (if g.β id = some b then w.heap[b]? else g.bi b) = none
    by_cases e : g.β id = some b
    · exact absurd (h.inj _ _ _ h2 e) (h3 id rfl)
    · rw [if_neg e]; exact h6
  · have hk : (if g.β id = some k then w.heap[k]? else g.im k) = some o := hk
    by_cases e : g.β id = some k
    · rcases (h.fresh _ _ e).1 with h2 | ⟨_, h2⟩
      · exact .inr h2
      · omega
    · rw [if_neg e] at hk; exact h.imf _ _ hk
theorem Sim.frz {X : Fr} {w0 : World} {n : Nat} {s : St} {g : Gh} {a : Act} {w : World} (h : Sim X w0 n s g a w) {id : Nat} (hid : X.n ≤ id) : Sim X w0 n (lessSt s (some id)) (g.frz w id) a w := by
  have h1 := h.less (o := some id) (fun _ e => by cases e; exact hid)
  have hle := frzN_le h.ok id
  exact ⟨fun t => relV_mono hle _ _ (h1.tm t), h1.len, h1.df, h.ok.frz hid, fun i o c hc => (h1.cells i o c hc).keep hle rfl (fun _ _ => rfl), h1.nx, h1.hx, h1.lo, h1.ln⟩

theorem frzRow_get {hp : Hp} : ∀ {cs : List CS} {id : Nat} {ok : Bool} {cs' : List CS}, frzRow hp cs = some (id, ok, cs') →
    cs'.length = cs.length ∧ ∃ e l, hp id 0 = some (.arr e l) ∧ ∀ (j : Nat) (c' : CS), cs'[j]? = some c' → ∃ c : CS, cs[j]? = some c ∧ (c' = killC id c ∨ ∃ n, c = .own id n ∧ c' = .ls false e l ∧ ok = Nat.beq n l.length) := by
  intro cs
  induction cs with
  | nil => intro id ok cs' h; cases h
  | cons c r ih =>
    intro id ok cs' h
    unfold frzRow at h
    split at h
    · rename_i i n
      split at h
      · rename_i e l he
        cases h
        refine ⟨by simp, e, l, he, fun j c' hc => ?_⟩
        cases j with
        | zero => simp at hc; exact ⟨_, rfl, .inr ⟨n, rfl, hc.symm, rfl⟩⟩
        | succ j =>
          simp only [List.getElem?_cons_succ, List.getElem?_map] at hc
          cases hr : r[j]? with
          | none => rw [hr] at hc; cases hc
          | some c0 => rw [hr] at hc; cases hc; exact ⟨c0, by simpa using hr, .inl rfl⟩
      · cases h
    · split at h
      · rename_i id' ok' r' hr
        cases h
        obtain ⟨h1, e, l, h2, h3⟩ := ih hr
        refine ⟨by simp [h1], e, l, h2, fun j c' hc => ?_⟩
        cases j with
        | zero => simp at hc; exact ⟨_, rfl, .inl hc.symm⟩
        | succ j => simp only [List.getElem?_cons_succ] at hc ⊢; exact h3 j c' hc
      · cases h

theorem frzN_rel {X : Fr} {w0 : World} {n : Nat} {s : St} {g : Gh} {a : Act} {w : World} (h : Sim X w0 n s g a w) {id : Nat} {cs cs' : List CS} {arr : Array Value} (hf : frzRow s.hp cs = some (id, true, cs')) (hr : CellsRel g cs arr) : CellsRel (g.frz w id) cs' arr := by
  obtain ⟨h1, e, l, h2, h3⟩ := frzRow_get hf
  refine ⟨by rw [hr.1, h1], fun j c' u hc hu => ?_⟩
  obtain ⟨c, h4, h5⟩ := h3 j c' hc
  have h6 := hr.2 j c u h4 hu
  have hle := frzN_le h.ok id
  rcases h5 with rfl | ⟨m, rfl, rfl, hm⟩
  · exact rel_mono hle _ _ (rel_kill (but_less g id) c u h6)
  · have hm := Nat.eq_of_beq_eq_true hm.symm
    subst hm
    have hc := h.cells id 0 _ h2
    have harr : ArrRel g w id e l := by
      rcases hc with ⟨e', l', q1, _, q3⟩ | ⟨_, _, _, _, _, _, _, q⟩
      · cases q1; exact q3
      · exact absurd q (fun q => q)
    rcases h6 with ⟨hn, rfl⟩ | ⟨b, hb, rfl, hcap⟩
    · have : l = [] := List.eq_nil_of_length_eq_zero hn
      subst this
      exact ⟨none, 0, rfl, Nat.le_refl _, fun _ => rfl, fun h0 => absurd h0 (by simp)⟩
    · refine ⟨some ⟨b, 0, none⟩, g.cp id, rfl, hcap, fun h0 => (by cases h0), fun _ => ⟨b, 0, rfl, fun i x hx => ?_⟩⟩
      rcases harr with ⟨hl0, hb0⟩ | ⟨b', arr', T, q1, ⟨fr, q2, q2'⟩, q3, q4, q5⟩
      · rw [hb] at hb0; cases hb0
      · rw [hb] at q1; cases q1
        refine relT_mono (fun k o hk => ?_) e x (fun k v hv => ?_) (q5 i x hx)
        · exact hle.im k o hk
        · refine ⟨arr', T, fr, ?_, by rw [Nat.zero_add]; exact hv⟩
          show (if g.β id = some b then w.heap[b]? else g.im b) = _
          rw [if_pos hb]; exact q2

theorem buildSlice_sound {o : Oper} {s : St} {T : TypeId} {len : Nat} {parts : Array (Nat × Operand)} {e : Sh} {cs : List CS} {ps : List (Nat × List CS)} {l : List e.Ty} (ho : o.op = .buildSlice T len parts) (hok : elemOk P T e = true)
    (hps : partsOf s.ev parts.toList = some ps) (hf : fillC ((List.range len).map fun i => (i * e.size, e.size)) ((List.range len).flatMap fun _ => cells false e e.dflt) ps = some cs) (hl : len * e.size ≤ 16777216) (hd : decRow e (fun j => cs.getD j .any) len 0 = some l) :
    EffOk P o s (.val (sc (.ls false e l)) []) ∧ EffOk P o s (.gen (bornSt s o.dst e l)) := by
  constructor
  · refine ⟨(fun _ h => by cases h), fun X g w0 w a K Q hops hdeps hw _ hk => ?_⟩
    obtain ⟨arr, E, h1, h2, h3, h4⟩ := run_buildSlice_row (w := w) ho hok hps hf hl hd hw.im hops
    let g' : Gh := { β := g.β, cp := g.cp, im := fun k => if k = w.heap.size then some (.cells arr E) else g.im k, bi := fun k => if k = w.heap.size then some (.cells arr E) else g.bi k }
    have hlt : ∀ k o', g.bi k = some o' → k < w.heap.size := fun k o' hk' => lt_of_block (hw.bi _ _ hk')
    have hle : g.le g' := ⟨fun _ _ h => ⟨h, rfl⟩, fun k o' hk' => by
      show (if k = w.heap.size then some (Obj.cells arr E) else g.im k) = some o'
      rw [if_neg (by have := hlt k o' (hw.im _ _ hk'); omega)]; exact hk', fun k o' hk' => by
      show (if k = w.heap.size then some (Obj.cells arr E) else g.bi k) = some o'
      rw [if_neg (by have := hlt k o' hk'; omega)]; exact hk'⟩
    have haf : After X w0 g w g' (w.alloc (.cells arr E)) := by
      refine ⟨hle, rfl, ⟨hw.keep.alloc _, fun k o' hk' => ?_, fun k o' hk' => ?_, hw.inj, fun i b hb => ?_, trivial, fun k o' hk' => hle.im k o' (hw.base k o' hk'), fun k o' hk' => ?_, hw.pin⟩, by simp, fun k hk' => Below.heap_alloc _ _ _ hk'⟩
      · have hk'' : (if k = w.heap.size then some (Obj.cells arr E) else g.im k) = some o' := hk'
        show (if k = w.heap.size then some (Obj.cells arr E) else g.bi k) = some o'
        by_cases e1 : k = w.heap.size
        · rw [if_pos e1] at hk'' ⊢; exact hk''
        · rw [if_neg e1] at hk'' ⊢; exact hw.im _ _ hk''
      · have hk'' : (if k = w.heap.size then some (Obj.cells arr E) else g.bi k) = some o' := hk'
        by_cases e1 : k = w.heap.size
        · rw [if_pos e1] at hk''; cases hk''; subst e1
          exact heap_alloc_same _ _
        · rw [if_neg e1] at hk''
          rw [Below.heap_alloc _ _ _ (hlt k o' hk'')]; exact hw.bi _ _ hk''
      · obtain ⟨h5, h6, h7⟩ := hw.fresh i b hb
        refine ⟨h5, by simp; omega, ?_⟩
        show (if b = w.heap.size then some (Obj.cells arr E) else g.bi b) = none
        rw [if_neg (by omega)]; exact h7
      · have hk'' : (if k = w.heap.size then some (Obj.cells arr E) else g.im k) = some o' := hk'
        by_cases e1 : k = w.heap.size
        · right; rw [e1]; exact hw.keep.size
        · rw [if_neg e1] at hk''; exact hw.imf _ _ hk''
    refine wp_of_run h2 (hk _ g' _ haf ?_)
    refine ⟨some ⟨w.heap.size, 0, none⟩, len, by rw [h3], by omega, fun h => (by cases h), fun h0 => ⟨w.heap.size, 0, rfl, fun i x hx => relT_mono (fun k o' hk' => hle.im k o' hk') e x (fun k u hu => ?_) (h4 i x hx)⟩⟩
    refine ⟨arr, E, (0, 0), ?_, by rw [Nat.zero_add]; exact hu⟩
    show (if w.heap.size = w.heap.size then some (Obj.cells arr E) else _) = _
    rw [if_pos rfl]
  · intro X w0 n g a w K Q hsim hdst hk
    obtain ⟨arr, E, h1, h2, h3, h4⟩ := run_buildSlice_row (w := w) ho hok hps hf hl hd hsim.ok.im (fun x _ => hsim.ev x)
    have hb := hsim.born (d := o.dst) hdst (e := e) (l := l) (arr := arr) (T := E) (c := len) h1 (by omega) h4
    rw [h3] at hb
    exact wp_of_run h2 (hk _ _ _ hb)

theorem buildSlice_frz {o : Oper} {s : St} {T : TypeId} {len : Nat} {parts : Array (Nat × Operand)} {e : Sh} {cs cs' : List CS} {id : Nat} {ps : List (Nat × List CS)} {l : List e.Ty} (ho : o.op = .buildSlice T len parts) (hok : elemOk P T e = true)
    (hps : partsOf s.ev parts.toList = some ps) (hf : fillC ((List.range len).map fun i => (i * e.size, e.size)) ((List.range len).flatMap fun _ => cells false e e.dflt) ps = some cs) (hl : len * e.size ≤ 16777216) (hz : frzRow s.hp cs = some (id, true, cs')) (hlo : s.lo ≤ id)
    (hd : decRow e (fun j => cs'.getD j .any) len 0 = some l) : EffOk P o s (.gen (bornSt (lessSt s (some id)) o.dst e l)) := by
  intro X w0 n g a w K Q hsim hdst hk
  obtain ⟨arr, E, h1, h2, h3⟩ := run_buildSlice_cells (w := w) ho hok hps hf hl (fun x _ => hsim.ev x)
  have hid : X.n ≤ id := by rw [← hsim.lo]; exact hlo
  have hs := hsim.frz hid
  obtain ⟨h4, h5⟩ := row_dec h1 (frzN_rel hsim hz h3) hd hs.ok.im
  have hb := hs.born (d := o.dst) hdst (e := e) (l := l) (arr := arr) (T := E) (c := len) h1 (by omega) h5
  rw [h4] at hb
  exact wp_of_run h2 (hk _ _ _ hb)

end
end Go.Dv

/- The model's operations do what 'cop' says (part 8): all operations. -/
namespace Go.Dv
open Go.RowKit Go.Cv

section
variable {P : Program} {α : Type}

theorem indexAddr_ls {o : Oper} {s : St} {T : TypeId} {x i : Operand} {sz : Nat} {ix : Int} {bw : Bool} {e : Sh} {l : List e.Ty} (ho : o.op = .indexAddr T x i) (hsz : tyElem P T = some sz) (hi : idxOf (s.ev i) = some ix) (hx : s.ev x = .one (.s (.ls bw e l)))
    (hse : e.size = sz) (h0 : 0 ≤ ix) (hn : ix < (l.length : Int)) : EffOk P o s (.val (sc (.ip sz (fun j => (cells bw e (l.getD ix.toNat e.dflt)).getD j .any))) []) := by
  subst hse
  obtain ⟨E, inf, h1, h2, h3⟩ := tyElem_spec hsz
  refine ⟨(fun _ h => by cases h), fun X g w0 w a K Q hops _ hw _ hk => ?_⟩
  have hxa := hops x (by rw [ho]; simp [Op.operands])
  rw [hx] at hxa
  obtain ⟨k, hie⟩ := idxOf_spec hi (hops i (by rw [ho]; simp [Op.operands]))
  obtain ⟨ad, cap, he, hcap, hz, hc⟩ := hxa
  obtain ⟨b, off, rfl, hcc⟩ := hc (by omega)
  have hadd : (⟨b, off, none⟩ : Addr).add (ix.toNat * e.size) = ⟨b, off + ix.toNat * e.size, none⟩ := by unfold Addr.add; split <;> simp_all
  have hlt : ix.toNat < l.length := by omega
  have hel : l[ix.toNat]? = some (l.getD ix.toNat e.dflt) := by simp [List.getD, hlt]
  have hr := (relT_cells (g := g) (bw := bw) e _ _).1 (hcc _ _ hel)
  have hcl := cells_length bw e (l.getD ix.toNat e.dflt)
  have hbi : ∀ k o, g.mem bw k = some o → g.bi k = some o := by cases bw; exact hw.im; exact fun _ _ h => h
  refine wp_of_run (w' := w) (v := .pointer (some ⟨b, off + ix.toNat * e.size, none⟩)) ?_ (hk _ g w (After.refl hw) ⟨b, off + ix.toNat * e.size, rfl, fun j hj => ?_⟩)
  · simp [execOp, ho, he, hie, Instr.indexAt, asIntOf, run_underlying h1, h0, hn, sizeOf, typeInfo, h2, h3, hadd]
  · have hjl : j < (cells bw e (l.getD ix.toNat e.dflt)).length := by omega
    obtain ⟨u, h4, h5⟩ := hr j _ (List.getElem?_eq_getElem hjl)
    refine ⟨u, h4.mono hbi, ?_⟩
    have e2 : (cells bw e (l.getD ix.toNat e.dflt)).getD j .any = (cells bw e (l.getD ix.toNat e.dflt))[j] := by rw [List.getD_eq_getElem?_getD, List.getElem?_eq_getElem hjl]; rfl
    show rel g ((cells bw e (l.getD ix.toNat e.dflt)).getD j .any) u
    rw [e2]; exact h5

theorem indexAddr_own {o : Oper} {s : St} {T : TypeId} {x i : Operand} {sz id n : Nat} {ix : Int} (ho : o.op = .indexAddr T x i) (hsz : tyElem P T = some sz) (hi : idxOf (s.ev i) = some ix) (hx : s.ev x = .one (.s (.own id n)))
    (h0 : 0 ≤ ix) (hn : ix < (n : Int)) : EffOk P o s (.val (sc (.pe id sz ix.toNat 0)) []) := by
  obtain ⟨E, inf, h1, h2, h3⟩ := tyElem_spec hsz
  refine val_of_run fun g w a hops => ?_
  have hxa := hops x (by rw [ho]; simp [Op.operands])
  rw [hx] at hxa
  obtain ⟨k, hie⟩ := idxOf_spec hi (hops i (by rw [ho]; simp [Op.operands]))
  rcases hxa with ⟨h4, _⟩ | ⟨b, hb, he, hle⟩
  · omega
  · have hadd : (⟨b, 0, none⟩ : Addr).add (ix.toNat * sz) = ⟨b, ix.toNat * sz, none⟩ := by unfold Addr.add; split <;> simp_all
    refine ⟨.pointer (some ⟨b, ix.toNat * sz, none⟩), 0, ?_, b, hb, by simp⟩
    simp [execOp, ho, he, hie, Instr.indexAt, asIntOf, run_underlying h1, h0, hn, sizeOf, typeInfo, h2, h3, hadd]
    rfl

theorem order_not_nan {k : FloatKind} {x y : Nat} {o : Ordering} (h : k.format.order x y = some o) : isNan k x = false ∧ isNan k y = false := by
  constructor
  · cases hx : isNan k x
    · rfl
    · obtain ⟨s, t, e⟩ := nan_read hx
      unfold Ieee.Format.order at h
      rw [e] at h; cases h
  · cases hx : isNan k y
    · rfl
    · obtain ⟨s, t, e⟩ := nan_read hx
      unfold Ieee.Format.order at h
      rw [e] at h
      cases hr : k.format.read x <;> rw [hr] at h <;> cases h

theorem run_min {w : World} (k : FloatKind) (x y : Nat) (hx : x < lim k) (hy : y < lim k) : ∃ r n, (Builtin.min2 (.float k x) (.float k y)).run P w = .ok (.float k r) (w.drewN n) ∧ cn k r = p_minW R k (cn k x) (cn k y) ∧ r < lim k := by
  have hc : ∀ (op : BinOp), fcmp op k (cn k x) (cn k y) = fcmp op k x y := fun op => fcmp_cn op k x y
  have e1 : R.cmp .lss k (cn k x) (cn k y) = flt k x y := by show (fcmp .lss k _ _).getD false = _; rw [hc]; rfl
  have e2 : R.cmp .gtr k (cn k x) (cn k y) = fgt k x y := by show (fcmp .gtr k _ _).getD false = _; rw [hc]; rfl
  have e3 : R.cmp .eql k (cn k x) (cn k y) = feq k x y := by show (fcmp .eql k _ _).getD false = _; rw [hc]; rfl
  unfold p_minW
  rw [e1, e2, e3]
  unfold flt fgt feq
  cases h : k.format.order x y with
  | none =>
    obtain ⟨hn, hl⟩ := nan_minmax k false x y (w.tape w.drawn (.nanMinMax k false x y))
    refine ⟨_, 1, ?_, by rw [cn_of_nan hn]; rfl, hl⟩
    simp [Builtin.min2, h, forced_minmax]; rfl
  | some o =>
    obtain ⟨h1, h2⟩ := order_not_nan h
    cases o with
    | lt => exact ⟨x, 0, by simp [Builtin.min2, h]; rfl, rfl, hx⟩
    | gt => exact ⟨y, 0, by simp [Builtin.min2, h]; rfl, rfl, hy⟩
    | eq =>
      refine ⟨if (k.decode x).neg then x else y, 0, by simp [Builtin.min2, h]; rfl, ?_, by split <;> assumption⟩
      rw [cn_of_not h1, cn_of_not h2]
      cases hd : (k.decode x).neg
      · exact cn_of_not h2
      · exact cn_of_not h1

theorem run_max {w : World} (k : FloatKind) (x y : Nat) (hx : x < lim k) (hy : y < lim k) : ∃ r n, (Builtin.max2 (.float k x) (.float k y)).run P w = .ok (.float k r) (w.drewN n) ∧ cn k r = p_maxW R k (cn k x) (cn k y) ∧ r < lim k := by
  have hc : ∀ (op : BinOp), fcmp op k (cn k x) (cn k y) = fcmp op k x y := fun op => fcmp_cn op k x y
  have e1 : R.cmp .lss k (cn k x) (cn k y) = flt k x y := by show (fcmp .lss k _ _).getD false = _; rw [hc]; rfl
  have e2 : R.cmp .gtr k (cn k x) (cn k y) = fgt k x y := by show (fcmp .gtr k _ _).getD false = _; rw [hc]; rfl
  have e3 : R.cmp .eql k (cn k x) (cn k y) = feq k x y := by show (fcmp .eql k _ _).getD false = _; rw [hc]; rfl
  unfold p_maxW
  rw [e1, e2, e3]
  unfold flt fgt feq
  cases h : k.format.order x y with
  | none =>
    obtain ⟨hn, hl⟩ := nan_minmax k true x y (w.tape w.drawn (.nanMinMax k true x y))
    refine ⟨_, 1, ?_, by rw [cn_of_nan hn]; rfl, hl⟩
    simp [Builtin.max2, h, forced_minmax]; rfl
  | some o =>
    obtain ⟨h1, h2⟩ := order_not_nan h
    cases o with
    | lt => exact ⟨y, 0, by simp [Builtin.max2, h]; rfl, rfl, hy⟩
    | gt => exact ⟨x, 0, by simp [Builtin.max2, h]; rfl, rfl, hx⟩
    | eq =>
      refine ⟨if (k.decode x).neg then y else x, 0, by simp [Builtin.max2, h]; rfl, ?_, by split <;> assumption⟩
      rw [cn_of_not h1, cn_of_not h2]
      cases hd : (k.decode x).neg
      · exact cn_of_not h1
      · exact cn_of_not h2

theorem cbuiltin_sound {o : Oper} {s : St} {c : Call} {b : Builtin} {K : Eff → Tr α} {rv : α} (ho : o.op = .call c) (hcb : c.callee = .builtin b) (h : cbuiltin R P b o.dst c.argTypes.toList s (c.args.toList.map s.ev) K = some rv) : ∃ e, K e = some rv ∧ EffOk P o s e := by
  have hop : ∀ {g : Gh} {a : Act}, (∀ x ∈ o.op.operands.toList, relV g (s.ev x) (a.eval x)) → ∀ x ∈ c.args.toList, relV g (s.ev x) (a.eval x) := fun {g a} hops x hx => hops x (by
    rw [ho]; simp [Op.operands, Call.operands, hcb]; simpa using hx)
  have run : ∀ (a : Act) (w : World), (execOp a.eval o).run P w = (builtin b c.argTypes o.type (c.args.map fun | .const _ => true | _ => false) (c.args.map a.eval)).run P w := fun a w => by
    simp only [execOp, ho, resolve, hcb, Sem.run_bind, Sem.run_pure, Result.andThen_ok, invoke]
    rfl
  have one : ∀ {x1 : CV}, c.args.toList.map s.ev = [x1] → ∃ x, c.args = #[x] ∧ s.ev x = x1 := fun {x1} h => by
    match hl : c.args.toList, h with
    | [x], h => simp at h; exact ⟨x, by rw [← hl], h⟩
  have two : ∀ {x1 x2 : CV}, c.args.toList.map s.ev = [x1, x2] → ∃ x y, c.args = #[x, y] ∧ s.ev x = x1 ∧ s.ev y = x2 := fun {x1 x2} h => by
    match hl : c.args.toList, h with
    | [x, y], h => simp at h; exact ⟨x, y, by rw [← hl], h.1, h.2⟩
  have tys : ∀ {t : TypeId → Bool}, (match c.argTypes.toList with | T :: _ => t T | [] => false) = true → ∃ T, c.argTypes[0]? = some T ∧ t T = true := fun {t} h => by
    cases hl : c.argTypes.toList with
    | nil => rw [hl] at h; cases h
    | cons T rest =>
      rw [hl] at h
      have h0 : c.argTypes.toList[0]? = some T := by rw [hl]; rfl
      exact ⟨T, by simpa using h0, h⟩
  have lens : ∀ {x : Operand} {n : Nat}, c.args = #[x] → b = .len → (match c.argTypes.toList with | T :: _ => tySlice P T | [] => false) = true → (∀ {g : Gh} {u : Value}, relV g (s.ev x) u → ∃ a cap, u = .slice a n cap) → EffOk P o s (.val (exI n) []) := by
    intro x n hx hb hT hv
    obtain ⟨T, hT1, hT2⟩ := tys hT
    obtain ⟨E, hE⟩ := tySlice_spec hT2
    refine val_of_run fun g w a hops => ?_
    obtain ⟨ad, cap, hu⟩ := hv (hop hops x (by rw [hx]; simp))
    refine ⟨_, 0, ?_, rfl⟩
    rw [run, hx, hb]
    simp [builtin, Builtin.len_, hT1, run_underlying hE, goInt, hu]
    rfl
  unfold cbuiltin at h
  split at h
  · rename_i args bw e l hargs
    have hbr := brT_req h; clear h; obtain ⟨hT, h⟩ := hbr
    obtain ⟨x, hx, hxe⟩ := one hargs
    exact ⟨_, h, lens hx rfl hT fun {g u} hu => by rw [hxe] at hu; obtain ⟨ad, cap, rfl, _⟩ := hu; exact ⟨_, _, rfl⟩⟩
  · rename_i args id n hargs
    have hbr := brT_req h; clear h; obtain ⟨hT, h⟩ := hbr
    obtain ⟨x, hx, hxe⟩ := one hargs
    exact ⟨_, h, lens hx rfl hT fun {g u} hu => by
      rw [hxe] at hu
      rcases hu with ⟨rfl, rfl⟩ | ⟨b', _, rfl, _⟩ <;> exact ⟨_, _, rfl⟩⟩
  · rename_i args id sz lo n hargs
    have hbr := brT_req h; clear h; obtain ⟨hT, h⟩ := hbr
    obtain ⟨x, hx, hxe⟩ := one hargs
    exact ⟨_, h, lens hx rfl hT fun {g u} hu => by rw [hxe] at hu; obtain ⟨ad, cap, rfl, _⟩ := hu; exact ⟨_, _, rfl⟩⟩
  · rename_i args hargs
    have hbr := brT_req h; clear h; obtain ⟨hT, h⟩ := hbr
    obtain ⟨x, hx, hxe⟩ := one hargs
    exact ⟨_, h, lens (n := 0) hx rfl hT fun {g u} hu => by rw [hxe] at hu; obtain rfl : u = _ := hu; exact ⟨_, _, rfl⟩⟩
  · rename_i args t hargs
    have hbr := brT_req h; clear h; obtain ⟨hT, h⟩ := hbr
    obtain ⟨x, hx, hxe⟩ := one hargs
    obtain ⟨T, hT1, hT2⟩ := tys hT
    have hT' : P.underlying T = some .string := by
      unfold tyString at hT2
      split at hT2
      · assumption
      · cases hT2
    refine ⟨_, h, val_of_run fun g w a hops => ?_⟩
    have hu := hop hops x (by rw [hx]; simp)
    rw [hxe] at hu
    have hu : a.eval x = .string t := hu
    refine ⟨_, 0, ?_, rfl⟩
    rw [run, hx]
    simp [builtin, Builtin.len_, hT1, run_underlying hT', goInt, hu]
    rfl
  · rename_i args k n m hargs
    obtain ⟨x, hx, hxe⟩ := one hargs
    refine ⟨_, h, val_of_run fun g w a hops => ?_⟩
    have hu := hop hops x (by rw [hx]; simp)
    rw [hxe] at hu
    obtain ⟨p, q, hv, h1, h2, h3, h4⟩ := hu
    exact ⟨.float k p, 0, by rw [run, hx]; simp [hv]; rfl, p, rfl, h1, h3⟩
  · rename_i args k n m hargs
    obtain ⟨x, hx, hxe⟩ := one hargs
    refine ⟨_, h, val_of_run fun g w a hops => ?_⟩
    have hu := hop hops x (by rw [hx]; simp)
    rw [hxe] at hu
    obtain ⟨p, q, hv, h1, h2, h3, h4⟩ := hu
    exact ⟨.float k q, 0, by rw [run, hx]; simp [hv]; rfl, q, rfl, h2, h4⟩
  · rename_i args k n k' m hargs
    have hbr := brT_req h; clear h; obtain ⟨hk, h⟩ := hbr
    obtain rfl := eqK_spec hk
    obtain ⟨x, y, hx, hxe, hye⟩ := two hargs
    refine ⟨_, h, val_of_run fun g w a hops => ?_⟩
    have hu := hop hops x (by rw [hx]; simp)
    have hv := hop hops y (by rw [hx]; simp)
    rw [hxe] at hu
    rw [hye] at hv
    obtain ⟨p, e1, h1, h2⟩ := hu
    obtain ⟨q, e2, h3, h4⟩ := hv
    refine ⟨.complex k p q, 0, ?_, p, q, rfl, h1, h3, h2, h4⟩
    rw [run, hx]
    simp [e1, e2, builtin, run_complex, Result.andThen_ok]
    rfl
  · rename_i args x y hargs
    obtain ⟨xo, yo, hx, hxe, hye⟩ := two hargs
    subst hxe hye
    have hlen : ∃ T T', c.argTypes.toList = [T, T'] := by
      unfold cappend at h
      split at h
      · exact ⟨_, _, by assumption⟩
      · cases h
    obtain ⟨T, T', hTT⟩ := hlen
    have hTa : c.argTypes = #[T, T'] := by rw [← hTT]
    rw [hTT] at h
    refine append_sound (ty := o.type) (fun a w => ?_) h
    rw [run, hx, hTa]
    simp [builtin]
  · rename_i args x y hargs
    obtain ⟨xo, yo, hx, hxe, hye⟩ := two hargs
    subst hxe hye
    have hlen : ∃ T T', c.argTypes.toList = [T, T'] := by
      unfold ccopy at h
      split at h
      · exact ⟨_, _, by assumption⟩
      · cases h
    obtain ⟨T, T', hTT⟩ := hlen
    have hTa : c.argTypes = #[T, T'] := by rw [← hTT]
    rw [hTT] at h
    refine copy_sound (ty := o.type) (fun a w => ?_) h
    rw [run, hx, hTa]
    simp [builtin]
  · rename_i args k n k' m hargs
    have hbr := brT_req h; clear h; obtain ⟨hk, h⟩ := hbr
    obtain rfl := eqK_spec hk
    obtain ⟨x, y, hx, hxe, hye⟩ := two hargs
    refine ⟨_, h, val_of_run fun g w a hops => ?_⟩
    have hu := hop hops x (by rw [hx]; simp)
    have hv := hop hops y (by rw [hx]; simp)
    rw [hxe] at hu
    rw [hye] at hv
    obtain ⟨p, q1, h1, h2⟩ := hu
    obtain ⟨q, q2, h3, h4⟩ := hv
    obtain ⟨r, n', hr, hr1, hr2⟩ := run_min (P := P) (w := w) k p q h2 h4
    refine ⟨.float k r, n', ?_, r, rfl, by rw [hr1, h1, h3], hr2⟩
    rw [run, hx]
    simp [q1, q2, builtin, Builtin.min_, hr]
  · rename_i args k n k' m hargs
    have hbr := brT_req h; clear h; obtain ⟨hk, h⟩ := hbr
    obtain rfl := eqK_spec hk
    obtain ⟨x, y, hx, hxe, hye⟩ := two hargs
    refine ⟨_, h, val_of_run fun g w a hops => ?_⟩
    have hu := hop hops x (by rw [hx]; simp)
    have hv := hop hops y (by rw [hx]; simp)
    rw [hxe] at hu
    rw [hye] at hv
    obtain ⟨p, q1, h1, h2⟩ := hu
    obtain ⟨q, q2, h3, h4⟩ := hv
    obtain ⟨r, n', hr, hr1, hr2⟩ := run_max (P := P) (w := w) k p q h2 h4
    refine ⟨.float k r, n', ?_, r, rfl, by rw [hr1, h1, h3], hr2⟩
    rw [run, hx]
    simp [q1, q2, builtin, Builtin.max_, hr]
  · rename_i args k n k' m hargs
    have hbr := brT_req h; clear h; obtain ⟨hk, h⟩ := hbr
    obtain rfl := eqI_spec hk
    obtain ⟨x, y, hx, hxe, hye⟩ := two hargs
    refine ⟨_, h, val_of_run fun g w a hops => ?_⟩
    have hu := hop hops x (by rw [hx]; simp)
    have hv := hop hops y (by rw [hx]; simp)
    rw [hxe] at hu
    rw [hye] at hv
    have hu : a.eval x = .int k n := hu
    have hv : a.eval y = .int k m := hv
    refine ⟨.int k (bif decide (m < n) then m else n), 0, ?_, rfl⟩
    rw [run, hx]
    by_cases c : m < n
    · simp [hu, hv, builtin, Builtin.min_, Builtin.min2, c]; rfl
    · simp [hu, hv, builtin, Builtin.min_, Builtin.min2, c]; rfl
  · rename_i args k n k' m hargs
    have hbr := brT_req h; clear h; obtain ⟨hk, h⟩ := hbr
    obtain rfl := eqI_spec hk
    obtain ⟨x, y, hx, hxe, hye⟩ := two hargs
    refine ⟨_, h, val_of_run fun g w a hops => ?_⟩
    have hu := hop hops x (by rw [hx]; simp)
    have hv := hop hops y (by rw [hx]; simp)
    rw [hxe] at hu
    rw [hye] at hv
    have hu : a.eval x = .int k n := hu
    have hv : a.eval y = .int k m := hv
    refine ⟨.int k (bif decide (m > n) then m else n), 0, ?_, rfl⟩
    rw [run, hx]
    by_cases c : m > n
    · simp [hu, hv, builtin, Builtin.max_, Builtin.max2, c]; rfl
    · simp [hu, hv, builtin, Builtin.max_, Builtin.max2, c]; rfl
  · cases h

theorem mkVal_field {g : Gh} {cs : List CS} {arr : Array Value} {off n : Nat} {ag : Bool} {v : CV} (hv : mkVal ag ((cs.drop off).take n) = some v) (hl : off + n ≤ cs.length) (hsz : arr.size = cs.length) (hc : ∀ (j : Nat) c u, cs[j]? = some c → arr[j]? = some u → rel g c u) :
    (ag = true ∧ relV g v (.agg (arr.extract off (off + n)))) ∨ (ag = false ∧ ∃ h : off < arr.size, relV g v arr[off]) := by
  cases ag with
  | true =>
    cases hv
    refine .inl ⟨rfl, _, rfl, by simp; omega, fun j c u hj hu => ?_⟩
    rw [List.getElem?_take] at hj
    split at hj
    · rename_i hjn
      rw [Array.getElem?_extract] at hu
      split at hu
      · exact hc (off + j) c u (by simpa using hj) hu
      · cases hu
    · cases hj
  | false =>
    unfold mkVal at hv
    simp only at hv
    split at hv
    · rename_i c hcs; cases hv
      have hn : n = 1 := by
        have := congrArg List.length hcs; simp at this; omega
      have hget : cs[off]? = some c := by
        have := congrArg (·[0]?) hcs
        simp [hn] at this
        simpa using this
      have hlt : off < arr.size := by omega
      exact .inr ⟨rfl, hlt, hc off c _ hget (by simp [hlt])⟩
    · cases hv

theorem tellArr_size {Γ : CEnv} {T : TypeId} {n : Nat} {e : Sh} (h : tellArr P Γ T = some (n, e)) : e.size = 1 := by
  unfold tellArr at h
  split at h
  · rename_i x hl
    cases h
    unfold longArr at hl
    split at hl
    · split at hl
      · split at hl
        · rename_i hs; cases hl; exact Nat.eq_of_beq_eq_true hs
        · cases hl
      · cases hl
    · cases hl
  · split at h
    · unfold shortArr at h
      split at h
      · split at h
        · split at h
          · rename_i hs; cases h; exact Nat.eq_of_beq_eq_true hs
          · cases h
        · cases h
      · cases h
    · cases h
theorem allocArr_sound {o : Oper} {s : St} {T : TypeId} {n : Nat} {e : Sh} (ho : o.op = .alloc T) (he : e.size = 1) (hok : arrOk P T e n = true) : EffOk P o s (.gen (arrSt s o.dst e (List.replicate n e.dflt))) := by
  unfold arrOk at hok
  split at hok
  rotate_left
  · cases hok
  rename_i i hi
  split at hok
  rotate_left
  · cases hok
  rename_i z hz
  rw [Bool.and_eq_true] at hok
  have hsz := Nat.eq_of_beq_eq_true hok.1
  intro X w0 m g a w K Q hsim hdd hk
  have hb := hsim.bornV (d := o.dst) hdd (e := e) (l := List.replicate n e.dflt) (arr := z.cells) (T := T) (c := n) (fr := (0, 0)) (.inl rfl) (by rw [he, hsz, Nat.mul_one]) (by simp) (fun j x hx => by
    have hj : j < n := by
      rcases Nat.lt_or_ge j n with h | h
      · exact h
      · rw [List.getElem?_eq_none (by simpa using h)] at hx; cases hx
    rw [List.getElem?_replicate, if_pos hj] at hx
    cases hx
    have hj' : j < z.cells.size := by omega
    have h1 := List.all_eq_true.1 hok.2 z.cells[j] (by simp)
    refine relT_lt e e.dflt (fun k u hkk hu => ?_) (zero_rel (m := g.im) e [z.cells[j]] h1)
    have : k = 0 := by omega
    subst this
    show z.cells[j * e.size + 0]? = some u
    simp at hu
    rw [he, Nat.mul_one, Nat.add_zero, Array.getElem?_eq_getElem hj', hu]) (cv := sc (.pe s.nx e.size 0 0)) (v := .pointer (some ⟨w.heap.size, 0, none⟩)) ⟨w.heap.size, (Gh.bind_same g s.nx w.heap.size n).1, by simp⟩
  refine wp_of_run (w' := w.alloc (.cells z.cells T)) (v := .pointer (some ⟨w.heap.size, 0, none⟩)) ?_ (hk _ _ _ hb)
  simp [execOp, ho, Instr.alloc, zeroValue, typeInfo, hi, hz, newVar, newRow]

theorem allocOne_sound {Γ : CEnv} {o : Oper} {s : St} {T : TypeId} {e : Sh} (ho : o.op = .alloc T) (_hl : oneSh P Γ T = some e) (hok : oneOk P T e = true) : EffOk P o s (.gen (arrSt s o.dst e [e.dflt])) := by
  unfold oneOk at hok
  split at hok
  rotate_left
  · cases hok
  rename_i i hi
  split at hok
  rotate_left
  · cases hok
  rename_i z hz
  have hsz : z.cells.size = e.size := by
    have := eqZs_length hok
    rw [zeroV_length] at this
    simpa using this
  intro X w0 m g a w K Q hsim hdd hk
  have hb := hsim.bornV (d := o.dst) hdd (e := e) (l := [e.dflt]) (arr := z.cells) (T := T) (c := 1) (fr := (0, 0)) (.inl rfl) (by rw [hsz, Nat.one_mul]) (by simp) (fun j x hx => by
    cases j with
    | zero =>
      simp at hx; subst hx
      refine relT_mono (fun _ _ h => h) e e.dflt (fun k u hu => ?_) (zero_rel (m := g.im) e z.cells.toList hok)
      show z.cells[0 * e.size + k]? = some u
      rw [Nat.zero_mul, Nat.zero_add, ← Array.getElem?_toList]; exact hu
    | succ j => simp at hx) (cv := sc (.pe s.nx e.size 0 0)) (v := .pointer (some ⟨w.heap.size, 0, none⟩)) ⟨w.heap.size, (Gh.bind_same g s.nx w.heap.size 1).1, by simp⟩
  refine wp_of_run (w' := w.alloc (.cells z.cells T)) (v := .pointer (some ⟨w.heap.size, 0, none⟩)) ?_ (hk _ _ _ hb)
  simp [execOp, ho, Instr.alloc, zeroValue, typeInfo, hi, hz, newVar, newRow]

theorem boxOne_sound {o : Oper} {s : St} {T : TypeId} {x : Operand} {cs : List CS} {e : Sh} {y : e.Ty} (ho : o.op = .box T x) (hc : cellsOf (s.ev x) = some cs) (hp : cs.all plain = true) (hn : cs.length = e.size)
    (hy : decD false e (fun j => cs.getD j .any) = some y) : EffOk P o s (.gen (arrSt s o.dst e [y])) := by
  intro X w0 m g a w K Q hsim hdd hk
  have hxa := hsim.ev x
  obtain ⟨h1, h2⟩ := cells_rel hc hp hxa
  have hb := hsim.bornV (d := o.dst) hdd (e := e) (l := [y]) (arr := (a.eval x).cells) (T := T) (c := 1) (fr := (0, 0)) (.inl rfl) (by rw [h1, hn, Nat.one_mul]) (by simp) (fun j x' hx => by
    cases j with
    | zero =>
      simp at hx; subst hx
      refine decD_sound hsim.ok.im (bw := false) e _ y _ hy fun j hj => ?_
      have hjl : j < cs.length := by omega
      have hja : j < (a.eval x).cells.size := by omega
      refine ⟨(a.eval x).cells[j], ?_, ?_⟩
      · show (a.eval x).cells[0 * e.size + j]? = some _
        rw [Nat.zero_mul, Nat.zero_add]; simp [hja]
      · have e1 : cs.getD j .any = cs[j] := by rw [List.getD_eq_getElem?_getD]; simp [hjl]
        rw [e1]
        exact (h2 j cs[j] _ (by simp [hjl]) (by simp [hja])).1
    | succ j => simp at hx) (cv := sc (.pe s.nx e.size 0 0)) (v := .pointer (some ⟨w.heap.size, 0, none⟩)) ⟨w.heap.size, (Gh.bind_same g s.nx w.heap.size 1).1, by simp⟩
  refine wp_of_run (w' := w.alloc (.cells (a.eval x).cells T)) (v := .pointer (some ⟨w.heap.size, 0, none⟩)) ?_ (hk _ _ _ hb)
  simp [execOp, ho, Instr.box, newVar, newRow]

theorem tyString_spec {T : TypeId} (h : tyString P T = true) : P.underlying T = some .string := by
  unfold tyString at h
  split at h
  · assumption
  · cases h
theorem tyBytes_spec {T : TypeId} (h : tyBytes P T = true) : ∃ e, P.underlying T = some (.slice e) ∧ P.underlying e = some (.int .u8) := by
  unfold tyBytes at h
  split at h
  · rename_i e he
    split at h
    · exact ⟨e, he, by assumption⟩
    · cases h
  · cases h

theorem foldl_bytes : ∀ (l : List Int) (r : ByteArray), l.foldl (fun r n => r.push (UInt8.ofNat n.toNat)) r = ⟨r.data ++ (l.map fun n => UInt8.ofNat n.toNat).toArray⟩
  | [], r => by simp
  | n :: l, r => by
    simp only [List.foldl_cons]
    rw [foldl_bytes l]
    simp [ByteArray.push]

/-- bytes in cells -/
theorem bytesU_spec {s : St} {cv : CV} {l : List Int} {ds : List Dep} (h : bytesU s.hp cv = some (l, ds, true)) : (∀ d ∈ ds, s.hp d.1 d.2.1 = some d.2.2) ∧
    ∀ X g w0 w u, relV g cv u → (∀ d ∈ ds, CellRel g w d.1 d.2.1 d.2.2) → WOk X w0 g w → ∃ a cap, u = .slice a l.length cap ∧ (a = none → l = []) ∧ ∀ b, a = some b → ∀ (i : Nat) n, l[i]? = some n → w.cell? (b.add i) = some (.int .u8 n) := by
  have hadd : ∀ (b off j : Nat), (⟨b, off, none⟩ : Addr).add j = ⟨b, off + j, none⟩ := fun b off j => by unfold Addr.add; split <;> simp_all
  have own : ∀ {g : Gh} {w : World} {id : Nat} {l : List Int} {b : Nat}, CellRel g w id 0 (.arr (.int .u8) l) → g.β id = some b → ∀ (i : Nat) n, l[i]? = some n → w.cell? ⟨b, i, none⟩ = some (.int .u8 n) := by
    intro g w id l b hc hb i n hi
    rcases hc with ⟨e', l', h1, _, har⟩ | ⟨_, _, _, _, _, _, _, h⟩
    · cases h1
      rcases har with ⟨h4, h5⟩ | ⟨b', arr, T, h4, h5, h6, h7, h8⟩
      · rw [hb] at h5; cases h5
      · rw [hb] at h4; cases h4
        have := h8 i n hi
        have : arr[i * 1 + 0]? = some (.int .u8 n) := this
        rw [h5.cell, ← this]; congr 1; omega
    · exact h.elim
  unfold bytesU at h
  split at h
  · rename_i bw e l'
    split at h
    · rename_i l2 hc
      cases h
      obtain ⟨rfl, h1⟩ := castLs_spec hc
      have h1 : l = l' := h1
      subst h1
      refine ⟨(fun d hd => nomatch hd), fun X g w0 w u hu _ hok => ?_⟩
      obtain ⟨a, cap, rfl, h2, h3, h4⟩ := hu
      refine ⟨a, cap, rfl, fun ha => List.eq_nil_of_length_eq_zero (by have := h3 ha; omega), fun b hb i n hi => ?_⟩
      have h0 : 0 < l.length := by
        rcases Nat.eq_zero_or_pos l.length with h0 | h0
        · have := List.eq_nil_of_length_eq_zero h0; subst this; simp at hi
        · exact h0
      obtain ⟨b', off, he, h5⟩ := h4 h0
      rw [hb] at he; cases he
      obtain ⟨arr, T, fr, h6, h7⟩ := h5 i n hi
      have h6 : w.heap[b']? = some (.cells arr T fr) := by
        cases bw
        · exact hok.imh _ _ h6
        · exact hok.bi _ _ h6
      have h7 : arr[off + i * 1 + 0]? = some (.int .u8 n) := h7
      have e1 : off + i * 1 + 0 = off + i := by omega
      rw [e1] at h7
      rw [hadd]
      simp [World.cell?, h6, h7]
    · cases h
  · cases h
    exact ⟨(fun d hd => nomatch hd), fun X g w0 w u hu _ _ => ⟨none, 0, hu, fun _ => rfl, (fun b hb => nomatch hb)⟩⟩
  · rename_i id n
    split at h
    · rename_i l2 hl
      simp only [Option.some.injEq, Prod.mk.injEq] at h
      obtain ⟨rfl, rfl, hn⟩ := h
      have hn := Nat.eq_of_beq_eq_true hn
      subst hn
      refine ⟨fun d hd => by simp at hd; subst hd; exact arrAt_spec hl, fun X g w0 w u hu hd hok => ?_⟩
      have hd := hd _ (List.mem_singleton.2 rfl)
      rcases hu with ⟨h2, rfl⟩ | ⟨b, h2, rfl, h3⟩
      · exact ⟨none, 0, by rw [h2], fun _ => List.eq_nil_of_length_eq_zero h2, (fun b hb => nomatch hb)⟩
      · refine ⟨_, _, rfl, (fun h => nomatch h), fun b' hb i n hi => ?_⟩
        cases hb
        rw [hadd, Nat.zero_add]
        exact own hd h2 i n hi
    · cases h
  · rename_i id sz lo n
    split at h
    · rename_i l2 hl
      simp only [Option.some.injEq, Prod.mk.injEq, Bool.and_eq_true] at h
      obtain ⟨rfl, rfl, hs, hn⟩ := h
      have hs := Nat.eq_of_beq_eq_true hs
      have hn := Nat.le_of_ble_eq_true hn
      subst hs
      have hlen : ((l2.drop lo).take n).length = n := by rw [List.length_take, List.length_drop]; omega
      refine ⟨fun d hd => by simp at hd; subst hd; exact arrAt_spec hl, fun X g w0 w u hu hd hok => ?_⟩
      have hd := hd _ (List.mem_singleton.2 rfl)
      obtain ⟨a, cap, rfl, h2, h3, h4⟩ := hu
      refine ⟨a, cap, by rw [hlen], fun ha => List.eq_nil_of_length_eq_zero (by rw [hlen]; have := h3 ha; omega), fun b hb i m hi => ?_⟩
      have hi' : i < n := by
        rw [← hlen]
        rcases Nat.lt_or_ge i ((l2.drop lo).take n).length with h | h
        · exact h
        · rw [List.getElem?_eq_none h] at hi; cases hi
      obtain ⟨b', h5, h6⟩ := h4 (by omega)
      rw [hb] at h6; cases h6
      rw [List.getElem?_take_of_lt hi', List.getElem?_drop] at hi
      rw [hadd, Nat.mul_one]
      exact own hd h5 _ m hi
    · cases h
  · cases h

theorem bytesText_sound {o : Oper} {s : St} {src dst : TypeId} {x : Operand} {l : List Int} {ds : List Dep} (ho : o.op = .convert src dst x) (hs : tyBytes P src = true) (hd : tyString P dst = true) (hl : bytesU s.hp (s.ev x) = some (l, ds, true)) :
    EffOk P o s (.val (ex (.string (p_bytes l))) ds) := by
  obtain ⟨e, h1, h2⟩ := tyBytes_spec hs
  have h3 := tyString_spec hd
  obtain ⟨p1, p2⟩ := bytesU_spec hl
  refine ⟨p1, fun X g w0 w a K Q hops hdeps hw _ hk => ?_⟩
  obtain ⟨ad, cap, hu, hn, hc⟩ := p2 X g w0 w (a.eval x) (hops x (by rw [ho]; simp [Op.operands])) hdeps hw
  refine wp_of_run (w' := w) (v := .string (p_bytes l)) ?_ (hk _ g w (After.refl hw) rfl)
  have hrun : (convert src dst (a.eval x)).run P w = .ok (.string (p_bytes l)) w := by
    rw [hu, run_convert_bytes_string w src dst e ad l.length cap h1 h2 h3]
    cases ad with
    | none => rw [hn rfl]; simp [Conv.bytesToString, p_bytes]; rfl
    | some ad =>
      have hl := run_loadCells_list (P := P) w ad (l.map (Value.int .u8)) (fun j v hj => by
        rw [List.getElem?_map] at hj
        cases h : l[j]? with
        | none => rw [h] at hj; cases hj
        | some n => rw [h] at hj; cases hj; exact hc ad rfl j n h)
      rw [List.length_map] at hl
      rw [run_bytesToString w ad l.length cap l hl, foldl_bytes]
      show Result.ok (Value.string ⟨#[] ++ _⟩) w = _
      rw [Array.empty_append]; rfl
  simp only [execOp, ho, hrun, Sem.run_bind, Sem.run_pure, Result.andThen_ok]

theorem textBytes_sound {o : Oper} {s : St} {src dst : TypeId} {x : Operand} {t : ByteArray} (ho : o.op = .convert src dst x) (hs : tyString P src = true) (hd : tyBytes P dst = true) (ht : isText (s.ev x) = some t) (_he : elemOk P dst (.int .u8) = true) (_hn : t.size ≤ mostLen) :
    EffOk P o s (.gen (bornSt s o.dst (.int .u8) (p_ofText t))) := by
  obtain ⟨e, h1, h2⟩ := tyBytes_spec hd
  have h3 := tyString_spec hs
  intro X w0 m g a w K Q hsim hdd hk
  have hxa : a.eval x = .string t := by
    have := hsim.ev x
    unfold isText at ht
    split at ht
    · rename_i t' hh
      cases ht
      rw [hh] at this; exact this
    · cases ht
  have hrun := run_bytes_of_string w src dst e t h3 h1 h2
  have hlen : (p_ofText t).length = t.size := by simp [p_ofText]
  have hcap : t.size ≤ grownCap w t.size 0 e := grownCap_ge w t.size 0 e
  generalize hr : bytesRow t (grownCap w t.size 0 e) = row at hrun
  have hrs : row.size = grownCap w t.size 0 e := by
    rw [← hr]; simp [bytesRow]
    have : t.data.size = t.size := rfl
    omega
  have hb := (hsim.drewN 1).bornF (d := o.dst) hdd (e := .int .u8) (l := p_ofText t) (arr := row) (T := e) (c := grownCap w t.size 0 e) (fr := (row.size, row.size + 1)) (.inr (Nat.le_refl _)) (by rw [hrs]; simp [Sh.size]) (by rw [hlen]; exact hcap) (fun i n hi => by
    show row[i * 1 + 0]? = some (.int .u8 n)
    have hi' : i < t.data.size := by
      have : t.data.size = t.size := rfl
      rw [this, ← hlen]
      rcases Nat.lt_or_ge i (p_ofText t).length with h | h
      · exact h
      · rw [List.getElem?_eq_none h] at hi; cases hi
    rw [← hr]
    unfold bytesRow
    rw [Nat.mul_one, Nat.add_zero, Array.getElem?_append_left (by simpa using hi')]
    simp [p_ofText] at hi
    obtain ⟨c, hc, rfl⟩ := hi
    simp [hc])
  rw [hlen] at hb
  refine wp_of_run (w' := w.drew.alloc (.cells row e (row.size, row.size + 1))) (v := .slice (some ⟨w.heap.size, 0, none⟩) t.size (grownCap w t.size 0 e)) ?_ (hk _ _ _ hb)
  simp only [execOp, ho, hxa, hrun, Sem.run_bind, Sem.run_pure, Result.andThen_ok]

/-- the mark behind a row (a constant's bytes): the row is as it was -/
theorem RowAt.mark {w : World} {b : Nat} {arr : Array Value} {T : TypeId} (h : RowAt w b arr T) {b' : Nat} {arr' : Array Value} {T' : TypeId} (h' : RowAt w b' arr' T') : RowAt (w.freeze ⟨b, arr.size, none⟩ 1) b' arr' T' := by
  obtain ⟨fr, h1, h2⟩ := h
  by_cases e : b' = b
  · subst e
    obtain ⟨rfl, rfl⟩ := h'.inj ⟨fr, h1, h2⟩
    obtain ⟨lo, hi⟩ := fr
    refine ⟨if lo == hi then (arr'.size, arr'.size + 1) else (min lo arr'.size, max hi (arr'.size + 1)), ?_, ?_⟩
    · unfold World.freeze
      rw [if_neg (by decide)]
      simp [Array.getElem?_modify, h1]
    · refine .inr ?_
      split
      · exact Nat.le_refl _
      · rename_i hne
        rcases h2 with h2 | h2
        · cases h2; simp at hne
        · show arr'.size ≤ min lo arr'.size
          have : arr'.size ≤ lo := h2
          omega
  · obtain ⟨fr', h3, h4⟩ := h'
    refine ⟨fr', ?_, h4⟩
    unfold World.freeze
    rw [if_neg (by decide)]
    simp [Array.getElem?_modify, h3]
    intro h; exact absurd h.symm e
theorem mark_other {w : World} {b k : Nat} (o : Nat) (h : k ≠ b) : (w.freeze ⟨b, o, none⟩ 1).heap[k]? = w.heap[k]? := by
  unfold World.freeze
  rw [if_neg (by decide)]
  simp [Array.getElem?_modify]
  intro h'; exact absurd h'.symm h
theorem mark_size (w : World) (a : Addr) : (w.freeze a 1).heap.size = w.heap.size := by
  unfold World.freeze
  rw [if_neg (by decide)]
  simp
theorem mark_rest (w : World) (a : Addr) : (w.freeze a 1).os = w.os ∧ (w.freeze a 1).tape = w.tape ∧ (w.freeze a 1).output = w.output := by
  unfold World.freeze
  rw [if_neg (by decide)]
  exact ⟨rfl, rfl, rfl⟩
theorem Sim.mark {X : Fr} {w0 : World} {n : Nat} {s : St} {g : Gh} {a : Act} {w : World} (h : Sim X w0 n s g a w) {id b : Nat} {arr : Array Value} {T : TypeId} (hb : g.β id = some b) (hr : RowAt w b arr T) : Sim X w0 n s g a (w.freeze ⟨b, arr.size, none⟩ 1) := by
  have hok := h.ok
  obtain ⟨h1, h2, h3⟩ := hok.fresh _ _ hb
  obtain ⟨r1, r2, r3⟩ := mark_rest w ⟨b, arr.size, none⟩
  refine ⟨h.tm, h.len, h.df, ⟨⟨r1.trans hok.keep.os, r2.trans hok.keep.tape, r3.trans hok.keep.output, by rw [mark_size]; exact hok.keep.size, fun k hk hx => ?_⟩, hok.im, fun k o ho => ?_, hok.inj, fun i c hc => ?_, trivial, hok.base, hok.imf, hok.pin⟩, fun i o c hc => ?_, h.nx, h.hx, h.lo, h.ln⟩
  · rw [mark_other _ (fun e => by subst e; rcases h1 with h1 | h1; omega; exact hx h1.1)]
    exact hok.keep.block k hk hx
  · have hne : k ≠ b := fun e1 => by subst e1; rw [h3] at ho; cases ho
    rw [mark_other _ hne]; exact hok.bi k o ho
  · obtain ⟨h4, h5, h6⟩ := hok.fresh _ _ hc
    exact ⟨h4, by rw [mark_size]; exact h5, h6⟩
  · rcases h.cells _ _ _ hc with ⟨e, l, e1, e2, har⟩ | ⟨b', arr', T', u, e1, e2, e3, e4⟩
    · refine .inl ⟨e, l, e1, e2, ?_⟩
      rcases har with har | ⟨b', arr', T', f1, f2, f3⟩
      · exact .inl har
      · exact .inr ⟨b', arr', T', f1, hr.mark f2, f3⟩
    · exact .inr ⟨b', arr', T', u, e1, hr.mark e2, e3, e4⟩
theorem run_convert_bytes_same (w : World) (t e : TypeId) {b : Nat} (n c : Nat) {arr : Array Value} {T : TypeId} (hr : RowAt w b arr T) (ht : P.underlying t = some (.slice e)) (he : P.underlying e = some (.int .u8)) :
    (convert t t (.slice (some ⟨b, 0, none⟩) n c)).run P w = .ok (.slice (some ⟨b, 0, none⟩) n c) (w.freeze ⟨b, arr.size, none⟩ 1) := by
  obtain ⟨fr, h1, _⟩ := hr
  have hsh : w.shape? b = some (T, arr.size) := by
    unfold World.shape?
    rw [h1]
  simp [convert, run_underlying ht, run_underlying he, markStringish, hsh]
theorem bytesSame_sound {o : Oper} {s : St} {src dst : TypeId} {x : Operand} {id n : Nat} {l : List Int} (ho : o.op = .convert src dst x) (hs : tyBytes P src = true) (hd : src = dst) (hx : s.ev x = .one (.s (.own id n))) (hl : s.hp id 0 = some (.arr (.int .u8) l)) (hn : 0 < n) :
    EffOk P o s (.gen (s.put o.dst (sc (.own id n)))) := by
  obtain ⟨e, h1, h2⟩ := tyBytes_spec hs
  subst hd
  intro X w0 m g a w K Q hsim hdd hk
  have hxa := hsim.ev x
  rw [hx] at hxa
  have hxa0 : relV g (.one (.s (.own id n))) (a.eval x) := hxa
  rcases hxa with ⟨h, _⟩ | ⟨b, hb, hv, _⟩
  · omega
  have hrow : ∃ arr T, RowAt w b arr T := by
    rcases hsim.cells _ _ _ hl with ⟨e', l', _, _, har⟩ | ⟨_, _, _, _, _, _, _, h⟩
    · rcases har with ⟨_, h⟩ | ⟨b', arr, T, h3, h4, _⟩
      · rw [hb] at h; cases h
      · rw [hb] at h3; cases h3; exact ⟨arr, T, h4⟩
    · exact h.elim
  obtain ⟨arr, T, hr⟩ := hrow
  have hrun := run_convert_bytes_same (P := P) w src e n (g.cp id) hr h1 h2
  refine wp_of_run (w' := w.freeze ⟨b, arr.size, none⟩ 1) (v := a.eval x) ?_ (hk g _ _ ((hsim.mark hb hr).put hdd hxa0))
  have hv' : a.eval x = Value.slice (some ⟨b, 0, none⟩) n (g.cp id) := hv
  rw [← hv'] at hrun
  simp only [execOp, ho, hrun, Sem.run_bind, Sem.run_pure, Result.andThen_ok]

theorem cop_sound {Γ : CEnv} (hΓ : GoodC P Γ) {o : Oper} {s : St} {K : Eff → Tr α} {rv : α} (h : cop R P Γ o.dst o.op s K = some rv) : ∃ e, K e = some rv ∧ EffOk P o s e := by
  generalize ho : o.op = op at h
  cases op with
  | move x =>
    refine ⟨_, h, val_of_run fun g w a hops => ⟨a.eval x, 0, ?_, hops x (by rw [ho]; simp [Op.operands])⟩⟩
    simp [execOp, ho]; rfl
  | assign x =>
    refine ⟨_, h, val_of_run fun g w a hops => ⟨a.eval x, 0, ?_, hops x (by rw [ho]; simp [Op.operands])⟩⟩
    simp [execOp, ho]; rfl
  | pick c x y =>
    simp only [cop] at h
    split at h
    · rename_i t hc
      have hb : ∀ {g : Gh} {a : Act}, (∀ x ∈ o.op.operands.toList, relV g (s.ev x) (a.eval x)) → a.eval c = .bool t := fun {g a} hops => by
        have := hops c (by rw [ho]; simp [Op.operands]); rw [hc] at this; exact this
      have hbr := brT_some h; clear h; rcases hbr with ⟨rfl, h⟩ | ⟨rfl, h⟩
      · refine ⟨_, h, val_of_run fun g w a hops => ⟨a.eval x, 0, ?_, hops x (by rw [ho]; simp [Op.operands])⟩⟩
        simp [execOp, ho, hb hops, asBool]; rfl
      · refine ⟨_, h, val_of_run fun g w a hops => ⟨a.eval y, 0, ?_, hops y (by rw [ho]; simp [Op.operands])⟩⟩
        simp [execOp, ho, hb hops, asBool]; rfl
    · cases h
  | alloc T =>
    simp only [cop] at h
    split at h
    · rename_i n e hl
      have hbr := brT_req h; clear h; obtain ⟨h1, h⟩ := hbr
      exact ⟨_, h, allocArr_sound ho (tellArr_size hl) h1⟩
    split at h
    · rename_i e hl
      have hbr := brT_req h; clear h; obtain ⟨h1, h⟩ := hbr
      exact ⟨_, h, allocOne_sound ho hl h1⟩
    split at h
    · rename_i cs hz; exact ⟨_, h, alloc_sound ho hz⟩
    · cases h
  | box T x =>
    simp only [cop] at h
    split at h
    · rename_i cs hc
      split at h
      · rename_i e he
        split at h
        · rename_i y hy
          have hbr := brT_req h; clear h; obtain ⟨h1, h⟩ := hbr
          simp only [Bool.and_eq_true] at h1
          exact ⟨_, h, boxOne_sound ho hc h1.1 (Nat.eq_of_beq_eq_true h1.2) hy⟩
        · cases h
      · have hbr := brT_req h; clear h; obtain ⟨h1, h⟩ := hbr; exact ⟨_, h, box_sound ho hc h1⟩
    · cases h
  | build T parts =>
    simp only [cop] at h
    split at h
    · rename_i places z ps h1 h2 h3
      split at h
      · rename_i cs hf; exact ⟨_, h, build_sound ho h1 h2 h3 hf⟩
      · cases h
    · cases h
  | load T x =>
    simp only [cop] at h
    split at h
    · rename_i ag n hs
      split at h
      · rename_i id off hx
        split at h
        · rename_i cs hr
          have hbr := brT_req h; clear h; obtain ⟨hpl, h⟩ := hbr
          split at h
          · rename_i v hv
            have hl := readFrom_length hr
            subst hl
            exact ⟨_, h, load_sound ho hs hx hr hpl hv⟩
          · cases h
        · cases h
      · rename_i m f hx
        have hbr := brT_req h; clear h; obtain ⟨hm, h⟩ := hbr
        have hm := Nat.le_of_ble_eq_true hm
        split at h
        · rename_i v hv; exact ⟨_, h, load_ip_sound ho hs hx hm hv⟩
        · cases h
      · rename_i id sz i k hx
        split at h
        · rename_i e l hh
          have hbr := brT_req h; clear h; obtain ⟨hc, h⟩ := hbr
          simp only [Bool.and_eq_true] at hc
          obtain ⟨⟨h1, h2⟩, h3⟩ := hc
          obtain rfl := Nat.eq_of_beq_eq_true h1
          have h2 : i < l.length := Nat.le_of_ble_eq_true h2
          split at h
          · rename_i v hv; exact ⟨_, h, load_pe_sound ho hs hx hh h2 (Nat.le_of_ble_eq_true h3) hv⟩
          · cases h
        · cases h
      · cases h
    · cases h
  | store T ad x =>
    simp only [cop] at h
    split at h
    · rename_i ag n hs
      split at h
      · rename_i id off hx
        split at h
        · rename_i cs hc
          have hbr := brT_req h; clear h; obtain ⟨hh, h⟩ := hbr
          simp only [Bool.and_eq_true] at hh
          obtain ⟨⟨h0, h1⟩, ⟨h2, h4⟩, h3⟩ := hh
          have h0 : 0 < n := Nat.le_of_ble_eq_true h0
          have h1 := Nat.eq_of_beq_eq_true h1
          have hex : ∃ cs', readFrom s.hp id off n = some cs' ∧ cs'.all cellish = true := by
            cases hr : readFrom s.hp id off n with
            | none => rw [hr] at h3; cases h3
            | some cs' => rw [hr] at h3; exact ⟨cs', rfl, h3⟩
          obtain ⟨cs', h5, h6⟩ := hex
          exact ⟨_, h, store_sound ho hs hx hc h0 h1 h2 h5 h6 (fun e l he => by rw [he] at h4; cases h4)⟩
        · cases h
      · rename_i id sz i k hx
        split at h
        · rename_i e l hh
          split at h
          · rename_i cs hc
            split at h
            · rename_i y hy
              have hbr := brT_req h; clear h; obtain ⟨hcd, h⟩ := hbr
              simp only [Bool.and_eq_true] at hcd
              obtain ⟨⟨h1, h2⟩, ⟨h3, h4⟩, h6⟩ := hcd
              obtain rfl := Nat.eq_of_beq_eq_true h1
              have h2 : i < l.length := Nat.le_of_ble_eq_true h2
              have h3 := Nat.le_of_ble_eq_true h3
              have h4 := Nat.eq_of_beq_eq_true h4
              refine ⟨_, h, store_pe_sound ho hs hx hh hc h2 h3 h4 h6 hy⟩
            · cases h
          · cases h
        · cases h
      · cases h
    · cases h
  | fieldAddr T x f =>
    simp only [cop] at h
    split at h
    · rename_i k hk
      split at h
      · rename_i id off hx
        refine ⟨_, h, val_of_run fun g w a hops => ?_⟩
        have hxa := hops x (by rw [ho]; simp [Op.operands])
        rw [hx] at hxa
        obtain ⟨b, hb, he⟩ := hxa
        exact ⟨_, 0, by simp only [execOp, ho, he, Sem.run_bind, run_fieldAt w hk, Result.andThen_ok, Sem.run_pure]; rfl, b, hb, rfl⟩
      · rename_i m hh hx
        refine ⟨_, h, val_of_run fun g w a hops => ?_⟩
        have hxa := hops x (by rw [ho]; simp [Op.operands])
        rw [hx] at hxa
        obtain ⟨b, off, he, hc⟩ := hxa
        refine ⟨_, 0, by simp only [execOp, ho, he, Sem.run_bind, run_fieldAt w hk, Result.andThen_ok, Sem.run_pure]; rfl, b, off + k, rfl, fun j hj => ?_⟩
        obtain ⟨u, h1, h2⟩ := hc (k + j) (by omega)
        exact ⟨u, by rw [Nat.add_assoc]; exact h1, h2⟩
      · rename_i id sz i j hx
        refine ⟨_, h, val_of_run fun g w a hops => ?_⟩
        have hxa := hops x (by rw [ho]; simp [Op.operands])
        rw [hx] at hxa
        obtain ⟨b, hb, he⟩ := hxa
        exact ⟨_, 0, by simp only [execOp, ho, he, Sem.run_bind, run_fieldAt w hk, Result.andThen_ok, Sem.run_pure]; rfl, b, hb, by rw [Nat.add_assoc]⟩
      · cases h
    · cases h
  | field T x f =>
    simp only [cop] at h
    split at h
    · rename_i off ag n hp
      split at h
      · rename_i cs hx
        have hbr := brT_req h; clear h; obtain ⟨hl, h⟩ := hbr
        have hl := Nat.le_of_ble_eq_true hl
        split at h
        · rename_i v hv
          obtain ⟨fields, fd, h1, h2, h3, h4⟩ := fieldPart_spec hp
          obtain ⟨d, i, h5, h6, h7, h8⟩ := tyShape_spec h3
          refine ⟨_, h, val_of_run fun g w a hops => ?_⟩
          have hxa := hops x (by rw [ho]; simp [Op.operands])
          rw [hx] at hxa
          obtain ⟨arr, he, hsz, hc⟩ := hxa
          rcases mkVal_field hv hl hsz hc with ⟨rfl, hr⟩ | ⟨rfl, hlt, hr⟩
          · refine ⟨.agg (arr.extract off (off + n)), 0, ?_, hr⟩
            simp [execOp, ho, he, Instr.field, run_underlying h1, h2, asAgg, part, h8, sizeOf, typeInfo, h6, h7, h4]; rfl
          · refine ⟨arr[off], 0, ?_, hr⟩
            simp [execOp, ho, he, Instr.field, run_underlying h1, h2, asAgg, part, h8, h4, hlt]; rfl
        · cases h
      · cases h
    · cases h
  | nilCheck x =>
    simp only [cop] at h
    split at h
    · rename_i id off hx
      refine ⟨_, h, val_of_run fun g w a hops => ?_⟩
      have hxa := hops x (by rw [ho]; simp [Op.operands])
      rw [hx] at hxa
      obtain ⟨b, hb, he⟩ := hxa
      exact ⟨_, 0, by simp [execOp, ho, he]; rfl, b, hb, rfl⟩
    · rename_i n f hx
      refine ⟨_, h, val_of_run fun g w a hops => ?_⟩
      have hxa := hops x (by rw [ho]; simp [Op.operands])
      rw [hx] at hxa
      obtain ⟨b, off, he, hc⟩ := hxa
      exact ⟨_, 0, by simp [execOp, ho, he]; rfl, b, off, rfl, hc⟩
    · rename_i id sz i k hx
      refine ⟨_, h, val_of_run fun g w a hops => ?_⟩
      have hxa := hops x (by rw [ho]; simp [Op.operands])
      rw [hx] at hxa
      obtain ⟨b, hb, he⟩ := hxa
      exact ⟨_, 0, by simp [execOp, ho, he]; rfl, b, hb, rfl⟩
    · cases h
  | makeInterface T x =>
    simp only [cop] at h
    have hex : ∀ (w : World) (u : Value), tyConc P T = true → (Instr.makeInterface T u).run P w = .ok (.iface T u) w := fun w u hT => by
      unfold tyConc at hT
      unfold Instr.makeInterface
      split at hT
      · cases hT
      · rename_i d hne hu
        simp only [run_underlying hu, Sem.run_bind, Result.andThen_ok]
        rfl
      · cases hT
    split at h
    · rename_i v hx
      have hbr := brT_req h; clear h; obtain ⟨hT, h⟩ := hbr
      refine ⟨_, h, val_of_run fun g w a hops => ?_⟩
      have hxa := hops x (by rw [ho]; simp [Op.operands])
      rw [hx] at hxa
      have hxa : a.eval x = v := hxa
      exact ⟨.iface T v, 0, by simp only [execOp, ho, hxa, hex w v hT, Sem.run_bind, Sem.run_pure, Result.andThen_ok]; rfl, rfl⟩
    · have hbr := brT_req h; clear h; obtain ⟨hT, h⟩ := hbr
      refine ⟨_, h, val_of_run fun g w a hops => ?_⟩
      exact ⟨.iface T (a.eval x), 0, by simp only [execOp, ho, hex w (a.eval x) hT, Sem.run_bind, Sem.run_pure, Result.andThen_ok]; rfl, _, _, rfl⟩
    · cases h
  | binOp op T x y yT =>
    simp only [cop] at h
    split at h
    · unfold cnil at h
      split at h
      · rename_i c hx
        split at h
        · rename_i q hc
          have hbr := brT_req h; clear h; obtain ⟨hT, h⟩ := hbr
          have hT' : ∃ ms, P.underlying T = some (.interface ms) := by
            unfold tyIface at hT
            split at hT
            · exact ⟨_, by assumption⟩
            · cases hT
          obtain ⟨ms, hT'⟩ := hT'
          have hmain : ∀ g (w : World) (a : Act), (∀ x ∈ o.op.operands.toList, relV g (s.ev x) (a.eval x)) → eqGuard op T x (.const .nilIface) (a.eval x) .nilIface = pure () ∧ (Op.equal T (a.eval x) .nilIface).run P w = .ok (p_isNil q) w := fun g w a hops => by
            have hxa := hops x (by rw [ho]; simp [Op.operands])
            rw [hx] at hxa
            have hi := ifD_rel hc hxa
            have hcase : (a.eval x = .nilIface ∧ p_isNil q = true) ∨ (∃ t v, a.eval x = .iface t v) ∧ p_isNil q = false := by
              match q, hi with
              | none, hi => exact .inl ⟨hi, rfl⟩
              | some none, hi => exact .inr ⟨hi, rfl⟩
              | some (some (t, v)), hi => exact .inr ⟨⟨t, v, hi⟩, rfl⟩
            rcases hcase with ⟨e, e2⟩ | ⟨⟨t, v, e⟩, e2⟩
            · rw [e, e2]
              refine ⟨by cases op <;> simp [eqGuard], ?_⟩
              unfold Op.equal Op.maxDepth Op.equalIn
              simp [run_underlying hT']
            · rw [e, e2]
              refine ⟨eqGuard_at_iface .., ?_⟩
              unfold Op.equal Op.maxDepth Op.equalIn
              simp [run_underlying hT']
          split at h
          · refine ⟨_, h, val_of_run fun g w a hops => ?_⟩
            obtain ⟨h1, h2⟩ := hmain g w a hops
            exact ⟨.bool (p_isNil q), 0, by
              have hb : binOp .eql T (a.eval x) .nilIface = (do pure (.bool (← Op.equal T (a.eval x) .nilIface))) := by
                cases a.eval x <;> rfl
              have hy : a.eval (.const .nilIface) = .nilIface := rfl
              simp only [execOp, ho, hy, h1, hb, Sem.run_bind, Sem.run_pure, Result.andThen_ok, h2]; rfl, rfl⟩
          · refine ⟨_, h, val_of_run fun g w a hops => ?_⟩
            obtain ⟨h1, h2⟩ := hmain g w a hops
            exact ⟨.bool (!p_isNil q), 0, by
              have hb : binOp .neq T (a.eval x) .nilIface = (do pure (.bool (!(← Op.equal T (a.eval x) .nilIface)))) := by
                cases a.eval x <;> rfl
              have hy : a.eval (.const .nilIface) = .nilIface := rfl
              simp only [execOp, ho, hy, h1, hb, Sem.run_bind, Sem.run_pure, Result.andThen_ok, h2]; rfl, rfl⟩
          · cases h
        · cases h
      · cases h
    obtain ⟨cv, hk, hh⟩ := cbin_sound h
    refine ⟨_, hk, val_of_run fun g w a hops => ?_⟩
    obtain ⟨r, n, h1, h2, h3⟩ := hh g w x y (a.eval x) (a.eval y) (hops x (by rw [ho]; simp [Op.operands])) (hops y (by rw [ho]; simp [Op.operands]))
    exact ⟨r, n, by simp only [execOp, ho, h1, Sem.run_bind, Sem.run_pure, Result.andThen_ok, h2], h3⟩
  | unOp op T x =>
    simp only [cop] at h
    obtain ⟨cv, hk, hh⟩ := cun_sound (P := P) h
    refine ⟨_, hk, val_of_run fun g w a hops => ?_⟩
    obtain ⟨r, h1, h2⟩ := hh g w (a.eval x) (hops x (by rw [ho]; simp [Op.operands]))
    exact ⟨r, 0, by simp only [execOp, ho, h1, Sem.run_bind, Sem.run_pure, Result.andThen_ok]; rfl, h2⟩
  | convert src dst x =>
    simp only [cop] at h
    split at h
    · rename_i hT
      rw [Bool.and_eq_true] at hT
      split at h
      · rename_i l ds ok hl
        have hbr := brT_req h; clear h; obtain ⟨hok, h⟩ := hbr
        subst hok
        exact ⟨_, h, bytesText_sound ho hT.1 hT.2 hl⟩
      · cases h
    split at h
    · rename_i hT
      rw [Bool.and_eq_true] at hT
      split at h
      · rename_i t ht
        have hbr := brT_req h; clear h; obtain ⟨hok, h⟩ := hbr
        rw [Bool.and_eq_true] at hok
        exact ⟨_, h, textBytes_sound ho hT.1 hT.2 ht hok.1 (Nat.le_of_ble_eq_true hok.2)⟩
      · cases h
    split at h
    · rename_i hT
      rw [Bool.and_eq_true] at hT
      split at h
      · rename_i id n hx
        split at h
        · rename_i l hl
          have hbr := brT_req h; clear h; obtain ⟨hok, h⟩ := hbr
          exact ⟨_, h, bytesSame_sound ho hT.1 (Nat.eq_of_beq_eq_true hT.2) hx (arrAt_spec hl) (Nat.lt_of_lt_of_le Nat.zero_lt_one (Nat.le_of_ble_eq_true hok))⟩
        · cases h
      · cases h
    obtain ⟨cv, hk, hh⟩ := cconv_sound h
    refine ⟨_, hk, val_of_run fun g w a hops => ?_⟩
    obtain ⟨r, n, h1, h2⟩ := hh g w (a.eval x) (hops x (by rw [ho]; simp [Op.operands]))
    exact ⟨r, n, by simp only [execOp, ho, h1, Sem.run_bind, Sem.run_pure, Result.andThen_ok], h2⟩
  | indexAddr T x i =>
    simp only [cop] at h
    split at h
    · rename_i sz hsz
      split at h
      · rename_i ix hi
        split at h
        · rename_i bw e l hx
          have hbr := brT_req h; clear h; obtain ⟨hh, h⟩ := hbr
          simp only [Bool.and_eq_true, decide_eq_true_eq] at hh
          obtain ⟨hse, h0, hn⟩ := hh
          exact ⟨_, h, indexAddr_ls ho hsz hi hx (Nat.eq_of_beq_eq_true hse) h0 hn⟩
        · rename_i id n hx
          have hbr := brT_req h; clear h; obtain ⟨hh, h⟩ := hbr
          simp only [Bool.and_eq_true, decide_eq_true_eq] at hh
          exact ⟨_, h, indexAddr_own ho hsz hi hx hh.1 hh.2⟩
        · cases h
      · cases h
    split at h
    · rename_i n sz hsz
      split at h
      · rename_i ix hi
        split at h
        · rename_i id sz' j k hx
          have hbr := brT_req h; clear h; obtain ⟨hh, h⟩ := hbr
          simp only [Bool.and_eq_true, decide_eq_true_eq] at hh
          obtain ⟨⟨h1, h2, h3⟩, h4, h5, h6⟩ := hh
          obtain rfl := Nat.eq_of_beq_eq_true h1
          obtain rfl := Nat.eq_of_beq_eq_true h2
          obtain rfl := Nat.eq_of_beq_eq_true h3
          have h4 : 1 < n := Nat.le_of_ble_eq_true h4
          obtain ⟨E, inf, hE, hi', hs'⟩ := arrElem_spec hsz
          refine ⟨_, h, val_of_run fun g w a hops => ?_⟩
          have hxa := hops x (by rw [ho]; simp [Op.operands])
          rw [hx] at hxa
          obtain ⟨kk, hie⟩ := idxOf_spec hi (hops i (by rw [ho]; simp [Op.operands]))
          obtain ⟨b, hb, he⟩ := hxa
          simp only [Nat.zero_mul, Nat.add_zero] at he
          have hadd : (⟨b, 0, none⟩ : Addr).add (ix.toNat * sz) = ⟨b, ix.toNat * sz, none⟩ := by unfold Addr.add; split <;> simp_all
          refine ⟨.pointer (some ⟨b, ix.toNat * sz, none⟩), 0, ?_, b, hb, by simp⟩
          simp [execOp, ho, he, hie, Instr.indexAt, Instr.sureAddr, asIntOf, run_underlying hE, h5, h6, sizeOf, typeInfo, hi', hs', hadd]
          rfl
        · rename_i id off hx
          have hbr := brT_req h; clear h; obtain ⟨hh, h⟩ := hbr
          simp only [Bool.and_eq_true, decide_eq_true_eq] at hh
          obtain ⟨h5, h6⟩ := hh
          obtain ⟨E, inf, hE, hi', hs'⟩ := arrElem_spec hsz
          refine ⟨_, h, val_of_run fun g w a hops => ?_⟩
          have hxa := hops x (by rw [ho]; simp [Op.operands])
          rw [hx] at hxa
          obtain ⟨kk, hie⟩ := idxOf_spec hi (hops i (by rw [ho]; simp [Op.operands]))
          obtain ⟨b, hb, he⟩ := hxa
          have hadd : (⟨b, off, none⟩ : Addr).add (ix.toNat * sz) = ⟨b, off + ix.toNat * sz, none⟩ := by unfold Addr.add; split <;> simp_all
          refine ⟨.pointer (some ⟨b, off + ix.toNat * sz, none⟩), 0, ?_, b, hb, rfl⟩
          simp [execOp, ho, he, hie, Instr.indexAt, Instr.sureAddr, asIntOf, run_underlying hE, h5, h6, sizeOf, typeInfo, hi', hs', hadd]
          rfl
        · cases h
      · cases h
    · cases h
  | index T x i =>
    simp only [cop] at h
    split at h
    · rename_i ix hi
      split at h
      · rename_i t hx
        have hbr := brT_req h; clear h; obtain ⟨hh, h⟩ := hbr
        simp only [Bool.and_eq_true, decide_eq_true_eq] at hh
        obtain ⟨hT, h0, hn⟩ := hh
        have hT' : P.underlying T = some .string := by
          unfold tyString at hT
          split at hT
          · assumption
          · cases hT
        refine ⟨_, h, val_of_run fun g w a hops => ?_⟩
        have hxa := hops x (by rw [ho]; simp [Op.operands])
        rw [hx] at hxa
        have hxa : a.eval x = .string t := hxa
        obtain ⟨k, hie⟩ := idxOf_spec hi (hops i (by rw [ho]; simp [Op.operands]))
        have hlt : ix.toNat < t.data.size := by
          have : t.data.size = t.size := rfl
          omega
        have hb : t[ix.toNat]? = some (t.data[ix.toNat]) := by
          have hlt' : ix.toNat < t.size := hlt
          simp [hlt']; rfl
        refine ⟨.int .u8 (t.data[ix.toNat]).toNat, 0, ?_, ?_⟩
        · simp only [execOp, ho, Instr.index, hie, hxa, asIntOf, run_underlying hT', Sem.run_bind, Sem.run_pure, Result.andThen_ok]
          simp [h0, hb]
          rfl
        · show Value.int .u8 _ = Value.int .u8 (p_byteAt t ix)
          unfold p_byteAt
          rw [Array.getD_eq_getD_getElem?, Array.getElem?_eq_getElem hlt]; rfl
      · cases h
    · cases h
  | slice T x lo hi max =>
    simp only [cop] at h
    cases max with
    | some m => cases h
    | none =>
      simp only at h
      split at h
      · rename_i l hh hl hhi
        exact slice_sound ho hl hhi h
      · cases h
  | extract t i =>
    simp only [cop] at h
    split at h
    · rename_i vs ht
      split at h
      · rename_i v hv
        refine ⟨_, h, val_of_run fun g w a hops => ?_⟩
        have hxa := hops t (by rw [ho]; simp [Op.operands])
        rw [ht] at hxa
        obtain ⟨arr, he, hsz, hc⟩ := hxa
        have hlt : i < arr.size := by
          rw [hsz]
          rcases Nat.lt_or_ge i vs.length with h | h
          · exact h
          · rw [List.getElem?_eq_none h] at hv; cases hv
        exact ⟨arr[i], 0, by simp [execOp, ho, he, Instr.extract, hlt]; rfl, hc i v _ hv (by simp [hlt])⟩
      · cases h
    · cases h
  | buildSlice T len parts =>
    simp only [cop] at h
    split at h
    · rename_i e ps h1 h2
      have hbr := brT_req h; clear h; obtain ⟨hh, h⟩ := hbr
      simp only [Bool.and_eq_true] at hh
      obtain ⟨h4, h5⟩ := hh
      have h5 := Nat.le_of_ble_eq_true h5
      split at h
      · rename_i cs hf
        split at h
        · rename_i l hl
          obtain ⟨p1, p2⟩ := buildSlice_sound ho h4 h2 hf h5 hl
          exact ⟨_, h, p2⟩
        · split at h
          · rename_i id ok cs' hz
            split at h
            · rename_i l hl
              have hbr := brT_req h; clear h; obtain ⟨hh, h⟩ := hbr
              rw [Bool.and_eq_true] at hh
              obtain ⟨hlo, rfl⟩ := hh
              exact ⟨_, h, buildSlice_frz ho h4 h2 hf h5 hz (Nat.le_of_ble_eq_true hlo) hl⟩
            · cases h
          · cases h
      · cases h
    · cases h
  | makeSlice T len cap =>
    simp only [cop] at h
    split at h
    · rename_i e n c h1 h2 h3
      have hbr := brT_req h; clear h; obtain ⟨hh, h⟩ := hbr
      simp only [Bool.and_eq_true, decide_eq_true_eq] at hh
      exact ⟨_, h, makeSlice_sound ho hh.1 h2 h3 hh.2.1.1 hh.2.1.2 hh.2.2⟩
    · cases h
  | makeFunc fn first captured =>
    simp only [cop] at h
    split at h
    · rename_i fid
      have hbr := brT_req h; clear h; obtain ⟨h0, h⟩ := hbr
      have h0 := Nat.eq_of_beq_eq_true h0
      split at h
      · rename_i cs hcs
        refine ⟨_, h, val_of_run fun g w a hops => ?_⟩
        have hf : first = #[] := Array.eq_empty_of_size_eq_zero h0
        subst hf
        obtain ⟨h1, h2⟩ := scalarsOf_rel (a := a) hcs (fun x hx => hops x (by rw [ho]; simpa [Op.operands] using hx))
        refine ⟨.func (.func fid) #[] (captured.map a.eval), 0, by simp [execOp, ho, Instr.makeFunc]; rfl, _, rfl, by simpa using h1, fun j u hu => ?_⟩
        have hj : j < cs.length := by
          rw [← h1]; simp
          rcases Nat.lt_or_ge j captured.size with h | h
          · exact h
          · rw [Array.getElem?_eq_none (by simpa using h)] at hu; cases hu
        have hc := h2 j cs[j] u (by simp [hj]) (by simpa using hu)
        simpa [hj] using hc
      · cases h
    · cases h
  | call c =>
    simp only [cop] at h
    cases hc : c.callee with
    | value f => exact ccall_sound hΓ ho hc h
    | builtin b => unfold ccall at h; rw [hc] at h; exact cbuiltin_sound ho hc h
    | invoke r m => unfold ccall at h; rw [hc] at h; cases h
  | _ => cases h

end
end Go.Dv
