/- The model's operations do what 'cop' says (part 5): append. -/
import Derived.Test.YtmhmedbhngmmpaaDg
namespace Go.Dv
open Go.RowKit Go.Cv

section
variable {P : Program} {α : Type}

/-- but for one name all is the same -/
structure Gh.but (g g' : Gh) (id : Nat) : Prop where
  β : ∀ j, j ≠ id → g'.β j = g.β j
  cp : ∀ j, j ≠ id → g'.cp j = g.cp j
  im : g'.im = g.im
  bi : g'.bi = g.bi

theorem Gh.but_refl (g : Gh) (id : Nat) : g.but g id := ⟨fun _ _ => rfl, fun _ _ => rfl, rfl, rfl⟩
theorem Gh.but_bind (g : Gh) (id b c : Nat) : g.but (g.bind id b c) id := ⟨fun j h => by simp [Gh.bind, h], fun j h => by simp [Gh.bind, h], rfl, rfl⟩

theorem beq_ne {i id : Nat} (h : i ≠ id) : Nat.beq i id = false := by cases hb : Nat.beq i id; rfl; exact absurd (Nat.eq_of_beq_eq_true hb) h

theorem rel_kill {g g' : Gh} {id : Nat} (h : g.but g' id) : ∀ (c : CS) (y : Value), rel g c y → rel g' (killC id c) y := by
  have hm : ∀ bw, g'.mem bw = g.mem bw := fun bw => by cases bw; exact h.im; exact h.bi
  intro c
  induction c with
  | any => intro y _; trivial
  | v x => intro y hy; exact hy
  | fl k n => intro y hy; exact hy
  | cx k a b => intro y hy; exact hy
  | ptr i off =>
    rintro y ⟨b, hb, e⟩
    by_cases e1 : i = id
    · subst e1; simp only [killC, Nat.beq_refl, cond_true]; trivial
    · simp only [killC, beq_ne e1, cond_false]
      exact ⟨b, by rw [h.β _ e1]; exact hb, e⟩
  | ip n f ih =>
    rintro y ⟨b, off, e, hc⟩
    refine ⟨b, off, e, fun j hj => ?_⟩
    obtain ⟨u, h1, h2⟩ := hc j hj
    exact ⟨u, by rw [h.bi]; exact h1, ih j u h2⟩
  | pe i sz k j =>
    rintro y ⟨b, hb, e⟩
    by_cases e1 : i = id
    · subst e1; simp only [killC, Nat.beq_refl, cond_true]; trivial
    · simp only [killC, beq_ne e1, cond_false]
      exact ⟨b, by rw [h.β _ e1]; exact hb, e⟩
  | ls bw e l =>
    intro y hy
    show relL (g'.mem bw) e l y
    rw [hm]; exact hy
  | own i n =>
    rintro y hy
    by_cases e1 : i = id
    · subst e1; simp only [killC, Nat.beq_refl, cond_true]; trivial
    · simp only [killC, beq_ne e1, cond_false]
      rcases hy with hy | ⟨b, h1, h2, h3⟩
      · exact .inl hy
      · exact .inr ⟨b, by rw [h.β _ e1]; exact h1, by rw [h.cp _ e1]; exact h2, by rw [h.cp _ e1]; exact h3⟩
  | win i sz lo n =>
    rintro y ⟨a, cap, h1, h2, h3, h4⟩
    by_cases e1 : i = id
    · subst e1; simp only [killC, Nat.beq_refl, cond_true]; trivial
    · simp only [killC, beq_ne e1, cond_false]
      refine ⟨a, cap, h1, h2, h3, fun h0 => ?_⟩
      obtain ⟨b, h5, h6⟩ := h4 h0
      exact ⟨b, by rw [h.β _ e1]; exact h5, h6⟩
  | fn f n c ih => rintro y ⟨arr, e, hs, hc⟩; exact ⟨arr, e, hs, fun j u hu => ih j u (hc j u hu)⟩
  | arr e l => intro y hy; exact hy.elim

theorem rel1_kill {g g' : Gh} {id : Nat} (h : g.but g' id) (c : CV1) (y : Value) (hr : rel1 g c y) : rel1 g' (kill1 id c) y := by
  cases c with
  | s c => exact rel_kill h c y hr
  | agg cs =>
    obtain ⟨arr, e, hs, hc⟩ := hr
    refine ⟨arr, e, by simpa using hs, fun j c u h1 h2 => ?_⟩
    simp at h1
    obtain ⟨c', h3, rfl⟩ := h1
    exact rel_kill h c' u (hc j c' u h3 h2)

theorem relV_kill {g g' : Gh} {id : Nat} (h : g.but g' id) (c : CV) (y : Value) (hr : relV g c y) : relV g' (killV id c) y := by
  cases c with
  | one c => exact rel1_kill h c y hr
  | tup cs =>
    obtain ⟨arr, e, hs, hc⟩ := hr
    refine ⟨arr, e, by simpa using hs, fun j c u h1 h2 => ?_⟩
    simp at h1
    obtain ⟨c', h3, rfl⟩ := h1
    exact rel1_kill h c' u (hc j c' u h3 h2)

theorem CellRel.kill {g g' : Gh} {w w' : World} {id i o : Nat} {c : CS} (h : g.but g' id) (hi : i ≠ id) (hs : ∀ b, g.β i = some b → w'.heap[b]? = w.heap[b]?) (hc : CellRel g w i o c) : CellRel g' w' i o (killC id c) := by
  rcases hc with ⟨e, l, rfl, h2, h3⟩ | ⟨b, arr, T, u, h1, h2, h3, h4⟩
  · refine .inl ⟨e, l, rfl, h2, ?_⟩
    rcases h3 with ⟨h3, h4⟩ | ⟨b, arr, T, h3, h4, h5, h6, h7⟩
    · exact .inl ⟨h3, by rw [h.β _ hi]; exact h4⟩
    · exact .inr ⟨b, arr, T, by rw [h.β _ hi]; exact h3, by rw [hs b h3]; exact h4, by rw [h.cp _ hi]; exact h5, by rw [h.cp _ hi]; exact h6, fun i x hx => by rw [h.im]; exact h7 i x hx⟩
  · exact .inr ⟨b, arr, T, u, by rw [h.β _ hi]; exact h1, by rw [hs b h1]; exact h2, h3, rel_kill h _ _ h4⟩

theorem grown_hp {s : St} {d : Option Nat} {id : Nat} {e : Sh} {l : List e.Ty} {i o : Nat} {c : CS} (h : (grownSt s d id e l).hp i o = some c) : (i = id ∧ o = 0 ∧ c = .arr e l) ∨ (i ≠ id ∧ ∃ c', s.hp i o = some c' ∧ c = killC id c') := by
  have h : (bif Nat.beq i id then (bif Nat.beq o 0 then some (CS.arr e l) else none) else (match s.hp i o with | some c => some (killC id c) | none => none)) = some c := h
  by_cases e1 : i = id
  · subst e1
    rw [Nat.beq_refl, cond_true] at h
    cases o with
    | zero => cases h; exact .inl ⟨rfl, rfl, rfl⟩
    | succ o => have h0 : Nat.beq (o + 1) 0 = false := rfl
                rw [h0] at h; cases h
  · rw [beq_ne e1, cond_false] at h
    cases hc : s.hp i o with
    | none => rw [hc] at h; cases h
    | some c' => rw [hc] at h; cases h; exact .inr ⟨e1, c', rfl, rfl⟩

/-- the state behind an append that lays a new row -/
theorem Sim.grown {X : Fr} {w0 : World} {n : Nat} {s : St} {g : Gh} {a : Act} {w : World} (h : Sim X w0 n s g a w) {d : Option Nat} (hd : ∀ x, d = some x → x < n) {id : Nat} {c0 : CS} (hid : s.hp id 0 = some c0) (hlo : s.lo ≤ id) {e : Sh} {l : List e.Ty} {arr : Array Value} {T : TypeId} {c : Nat}
    (hsz : arr.size = c * e.size) (hl : l.length ≤ c) (hr : ∀ i x, l[i]? = some x → relT g.im e x (fun k u => arr[i * e.size + k]? = some u)) :
    Sim X w0 n (grownSt s d id e l) (g.bind id w.heap.size c) (a.put d (.slice (some ⟨w.heap.size, 0, none⟩) l.length c)) (w.alloc (.cells arr T)) := by
  have hb := Gh.but_bind g id w.heap.size c
  obtain ⟨hb1, hb2⟩ := Gh.bind_same g id w.heap.size c
  have hlt := h.hx _ _ _ hid
  refine ⟨tm_put (fun t => relV_kill hb _ _ (h.tm t)) h.len hd ?_, by rw [put_size]; exact h.len, by rw [put_defers']; exact h.df, h.ok.alloc _ _ (by rw [← h.lo]; exact hlo) arr T, fun i o cc hc => ?_, fun i b hbb => ?_, fun i o cc hc => ?_, h.lo, h.ln⟩
  · exact .inr ⟨w.heap.size, hb1, by rw [hb2], by rw [hb2]; exact hl⟩
  · rcases grown_hp hc with ⟨rfl, rfl, rfl⟩ | ⟨e1, c', h1, rfl⟩
    · exact .inl ⟨e, l, rfl, rfl, .inr ⟨_, arr, T, hb1, heap_alloc_same _ _, by rw [hb2]; exact hsz, by rw [hb2]; exact hl, hr⟩⟩
    · exact (h.cells _ _ _ h1).kill hb e1 (fun b hb' => Below.heap_alloc _ _ _ (h.ok.fresh _ _ hb').2.1)
  · show i < s.nx
    by_cases e1 : i = id
    · subst e1; exact hlt
    · rw [Gh.bind_ne g e1] at hbb; exact h.nx _ _ hbb
  · show i < s.nx
    rcases grown_hp hc with ⟨rfl, _, _⟩ | ⟨e1, c', h1, _⟩
    · exact hlt
    · exact h.hx _ _ _ h1

/-- the state behind an append in its place -/
theorem Sim.grownIn {X : Fr} {w0 : World} {n : Nat} {s : St} {g : Gh} {a : Act} {w : World} (h : Sim X w0 n s g a w) {d : Option Nat} (hd : ∀ x, d = some x → x < n) {id b : Nat} {arr : Array Value} {T : TypeId} {e : Sh} {l : List e.Ty} (hb : g.β id = some b)
    (hh : w.heap[b]? = some (.cells arr T (0, 0))) (arr' : Array Value) (hr : ArrRel g (w.setRow b arr') id e l) {v : Value} (hv : rel g (.own id l.length) v) :
    Sim X w0 n (grownSt s d id e l) g (a.put d v) (w.setRow b arr') := by
  have hok := h.ok
  have hbut := Gh.but_refl g id
  refine ⟨tm_put (fun t => relV_kill hbut _ _ (h.tm t)) h.len hd hv, by rw [put_size]; exact h.len, by rw [put_defers']; exact h.df, hok.setRow hb hh arr', fun i o c hc => ?_, h.nx, fun i o c hc => ?_, h.lo, h.ln⟩
  · rcases grown_hp hc with ⟨rfl, rfl, rfl⟩ | ⟨e1, c', h1, rfl⟩
    · exact .inl ⟨e, l, rfl, rfl, hr⟩
    · refine (h.cells _ _ _ h1).kill hbut e1 (fun b' hb' => setRow_other _ _ _ _ fun e2 => ?_)
      subst e2
      exact e1 (hok.inj _ _ _ hb' hb)
  · show i < s.nx
    rcases grown_hp hc with ⟨rfl, _, _⟩ | ⟨e1, c', h1, _⟩
    · exact h.nx _ _ hb
    · exact h.hx _ _ _ h1

theorem cells_plain {bw : Bool} : ∀ (s : Sh) (x : s.Ty) (c : CS), c ∈ cells bw s x → plain c = true
  | .fl _, _, c, h => by simp [cells] at h; subst h; rfl
  | .int _, _, c, h => by simp [cells] at h; subst h; rfl
  | .bool, _, c, h => by simp [cells] at h; subst h; rfl
  | .str, _, c, h => by simp [cells] at h; subst h; rfl
  | .cx _, _, c, h => by simp [cells] at h; subst h; rfl
  | .ls _, _, c, h => by simp [cells] at h; subst h; rfl
  | .pair a b, x, c, h => by
    simp only [cells, List.mem_append] at h
    rcases h with h | h
    · exact cells_plain a x.1 c h
    · exact cells_plain b x.2 c h

theorem one_of_rel {g : Gh} {c : CS} {u : Value} (hp : plain c = true) (h : rel g c u) : u.oneCell' = true := by
  have h5 := plain_cells hp h
  cases u <;> first | rfl | exact (h5.2.1 _ rfl).elim | exact (h5.2.2 _ rfl).elim

/-- elements in a row of cells -/
theorem row_of {g : Gh} {e : Sh} {ys : List e.Ty} {arr : Array Value} {off : Nat} (h : ∀ i x, ys[i]? = some x → relT g.im e x (fun k u => arr[off + i * e.size + k]? = some u)) :
    ∃ news : List Value, news.length = ys.length * e.size ∧ (∀ j u, news[j]? = some u → arr[off + j]? = some u) ∧ (∀ u ∈ news, u.oneCell' = true) ∧ ∀ i x, ys[i]? = some x → relT g.im e x (fun k u => news[i * e.size + k]? = some u) := by
  have hp := size_pos e
  have cell : ∀ i (hi : i < ys.length) k, k < e.size → ∃ c u, plain c = true ∧ arr[off + i * e.size + k]? = some u ∧ rel g c u := fun i hi k hk => by
    have h1 := h i ys[i] (by simp [hi])
    have hl := cells_length false e ys[i]
    have hk' : k < (cells false e ys[i]).length := by omega
    obtain ⟨u, h2, h3⟩ := (relT_cells (g := g) (bw := false) e ys[i] _).1 h1 k _ (List.getElem?_eq_getElem hk')
    exact ⟨_, u, cells_plain e ys[i] _ (List.getElem_mem hk'), h2, h3⟩
  have hsz : ys.length = 0 ∨ off + ys.length * e.size ≤ arr.size := by
    rcases Nat.eq_zero_or_pos ys.length with h0 | h0
    · exact .inl h0
    · right
      obtain ⟨c, u, _, h2, _⟩ := cell (ys.length - 1) (by omega) (e.size - 1) (by omega)
      rcases Nat.lt_or_ge (off + (ys.length - 1) * e.size + (e.size - 1)) arr.size with h3 | h3
      · have h4 : ys.length * e.size = (ys.length - 1) * e.size + e.size := by
          have : ys.length = (ys.length - 1) + 1 := by omega
          conv => lhs; rw [this, Nat.add_mul, Nat.one_mul]
        omega
      · rw [Array.getElem?_eq_none h3] at h2; cases h2
  have hlen : ((arr.toList.drop off).take (ys.length * e.size)).length = ys.length * e.size := by
    have ea : arr.toList.length = arr.size := Array.length_toList
    rw [List.length_take, List.length_drop, ea]
    rcases hsz with h0 | h0
    · rw [h0]; simp
    · omega
  have hget : ∀ j, j < ys.length * e.size → ((arr.toList.drop off).take (ys.length * e.size))[j]? = arr[off + j]? := fun j hj => by
    rw [List.getElem?_take_of_lt hj, List.getElem?_drop]; simp
  have hlt : ∀ i k, i < ys.length → k < e.size → i * e.size + k < ys.length * e.size := fun i k hi hk => by
    have : (i + 1) * e.size ≤ ys.length * e.size := Nat.mul_le_mul_right _ hi
    rw [Nat.add_mul] at this; omega
  refine ⟨(arr.toList.drop off).take (ys.length * e.size), hlen, fun j u hj => ?_, fun u hu => ?_, fun i x hx => ?_⟩
  · have hj' : j < ys.length * e.size := by
      rw [← hlen]
      rcases Nat.lt_or_ge j ((arr.toList.drop off).take (ys.length * e.size)).length with h1 | h1
      · exact h1
      · rw [List.getElem?_eq_none h1] at hj; cases hj
    rw [hget j hj'] at hj; exact hj
  · obtain ⟨j, hj⟩ := List.getElem?_of_mem hu
    have hj' : j < ys.length * e.size := by
      rw [← hlen]
      rcases Nat.lt_or_ge j ((arr.toList.drop off).take (ys.length * e.size)).length with h1 | h1
      · exact h1
      · rw [List.getElem?_eq_none h1] at hj; cases hj
    rw [hget j hj'] at hj
    have hi : j / e.size < ys.length := (Nat.div_lt_iff_lt_mul hp).2 hj'
    obtain ⟨c, u', h1, h2, h3⟩ := cell (j / e.size) hi (j % e.size) (Nat.mod_lt _ hp)
    have e1 : off + j / e.size * e.size + j % e.size = off + j := by
      have := Nat.div_add_mod j e.size
      rw [Nat.mul_comm] at this; omega
    rw [e1, hj] at h2; cases h2
    exact one_of_rel h1 h3
  · have hi : i < ys.length := by
      rcases Nat.lt_or_ge i ys.length with h1 | h1
      · exact h1
      · rw [List.getElem?_eq_none h1] at hx; cases hx
    refine relT_lt e x (fun k u hk hu => ?_) (h i x hx)
    show _ = some u
    rw [hget _ (hlt i k hi hk)]
    have e1 : off + i * e.size + k = off + (i * e.size + k) := by omega
    rw [← e1]; exact hu

theorem arrAt_spec {hp : Hp} {id : Nat} {e : Sh} {l : List e.Ty} (h : arrAt hp id e = some l) : hp id 0 = some (.arr e l) := by
  unfold arrAt at h
  split at h
  · rename_i e' l' hc
    obtain ⟨rfl, h1⟩ := castLs_spec h
    have h1 : l = l' := h1
    subst h1; exact hc
  · cases h

theorem tySlice_spec {T : TypeId} (h : tySlice P T = true) : ∃ e, P.underlying T = some (.slice e) := by
  unfold tySlice at h
  split at h
  · exact ⟨_, by assumption⟩
  · cases h

/-- the source of an append -/
theorem srcOf_sound {X : Fr} {w0 : World} {n : Nat} {s : St} {g : Gh} {a : Act} {w : World} (hsim : Sim X w0 n s g a w) {e : Sh} {yv : CV} {ys : List e.Ty} {ds : List Dep} {T' : TypeId} (h : srcOf s.hp e yv = some (ys, ds)) (hT : tySlice P T' = true)
    {u : Value} (hu : relV g yv u) : ∃ news, Src P e.size T' u ys.length news w ∧ ∀ i x, ys[i]? = some x → relT g.im e x (fun k v => news[i * e.size + k]? = some v) := by
  obtain ⟨E', hE'⟩ := tySlice_spec hT
  have hadd : ∀ (b off j : Nat), (⟨b, off, none⟩ : Addr).add j = ⟨b, off + j, none⟩ := fun b off j => by unfold Addr.add; split <;> simp_all
  have fin : ∀ (b off cap : Nat) (arr : Array Value) (T : TypeId) (fr : Nat × Nat) (m : Nat), ys.length = m → u = .slice (some ⟨b, off, none⟩) m cap → w.heap[b]? = some (.cells arr T fr) → (∀ i x, ys[i]? = some x → relT g.im e x (fun k u => arr[off + i * e.size + k]? = some u)) →
      ∃ news, Src P e.size T' u ys.length news w ∧ ∀ i x, ys[i]? = some x → relT g.im e x (fun k v => news[i * e.size + k]? = some v) := by
    intro b off cap arr T fr m hm hu hh hr
    obtain ⟨news, h1, h2, h3, h4⟩ := row_of hr
    subst hm hu
    refine ⟨news, Src.ofSlice w hE' _ _ _ news h1 (fun j v hj => ?_) h3, h4⟩
    rw [hadd]
    simp [World.cell?, hh, h2 j v hj]
  have nil : ys = [] → u = .slice none 0 0 → ∃ news, Src P e.size T' u ys.length news w ∧ ∀ i x, ys[i]? = some x → relT g.im e x (fun k v => news[i * e.size + k]? = some v) := by
    rintro rfl rfl
    exact ⟨[], Src.ofNil w hE' 0, fun i x hx => by simp at hx⟩
  unfold srcOf at h
  split at h
  · rename_i e' l'
    split at h
    · rename_i l hc
      cases h
      obtain ⟨rfl, h1⟩ := castLs_spec hc
      have h1 : ys = l' := h1
      subst h1
      obtain ⟨ad, cap, rfl, h2, h3, h4⟩ := hu
      rcases Nat.eq_zero_or_pos ys.length with h0 | h0
      · have h0' : ys = [] := List.eq_nil_of_length_eq_zero h0
        cases ad with
        | none => exact nil h0' (by rw [h0, h3 rfl])
        | some ad =>
          refine ⟨[], ?_, fun i x hx => by rw [h0'] at hx; simp at hx⟩
          exact Src.ofSlice w hE' ad _ _ [] (by rw [h0]; simp) (fun j v hj => by simp at hj) (fun u hu => by simp at hu)
      · obtain ⟨b, off, rfl, h5⟩ := h4 h0
        have h6 := h5 0 ys[0] (by simp [h0])
        have hex : ∃ arr T fr, g.im b = some (.cells arr T fr) := by
          have hl := cells_length false e' ys[0]
          have hp := size_pos e'
          have hk' : 0 < (cells false e' ys[0]).length := by omega
          obtain ⟨u, ⟨arr, T, fr, h7, _⟩, _⟩ := (relT_cells (g := g) (bw := false) e' ys[0] _).1 h6 0 _ (List.getElem?_eq_getElem hk')
          exact ⟨arr, T, fr, h7⟩
        obtain ⟨arr, T, fr, h7⟩ := hex
        refine fin b off cap arr T fr _ rfl rfl (hsim.ok.imh _ _ h7) fun i x hx => relT_mono (fun _ _ h => h) e' x (fun k u hcell => ?_) (h5 i x hx)
        obtain ⟨arr', T', fr', h8, h9⟩ := hcell
        have h8 : g.im b = some (.cells arr' T' fr') := h8
        rw [h7] at h8; cases h8; exact h9
    · cases h
  · rename_i id m
    split at h
    · rename_i l hl
      cases hb : Nat.beq m l.length
      · rw [hb] at h; cases h
      · rw [hb] at h; cases h
        have hb := Nat.eq_of_beq_eq_true hb
        rcases hsim.cells _ _ _ (arrAt_spec hl) with ⟨e', l', h1, _, har⟩ | ⟨_, _, _, _, _, _, _, h⟩
        · cases h1
          rcases hu with ⟨h2, rfl⟩ | ⟨b, h2, rfl, h3⟩
          · exact nil (List.eq_nil_of_length_eq_zero (by omega)) rfl
          · rcases har with ⟨h4, h5⟩ | ⟨b', arr, T, h4, h5, h6, h7, h8⟩
            · rw [h2] at h5; cases h5
            · rw [h2] at h4; cases h4
              exact fin b 0 _ arr T (0, 0) m hb.symm rfl h5 (fun i x hx => relT_mono (fun _ _ h => h) e x (fun k u hcell => by
                show arr[0 + i * e.size + k]? = some u
                rw [Nat.zero_add]; exact hcell) (h8 i x hx))
        · exact h.elim
    · cases h
  · cases h
    exact nil rfl hu
  · cases h

theorem zeroCells_size (z : Array Value) (n : Nat) : (Builtin.zeroCells z n).size = n * z.size := by simp [Builtin.zeroCells]

theorem run_append_room_row (w : World) (t tx ty E : TypeId) (i : TypeInfo) (ht : P.underlying t = some (.slice E)) (hi : P.info? E = some i) (b sLen sCap : Nat) (x : Value) (n : Nat) (news : List Value) (hs : Src P i.size tx x n news w)
    (hroom : sLen + n ≤ sCap) {arr : Array Value} {T : TypeId} (hh : w.heap[b]? = some (.cells arr T (0, 0))) (hl : sLen * i.size + news.length ≤ arr.size) :
    (Builtin.append_ #[t, tx] ty #[.slice (some ⟨b, 0, none⟩) sLen sCap, x]).run P w = .ok (.slice (some ⟨b, 0, none⟩) (sLen + n) sCap) (w.setRow b (arr.toList.take (sLen * i.size) ++ news ++ arr.toList.drop (sLen * i.size + news.length)).toArray) := by
  have hst := run_storeCells_at (P := P) b (sLen * i.size) T news 0 arr w hh (by simpa using hl) hs.one
  simp only [Nat.add_zero] at hst
  have hadd : (⟨b, 0, none⟩ : Addr).add (sLen * i.size) = ⟨b, sLen * i.size, none⟩ := by unfold Addr.add; split <;> simp_all
  rcases hs.kind with ⟨e', hk⟩ | hk <;> simp [Builtin.append_, run_underlying ht, run_underlying hk, sizeOf, typeInfo, hi, hs.len, hroom, hs.cells, hadd, hst]

theorem append_sound {o : Oper} {s : St} {T T' ty : TypeId} {x y : Operand} {K : Eff → Tr α} {rv : α} (hrun : ∀ (a : Act) w, (execOp a.eval o).run P w = ((Builtin.append_ #[T, T'] ty #[a.eval x, a.eval y]) >>= fun v => pure (Next.value v)).run P w)
    (h : cappend P o.dst [T, T'] s (s.ev x) (s.ev y) K = some rv) : ∃ e, K e = some rv ∧ EffOk P o s e := by
  simp only [cappend] at h
  split at h
  · rename_i e he
    have hbr := brT_req h; clear h; obtain ⟨hh, h⟩ := hbr
    rw [Bool.and_eq_true] at hh
    obtain ⟨hok, hT'⟩ := hh
    obtain ⟨E, i, z, hE, hi, hz, hsz, hzz, hby⟩ := elemOk_spec hok
    have hzl : z.cells.size = e.size := by have := eqZs_length hzz; rw [zeroV_length] at this; simpa using this
    split at h
    · rename_i ys ok hysU
      have hbr := brT_req h; clear h; obtain ⟨hoku, h⟩ := hbr
      subst hoku
      obtain ⟨ds, hys⟩ := srcU_spec hysU
      -- a new row, whatever was there
      have grow : ∀ {w : World} {a : Act} {base : Option Addr} {sLen sCap : Nat} {olds news : List Value}, a.eval x = .slice base sLen sCap → (Builtin.firstCells i.size sLen (.slice base sLen sCap)).run P w.drew = .ok olds.toArray w.drew → Src P i.size T' (a.eval y) ys.length news w →
          sCap < sLen + ys.length → sLen + ys.length ≤ mostLen → olds.length = sLen * e.size → news.length = ys.length * e.size →
          ∃ c arr, sLen + ys.length ≤ c ∧ arr.size = c * e.size ∧ (∀ j, j < (olds ++ news).length → arr[j]? = (olds ++ news)[j]?) ∧ (execOp a.eval o).run P w = .ok (.value (.slice (some ⟨w.heap.size, 0, none⟩) (sLen + ys.length) c)) ((w.drewN 1).alloc (.cells arr E)) := by
        intro w a base sLen sCap olds news hx hold hsrc hg hm ho hn
        have hcap : Builtin.nextslicecap (sLen + ys.length) sCap * i.bytes ≤ 281474976710656 := by
          have h1 := nextslicecap_le (need := sLen + ys.length) (old := sCap) hg
          unfold mostLen at hm
          have h2 : Builtin.nextslicecap (sLen + ys.length) sCap * i.bytes ≤ 2147483648 * 4096 := Nat.mul_le_mul (by omega) hby
          omega
        have hr := run_append_grow_src w T T' ty E i z hE hi hz base sLen sCap olds hold (a.eval y) ys.length news hsrc hg (by unfold mostLen at hm; omega) hcap
        have hge := grownCap_ge w (sLen + ys.length) sCap E
        refine ⟨grownCap w (sLen + ys.length) sCap E, (olds ++ news).toArray ++ Builtin.zeroCells z.cells (grownCap w (sLen + ys.length) sCap E - (sLen + ys.length)), hge, ?_, ?_, ?_⟩
        rotate_left 2
        · rw [hrun, hx]
          simp only [Sem.run_bind, hr, Result.andThen_ok, Sem.run_pure]
          rfl
        · rw [Array.size_append, zeroCells_size, hzl]
          simp only [List.size_toArray, List.length_append, ho, hn]
          rw [← Nat.add_mul, ← Nat.add_mul]
          congr 1; omega
        · intro j hj
          rw [Array.getElem?_append_left (by simpa using hj)]
          simp
      split at h
      · rename_i hxe
        have hbr := brT_req h; clear h; obtain ⟨hc, h⟩ := hbr
        rw [Bool.and_eq_true] at hc
        have h0 : 0 < ys.length := Nat.le_of_ble_eq_true hc.1
        have h1 := Nat.le_of_ble_eq_true hc.2
        refine ⟨_, h, ?_⟩
        intro X w0 m g a w K' Q hsim hd hk
        have hxa := hsim.ev x
        rw [hxe] at hxa
        have hxa : a.eval x = .slice none 0 0 := hxa
        obtain ⟨news, hs1, hs2⟩ := srcOf_sound hsim hys hT' (hsim.ev y)
        obtain ⟨c, arr, h2, h3, h4, h5⟩ := grow (olds := []) hxa (run_firstCells_none _ _ _ _ _) (by rw [hsz]; exact hs1) (by omega) (by omega) (by simp) hs1.newsLen
        refine wp_of_run h5 ?_
        have hb := (hsim.drewN 1).born (d := o.dst) hd (e := e) (l := ys) (arr := arr) (T := E) (c := c) h3 (by omega) (fun j x hx => relT_lt e x (fun k u hkk hu => by
          have hj : j < ys.length := by
            rcases Nat.lt_or_ge j ys.length with h6 | h6
            · exact h6
            · rw [List.getElem?_eq_none h6] at hx; cases hx
          have hlt : j * e.size + k < news.length := by
            rw [hs1.newsLen]
            have : (j + 1) * e.size ≤ ys.length * e.size := Nat.mul_le_mul_right _ hj
            rw [Nat.add_mul] at this; omega
          show _ = some u
          rw [h4 _ (by simpa using hlt)]; simpa using hu) (hs2 j x hx))
        have e0 : 0 + ys.length = ys.length := by omega
        rw [e0]
        exact hk _ _ _ hb
      · rename_i id n hxe
        split at h
        · rename_i l hl
          have hbr := brT_req h; clear h; obtain ⟨hc, h⟩ := hbr
          rw [Bool.and_eq_true, Bool.and_eq_true] at hc
          have hlo := Nat.le_of_ble_eq_true hc.1
          have h0 := Nat.eq_of_beq_eq_true hc.2.1
          have h1 := Nat.le_of_ble_eq_true hc.2.2
          have hid := arrAt_spec hl
          refine ⟨_, h, ?_⟩
          intro X w0 m g a w K' Q hsim hd hk
          have hxa := hsim.ev x
          rw [hxe] at hxa
          obtain ⟨news, hs1, hs2⟩ := srcOf_sound hsim hys hT' (hsim.ev y)
          have hs1' : Src P i.size T' (a.eval y) ys.length news w := by rw [hsz]; exact hs1
          have hp := size_pos e
          have inl : ∀ {zs : List e.Ty} {j : Nat} {x : e.Ty} {k : Nat}, zs[j]? = some x → k < e.size → j < zs.length ∧ j * e.size + k < zs.length * e.size := fun {zs j x k} hx hkk => by
            have hj : j < zs.length := by
              rcases Nat.lt_or_ge j zs.length with h6 | h6
              · exact h6
              · rw [List.getElem?_eq_none h6] at hx; cases hx
            have : (j + 1) * e.size ≤ zs.length * e.size := Nat.mul_le_mul_right _ hj
            rw [Nat.add_mul] at this
            exact ⟨hj, by omega⟩
          -- the longer list's elements lie behind the old ones
          have joined : ∀ {olds : List Value} {arr : Array Value}, olds.length = l.length * e.size → (∀ i x, l[i]? = some x → relT g.im e x (fun k u => olds[i * e.size + k]? = some u)) → (∀ j, j < (olds ++ news).length → arr[j]? = (olds ++ news)[j]?) →
              ∀ i x, (l ++ ys)[i]? = some x → relT g.im e x (fun k u => arr[i * e.size + k]? = some u) := by
            intro olds arr ho hr ha j x hx
            rcases Nat.lt_or_ge j l.length with hj | hj
            · rw [List.getElem?_append_left hj] at hx
              refine relT_lt e x (fun k u hkk hu => ?_) (hr j x hx)
              have h6 := inl hx hkk
              show _ = some u
              rw [ha _ (by simp; omega), List.getElem?_append_left (by omega)]; exact hu
            · rw [List.getElem?_append_right hj] at hx
              refine relT_lt e x (fun k u hkk hu => ?_) (hs2 _ x hx)
              have h6 := inl hx hkk
              have h7 : j * e.size + k = l.length * e.size + ((j - l.length) * e.size + k) := by
                have : j = l.length + (j - l.length) := by omega
                conv => lhs; rw [this, Nat.add_mul]
                omega
              show _ = some u
              have hnl := hs1.newsLen
              rw [ha _ (by rw [List.length_append]; omega), List.getElem?_append_right (by omega), ho]
              have h8 : j * e.size + k - l.length * e.size = (j - l.length) * e.size + k := by omega
              rw [h8]; exact hu
          rcases hsim.cells _ _ _ hid with ⟨e', l', h2, _, har⟩ | ⟨_, _, _, _, _, _, _, hf⟩
          · cases h2
            rcases hxa with ⟨hn0, hxv⟩ | ⟨b, hb, hxv, hle⟩
            · -- the list has no row yet
              have hl0 : l = [] := List.eq_nil_of_length_eq_zero (by omega)
              rcases Nat.eq_zero_or_pos ys.length with hy0 | hy0
              · have hy : ys = [] := List.eq_nil_of_length_eq_zero hy0
                subst hl0 hy
                have hnews : news = [] := List.eq_nil_of_length_eq_zero (by rw [hs1.newsLen]; simp)
                subst hnews
                refine wp_of_run (w' := w) (v := .slice none 0 0) ?_ ?_
                · rw [hrun, hxv]
                  obtain ⟨E', hE'⟩ := tySlice_spec hT'
                  have hlen : ∀ w' : World, (Builtin.lenOf (a.eval y)).run P w' = .ok 0 w' := hs1'.len
                  have hcells : (Builtin.firstCells i.size 0 (a.eval y)).run P w = .ok #[] w := hs1'.cells
                  simp [Builtin.append_, run_underlying hE, run_underlying hE', sizeOf, typeInfo, hi, hlen, hcells]
                · have hs' : Sim X w0 m (grownSt s o.dst id e ([] ++ [])) g (a.put o.dst (.slice none 0 0)) w := by
                    have hbut := Gh.but_refl g id
                    refine ⟨tm_put (fun t => relV_kill hbut _ _ (hsim.tm t)) hsim.len hd (.inl ⟨rfl, rfl⟩), by rw [put_size]; exact hsim.len, by rw [put_defers']; exact hsim.df, hsim.ok, fun i o c hc => ?_, hsim.nx, fun i o c hc => ?_, hsim.lo, hsim.ln⟩
                    · rcases grown_hp hc with ⟨rfl, rfl, rfl⟩ | ⟨e1, c', h1, rfl⟩
                      · exact .inl ⟨e, [], rfl, rfl, har⟩
                      · exact (hsim.cells _ _ _ h1).kill hbut e1 (fun _ _ => rfl)
                    · show i < s.nx
                      rcases grown_hp hc with ⟨rfl, _, _⟩ | ⟨e1, c', h1, _⟩
                      · exact hsim.hx _ _ _ hid
                      · exact hsim.hx _ _ _ h1
                  exact hk _ _ _ hs'
              · obtain ⟨c, arr, h2, h3, h4, h5⟩ := grow (olds := []) hxv (run_firstCells_none _ _ _ _ _) hs1' (by omega) (by omega) (by simp) hs1.newsLen
                refine wp_of_run h5 ?_
                have hg := (hsim.drewN 1).grown (d := o.dst) hd hid hlo (e := e) (l := l ++ ys) (arr := arr) (T := E) (c := c) h3 (by rw [List.length_append]; omega) (joined (olds := []) (by rw [hl0]; simp) (fun i x hx => by rw [hl0] at hx; simp at hx) h4)
                have e0 : (l ++ ys).length = 0 + ys.length := by rw [List.length_append]; omega
                rw [e0] at hg
                exact hk _ _ _ hg
            · rcases har with ⟨h2, h3⟩ | ⟨b', arr, Tr, h2, h3, h4, h5, h6⟩
              · rw [hb] at h3; cases h3
              · rw [hb] at h2; cases h2
                have hold : (arr.toList.take (l.length * e.size)).length = l.length * e.size := by
                  have ea : arr.toList.length = arr.size := Array.length_toList
                  have : l.length * e.size ≤ g.cp id * e.size := Nat.mul_le_mul_right _ h5
                  rw [List.length_take, ea]; omega
                have holdr : ∀ i x, l[i]? = some x → relT g.im e x (fun k u => (arr.toList.take (l.length * e.size))[i * e.size + k]? = some u) := fun j x hx => relT_lt e x (fun k u hkk hu => by
                  have h7 := inl hx hkk
                  show _ = some u
                  rw [List.getElem?_take_of_lt h7.2]; simpa using hu) (h6 j x hx)
                rcases Nat.lt_or_ge (g.cp id) (n + ys.length) with hcap | hcap
                · -- a new row
                  have hadd : ∀ j : Nat, (⟨b, 0, none⟩ : Addr).add j = ⟨b, j, none⟩ := fun j => by unfold Addr.add; split <;> simp_all
                  obtain ⟨c, arr', g2, g3, g4, g5⟩ := grow (olds := arr.toList.take (l.length * e.size)) hxv (run_firstCells_some _ _ _ _ _ _ _ (by rw [hold, h0, hsz]) (fun j v hj => by
                    rw [hadd]
                    have hj' : j < l.length * e.size := by
                      rw [← hold]
                      rcases Nat.lt_or_ge j (arr.toList.take (l.length * e.size)).length with h7 | h7
                      · exact h7
                      · rw [List.getElem?_eq_none h7] at hj; cases hj
                    rw [List.getElem?_take_of_lt hj'] at hj
                    have hh : w.drew.heap[b]? = some (.cells arr Tr (0, 0)) := h3
                    simp [World.cell?, hh]
                    simpa using hj)) hs1' hcap (by omega) (by rw [hold, h0]) hs1.newsLen
                  refine wp_of_run g5 ?_
                  have hg := (hsim.drewN 1).grown (d := o.dst) hd hid hlo (e := e) (l := l ++ ys) (arr := arr') (T := E) (c := c) g3 (by rw [List.length_append]; omega) (joined hold holdr g4)
                  have e0 : (l ++ ys).length = n + ys.length := by rw [List.length_append]; omega
                  rw [e0] at hg
                  exact hk _ _ _ hg
                · -- in its place
                  have hnl := hs1.newsLen
                  have hfit : n * i.size + news.length ≤ arr.size := by
                    rw [hnl, hsz, h4, ← Nat.add_mul]
                    exact Nat.mul_le_mul_right _ hcap
                  have hr := run_append_room_row w T T' ty E i hE hi b n (g.cp id) (a.eval y) ys.length news hs1' hcap h3 hfit
                  refine wp_of_run (w' := _) (v := _) (by rw [hrun, hxv]; simp only [Sem.run_bind, hr, Result.andThen_ok, Sem.run_pure]; rfl) ?_
                  have hlen : (l ++ ys).length = n + ys.length := by rw [List.length_append]; omega
                  refine hk _ _ _ (hsim.grownIn (d := o.dst) hd hb h3 _ (.inr ⟨b, _, Tr, hb, setRow_heap w b arr _ Tr _ h3, by rw [splice_size _ _ _ hfit]; exact h4, by omega, ?_⟩) (.inr ⟨b, hb, by rw [hlen], by omega⟩))
                  refine fun j x hx => ?_
                  rcases Nat.lt_or_ge j l.length with hj | hj
                  · rw [List.getElem?_append_left hj] at hx
                    refine relT_lt e x (fun k u hkk hu => ?_) (h6 j x hx)
                    have h7 := inl hx hkk
                    show _ = some u
                    rw [splice_get _ _ _ hfit, if_neg (by rw [h0, hsz]; omega)]; exact hu
                  · rw [List.getElem?_append_right hj] at hx
                    refine relT_lt e x (fun k u hkk hu => ?_) (hs2 _ x hx)
                    have h7 := inl hx hkk
                    have h8 : j * e.size + k = l.length * e.size + ((j - l.length) * e.size + k) := by
                      have : j = l.length + (j - l.length) := by omega
                      conv => lhs; rw [this, Nat.add_mul]
                      omega
                    show _ = some u
                    rw [splice_get _ _ _ hfit, if_pos (by rw [h0, hsz]; omega), h0, hsz]
                    have h9 : j * e.size + k - l.length * e.size = (j - l.length) * e.size + k := by omega
                    rw [h9]; exact hu
          · exact hf.elim
        · cases h
      · cases h
    · cases h
  · cases h
end
end Go.Dv
