/- A function's contract out of its evaluation (part 2). -/
import Derived.Test.YtmhmedbhngmmpaaDp
namespace Go.Dv
open Go.RowKit Go.Cv

section
variable {P : Program}

/-- the cells of a result in the caller's names -/
theorem decF_spec {hp : Hp} {g g2 : Gh} : ∀ (s : Sh) (f : Nat → CS) (x : s.Ty) (ids : List (Option Nat)) (k base : Nat), decF hp s f = some (x, ids) → (∀ (i id : Nat), ids[i]? = some (some id) → g2.β (base + (k + i)) = g.β id ∧ g2.cp (base + (k + i)) = g.cp id) →
    (encC s x k).1.length = s.size ∧ (encC s x k).2.length = ids.length ∧ (∀ (i : Nat) c, (encC s x k).2[i]? = some c → (∃ e l, c = .arr e l) ∧ ((∃ id, ids[i]? = some (some id) ∧ hp id 0 = some c) ∨ (ids[i]? = some none ∧ ∃ e, c = .arr e []))) ∧
      ∀ (j : Nat) c u, (encC s x k).1[j]? = some c → rel g (f j) u → rel g2 (shiftC base c) u := by
  intro s
  induction s with
  | fl k' =>
    intro f x ids k base h _
    simp only [decF] at h
    split at h
    · rename_i k2 n hc
      cases hk : eqK k2 k' <;> rw [hk] at h <;> cases h
      obtain rfl := eqK_spec hk
      refine ⟨rfl, rfl, fun i c hi => by simp [encC] at hi, fun j c u hj hu => ?_⟩
      cases j with
      | zero => simp [encC, cells] at hj; subst hj; rw [hc] at hu; exact hu
      | succ j => simp [encC, cells] at hj
    · cases h
  | int k' =>
    intro f x ids k base h _
    simp only [decF] at h
    split at h
    · rename_i k2 n hc
      cases hk : eqI k2 k' <;> rw [hk] at h <;> cases h
      obtain rfl := eqI_spec hk
      refine ⟨rfl, rfl, fun i c hi => by simp [encC] at hi, fun j c u hj hu => ?_⟩
      cases j with
      | zero => simp [encC, cells] at hj; subst hj; rw [hc] at hu; exact hu
      | succ j => simp [encC, cells] at hj
    · cases h
  | bool =>
    intro f x ids k base h _
    simp only [decF] at h
    split at h
    · rename_i b hc
      cases h
      refine ⟨rfl, rfl, fun i c hi => by simp [encC] at hi, fun j c u hj hu => ?_⟩
      cases j with
      | zero => simp [encC, cells] at hj; subst hj; rw [hc] at hu; exact hu
      | succ j => simp [encC, cells] at hj
    · cases h
  | str =>
    intro f x ids k base h _
    simp only [decF] at h
    split at h
    · rename_i b hc
      cases h
      refine ⟨rfl, rfl, fun i c hi => by simp [encC] at hi, fun j c u hj hu => ?_⟩
      cases j with
      | zero => simp [encC, cells] at hj; subst hj; rw [hc] at hu; exact hu
      | succ j => simp [encC, cells] at hj
    · cases h
  | cx k' =>
    intro f x ids k base h _
    simp only [decF] at h
    split at h
    · rename_i k2 a b hc
      cases hk : eqK k2 k' <;> rw [hk] at h <;> cases h
      obtain rfl := eqK_spec hk
      refine ⟨rfl, rfl, fun i c hi => by simp [encC] at hi, fun j c u hj hu => ?_⟩
      cases j with
      | zero => simp [encC, cells] at hj; subst hj; rw [hc] at hu; exact hu
      | succ j => simp [encC, cells] at hj
    · cases h
  | ls e _ =>
    intro f x ids k base h hn
    simp only [decF] at h
    split at h
    · rename_i hc
      cases h
      refine ⟨rfl, rfl, fun i c hi => ?_, fun j c u hj hu => ?_⟩
      · cases i with
        | zero => simp [encC] at hi; subst hi; exact ⟨⟨e, [], rfl⟩, .inr ⟨rfl, e, rfl⟩⟩
        | succ i => simp [encC] at hi
      · cases j with
        | zero =>
          simp [encC] at hj; subst hj; rw [hc] at hu
          obtain rfl : u = _ := hu
          exact .inl ⟨rfl, rfl⟩
        | succ j => simp [encC] at hj
    · rename_i id n hc
      split at h
      · rename_i l hl
        cases hk : Nat.beq n l.length <;> rw [hk] at h <;> cases h
        have hk := Nat.eq_of_beq_eq_true hk
        subst hk
        obtain ⟨h1, h2⟩ := hn 0 id rfl
        rw [Nat.add_zero] at h1 h2
        refine ⟨rfl, rfl, fun i c hi => ?_, fun j c u hj hu => ?_⟩
        · cases i with
          | zero => simp [encC] at hi; subst hi; exact ⟨⟨e, x, rfl⟩, .inl ⟨id, rfl, arrAt_spec hl⟩⟩
          | succ i => simp [encC] at hi
        · cases j with
          | zero =>
            simp [encC] at hj; subst hj; rw [hc] at hu
            rcases hu with ⟨h3, h4⟩ | ⟨b, h3, h4, h5⟩
            · exact .inl ⟨h3, h4⟩
            · exact .inr ⟨b, by rw [h1]; exact h3, by rw [h2]; exact h4, by rw [h2]; exact h5⟩
          | succ j => simp [encC] at hj
      · cases h
    · cases h
  | pair a b iha ihb =>
    intro f x ids k base h hn
    simp only [decF] at h
    split at h
    · rename_i x1 i1 x2 i2 h1 h2
      cases h
      obtain ⟨p1, p2, p3, p4⟩ := iha f x1 i1 k base h1 (fun i id hi => hn i id (by
        rw [List.getElem?_append_left]
        · exact hi
        · rcases Nat.lt_or_ge i i1.length with h | h
          · exact h
          · rw [List.getElem?_eq_none h] at hi; cases hi))
      obtain ⟨q1, q2, q3, q4⟩ := ihb (fun j => f (a.size + j)) x2 i2 (k + (encC a x1 k).2.length) base h2 (fun i id hi => by
        have := hn (i1.length + i) id (by rw [List.getElem?_append_right (by omega)]; simpa using hi)
        rw [p2]
        rw [← Nat.add_assoc k] at this
        exact this)
      refine ⟨by simp [encC, Sh.size, p1, q1], by simp only [encC, List.length_append]; omega, fun i c hi => ?_, fun j c u hj hu => ?_⟩
      · simp only [encC] at hi
        rcases Nat.lt_or_ge i (encC a x1 k).2.length with h3 | h3
        · rw [List.getElem?_append_left h3] at hi
          obtain ⟨h4, h5⟩ := p3 i c hi
          refine ⟨h4, ?_⟩
          rw [List.getElem?_append_left (by omega)]; exact h5
        · rw [List.getElem?_append_right h3] at hi
          obtain ⟨h4, h5⟩ := q3 _ c hi
          refine ⟨h4, ?_⟩
          rw [List.getElem?_append_right (by omega), ← p2]; exact h5
      · simp only [encC] at hj
        rcases Nat.lt_or_ge j (encC a x1 k).1.length with h3 | h3
        · rw [List.getElem?_append_left h3] at hj
          exact p4 j c u hj hu
        · rw [List.getElem?_append_right h3] at hj
          refine q4 _ c u hj ?_
          have e1 : a.size + (j - (encC a x1 k).1.length) = j := by omega
          show rel g (f (a.size + (j - (encC a x1 k).1.length))) u
          rw [e1]; exact hu
    · cases h

theorem decR_spec {hp : Hp} {g g2 : Gh} : ∀ (a : AS) (cs rest : List CV1) (x : a.Ty) (ids : List (Option Nat)) (k base : Nat) , decR hp a cs = some ((x, ids), rest) → (∀ (i id : Nat), ids[i]? = some (some id) → g2.β (base + (k + i)) = g.β id ∧ g2.cp (base + (k + i)) = g.cp id) →
    (encR a x k).1.length + rest.length = cs.length ∧ (∀ (j : Nat) c, rest[j]? = some c → cs[(encR a x k).1.length + j]? = some c) ∧ (encR a x k).2.length = ids.length ∧
    (∀ (i : Nat) c, (encR a x k).2[i]? = some c → (∃ e l, c = .arr e l) ∧ ((∃ id, ids[i]? = some (some id) ∧ hp id 0 = some c) ∨ (ids[i]? = some none ∧ ∃ e, c = .arr e []))) ∧
      ∀ (j : Nat) c c' u, (encR a x k).1[j]? = some c → cs[j]? = some c' → rel1 g c' u → rel1 g2 (shift1 base c) u := by
  intro a
  induction a with
  | nil =>
    intro cs rest x ids k base h _
    simp only [decR] at h; cases h
    exact ⟨by simp [encR], fun j c hj => by simpa [encR] using hj, rfl, fun i c hi => by simp [encR] at hi, fun j c c' u hj => by simp [encR] at hj⟩
  | cons a r iha ihr =>
    intro cs rest x ids k base h hn
    simp only [decR] at h
    split at h
    · rename_i x1 i1 cs' h1
      split at h
      · rename_i x2 i2 cs'' h2
        cases h
        obtain ⟨p1, p2, p3, p4, p5⟩ := iha cs cs' x1 i1 k base h1 (fun i id hi => hn i id (by
          rw [List.getElem?_append_left]
          · exact hi
          · rcases Nat.lt_or_ge i i1.length with h | h
            · exact h
            · rw [List.getElem?_eq_none h] at hi; cases hi))
        obtain ⟨q1, q2, q3, q4, q5⟩ := ihr cs' rest x2 i2 (k + (encR a x1 k).2.length) base h2 (fun i id hi => by
          have := hn (i1.length + i) id (by rw [List.getElem?_append_right (by omega)]; simpa using hi)
          rw [p3]
          rw [← Nat.add_assoc k] at this
          exact this)
        refine ⟨by simp only [encR, List.length_append]; omega, fun j c hj => ?_, by simp only [encR, List.length_append]; omega, fun i c hi => ?_, fun j c c' u hj hj' hu => ?_⟩
        · simp only [encR, List.length_append]
          have := p2 _ c (q2 j c hj)
          rw [← Nat.add_assoc] at this; exact this
        · simp only [encR] at hi
          rcases Nat.lt_or_ge i (encR a x1 k).2.length with h3 | h3
          · rw [List.getElem?_append_left h3] at hi
            obtain ⟨h4, h5⟩ := p4 i c hi
            refine ⟨h4, ?_⟩
            rw [List.getElem?_append_left (by omega)]; exact h5
          · rw [List.getElem?_append_right h3] at hi
            obtain ⟨h4, h5⟩ := q4 _ c hi
            refine ⟨h4, ?_⟩
            rw [List.getElem?_append_right (by omega), ← p3]; exact h5
        · simp only [encR] at hj
          rcases Nat.lt_or_ge j (encR a x1 k).1.length with h3 | h3
          · rw [List.getElem?_append_left h3] at hj
            exact p5 j c c' u hj hj' hu
          · rw [List.getElem?_append_right h3] at hj
            have hjr : j - (encR a x1 k).1.length < cs'.length := by
              have : j < cs.length := by
                rcases Nat.lt_or_ge j cs.length with h | h
                · exact h
                · rw [List.getElem?_eq_none h] at hj'; cases hj'
              omega
            have h4 := p2 _ _ (List.getElem?_eq_getElem hjr)
            have e1 : (encR a x1 k).1.length + (j - (encR a x1 k).1.length) = j := by omega
            rw [e1, hj'] at h4
            exact q5 _ c c' u hj (by rw [List.getElem?_eq_getElem hjr]; exact h4.symm) hu
      · cases h
    · cases h
  | one s =>
    intro cs rest x ids k base h hn
    simp only [decR] at h
    split at h
    · rename_i c rest'
      cases hs : Nat.beq s.size 1 <;> rw [hs] at h
      · cases h
      · simp only [cond_true] at h
        have hs := Nat.eq_of_beq_eq_true hs
        split at h
        · rename_i x' d' h1; cases h
          obtain ⟨p1, p2, p3, p4⟩ := decF_spec (g := g) (g2 := g2) s _ x ids k base h1 hn
          refine ⟨by simp [encR]; omega, fun j c hj => by simpa [encR, Nat.add_comm 1] using hj, p2, p3, fun j c1 c' u hj hj' hu => ?_⟩
          cases j with
          | zero =>
            simp [encR] at hj hj'; subst hj hj'
            have h0 : 0 < (encC s x k).1.length := by omega
            have e1 : (encC s x k).1.getD 0 .any = (encC s x k).1[0] := by rw [List.getD_eq_getElem?_getD, List.getElem?_eq_getElem h0]; rfl
            have := p4 0 _ u (List.getElem?_eq_getElem h0) hu
            rw [← e1] at this
            show rel g2 (shiftC base ((encC s x k).1[0]?.getD .any)) u
            simpa [List.getD_eq_getElem?_getD] using this
          | succ j => simp [encR] at hj
        · cases h
    · cases h
  | agg s =>
    intro cs rest x ids k base h hn
    simp only [decR] at h
    split at h
    · rename_i l rest'
      cases hs : Nat.beq l.length s.size <;> rw [hs] at h
      · cases h
      · simp only [cond_true] at h
        have hs := Nat.eq_of_beq_eq_true hs
        split at h
        · rename_i x' d' h1; cases h
          obtain ⟨p1, p2, p3, p4⟩ := decF_spec (g := g) (g2 := g2) s _ x ids k base h1 hn
          refine ⟨by simp [encR]; omega, fun j c hj => by simpa [encR, Nat.add_comm 1] using hj, p2, p3, fun j c1 c' u hj hj' hu => ?_⟩
          cases j with
          | zero =>
            simp [encR] at hj hj'; subst hj hj'
            obtain ⟨arr, rfl, hsz, hc⟩ := hu
            refine ⟨arr, rfl, by simp; omega, fun j c v h2 h3 => ?_⟩
            simp at h2
            obtain ⟨c0, h4, rfl⟩ := h2
            have hj : j < l.length := by
              rw [← hsz]
              rcases Nat.lt_or_ge j arr.size with h | h
              · exact h
              · rw [Array.getElem?_eq_none h] at h3; cases h3
            refine p4 j c0 v h4 ?_
            have e1 : l.getD j .any = l[j] := by simp [List.getD, hj]
            rw [e1]
            exact hc j l[j] v (by simp [hj]) h3
          | succ j => simp [encR] at hj
        · cases h
    · cases h
  | ptr s => intro cs rest x ids k base h; simp only [decR] at h; cases h
  | own e => intro cs rest x ids k base h; simp only [decR] at h; cases h
  | fn f c _ => intro cs rest x ids k base h; simp only [decR] at h; cases h
  | raw =>
    intro cs rest x ids k base h hn
    simp only [decR] at h
    split at h
    · cases h
      refine ⟨by simp [encR]; omega, fun j c hj => by simpa [encR, Nat.add_comm 1] using hj, rfl, fun i c hi => by simp [encR] at hi, fun j c1 c' u hj hj' hu => ?_⟩
      cases j with
      | zero => simp [encR] at hj hj'; subst hj hj'; exact hu
      | succ j => simp [encR] at hj
    · cases h

theorem shiftV_ret (n : Nat) (cs : List CV1) : shiftV n (retCV cs) = retCV (cs.map (shift1 n)) := by
  match cs with
  | [] => rfl
  | [c] => rfl
  | c :: d :: cs => rfl

theorem relV_ret {g : Gh} {cs cs' : List CV1} {v : Value} {g' : Gh} (hl : cs.length = cs'.length) (h : ∀ (j : Nat) c c' u, cs'[j]? = some c' → cs[j]? = some c → rel1 g c u → rel1 g' c' u) (hr : relV g (retCV cs) v) : relV g' (retCV cs') v := by
  match cs, cs', hl with
  | [], [], _ =>
    obtain ⟨arr, rfl, hs, _⟩ := hr
    exact ⟨arr, rfl, hs, fun j c u hj => by simp at hj⟩
  | [c], [c'], _ => exact h 0 c c' v rfl rfl hr
  | c :: d :: cs, c' :: d' :: cs', hl =>
    obtain ⟨arr, rfl, hs, hc⟩ := hr
    refine ⟨arr, rfl, hs.trans hl, fun j c' u hj hu => ?_⟩
    have hj' : j < (c :: d :: cs).length := by
      rw [hl]
      rcases Nat.lt_or_ge j (c' :: d' :: cs').length with h1 | h1
      · exact h1
      · rw [List.getElem?_eq_none (by simpa using h1)] at hj; cases hj
    exact h j _ c' u hj (List.getElem?_eq_getElem hj') (hc j _ u (List.getElem?_eq_getElem hj') hu)

theorem wrOut_spec {hp : Hp} : ∀ {n i : Nat} {ws : List CS}, wrOut hp n i = some ws → ws.length = n ∧ ∀ j c, ws[j]? = some c → hp (i + j) 0 = some c ∧ ∃ e l, c = .arr e l
  | 0, i, ws, h => by simp only [wrOut] at h; cases h; exact ⟨rfl, fun j c hj => by simp at hj⟩
  | n + 1, i, ws, h => by
    simp only [wrOut] at h
    split at h
    · rename_i e l cs h1 h2
      cases h
      obtain ⟨h3, h4⟩ := wrOut_spec h2
      refine ⟨by simp [h3], fun j c hj => ?_⟩
      cases j with
      | zero => simp at hj; subst hj; exact ⟨h1, e, l, rfl⟩
      | succ j =>
        obtain ⟨h5, h6⟩ := h4 j c (by simpa using hj)
        exact ⟨by rw [← h5]; congr 1; omega, h6⟩
    · cases h

theorem zipW_mem : ∀ {o : List (Nat × CS)} {ws : List CS} {d : Dep}, d ∈ zipW o ws → ∃ (i id : Nat) (c0 c : CS), o[i]? = some (id, c0) ∧ ws[i]? = some c ∧ d = (id, 0, c)
  | [], _, d, h => by simp [zipW] at h
  | _ :: _, [], d, h => by simp [zipW] at h
  | (id, c0) :: o, c :: ws, d, h => by
    simp only [zipW, List.mem_cons] at h
    rcases h with rfl | h
    · exact ⟨0, id, c0, c, rfl, rfl, rfl⟩
    · obtain ⟨i, id', c0', c', h1, h2, h3⟩ := zipW_mem h
      exact ⟨i + 1, id', c0', c', by simpa using h1, by simpa using h2, h3⟩
theorem mem_zipW : ∀ {o : List (Nat × CS)} {ws : List CS} {i id : Nat} {c0 c : CS}, o[i]? = some (id, c0) → ws[i]? = some c → (id, 0, c) ∈ zipW o ws
  | [], _, i, id, c0, c, h, _ => by simp at h
  | _ :: _, [], i, id, c0, c, _, h => by simp at h
  | (id', c0') :: o, c' :: ws, i, id, c0, c, h1, h2 => by
    cases i with
    | zero => simp at h1 h2; obtain ⟨rfl, rfl⟩ := h1; subst h2; simp [zipW]
    | succ i => simp only [zipW]; exact List.mem_cons_of_mem _ (mem_zipW (by simpa using h1) (by simpa using h2))

theorem memB_spec {x : Nat} : ∀ {ys : List Nat}, memB x ys = true ↔ x ∈ ys
  | [] => by simp [memB]
  | y :: ys => by
    simp only [memB, Bool.or_eq_true, List.mem_cons, memB_spec (ys := ys)]
    constructor
    · rintro (h | h)
      · exact .inl (Nat.eq_of_beq_eq_true h)
      · exact .inr h
    · rintro (rfl | h)
      · exact .inl (Nat.beq_refl x)
      · exact .inr h
theorem nodupB_spec : ∀ {xs : List Nat}, nodupB xs = true → ∀ (i j : Nat) x, xs[i]? = some x → xs[j]? = some x → i = j
  | [], _, i, j, x, h, _ => by simp at h
  | y :: ys, hd, i, j, x, h1, h2 => by
    simp only [nodupB, Bool.and_eq_true, Bool.not_eq_true'] at hd
    have hn : y ∉ ys := fun h => by have := memB_spec.2 h; rw [hd.1] at this; cases this
    cases i with
    | zero =>
      simp at h1; subst h1
      cases j with
      | zero => rfl
      | succ j => exact absurd (List.mem_of_getElem? (by simpa using h2)) hn
    | succ i =>
      cases j with
      | zero => simp at h2; subst h2; exact absurd (List.mem_of_getElem? (by simpa using h1)) hn
      | succ j => rw [nodupB_spec hd.2 i j x (by simpa using h1) (by simpa using h2)]

theorem someIds_mem {id : Nat} : ∀ {ids : List (Option Nat)} {i : Nat}, ids[i]? = some (some id) → id ∈ someIds ids
  | [], i, h => by simp at h
  | some a :: r, i, h => by
    cases i with
    | zero => simp at h; subst h; exact List.mem_cons_self ..
    | succ i => exact List.mem_cons_of_mem _ (someIds_mem (ids := r) (by simpa using h))
  | none :: r, i, h => by
    cases i with
    | zero => simp at h
    | succ i => exact someIds_mem (ids := r) (by simpa using h)
theorem someIds_inj {id : Nat} : ∀ {ids : List (Option Nat)} {i j : Nat}, nodupB (someIds ids) = true → ids[i]? = some (some id) → ids[j]? = some (some id) → i = j
  | [], i, j, _, h, _ => by simp at h
  | some a :: r, i, j, hd, h1, h2 => by
    simp only [someIds, nodupB, Bool.and_eq_true, Bool.not_eq_true'] at hd
    have hn : a ∉ someIds r := fun h => by have := memB_spec.2 h; rw [hd.1] at this; cases this
    cases i with
    | zero =>
      simp at h1; subst h1
      cases j with
      | zero => rfl
      | succ j => exact absurd (someIds_mem (ids := r) (by simpa using h2)) hn
    | succ i =>
      cases j with
      | zero => simp at h2; subst h2; exact absurd (someIds_mem (ids := r) (by simpa using h1)) hn
      | succ j => exact congrArg (· + 1) (someIds_inj (ids := r) (i := i) (j := j) hd.2 (by simpa using h1) (by simpa using h2))
  | none :: r, i, j, hd, h1, h2 => by
    cases i with
    | zero => simp at h1
    | succ i =>
      cases j with
      | zero => simp at h2
      | succ j => exact congrArg (· + 1) (someIds_inj (ids := r) (i := i) (j := j) hd (by simpa using h1) (by simpa using h2))
end
end Go.Dv
