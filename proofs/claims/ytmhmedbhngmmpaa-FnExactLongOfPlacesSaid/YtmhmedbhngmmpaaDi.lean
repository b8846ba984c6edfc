/- The model's operations do what 'cop' says (part 6): parts of lists, new lists, lengths, calls. -/
import Derived.Test.YtmhmedbhngmmpaaDh
namespace Go.Dv
open Go.RowKit Go.Cv

section
variable {P : Program} {α : Type}

theorem argsOf_rel {g : Gh} {ev : Operand → CV} {a : Act} : ∀ {xs : List Operand} {cs : List CV1}, argsOf (xs.map ev) = some cs → (∀ x ∈ xs, relV g (ev x) (a.eval x)) →
    (xs.map a.eval).length = cs.length ∧ ∀ (j : Nat) c u, cs[j]? = some c → (xs.map a.eval)[j]? = some u → rel1 g c u
  | [], cs, h, _ => by simp only [List.map_nil, argsOf] at h; cases h; exact ⟨rfl, fun j c u h => by simp at h⟩
  | x :: xs, cs, h, hr => by
    simp only [List.map_cons] at h
    cases hx : ev x with
    | tup vs => rw [hx] at h; simp [argsOf] at h
    | one c =>
      rw [hx] at h
      simp only [argsOf] at h
      split at h
      · rename_i cs' hcs; cases h
        obtain ⟨h1, h2⟩ := argsOf_rel hcs (fun y hy => hr y (by simp [hy]))
        refine ⟨by simpa using h1, fun j c' u h3 h4 => ?_⟩
        cases j with
        | zero =>
          simp at h3 h4; subst h3 h4
          have := hr x (by simp); rw [hx] at this; exact this
        | succ j => exact h2 j c' u (by simpa using h3) (by simpa using h4)
      · cases h

theorem scalarsOf_rel {g : Gh} {ev : Operand → CV} {a : Act} : ∀ {xs : List Operand} {cs : List CS}, scalarsOf (xs.map ev) = some cs → (∀ x ∈ xs, relV g (ev x) (a.eval x)) →
    (xs.map a.eval).length = cs.length ∧ ∀ (j : Nat) c u, cs[j]? = some c → (xs.map a.eval)[j]? = some u → rel g c u
  | [], cs, h, _ => by simp only [List.map_nil, scalarsOf] at h; cases h; exact ⟨rfl, fun j c u h => by simp at h⟩
  | x :: xs, cs, h, hr => by
    simp only [List.map_cons] at h
    cases hx : ev x with
    | tup vs => rw [hx] at h; simp [scalarsOf] at h
    | one c =>
      rw [hx] at h
      cases c with
      | agg ys => simp [scalarsOf] at h
      | s c =>
        simp only [scalarsOf] at h
        split at h
        · rename_i cs' hcs; cases h
          obtain ⟨h1, h2⟩ := scalarsOf_rel hcs (fun y hy => hr y (by simp [hy]))
          refine ⟨by simpa using h1, fun j c' u h3 h4 => ?_⟩
          cases j with
          | zero =>
            simp at h3 h4; subst h3 h4
            have := hr x (by simp); rw [hx] at this; exact this
          | succ j => exact h2 j c' u (by simpa using h3) (by simpa using h4)
        · cases h


/-- a call by its contract -/
theorem wp_of_callOk {o : Oper} {a : Act} {w : World} {K : Act → World → Prop} {Q : Exit → Act → World → Prop} {f : FuncId} {vals : Array Value} {R : Value → World → Prop}
    (hrun : (execOp a.eval o).run P w = (callFunc f vals).run P w) (h : CallOk P f vals w R) (hk : ∀ v w', R v w' → K (a.put o.dst v) w') : o.wp P a w K Q := by
  unfold Oper.wp
  rw [hrun]
  unfold CallOk at h
  generalize (callFunc f vals).run P w = r at *
  cases r with
  | halt x w' => cases h
  | ok n w' =>
    cases n <;> simp only at h <;> simp only [Oper.upon]
    · exact hk _ _ h
    · refine h.mono fun e w'' hh => ?_
      obtain ⟨v, rfl, hr⟩ := hh
      exact hk _ _ hr

theorem newArrs_get : ∀ {nw : List CS} {hp : Hp} {nx i o : Nat} {c : CS}, newArrs hp nx nw i o = some c → (∃ k, i = nx + k ∧ o = 0 ∧ nw[k]? = some c) ∨ ((∀ k, k < nw.length → i ≠ nx + k) ∧ hp i o = some c)
  | [], hp, nx, i, o, c, h => .inr ⟨fun k hk => by simp at hk, h⟩
  | c0 :: rest, hp, nx, i, o, c, h => by
    rcases newArrs_get (nw := rest) h with ⟨k, h1, h2, h3⟩ | ⟨h1, h2⟩
    · exact .inl ⟨k + 1, by omega, h2, by simpa using h3⟩
    · by_cases e : i = nx
      · subst e
        rw [withArr_id] at h2
        split at h2
        · rename_i e2; cases h2
          exact .inl ⟨0, rfl, e2, rfl⟩
        · cases h2
      · rw [withArr_ne _ _ _ e] at h2
        refine .inr ⟨fun k hk => ?_, h2⟩
        cases k with
        | zero => exact e
        | succ k => have := h1 k (by simpa using hk); omega

theorem wrote_get : ∀ {wr : List Dep} {hp : Hp} {i o : Nat} {c : CS}, wrote hp wr i o = some c → (∃ d ∈ wr, d.1 = i ∧ o = 0 ∧ c = d.2.2) ∨ ((∀ d ∈ wr, d.1 ≠ i) ∧ hp i o = some c)
  | [], hp, i, o, c, h => .inr ⟨fun d hd => by simp at hd, h⟩
  | (id, off, c0) :: rest, hp, i, o, c, h => by
    rcases wrote_get (wr := rest) h with ⟨d, h1, h2⟩ | ⟨h1, h2⟩
    · exact .inl ⟨d, List.mem_cons_of_mem _ h1, h2⟩
    · by_cases e : i = id
      · subst e
        rw [withArr_id] at h2
        split at h2
        · rename_i e2; cases h2
          exact .inl ⟨_, List.mem_cons_self .., rfl, e2, rfl⟩
        · cases h2
      · rw [withArr_ne _ _ _ e] at h2
        exact .inr ⟨fun d hd => by
          rcases List.mem_cons.1 hd with rfl | hd
          · exact fun e' => e e'.symm
          · exact h1 d hd, h2⟩

theorem shiftC_none {n : Nat} {c : CS} (h : ownC c = false) : shiftC n c = c := by
  cases c <;> first | rfl | cases h
theorem shift1_none {n : Nat} {c : CV1} (h : own1 c = false) : shift1 n c = c := by
  cases c with
  | s c => show CV1.s (shiftC n c) = _; rw [shiftC_none h]
  | agg cs =>
    show CV1.agg (cs.map (shiftC n)) = _
    have : cs.map (shiftC n) = cs := by
      have h : cs.any ownC = false := h
      rw [List.any_eq_false] at h
      exact (List.map_congr_left (g := id) fun c hc => shiftC_none (by simpa using h c hc)).trans (List.map_id cs)
    rw [this]
theorem shiftV_none {n : Nat} {c : CV} (h : ownV c = false) : shiftV n c = c := by
  cases c with
  | one c => show CV.one (shift1 n c) = _; rw [shift1_none h]
  | tup vs =>
    show CV.tup (vs.map (shift1 n)) = _
    have : vs.map (shift1 n) = vs := by
      have h : vs.any own1 = false := h
      rw [List.any_eq_false] at h
      exact (List.map_congr_left (g := id) fun c hc => shift1_none (by simpa using h c hc)).trans (List.map_id vs)
    rw [this]

theorem ccall_sound {Γ : CEnv} (hΓ : GoodC P Γ) {o : Oper} {s : St} {c : Call} {f : Operand} {K : Eff → Tr α} {rv : α} (ho : o.op = .call c) (hcf : c.callee = .value f) (h : ccall P Γ o.dst s c K = some rv) : ∃ e, K e = some rv ∧ EffOk P o s e := by
  unfold ccall at h
  rw [hcf] at h
  simp only at h
  split at h
  · rename_i fid n cap hf
    split at h
    · rename_i args hargs
      split at h
      · rename_i S hS
        split at h
        · rename_i r hr
          have hbr := brT_req h; clear h; obtain ⟨hpre, h⟩ := hbr
          obtain ⟨hd, hwr, hnw, hok⟩ := hΓ _ _ hS _ _ _ hr hpre
          refine ⟨_, h, ?_⟩
          -- the call, from any world in which the operands are as told
          have main : ∀ X g w0 w (a : Act) (K' : Act → World → Prop) (Q : Exit → Act → World → Prop) (m : Nat), (∀ x ∈ o.op.operands.toList, relV g (s.ev x) (a.eval x)) → (∀ d ∈ r.rd, CellRel g w d.1 d.2.1 d.2.2) → WOk X w0 g w → X.n ≤ m → (∀ d ∈ r.rd, d.1 < m) → (∀ i, m ≤ i → g.β i = none) →
              (∀ v g' w', Done X w0 g w r m g' w' → relV g' (shiftV m r.cv) v → K' (a.put o.dst v) w') → o.wp P a w K' Q := by
            intro X g w0 w a K' Q m hops hdeps hw hxm hdm hfree hk
            have hopl : ∀ x ∈ c.operands.toList, relV g (s.ev x) (a.eval x) := by
              rw [ho] at hops; exact hops
            unfold Call.operands at hopl
            rw [hcf] at hopl
            have hfa := hopl f (by simp)
            rw [hf] at hfa
            obtain ⟨arr, he, hsz, hcap⟩ := hfa
            obtain ⟨h1, h2⟩ := argsOf_rel (a := a) hargs (fun x hx => hopl x (by simp [hx]))
            have hvals := hok X g w0 w m (c.args.map a.eval ++ arr) (by simp at h1; simp [h1, hsz]) (fun j c' u h3 h4 => by
              have hlen : (c.args.map a.eval).size = args.length := by simpa using h1
              rcases Nat.lt_or_ge j args.length with hj | hj
              · rw [List.getElem?_append_left hj] at h3
                rw [Array.getElem?_append_left (by omega)] at h4
                exact h2 j c' u h3 (by simpa using h4)
              · rw [List.getElem?_append_right hj] at h3
                rw [Array.getElem?_append_right (by omega)] at h4
                rw [hlen] at h4
                have hlt : j - args.length < n := by
                  rcases Nat.lt_or_ge (j - args.length) n with h | h
                  · exact h
                  · rw [Array.getElem?_eq_none (by omega)] at h4; cases h4
                rw [List.getElem?_map, List.getElem?_range hlt] at h3
                cases h3
                exact hcap _ u h4) hdeps hw hxm hdm hfree
            refine wp_of_callOk ?_ hvals fun v w' ⟨g', hdone, hr⟩ => hk v g' w' hdone hr
            simp [execOp, ho, resolve, hcf, he, Deferred.ofValue, invoke]
          have gen : EffOk P o s (.gen (calledSt s o.dst r)) := by
            intro X w0 m g a w K' Q hsim hdst hk
            refine main X g w0 w a K' Q s.nx (fun x _ => hsim.ev x) (fun d hd' => hsim.cells _ _ _ (hd d hd')) hsim.ok hsim.ln (fun d hd' => hsim.hx _ _ _ (hd d hd')) (free_nx hsim) fun v g' w' hdone hv => hk g' _ w' ?_
            refine ⟨tm_put (fun t => relV_mono hdone.le _ _ (hsim.tm t)) hsim.len hdst hv, by rw [put_size]; exact hsim.len, by rw [put_defers']; exact hsim.df, hdone.ok, fun i off cc hc => ?_, fun i b hb => ?_, fun i off cc hc => ?_, hsim.lo, by show X.n ≤ s.nx + r.nw.length; have := hsim.ln; omega⟩
            · rcases newArrs_get hc with ⟨k, rfl, rfl, h3⟩ | ⟨h1, h2⟩
              · exact hdone.nw k cc h3
              · rcases wrote_get h2 with ⟨d, h3, rfl, rfl, rfl⟩ | ⟨h3, h4⟩
                · have := hdone.wr d h3
                  rw [(hwr d h3).1] at this
                  exact this
                · have hlt := hsim.hx _ _ _ h4
                  refine (hsim.cells _ _ _ h4).keep hdone.le (hdone.β _ hlt) fun b hb => hdone.same _ (hsim.ok.fresh _ _ hb).2.1 fun d hd' hb' => ?_
                  exact h3 d hd' (hsim.ok.inj _ _ _ hb' hb)
            · show i < s.nx + r.nw.length
              rcases Nat.lt_or_ge i (s.nx + r.nw.length) with h1 | h1
              · exact h1
              · rw [hdone.top i h1] at hb; cases hb
            · show i < s.nx + r.nw.length
              rcases newArrs_get hc with ⟨k, rfl, rfl, h3⟩ | ⟨h1, h2⟩
              · have : k < r.nw.length := by
                  rcases Nat.lt_or_ge k r.nw.length with h4 | h4
                  · exact h4
                  · rw [List.getElem?_eq_none h4] at h3; cases h3
                omega
              · rcases wrote_get h2 with ⟨d, h3, rfl, rfl, rfl⟩ | ⟨h3, h4⟩
                · obtain ⟨_, e, l, _, _, h5, _⟩ := hwr d h3
                  have := hsim.hx _ _ _ h5; omega
                · have := hsim.hx _ _ _ h4; omega
          unfold resEff
          split
          · rename_i hn0 hw0 hown
            refine ⟨hd, fun X g w0 w a K' Q hops hdeps hw ⟨m, hxm, hdm, hfree⟩ hk => ?_⟩
            refine main X g w0 w a K' Q m hops hdeps hw hxm hdm hfree fun v g' w' hdone hv => hk v g' w' ⟨hdone.le, ?_, hdone.ok, hdone.size, fun k hk' => hdone.same k hk' (fun d hd' => by rw [hw0] at hd'; simp at hd')⟩ (by rw [shiftV_none hown] at hv; exact hv)
            funext i
            rcases Nat.lt_or_ge i m with h1 | h1
            · exact hdone.β i h1
            · rw [hfree i h1, hdone.top i (by rw [hn0]; simpa using h1)]
          · exact gen
        · cases h
      · cases h
    · cases h
  · cases h

/-- places of a fresh slice -/
theorem slice_places (len size i : Nat) : ((List.range len).map fun i => (i * size, size))[i]? = if i < len then some (i * size, size) else none := by
  rw [List.getElem?_map]
  split
  · rename_i h; rw [List.getElem?_range h]; rfl
  · rename_i h; rw [List.getElem?_eq_none (by simpa using h)]; rfl

theorem fill_congr {p q : Nat → Option (Nat × Nat)} : ∀ {vs : List (Nat × Value)} {arr arr' : Array Value}, (∀ i, ∀ x, p i = some x → q i = some x) → Instr.fill p arr vs = some arr' → Instr.fill q arr vs = some arr'
  | [], arr, arr', _, h => h
  | (i, v) :: vs, arr, arr', hpq, h => by
    simp only [Instr.fill] at h ⊢
    cases hp : p i with
    | none => rw [hp] at h; cases h
    | some x =>
      obtain ⟨off, size⟩ := x
      rw [hp] at h
      rw [hpq i _ hp]
      simp only at h ⊢
      split
      · rename_i hc; rw [if_pos hc] at h; cases h
      · rename_i hc; rw [if_neg hc] at h; exact fill_congr hpq h

theorem flat_get {α : Type} (z : List α) (len : Nat) : ∀ (j : Nat) c, ((List.range len).flatMap fun _ => z)[j]? = some c → z[j % z.length]? = some c ∧ j < len * z.length := by
  induction len with
  | zero => intro j c h; simp at h
  | succ len ih =>
    intro j c h
    rw [List.range_succ, List.flatMap_append] at h
    have hl : ((List.range len).flatMap fun _ => z).length = len * z.length := by
      clear h ih
      induction len with
      | zero => simp
      | succ len ih => rw [List.range_succ, List.flatMap_append, List.length_append, ih]; simp [Nat.succ_mul]
    rcases Nat.lt_or_ge j (len * z.length) with h1 | h1
    · rw [List.getElem?_append_left (by omega)] at h
      obtain ⟨h2, h3⟩ := ih j c h
      exact ⟨h2, by rw [Nat.succ_mul]; omega⟩
    · rw [List.getElem?_append_right (by omega), hl] at h
      simp at h
      have h2 : j - len * z.length < z.length := by
        rcases Nat.lt_or_ge (j - len * z.length) z.length with h' | h'
        · exact h'
        · rw [List.getElem?_eq_none h'] at h; cases h
      have h3 : j % z.length = j - len * z.length := by
        have : j = (j - len * z.length) + len * z.length := by omega
        rw [this, Nat.add_mul_mod_self_right, Nat.mod_eq_of_lt (by omega)]
        omega
      exact ⟨by rw [h3]; exact h, by rw [Nat.succ_mul]; omega⟩

theorem flat_length {α : Type} (z : List α) (len : Nat) : ((List.range len).flatMap fun _ => z).length = len * z.length := by
  induction len with
  | zero => simp
  | succ len ih => rw [List.range_succ, List.flatMap_append, List.length_append, ih]; simp [Nat.succ_mul]


end
end Go.Dv
