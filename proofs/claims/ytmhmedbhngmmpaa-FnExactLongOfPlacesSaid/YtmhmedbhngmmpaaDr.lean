/- **A function's contract out of its evaluation.** -/
import Derived.Test.YtmhmedbhngmmpaaDq
namespace Go.Dv
open Go.RowKit Go.Cv

section
variable {P : Program} {Γ : CEnv}

theorem okFn_of (hΓ : GoodC P Γ) (hm : P.follows .mixedOrders = true) {f : FuncId} {fn : Func} {body : Code} (hf : P.funcs[f]? = some fn) (hb : fn.body = some body) (hname : (fn.name == "runtime.NumGoroutine") = false)
    (hds : dstOk fn.ntmps body = true) {Λ : Nat → Option LSpec} (hΛ : ∀ i cc L, (loopsOf body)[i]? = some cc → Λ i = some L → LOk P fn.ntmps cc L) {sig ra : AS} {pre : sig.Ty → Bool} {p : sig.Ty → ra.Ty × List CS} {m : Nat} (hlen : ∀ x : sig.Ty, (encA sig x 0).1.length = m) (hmt : m ≤ fn.ntmps)
    (harr : ∀ x, ∀ c ∈ (p x).2, ∃ e l, c = .arr e l) (hra : ∀ y : ra.Ty, ∀ c ∈ (encR ra y 0).2, ∃ e l, c = .arr e l)
    (he : ∀ x, pre x = true → ∃ F, cwp R P Γ Λ F body 0 (retK P fn.results.toList ra sig.nOwn) (initSt sig x) = some (p x)) : OkFn P f (mkSpec sig ra pre p) := by
  classical
  intro hp args r hS hpre
  unfold mkSpec at hS
  split at hS
  rotate_left
  · cases hS
  rename_i x d o k hdec
  cases hcond : (nodupB (o.map (·.1)) && d.all (fun q => !memB q.1 (o.map (·.1))))
  · rw [hcond] at hS; cases hS
  rw [hcond] at hS
  simp only [cond_true] at hS
  cases hS
  rw [Bool.and_eq_true] at hcond
  obtain ⟨hnd, hdis⟩ := hcond
  have hpre : (k && pre x) = true := hpre
  rw [Bool.and_eq_true] at hpre
  obtain ⟨rfl, hpre⟩ := hpre
  have hdec := uA_spec hdec
  obtain ⟨hdd, hoo, hol⟩ := decA_deps _ _ _ _ _ _ hdec
  refine ⟨fun q hq => ?_, fun q hq => ?_, hra _, ?_⟩
  · rcases List.mem_append.1 hq with hq | hq
    · exact hdd q hq
    · obtain ⟨t, ht, rfl⟩ := List.mem_map.1 hq
      exact (hoo t ht).1
  · obtain ⟨i, id, c0, c, h1, h2, rfl⟩ := zipW_mem hq
    obtain ⟨h3, e, l, h4⟩ := hoo _ (List.mem_of_getElem? h1)
    obtain ⟨e', l', h5⟩ := harr x c (List.mem_of_getElem? h2)
    exact ⟨rfl, e, l, e', l', by rw [h3]; exact congrArg some h4, h5⟩
  intro X g w0 w base vals hsz hrel hcell hok hbase hdb hfree
  have hcell : ∀ q ∈ d ++ o.map (fun q => (q.1, 0, q.2)), CellRel g w q.1 q.2.1 q.2.2 := hcell
  have hdb : ∀ q ∈ d ++ o.map (fun q => (q.1, 0, q.2)), q.1 < base := hdb
  have hcall : (callFunc f vals).run P w = .ok (.enter f vals) w := by
    have hname' : ¬ fn.name = "runtime.NumGoroutine" := by simpa using hname
    simp [callFunc, hf, hname', hb]
  unfold CallOk
  rw [hcall]
  simp only
  refine calls_of_wp hf hb ?_
  -- what the call is handed
  let ids := o.map (·.1)
  have hidl : ids.length = sig.nOwn := by simp [ids, hol]
  let Xc : Fr := { n := sig.nOwn, β0 := fun i => (ids[i]?).bind g.β, cp0 := fun i => ((ids[i]?).map g.cp).getD 0, m0 := g.im }
  let gc : Gh := { β := Xc.β0, cp := Xc.cp0, im := g.im, bi := fun k => if Xc.wr k then none else w.heap[k]? }
  have hwr : ∀ k, Xc.wr k → ∃ i id, ids[i]? = some id ∧ g.β id = some k := fun k ⟨i, hi, h1⟩ => by
    have h1 : (ids[i]?).bind g.β = some k := h1
    cases hid : ids[i]? with
    | none => rw [hid] at h1; cases h1
    | some id => rw [hid] at h1; exact ⟨i, id, hid, h1⟩
  have hwrb : ∀ k, Xc.wr k → k < w.heap.size ∧ g.bi k = none ∧ (w0.heap.size ≤ k ∨ X.wr k) := fun k hk => by
    obtain ⟨i, id, _, h2⟩ := hwr k hk
    obtain ⟨h3, h4, h5⟩ := hok.fresh _ _ h2
    exact ⟨h4, h5, h3.imp_right And.left⟩
  have hgb : ∀ k ob, g.bi k = some ob → gc.bi k = some ob := fun k ob hk => by
    show (if Xc.wr k then none else w.heap[k]?) = some ob
    rw [if_neg fun hx => by rw [(hwrb k hx).2.1] at hk; cases hk]
    exact hok.bi k ob hk
  have hdep : ∀ q ∈ d, DepOk g gc w q := fun q hq => by
    refine ⟨hcell q (List.mem_append_left _ hq), fun b hb => ?_⟩
    show (if Xc.wr b then none else w.heap[b]?) = w.heap[b]?
    rw [if_neg fun hx => ?_]
    obtain ⟨i, id, h1, h2⟩ := hwr b hx
    have h3 := hok.inj _ _ _ hb h2
    have h4 := List.all_eq_true.1 hdis q hq
    rw [h3] at h4
    have h5 : memB id (o.map (·.1)) = true := memB_spec.2 (List.mem_of_getElem? h1)
    rw [h5] at h4; cases h4
  have hnamed : Named g gc 0 o := fun i id c hi => by
    have h1 : ids[i]? = some id := by simp [ids, hi]
    rw [Nat.zero_add]
    refine ⟨?_, ?_⟩
    · show (ids[i]?).bind g.β = _; rw [h1]; rfl
    · show ((ids[i]?).map g.cp).getD 0 = _; rw [h1]; rfl
  obtain ⟨v1, v2, v3, v4⟩ := decA_view (gc := gc) hgb hok.im sig args [] x d o 0 vals 0 hdec hdep hnamed (fun j c u hj hu => hrel j c u hj (by simpa using hu))
  have v4 := v4 (by omega)
  simp at v1
  have hsz2 : vals.size = m := by rw [hsz, ← v1, hlen]
  -- the arrays of the caller's that may be written
  have hown : ∀ (i : Nat) (c : CS), (encA sig x 0).2[i]? = some c → ∃ (id : Nat) (e : Sh) (l : List e.Ty), ids[i]? = some id ∧ c = CS.arr e l ∧ ArrRel g w id e l := fun i c hi => by
    rw [v3, List.getElem?_map] at hi
    cases ho : o[i]? with
    | none => rw [ho] at hi; cases hi
    | some t =>
      rw [ho] at hi; cases hi
      obtain ⟨h1, e, l, h2⟩ := hoo t (List.mem_of_getElem? ho)
      have h3 := hcell (t.1, 0, t.2) (List.mem_append_right _ (List.mem_map.2 ⟨t, List.mem_of_getElem? ho, rfl⟩))
      rcases h3 with ⟨e', l', h4, _, h5⟩ | ⟨_, _, _, _, _, _, _, hf⟩
      · refine ⟨t.1, e', l', ?_, h4, h5⟩
        show (o.map (·.1))[i]? = _
        rw [List.getElem?_map, ho]; rfl
      · have hf : rel g t.2 _ := hf
        rw [h2] at hf; exact hf.elim
  have hokc : WOk Xc w gc w := by
    refine ⟨Keep.refl _ _, fun k ob hk => hgb k ob (hok.im k ob hk), fun k ob hk => ?_, fun i j b h1 h2 => ?_, fun i b h1 => ?_, fun k c t fr hk hc => ?_, fun _ _ h => h, fun k ob hk => .inl hk, fun i _ => ⟨rfl, rfl⟩⟩
    · have hk : (if Xc.wr k then none else w.heap[k]?) = some ob := hk
      split at hk
      · cases hk
      · exact hk
    · have h1 : (ids[i]?).bind g.β = some b := h1
      have h2 : (ids[j]?).bind g.β = some b := h2
      cases hi : ids[i]? with
      | none => rw [hi] at h1; cases h1
      | some a =>
        cases hj : ids[j]? with
        | none => rw [hj] at h2; cases h2
        | some a' =>
          rw [hi] at h1; rw [hj] at h2
          have := hok.inj _ _ _ h1 h2
          subst this
          exact nodupB_spec hnd i j a hi hj
    · have h1' : (ids[i]?).bind g.β = some b := h1
      cases hi : ids[i]? with
      | none => rw [hi] at h1'; cases h1'
      | some a =>
        rw [hi] at h1'
        have hil : i < sig.nOwn := by
          rw [← hidl]
          rcases Nat.lt_or_ge i ids.length with h | h
          · exact h
          · rw [List.getElem?_eq_none h] at hi; cases hi
        have hx : Xc.wr b := ⟨i, hil, h1⟩
        refine ⟨.inr ⟨hx, hil⟩, (hwrb b hx).1, ?_⟩
        show (if Xc.wr b then none else w.heap[b]?) = none
        rw [if_pos hx]
    · rcases hk with hk | hk
      · rw [Array.getElem?_eq_none hk] at hc; cases hc
      · refine hok.fz k c t fr (hwrb k hk).2.2 hc
  have hsim : Sim Xc w fn.ntmps (initSt sig x) gc { tmps := vals ++ Array.replicate (fn.ntmps - vals.size) undef, defers := [] } w := by
    refine ⟨fun t => ?_, by simp; omega, rfl, hokc, fun id off c hc => ?_, fun i b hb => ?_, fun i off c hc => ?_, rfl, Nat.le_refl _⟩
    · show relV gc (initTm (encA sig x 0).1 t) _
      cases ha : (encA sig x 0).1[t]? with
      | none =>
        rw [initTm_ge ha]
        have ht : vals.size ≤ t := by
          rcases Nat.lt_or_ge t (encA sig x 0).1.length with h | h
          · rw [List.getElem?_eq_getElem h] at ha; cases ha
          · rw [hlen] at h; omega
        show (vals ++ Array.replicate (fn.ntmps - vals.size) undef).getD t undef = undef
        simp only [Array.getD_eq_getD_getElem?, Array.getElem?_append_right ht]
        rcases Nat.lt_or_ge (t - vals.size) (fn.ntmps - vals.size) with h | h
        · simp [h]
        · rw [Array.getElem?_eq_none (by simpa using h)]; rfl
      | some c =>
        rw [initTm_lt ha]
        have ht : t < vals.size := by
          rw [hsz2, ← hlen x]
          rcases Nat.lt_or_ge t (encA sig x 0).1.length with h | h
          · exact h
          · rw [List.getElem?_eq_none h] at ha; cases ha
        have hval : (vals ++ Array.replicate (fn.ntmps - vals.size) undef).getD t undef = vals[t] := by
          simp only [Array.getD_eq_getD_getElem?, Array.getElem?_append_left ht]; simp [ht]
        rw [hval]
        exact v4 t c vals[t] ha (by simp [ht])
    · have hc : (bif Nat.beq off 0 then (encA sig x 0).2[id]? else none) = some c := hc
      cases off with
      | succ off => cases hc
      | zero =>
        obtain ⟨id', e, l, h1, h2, h3⟩ := hown id c hc
        refine .inl ⟨e, l, h2, rfl, ?_⟩
        have e1 : gc.β id = g.β id' := by show (ids[id]?).bind g.β = _; rw [h1]; rfl
        have e2 : gc.cp id = g.cp id' := by show ((ids[id]?).map g.cp).getD 0 = _; rw [h1]; rfl
        rcases h3 with ⟨h3, h4⟩ | ⟨b, arr, T, h3, h4, h5, h6, h7⟩
        · exact .inl ⟨h3, by rw [e1]; exact h4⟩
        · exact .inr ⟨b, arr, T, by rw [e1]; exact h3, h4, by rw [e2]; exact h5, by rw [e2]; exact h6, h7⟩
    · have hb' : (ids[i]?).bind g.β = some b := hb
      show i < sig.nOwn
      rw [← hidl]
      rcases Nat.lt_or_ge i ids.length with h | h
      · exact h
      · rw [List.getElem?_eq_none h] at hb'; cases hb'
    · have hc : (bif Nat.beq off 0 then (encA sig x 0).2[i]? else none) = some c := hc
      show i < sig.nOwn
      have h1 : (encA sig x 0).2[i]? = some c := by
        cases off with
        | zero => exact hc
        | succ off => cases hc
      rw [v3] at h1
      have : i < (o.map (·.2)).length := by
        rcases Nat.lt_or_ge i (o.map (·.2)).length with h | h
        · exact h
        · rw [List.getElem?_eq_none h] at h1; cases h1
      simpa [hol] using this
  obtain ⟨F, hev⟩ := he x hpre
  refine cwp_sound hΓ hm body 0 _ _ hds (fun i cc L h1 h2 => hΛ i cc L h1 (by simpa using h2)) hev hsim fun e s' g' a' w' hk hs' => ?_
  have fin : retS P fn.results.toList ra sig.nOwn s' = some (p x) → a'.defers = [] ∧ ∃ v, (results fn a'.tmps).run P w' = .ok v w' ∧ ∃ v', Ending.returned v = .returned v' ∧ ∃ g'', Done X w0 g w { pre := pre x, cv := retCV (encR ra (p x).1 0).1, nw := (encR ra (p x).1 0).2, rd := d ++ o.map (fun q => (q.1, 0, q.2)), wr := zipW o (p x).2 } base g'' w' ∧ relV g'' (shiftV base (retCV (encR ra (p x).1 0).1)) v' := fun hret => by
    unfold retS at hret
    split at hret
    rotate_left
    · cases hret
    rename_i cs hcs
    split at hret
    rotate_left
    · cases hret
    rename_i r oids hdr
    cases hids : ((someIds oids).all (fun i => Nat.ble sig.nOwn i) && nodupB (someIds oids))
    · rw [hids] at hret; cases hret
    rw [hids] at hret
    simp only [cond_true] at hret
    rw [Bool.and_eq_true] at hids
    obtain ⟨hge, hnd2⟩ := hids
    split at hret
    rotate_left
    · cases hret
    rename_i ws hws
    have hpx : p x = (r, ws) := (Option.some.inj hret).symm
    rw [hpx]
    obtain ⟨v, hr, hv⟩ := run_results hs' hcs
    have hok' := hs'.ok
    obtain ⟨hwl, hwc⟩ := wrOut_spec hws
    -- the caller's names behind the call
    let g2 : Gh := { β := fun i => if i < base then g.β i else (match oids[i - base]? with | some (some id) => g'.β id | _ => none),
                     cp := fun i => if i < base then g.cp i else (match oids[i - base]? with | some (some id) => g'.cp id | _ => 0),
                     im := g'.im, bi := fun k => match g'.im k with | some ob => some ob | none => g.bi k }
    have hgim : ∀ k ob, g.im k = some ob → g'.im k = some ob := hok'.base
    have hold : ∀ i, i < base → g2.β i = g.β i ∧ g2.cp i = g.cp i := fun i hi => ⟨if_pos hi, if_pos hi⟩
    have hnew : ∀ (i id : Nat), oids[i]? = some (some id) → g2.β (base + i) = g'.β id ∧ g2.cp (base + i) = g'.cp id := fun i id hi => by
      have e1 : base + i - base = i := by omega
      refine ⟨?_, ?_⟩
      · show (if base + i < base then _ else (match oids[base + i - base]? with | some (some id) => g'.β id | _ => none)) = _
        rw [if_neg (by omega), e1, hi]
      · show (if base + i < base then _ else (match oids[base + i - base]? with | some (some id) => g'.cp id | _ => 0)) = _
        rw [if_neg (by omega), e1, hi]
    have hnone : ∀ i, oids[i]? = some none ∨ oids[i]? = none → g2.β (base + i) = none := fun i hi => by
      have e1 : base + i - base = i := by omega
      show (if base + i < base then _ else (match oids[base + i - base]? with | some (some id) => g'.β id | _ => none)) = _
      rw [if_neg (by omega), e1]
      rcases hi with hi | hi <;> rw [hi]
    -- a name of the caller's, or one of the new arrays
    have hcase : ∀ i b, g2.β i = some b → (i < base ∧ g.β i = some b) ∨ ∃ j id, i = base + j ∧ oids[j]? = some (some id) ∧ g'.β id = some b := fun i b hi => by
      rcases Nat.lt_or_ge i base with h | h
      · rw [(hold i h).1] at hi; exact .inl ⟨h, hi⟩
      · have e1 : i = base + (i - base) := by omega
        rw [e1] at hi
        cases ho : oids[i - base]? with
        | none => rw [hnone _ (.inr ho)] at hi; cases hi
        | some t =>
          cases t with
          | none => rw [hnone _ (.inl ho)] at hi; cases hi
          | some id => rw [(hnew _ _ ho).1] at hi; exact .inr ⟨_, id, e1, ho, hi⟩
    have hgeid : ∀ j id, oids[j]? = some (some id) → sig.nOwn ≤ id := fun j id hj => Nat.le_of_ble_eq_true (List.all_eq_true.1 hge id (someIds_mem hj))
    have hnewb : ∀ j id b, oids[j]? = some (some id) → g'.β id = some b → w.heap.size ≤ b ∧ b < w'.heap.size ∧ g'.bi b = none := fun j id b hj hb => by
      obtain ⟨h1, h2, h3⟩ := hok'.fresh _ _ hb
      refine ⟨?_, h2, h3⟩
      rcases h1 with h1 | ⟨_, h1⟩
      · exact h1
      · have := hgeid j id hj
        have h1 : id < sig.nOwn := h1
        omega
    have hsame : ∀ k, k < w.heap.size → ¬ Xc.wr k → w'.heap[k]? = w.heap[k]? := hok'.keep.block
    have hle : g.le g2 := by
      refine ⟨fun i b hi => ?_, hgim, fun k ob hk => ?_⟩
      · have hlt : i < base := by
          rcases Nat.lt_or_ge i base with h | h
          · exact h
          · rw [hfree i h] at hi; cases hi
        exact ⟨by rw [(hold i hlt).1]; exact hi, (hold i hlt).2⟩
      · show (match g'.im k with | some ob => some ob | none => g.bi k) = some ob
        cases him : g'.im k with
        | none => exact hk
        | some ob' =>
          rcases hok'.imf k ob' him with h | h
          · have h : g.im k = some ob' := h
            have := hok.im _ _ h
            rw [hk] at this; exact this.symm
          · have := lt_of_block (hok.bi k ob hk); omega
    have hok2 : WOk X w0 g2 w' := by
      refine ⟨⟨hok'.keep.os.trans hok.keep.os, hok'.keep.tape.trans hok.keep.tape, hok'.keep.output.trans hok.keep.output, Nat.le_trans hok.keep.size hok'.keep.size, fun k hk hx => ?_⟩, fun k ob hk => ?_, fun k ob hk => ?_, fun i j b h1 h2 => ?_, fun i b h1 => ?_, fun k c t fr hk hc => ?_, fun k ob hk => hgim k ob (hok.base k ob hk), fun k ob hk => ?_, fun i hi => ?_⟩
      · rw [hsame k (by have := hok.keep.size; omega) (fun h => ?_)]
        · exact hok.keep.block k hk hx
        · rcases (hwrb k h).2.2 with h1 | h1
          · omega
          · exact hx h1
      · show (match g'.im k with | some ob => some ob | none => g.bi k) = some ob
        have hk : g'.im k = some ob := hk
        rw [hk]
      · have hk : (match g'.im k with | some ob => some ob | none => g.bi k) = some ob := hk
        cases him : g'.im k with
        | some ob' => rw [him] at hk; cases hk; exact hok'.imh k ob him
        | none =>
          rw [him] at hk
          have h1 := hok.bi k ob hk
          rw [hsame k (lt_of_block h1) (fun h => by rw [(hwrb k h).2.1] at hk; cases hk)]
          exact h1
      · rcases hcase i b h1 with ⟨h3, h4⟩ | ⟨a, id, rfl, h4, h5⟩ <;> rcases hcase j b h2 with ⟨h6, h7⟩ | ⟨a', id', rfl, h7, h8⟩
        · exact hok.inj _ _ _ h4 h7
        · have := (hok.fresh _ _ h4).2.1; have := (hnewb _ _ _ h7 h8).1; omega
        · have := (hok.fresh _ _ h7).2.1; have := (hnewb _ _ _ h4 h5).1; omega
        · have := hok'.inj _ _ _ h5 h8
          subst this
          rw [someIds_inj hnd2 h4 h7]
      · rcases hcase i b h1 with ⟨h3, h4⟩ | ⟨a, id, rfl, h4, h5⟩
        · obtain ⟨h5, h6, h7⟩ := hok.fresh _ _ h4
          refine ⟨h5, by have := hok'.keep.size; omega, ?_⟩
          show (match g'.im b with | some ob => some ob | none => g.bi b) = none
          cases him : g'.im b with
          | none => exact h7
          | some ob' =>
            rcases hok'.imf b ob' him with h | h
            · have h : g.im b = some ob' := h
              have := hok.im _ _ h; rw [h7] at this; cases this
            · omega
        · obtain ⟨h6, h7, h8⟩ := hnewb _ _ _ h4 h5
          refine ⟨.inl (by have := hok.keep.size; omega), h7, ?_⟩
          show (match g'.im b with | some ob => some ob | none => g.bi b) = none
          cases him : g'.im b with
          | some ob' => have := hok'.im _ _ him; rw [h8] at this; cases this
          | none =>
            cases hgb' : g.bi b with
            | none => rfl
            | some ob' => have := lt_of_block (hok.bi _ _ hgb'); omega
      · rcases Nat.lt_or_ge k w.heap.size with h1 | h1
        · by_cases hx : Xc.wr k
          · exact hok'.fz k c t fr (.inr hx) hc
          · rw [hsame k h1 hx] at hc
            exact hok.fz k c t fr hk hc
        · exact hok'.fz k c t fr (.inl h1) hc
      · have hk : g'.im k = some ob := hk
        rcases hok'.imf k ob hk with h | h
        · exact hok.imf k ob h
        · exact .inr (by have := hok.keep.size; omega)
      · have hlt : i < base := by omega
        rw [(hold i hlt).1, (hold i hlt).2]
        exact hok.pin i hi
    obtain ⟨r1, r2, r3, r4, r5⟩ := decR_spec (g := g') (g2 := g2) ra cs [] r oids 0 base hdr (fun i id hi => by rw [Nat.zero_add]; exact hnew i id hi)
    simp at r1
    have hdone : Done X w0 g w { pre := pre x, cv := retCV (encR ra r 0).1, nw := (encR ra r 0).2, rd := d ++ o.map (fun q => (q.1, 0, q.2)), wr := zipW o ws } base g2 w' := by
      refine ⟨hle, fun i hi => (hold i hi).1, fun i hi => ?_, hok2, hok'.keep.size, fun k hk hwrk => ?_, fun q hq => ?_, fun k c hc => ?_⟩
      · have hi : base + (encR ra r 0).2.length ≤ i := hi
        have e1 : i = base + (i - base) := by omega
        rw [e1]
        exact hnone _ (.inr (List.getElem?_eq_none (by omega)))
      · refine hsame k hk fun h => ?_
        obtain ⟨i, id, h1, h2⟩ := hwr k h
        have hio : i < o.length := by
          rcases Nat.lt_or_ge i o.length with h | h
          · exact h
          · rw [List.getElem?_eq_none (by simpa [ids] using h)] at h1; cases h1
        have hiw : i < ws.length := by omega
        have h3 : o[i]? = some (id, (o[i]).2) := by
          have : (o[i]).1 = id := by simpa [ids, hio] using h1
          rw [List.getElem?_eq_getElem hio, ← this]
        exact hwrk _ (mem_zipW h3 (List.getElem?_eq_getElem hiw)) h2
      · have hq : q ∈ zipW o ws := hq
        obtain ⟨i, id, c0, c, h1, h2, rfl⟩ := zipW_mem hq
        obtain ⟨h3, e, l, rfl⟩ := hwc i c h2
        rw [Nat.zero_add] at h3
        have hidlt : id < base := hdb (id, 0, c0) (List.mem_append_right _ (List.mem_map.2 ⟨(id, c0), List.mem_of_getElem? h1, rfl⟩))
        have hii : ids[i]? = some id := by simp [ids, h1]
        have hin : i < sig.nOwn := by
          rw [← hidl]
          rcases Nat.lt_or_ge i ids.length with h | h
          · exact h
          · rw [List.getElem?_eq_none h] at hii; cases hii
        obtain ⟨p1, p2⟩ := hok'.pin i hin
        have p1 : g'.β i = g.β id := p1.trans (by show (ids[i]?).bind g.β = _; rw [hii]; rfl)
        have p2 : g'.cp i = g.cp id := p2.trans (by show ((ids[i]?).map g.cp).getD 0 = _; rw [hii]; rfl)
        rcases hs'.cells _ _ _ h3 with ⟨e', l', h4, _, h5⟩ | ⟨_, _, _, _, _, _, _, hf⟩
        · cases h4
          refine .inl ⟨e, l, rfl, rfl, ?_⟩
          rcases h5 with ⟨h5, h6⟩ | ⟨b, arr, T, h5, h6, h7, h8, h9⟩
          · exact .inl ⟨h5, by rw [(hold id hidlt).1, ← p1]; exact h6⟩
          · exact .inr ⟨b, arr, T, by rw [(hold id hidlt).1, ← p1]; exact h5, h6, by rw [(hold id hidlt).2, ← p2]; exact h7, by rw [(hold id hidlt).2, ← p2]; exact h8, h9⟩
        · exact hf.elim
      · have hc : (encR ra r 0).2[k]? = some c := hc
        obtain ⟨⟨e, l, rfl⟩, h2⟩ := r4 k c hc
        rcases h2 with ⟨id, h3, h4⟩ | ⟨h3, e', h4⟩
        · obtain ⟨p1, p2⟩ := hnew k id h3
          rcases hs'.cells _ _ _ h4 with ⟨e', l', h5, _, h6⟩ | ⟨_, _, _, _, _, _, _, hf⟩
          · cases h5
            refine .inl ⟨e, l, rfl, rfl, ?_⟩
            rcases h6 with ⟨h5, h6⟩ | ⟨b, arr, T, h5, h6, h7, h8, h9⟩
            · exact .inl ⟨h5, by rw [p1]; exact h6⟩
            · exact .inr ⟨b, arr, T, by rw [p1]; exact h5, h6, by rw [p2]; exact h7, by rw [p2]; exact h8, h9⟩
          · exact hf.elim
        · cases h4
          exact .inl ⟨e, [], rfl, rfl, .inl ⟨rfl, hnone k (.inl h3)⟩⟩
    refine ⟨hs'.df, v, hr, v, rfl, g2, hdone, ?_⟩
    rw [shiftV_ret]
    refine relV_ret (by simp [r1]) (fun j c c' u hj hj' hu => ?_) hv
    simp at hj
    obtain ⟨c1, h1, rfl⟩ := hj
    exact r5 j c1 c u h1 hj' hu
  cases e with
  | normal => exact fin (retU_spec hk)
  | ret => exact fin (retU_spec hk)
  | exit id => cases hk
  | goto l => cases hk
  | panic c => cases hk
  | outgrown => cases hk

end
end Go.Dv
