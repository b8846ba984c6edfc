/- Functions that are handed an array for good and give it back, longer. -/
import Derived.Test.YtbgpobiaaebbeaaGreatDoorDs

namespace Go.Dv
open Go.RowKit Go.Cv

def flatSh : Sh → Bool
  | .ls _ => false
  | .pair a b => flatSh a && flatSh b
  | _ => true
theorem relT_flat {m m' : Nat → Option Obj} : ∀ (s : Sh) (x : s.Ty) {A : Nat → Value → Prop}, flatSh s = true → relT m s x A → relT m' s x A
  | .fl _, _, _, _, h => h
  | .int _, _, _, _, h => h
  | .bool, _, _, _, h => h
  | .str, _, _, _, h => h
  | .cx _, _, _, _, h => h
  | .ifc, _, _, _, h => h
  | .ls _, _, _, hf, _ => by cases hf
  | .pair a b, x, A, hf, ⟨h1, h2⟩ => by
    have hf : (flatSh a && flatSh b) = true := hf
    rw [Bool.and_eq_true] at hf
    exact ⟨relT_flat a x.1 hf.1 h1, relT_flat b x.2 (A := fun k u => A (a.size + k) u) hf.2 h2⟩

/-- the beginning of such a function: the array is its own -/
def initE (sig : AS) (x : sig.Ty) : St :=
  { tm := initTm (encA sig x 0).1, hp := fun i o => bif Nat.beq o 0 then (encA sig x 0).2[i]? else none, nx := 1, lo := 0 }

/-- its contract: the caller's name is given up -/
def eatSpec (sig ra : AS) (pre : sig.Ty → Bool) (p : sig.Ty → ra.Ty × List CS) : FSpec := fun hp args =>
  match uA hp sig args with
  | some ((x, d, [(id, c)], k), []) => bif d.all (fun q => !Nat.beq q.1 id) then
      some { pre := k && pre x, cv := retCV (encR ra (p x).1 0).1, nw := (encR ra (p x).1 0).2, rd := d ++ [(id, 0, c)], wr := [], eat := some id } else none
  | _ => none

variable {P : Program} {Γ : CEnv}

theorem okFn_eat (hΓ : GoodC P Γ) (hm : P.follows .mixedOrders = true) {f : FuncId} {fn : Func} {body : Code} (hf : P.funcs[f]? = some fn) (hb : fn.body = some body) (hname : (fn.name == "runtime.NumGoroutine") = false)
    (hds : dstOk fn.ntmps body = true) {Λ : Nat → Option LSpec} (hΛ : ∀ i cc L, (loopsOf body)[i]? = some cc → Λ i = some L → LOk P fn.ntmps cc L) {sig ra : AS} {pre : sig.Ty → Bool} {p : sig.Ty → ra.Ty × List CS} {m : Nat} (hlen : ∀ x : sig.Ty, (encA sig x 0).1.length = m) (hmt : m ≤ fn.ntmps)
    (hra : ∀ y : ra.Ty, ∀ c ∈ (encR ra y 0).2, ∃ e l, c = .arr e l ∧ flatSh e = true)
    (he : ∀ x, pre x = true → ∃ F, cwp R P Γ Λ F body 0 (retK P fn.results.toList ra 0) (initE sig x) = some (p x)) : OkFn P f (eatSpec sig ra pre p) := by
  classical
  intro hp args r hS hpre
  unfold eatSpec at hS
  split at hS
  rotate_left
  · cases hS
  rename_i x d id c0 k hdec
  cases hdis : d.all (fun q => !Nat.beq q.1 id)
  · rw [hdis] at hS; cases hS
  rw [hdis] at hS
  simp only [cond_true] at hS
  cases hS
  have hpre : (k && pre x) = true := hpre
  rw [Bool.and_eq_true] at hpre
  obtain ⟨rfl, hpre⟩ := hpre
  have hdec := uA_spec hdec
  obtain ⟨hdd, hoo, hol⟩ := decA_deps _ _ _ _ _ _ hdec
  obtain ⟨hid, hcarr⟩ := hoo (id, c0) (by simp)
  have hid : hp id 0 = some c0 := hid
  obtain ⟨e1, l1, hc0⟩ := hcarr
  have hc0 : c0 = .arr e1 l1 := hc0
  refine ⟨fun q hq => ?_, (fun q hq => nomatch hq), fun c hc => ?_, ?_⟩
  · rcases List.mem_append.1 hq with hq | hq
    · exact hdd q hq
    · simp at hq; subst hq; exact hid
  · obtain ⟨e, l, h, _⟩ := hra _ c hc; exact ⟨e, l, h⟩
  intro X g w0 w base vals hsz hrel hcell hok hbase hdb hfree
  have hcell : ∀ q ∈ d ++ [(id, 0, c0)], CellRel g w q.1 q.2.1 q.2.2 := hcell
  have hidb : id < base := hdb (id, 0, c0) (List.mem_append_right _ (by simp))
  have hcall : (callFunc f vals).run P w = .ok (.enter f vals) w := by
    have hname' : ¬ fn.name = "runtime.NumGoroutine" := by simpa using hname
    simp [callFunc, hf, hname', hb]
  unfold CallOk
  rw [hcall]
  simp only
  refine calls_of_wp hf hb ?_
  let m0 : Nat → Option Obj := fun k => if g.β id = some k then none else w.heap[k]?
  have m0_old : ∀ k, g.β id ≠ some k → m0 k = w.heap[k]? := fun k h => if_neg h
  have m0_bi : ∀ k o, g.bi k = some o → m0 k = some o := fun k o h => by
    rw [m0_old k fun hb => by rw [(hok.fresh _ _ hb).2.2] at h; cases h]
    exact hok.bi k o h
  have m0_w : ∀ k o, m0 k = some o → w.heap[k]? = some o := fun k o h => by
    have h : (if g.β id = some k then none else w.heap[k]?) = some o := h
    split at h
    · cases h
    · exact h
  let Xc : Fr := { n := 0, β0 := fun _ => none, cp0 := fun _ => 0, m0 := m0, q := GQ_mono (fun k o h => m0_bi k o (hok.im k o (hok.base k o h))) X.q }
  let gc : Gh := { β := fun i => if i = 0 then g.β id else none, cp := fun i => if i = 0 then g.cp id else 0, im := m0, bi := m0 }
  let w00 : World := { w with heap := #[] }
  have gc0 : ∀ i b, gc.β i = some b → i = 0 ∧ g.β id = some b := fun i b h => by
    have h : (if i = 0 then g.β id else none) = some b := h
    by_cases e : i = 0
    · rw [if_pos e] at h; exact ⟨e, h⟩
    · rw [if_neg e] at h; cases h
  have hdep : ∀ q ∈ d, DepOk g gc w q := fun q hq => by
    refine ⟨hcell q (List.mem_append_left _ hq), fun b hb => m0_old b fun h => ?_⟩
    have h3 := hok.inj _ _ _ hb h
    have h4 := List.all_eq_true.1 hdis q hq
    rw [h3, Nat.beq_refl] at h4; cases h4
  have hnamed : Named g gc 0 [(id, c0)] := fun i id' c hi => by
    match i, hi with
    | 0, hi =>
      simp at hi
      obtain ⟨rfl, _⟩ := hi
      exact ⟨rfl, rfl⟩
    | i + 1, hi => simp at hi
  obtain ⟨v1, v2, v3, v4⟩ := decA_view (gc := gc) m0_bi hok.im (fun k o h => m0_bi k o (hok.im k o h)) sig args [] x d [(id, c0)] 0 vals 0 hdec hdep hnamed (fun j c u hj hu => hrel j c u hj (by simpa using hu))
  have v4 := v4 (by omega)
  simp at v1
  have v3 : (encA sig x 0).2 = [c0] := v3
  have hsz2 : vals.size = m := by rw [hsz, ← v1, hlen]
  have harr : ArrRel g w id e1 l1 := by
    rcases hcell (id, 0, c0) (List.mem_append_right _ (by simp)) with ⟨e', l', h4, _, h5⟩ | ⟨_, _, _, _, _, _, _, hf⟩
    · have h4 : c0 = .arr e' l' := h4
      rw [hc0] at h4; cases h4; exact h5
    · have hf : rel g c0 _ := hf
      rw [hc0] at hf; exact hf.elim
  have hokc : WOk Xc w00 gc w := by
    refine ⟨⟨rfl, rfl, rfl, Nat.zero_le _, fun k hk _ => absurd hk (Nat.not_lt_zero _)⟩, fun k o h => h, m0_w, fun i j b h1 h2 => by rw [(gc0 i b h1).1, (gc0 j b h2).1], fun i b h1 => ?_, trivial, fun k o h => h, fun k o h => .inl h, fun i hi => absurd hi (Nat.not_lt_zero _)⟩
    obtain ⟨_, h2⟩ := gc0 i b h1
    exact ⟨.inl (Nat.zero_le _), (hok.fresh _ _ h2).2.1, if_pos h2⟩
  have hsim : Sim Xc w00 fn.ntmps (initE sig x) gc { tmps := vals ++ Array.replicate (fn.ntmps - vals.size) undef, defers := [] } w := by
    refine ⟨fun t => ?_, by simp; omega, rfl, hokc, fun i off c hc => ?_, fun i b hb => ?_, fun i off c hc => ?_, rfl, Nat.zero_le _⟩
    · show relV gc (initTm (encA sig x 0).1 t) _
      cases ha : (encA sig x 0).1[t]? with
      | none =>
        rw [initTm_ge ha]
        have ht : vals.size ≤ t := by
          rcases Nat.lt_or_ge t (encA sig x 0).1.length with h | h
          · rw [List.getElem?_eq_getElem h] at ha; cases ha
          · rw [hlen] at h; omega
        show (vals ++ Array.replicate (fn.ntmps - vals.size) undef).getD t undef = undef
        simp only [Array.getD_eq_getD_getElem?, Array.getElem?_append_right ht]
        rcases Nat.lt_or_ge (t - vals.size) (fn.ntmps - vals.size) with h | h
        · simp [h]
        · rw [Array.getElem?_eq_none (by simpa using h)]; rfl
      | some c =>
        rw [initTm_lt ha]
        have ht : t < vals.size := by
          rw [hsz2, ← hlen x]
          rcases Nat.lt_or_ge t (encA sig x 0).1.length with h | h
          · exact h
          · rw [List.getElem?_eq_none h] at ha; cases ha
        have hval : (vals ++ Array.replicate (fn.ntmps - vals.size) undef).getD t undef = vals[t] := by
          simp only [Array.getD_eq_getD_getElem?, Array.getElem?_append_left ht]; simp [ht]
        rw [hval]
        exact v4 t c vals[t] ha (by simp [ht])
    · have hc : (bif Nat.beq off 0 then (encA sig x 0).2[i]? else none) = some c := hc
      rw [v3] at hc
      cases off with
      | succ off => cases hc
      | zero =>
        cases i with
        | succ i => simp at hc
        | zero =>
          simp at hc
          subst hc
          refine .inl ⟨e1, l1, hc0, rfl, ?_⟩
          rcases harr with ⟨h3, h4⟩ | ⟨b, arr, T, h3, h4, h5, h6, h7⟩
          · exact .inl ⟨h3, h4⟩
          · exact .inr ⟨b, arr, T, h3, h4, h5, h6, fun i x hx => relT_mono (fun k o h => m0_bi k o (hok.im k o h)) e1 x (fun _ _ h => h) (h7 i x hx)⟩
    · obtain ⟨h, _⟩ := gc0 i b hb
      show i < 1
      omega
    · have hc : (bif Nat.beq off 0 then (encA sig x 0).2[i]? else none) = some c := hc
      rw [v3] at hc
      show i < 1
      cases off with
      | succ off => cases hc
      | zero =>
        cases i with
        | succ i => simp at hc
        | zero => omega
  obtain ⟨F, hev⟩ := he x hpre
  refine cwp_sound hΓ hm body 0 _ _ hds (fun i cc L h1 h2 => hΛ i cc L h1 (by simpa using h2)) hev hsim fun e s' g' a' w' hk hs' => ?_
  have fin : retS P fn.results.toList ra 0 s' = some (p x) → a'.defers = [] ∧ ∃ v, (results fn a'.tmps).run P w' = .ok v w' ∧ ∃ v', Ending.returned v = .returned v' ∧ ∃ g'', Done X w0 g w { pre := pre x, cv := retCV (encR ra (p x).1 0).1, nw := (encR ra (p x).1 0).2, rd := d ++ [(id, 0, c0)], wr := [], eat := some id } base g'' w' ∧ relV g'' (shiftV base (retCV (encR ra (p x).1 0).1)) v' := fun hret => by
    unfold retS at hret
    split at hret
    rotate_left
    · cases hret
    rename_i cs hcs
    split at hret
    rotate_left
    · cases hret
    rename_i r oids hdr
    cases hids : ((someIds oids).all (fun i => Nat.ble 0 i) && nodupB (someIds oids))
    · rw [hids] at hret; cases hret
    rw [hids] at hret
    simp only [cond_true] at hret
    rw [Bool.and_eq_true] at hids
    obtain ⟨_, hnd2⟩ := hids
    have hpx : (p x).1 = r := by
      have h : some (r, ([] : List CS)) = some (p x) := hret
      rw [← Option.some.inj h]
    rw [hpx]
    obtain ⟨v, hr, hv⟩ := run_results hs' hcs
    have hok' := hs'.ok
    -- what was there, but for the array, is as it was
    have hold' : ∀ k o, m0 k = some o → g'.bi k = some o ∧ w'.heap[k]? = some o := fun k o h => by
      have := hok'.im k o (hok'.base k o h)
      exact ⟨this, hok'.bi k o this⟩
    have hsame : ∀ k, k < w.heap.size → g.β id ≠ some k → w'.heap[k]? = w.heap[k]? := fun k hk hne => by
      have h1 : m0 k = some w.heap[k] := by rw [m0_old k hne]; simp [hk]
      rw [(hold' k _ h1).2]; simp [hk]
    let g2 : Gh := { β := fun i => if i < base then (g.less (some id)).β i else (match oids[i - base]? with | some (some id) => g'.β id | _ => none),
                     cp := fun i => if i < base then g.cp i else (match oids[i - base]? with | some (some id) => g'.cp id | _ => 0),
                     im := fun k => if k < w.heap.size ∧ g.β id ≠ some k then g.im k else g'.im k,
                     bi := fun k => if k < w.heap.size ∧ g.β id ≠ some k then g.bi k else g'.im k }
    have im_old : ∀ k, k < w.heap.size → g.β id ≠ some k → g2.im k = g.im k ∧ g2.bi k = g.bi k := fun k h1 h2 => ⟨if_pos ⟨h1, h2⟩, if_pos ⟨h1, h2⟩⟩
    have im_new : ∀ k, ¬ (k < w.heap.size ∧ g.β id ≠ some k) → g2.im k = g'.im k ∧ g2.bi k = g'.im k := fun k h => ⟨if_neg h, if_neg h⟩
    have old_bi : ∀ k o, g.bi k = some o → k < w.heap.size ∧ g.β id ≠ some k := fun k o h => ⟨lt_of_block (hok.bi k o h), fun hb => by rw [(hok.fresh _ _ hb).2.2] at h; cases h⟩
    have hold : ∀ i, i < base → g2.β i = (g.less (some id)).β i ∧ g2.cp i = g.cp i := fun i hi => ⟨if_pos hi, if_pos hi⟩
    have hnew : ∀ (i id : Nat), oids[i]? = some (some id) → g2.β (base + i) = g'.β id ∧ g2.cp (base + i) = g'.cp id := fun i id hi => by
      have e1 : base + i - base = i := by omega
      refine ⟨?_, ?_⟩
      · show (if base + i < base then _ else (match oids[base + i - base]? with | some (some id) => g'.β id | _ => none)) = _
        rw [if_neg (by omega), e1, hi]
      · show (if base + i < base then _ else (match oids[base + i - base]? with | some (some id) => g'.cp id | _ => 0)) = _
        rw [if_neg (by omega), e1, hi]
    have hnone : ∀ i, oids[i]? = some none ∨ oids[i]? = none → g2.β (base + i) = none := fun i hi => by
      have e1 : base + i - base = i := by omega
      show (if base + i < base then _ else (match oids[base + i - base]? with | some (some id) => g'.β id | _ => none)) = _
      rw [if_neg (by omega), e1]
      rcases hi with hi | hi <;> rw [hi]
    have hcase : ∀ i b, g2.β i = some b → (i < base ∧ i ≠ id ∧ g.β i = some b) ∨ ∃ j id', i = base + j ∧ oids[j]? = some (some id') ∧ g'.β id' = some b := fun i b hi => by
      rcases Nat.lt_or_ge i base with h | h
      · rw [(hold i h).1] at hi
        obtain ⟨h1, h2⟩ := less_β hi
        exact .inl ⟨h, h2 id rfl, h1⟩
      · have e1 : i = base + (i - base) := by omega
        rw [e1] at hi
        cases ho : oids[i - base]? with
        | none => rw [hnone _ (.inr ho)] at hi; cases hi
        | some t =>
          cases t with
          | none => rw [hnone _ (.inl ho)] at hi; cases hi
          | some id => rw [(hnew _ _ ho).1] at hi; exact .inr ⟨_, id, e1, ho, hi⟩
    -- a block of the caller's, other than the array's
    have hother : ∀ i b, i ≠ id → g.β i = some b → b < w.heap.size ∧ g.β id ≠ some b := fun i b h1 h2 => ⟨(hok.fresh _ _ h2).2.1, fun h3 => h1 (hok.inj _ _ _ h2 h3)⟩
    have hkept : ∀ k, k < w.heap.size → g.β id ≠ some k → ∃ o, g'.bi k = some o := fun k hk hne => ⟨w.heap[k], (hold' k _ (by rw [m0_old k hne]; simp [hk])).1⟩
    have hnewb : ∀ id' b, g'.β id' = some b → ¬ (b < w.heap.size ∧ g.β id ≠ some b) ∧ b < w'.heap.size ∧ g'.bi b = none := fun id' b hb => by
      obtain ⟨_, h2, h3⟩ := hok'.fresh _ _ hb
      refine ⟨fun ⟨h4, h5⟩ => ?_, h2, h3⟩
      obtain ⟨o, ho⟩ := hkept b h4 h5
      rw [h3] at ho; cases ho
    have hle : (g.less (some id)).le g2 := by
      refine ⟨fun i b hi => ?_, fun k o hk => ?_, fun k o hk => ?_⟩
      · have h1 := (less_β hi).1
        have hlt : i < base := by
          rcases Nat.lt_or_ge i base with h | h
          · exact h
          · rw [hfree i h] at h1; cases h1
        exact ⟨by rw [(hold i hlt).1]; exact hi, (hold i hlt).2⟩
      · obtain ⟨h1, h2⟩ := old_bi k o (hok.im k o hk)
        rw [(im_old k h1 h2).1]; exact hk
      · obtain ⟨h1, h2⟩ := old_bi k o hk
        rw [(im_old k h1 h2).2]; exact hk
    have hok2 : X.n ≤ id → WOk X w0 g2 w' := fun hxn => by
      have hin : ∀ b, g.β id = some b → w0.heap.size ≤ b := fun b hb => by
        rcases (hok.fresh _ _ hb).1 with h | ⟨_, h⟩
        · exact h
        · omega
      have hblk : ∀ k, k < w0.heap.size → k < w.heap.size ∧ g.β id ≠ some k := fun k hk => ⟨by have := hok.keep.size; omega, fun h => by have := hin k h; omega⟩
      refine ⟨⟨hok'.keep.os.trans hok.keep.os, hok'.keep.tape.trans hok.keep.tape, hok'.keep.output.trans hok.keep.output, ?_, fun k hk hx => ?_⟩, fun k o hk => ?_, fun k o hk => ?_, fun i j b h1 h2 => ?_, fun i b h1 => ?_, trivial, fun k o hk => ?_, fun k o hk => ?_, fun i hi => ?_⟩
      · rcases Nat.eq_zero_or_pos w0.heap.size with h | h
        · omega
        · obtain ⟨h1, h2⟩ := hblk (w0.heap.size - 1) (by omega)
          obtain ⟨o, ho⟩ := hkept _ h1 h2
          have := lt_of_block (hok'.bi _ _ ho)
          omega
      · obtain ⟨h1, h2⟩ := hblk k hk
        rw [hsame k h1 h2]
        exact hok.keep.block k hk hx
      · by_cases hc : k < w.heap.size ∧ g.β id ≠ some k
        · rw [(im_old k hc.1 hc.2).1] at hk
          rw [(im_old k hc.1 hc.2).2]; exact hok.im k o hk
        · rw [(im_new k hc).1] at hk
          rw [(im_new k hc).2]; exact hk
      · by_cases hc : k < w.heap.size ∧ g.β id ≠ some k
        · rw [(im_old k hc.1 hc.2).2] at hk
          rw [hsame k hc.1 hc.2]; exact hok.bi k o hk
        · rw [(im_new k hc).2] at hk
          exact hok'.imh k o hk
      · rcases hcase i b h1 with ⟨h3, h3', h4⟩ | ⟨a, id1, rfl, h4, h5⟩ <;> rcases hcase j b h2 with ⟨h6, h6', h7⟩ | ⟨a', id2, rfl, h7, h8⟩
        · exact hok.inj _ _ _ h4 h7
        · exact absurd (hother _ _ h3' h4) (hnewb _ _ h8).1
        · exact absurd (hother _ _ h6' h7) (hnewb _ _ h5).1
        · have := hok'.inj _ _ _ h5 h8
          subst this
          rw [someIds_inj hnd2 h4 h7]
      · rcases hcase i b h1 with ⟨h3, h3', h4⟩ | ⟨a, id1, rfl, h4, h5⟩
        · obtain ⟨h6, h7⟩ := hother _ _ h3' h4
          obtain ⟨h8, h9, h10⟩ := hok.fresh _ _ h4
          obtain ⟨o, ho⟩ := hkept _ h6 h7
          exact ⟨h8, lt_of_block (hok'.bi _ _ ho), by rw [(im_old _ h6 h7).2]; exact h10⟩
        · obtain ⟨h6, h7, h8⟩ := hnewb _ _ h5
          refine ⟨.inl ?_, h7, ?_⟩
          · rcases Nat.lt_or_ge b w0.heap.size with h | h
            · exact absurd (hblk b h) h6
            · exact h
          · rw [(im_new b h6).2]
            cases him : g'.im b with
            | none => rfl
            | some o => have := hok'.im _ _ him; rw [h8] at this; cases this
      · have h1 := hok.base k o hk
        obtain ⟨h2, h3⟩ := old_bi k o (hok.im k o h1)
        rw [(im_old k h2 h3).1]; exact h1
      · by_cases hc : k < w.heap.size ∧ g.β id ≠ some k
        · rw [(im_old k hc.1 hc.2).1] at hk
          exact hok.imf k o hk
        · right
          rcases Nat.lt_or_ge k w0.heap.size with h | h
          · exact absurd (hblk k h) hc
          · exact h
      · have hlt : i < base := by omega
        have hne : i ≠ id := by omega
        rw [(hold i hlt).1, (hold i hlt).2]
        refine ⟨?_, (hok.pin i hi).2⟩
        show (if i = id then none else g.β i) = _
        rw [if_neg hne]; exact (hok.pin i hi).1
    obtain ⟨r1, r2, r3, r4, r5⟩ := decR_spec (g := g') (g2 := g2) ra cs [] r oids 0 base hdr (fun i id hi => by rw [Nat.zero_add]; exact hnew i id hi)
    simp at r1
    have hdone : Done X w0 g w { pre := pre x, cv := retCV (encR ra r 0).1, nw := (encR ra r 0).2, rd := d ++ [(id, 0, c0)], wr := [], eat := some id } base g2 w' := by
      refine ⟨hle, fun i hi => (hold i hi).1, fun i hi => ?_, fun h => hok2 (h id rfl), (fun h => nomatch h), fun k hk _ hne => hsame k hk (hne id rfl), (fun q hq => nomatch hq), fun k c hc => ?_⟩
      · have hi : base + (encR ra r 0).2.length ≤ i := hi
        have e1 : i = base + (i - base) := by omega
        rw [e1]
        exact hnone _ (.inr (List.getElem?_eq_none (by omega)))
      · have hc : (encR ra r 0).2[k]? = some c := hc
        obtain ⟨⟨e, l, rfl⟩, h2⟩ := r4 k c hc
        have hfl : flatSh e = true := by
          obtain ⟨e', l', h, hf⟩ := hra r _ (List.mem_of_getElem? hc)
          cases h; exact hf
        rcases h2 with ⟨id', h3, h4⟩ | ⟨h3, e', h4⟩
        · obtain ⟨p1, p2⟩ := hnew k id' h3
          rcases hs'.cells _ _ _ h4 with ⟨e', l', h5, _, h6⟩ | ⟨_, _, _, _, _, _, _, hf⟩
          · cases h5
            refine .inl ⟨e, l, rfl, rfl, ?_⟩
            rcases h6 with ⟨h5, h6⟩ | ⟨b, arr, T, h5, h6, h7, h8, h9⟩
            · exact .inl ⟨h5, by rw [p1]; exact h6⟩
            · exact .inr ⟨b, arr, T, by rw [p1]; exact h5, h6, by rw [p2]; exact h7, by rw [p2]; exact h8, fun i x hx => relT_flat e x hfl (h9 i x hx)⟩
          · exact hf.elim
        · cases h4
          exact .inl ⟨e, [], rfl, rfl, .inl ⟨rfl, hnone k (.inl h3)⟩⟩
    refine ⟨hs'.df, v, hr, v, rfl, g2, hdone, ?_⟩
    rw [shiftV_ret]
    refine relV_ret (by simp [r1]) (fun j c c' u hj hj' hu => ?_) hv
    simp at hj
    obtain ⟨c1, h1, rfl⟩ := hj
    exact r5 j c1 c u h1 hj' hu
  cases e with
  | normal => exact fin (retU_spec hk)
  | ret => exact fin (retU_spec hk)
  | exit id => cases hk
  | goto l => cases hk
  | panic c => cases hk
  | outgrown => cases hk
end Go.Dv
