/- Regions that draw their order, statements, functions: the theorems by which a function's contract follows from 'cwp'. -/
import Derived.Test.YtmhmedbhngmmpaaCvH
namespace Go.Cv
open Go.RowKit

section
variable {P : Program} {w0 : World} {n : Nat} {ops : Array Oper} {s0 : St} {es : List (Option Eff)}

theorem closed_add {L : Nat → Bool} (hL : Closed ops L) {i : Nat} {o : Oper} (hi : ops[i]? = some o) (hready : ∀ e ∈ o.after, Region.binds .any e = true → L e.on = true) : Closed ops (addL L i) := by
  intro k o' ho' hk e he hb
  have key : L e.on = true → addL L i e.on = true := fun h => by unfold addL; split; rfl; exact h
  unfold addL at hk
  by_cases h : k = i
  · subst h; rw [hi] at ho'; cases ho'; exact key (hready e he hb)
  · rw [if_neg h] at hk; exact key (hL k o' ho' hk e he hb)

theorem wrT_at {i t : Nat} {o : Oper} {e : Option Eff} (hi : ops[i]? = some o) (he : es[i]? = some e) : wrT s0 ops.toList es t i = if o.dst = some t then some (dstVal (stAt s0 ops.toList es i) e) else none := by
  have : ops.toList[i]? = some o := by simpa using hi
  simp only [wrT, this, he]

/-- operation i, at whatever time it comes up -/
theorem any_step (F : Facts ops s0 es) {L : Nat → Bool} {g : Gh} {a : Act} {w : World} (inv : AnyInv w0 n ops s0 es L g a w) {i : Nat} {o : Oper} {e : Option Eff} (hi : ops[i]? = some o) (hn : L i = false)
    (hready : ∀ e ∈ o.after, Region.binds .any e = true → L e.on = true) (he : es[i]? = some e) (hg : guardVal ops o (stAt s0 ops.toList es i) = some e.isSome) (heff : ∀ e', e = some e' → EffOk P o (stAt s0 ops.toList es i) e')
    (hd : ∀ x, o.dst = some x → x < n) {Q : Exit → Act → World → Prop} {K : Act → World → Prop} (hk : ∀ g' a' w', AnyInv w0 n ops s0 es (addL L i) g' a' w' → K a' w') : wpOp P ops Q i K a w := by
  have hsz : i < ops.size := by
    rcases Nat.lt_or_ge i ops.size with h | h
    · exact h
    · rw [Array.getElem?_eq_none h] at hi; cases hi
  have hcl := inv.closed
  have hil : ops.toList[i]? = some o := by simpa using hi
  have hgetD : es.getD i none = e := by rw [List.getD, he]; rfl
  -- what operation i reads is what it reads in the order of the text
  have rdT : ∀ t, t ∈ o.looksAt ops → relV g ((stAt s0 ops.toList es i).tm t) (a.tmps.getD t undef) := fun t ht => by
    obtain ⟨h1, h2⟩ := tm_at F hcl hi hn hready (.inl ht)
    rw [tm_fold, ← fold_agree (L := L) h1 ops.size (by omega) (fun k h3 h4 h5 => by
      by_cases hki : k = i
      · subst hki; exact hn
      · exact h2 k (by omega) h4 h5)]
    exact inv.tm t
  have rdH : ∀ id off, ((id, off) ∈ (foot (stAt s0 ops.toList es i) (es.getD i none)).rd ∨ (id, off) ∈ (foot (stAt s0 ops.toList es i) (es.getD i none)).wr) →
      fold (wrH s0 ops.toList es id off) L (s0.hp id off) ops.size = (stAt s0 ops.toList es i).hp id off := fun id off ht => by
    obtain ⟨h1, h2⟩ := hp_at F hcl hi hn hready (id := id) (off := off) (by rcases ht with h | h; exact .inl h; exact .inr (.inl h))
    rw [hp_fold, ← fold_agree (L := L) h1 ops.size (by omega) (fun k h3 h4 h5 => by
      by_cases hki : k = i
      · subst hki; exact hn
      · exact h2 k (by omega) h4 h5)]
  have hops : ∀ x ∈ o.op.operands.toList, relV g ((stAt s0 ops.toList es i).ev x) (a.eval x) := fun x hx => by
    cases x with
    | tmp t => exact rdT t (by unfold Oper.looksAt; exact List.mem_append_left _ (List.mem_filterMap.2 ⟨.tmp t, hx, rfl⟩))
    | const v => exact relV_ofValue g v
    | global b => trivial
    | func f => exact ⟨#[], rfl, rfl, fun j u hu => by simp at hu⟩
  have hwanted := wanted_of_guardVal hg (g := g) (tmps := a.tmps) (fun d ⟨j, b, h1, h2⟩ => rdT d (by unfold Oper.looksAt; rw [h1]; simp only [h2]; exact List.mem_append_right _ (by simp)))
  -- the frame behind it
  have tmNext : ∀ {g' : Gh} {v : Value}, g.le g' → relV g' (dstVal (stAt s0 ops.toList es i) e) v → ∀ t, relV g' (fold (wrT s0 ops.toList es t) (addL L i) (s0.tm t) ops.size) ((a.put o.dst v).tmps.getD t undef) := fun {g' v} hle hv t => by
    by_cases hdt : o.dst = some t
    · rw [fold_add_eq (by rw [wrT_at hi he, if_pos hdt]) ops.size hsz (tm_at F hcl hi hn hready (.inr hdt)).2]
      have : (a.put o.dst v).tmps.getD t undef = v := by rw [hdt]; simp [Act.put, inv.len, hd t hdt]
      rw [this]; exact hv
    · rw [fold_add_ne (by rw [wrT_at hi he, if_neg hdt])]
      have : (a.put o.dst v).tmps.getD t undef = a.tmps.getD t undef := by
        cases hdd : o.dst with
        | none => rfl
        | some d =>
          have hne : d ≠ t := fun h => hdt (by rw [hdd, h])
          simp [Act.put, Array.getElem?_setIfInBounds_ne hne]
      rw [this]; exact relV_mono hle _ _ (inv.tm t)
  have hclN := closed_add hcl hi hready
  have nxNext : ∀ i' b, g.β i' = some b → i' < s0.nx ∨ ∃ k, addL L i k = true ∧ newId s0 ops.toList es k = some i' := fun i' b hb => by
    rcases inv.nx i' b hb with h | ⟨k, h1, h2⟩
    · exact .inl h
    · exact .inr ⟨k, by unfold addL; split; rfl; exact h1, h2⟩
  have wrHnone : (∀ cs, e ≠ some (.new cs)) → (∀ i o cs, e ≠ some (.put i o cs)) → ∀ id off, wrH s0 ops.toList es id off i = none := fun h1 h2 id off => by
    unfold wrH
    rw [hil, he]
    cases e with
    | none => rfl
    | some e => cases e with
      | val cv deps => rfl
      | new cs => exact (h1 cs rfl).elim
      | put i o cs => exact (h2 i o cs rfl).elim
  unfold wpOp
  simp only [hi]
  rw [hwanted]
  cases e with
  | none =>
    simp only [Option.isSome_none, Bool.false_eq_true, if_false]
    exact hk g _ w ⟨tmNext g.le_refl rfl, by rw [put_size]; exact inv.len, by rw [put_defers']; exact inv.df, inv.ok, fun id off c hc => by
      rw [fold_add_ne (wrHnone (by simp) (by simp) id off)] at hc; exact inv.cells id off c hc, nxNext, hclN⟩
  | some e =>
    simp only [Option.isSome_some, if_true]
    left
    have hE := heff e rfl
    cases e with
    | val cv deps =>
      obtain ⟨hdep, hh⟩ := hE
      have hcellAll : ∀ id off c, fold (wrH s0 ops.toList es id off) (addL L i) (s0.hp id off) ops.size = some c → CellRel g w id off c := fun id off c hc => by
        rw [fold_add_ne (wrHnone (by simp) (by simp) id off)] at hc; exact inv.cells id off c hc
      refine hh g w0 w a K Q hops (fun d hdd => ?_) inv.ok fun v g' w' haf hv => ?_
      · refine inv.cells _ _ _ ?_
        rw [rdH _ _ (.inl (by rw [hgetD]; exact List.mem_map_of_mem (f := fun d : Nat × Nat × CS => (d.1, d.2.1)) hdd))]
        exact hdep d hdd
      · refine hk g' _ w' ⟨tmNext haf.le hv, by rw [put_size]; exact inv.len, by rw [put_defers']; exact inv.df, haf.ok, fun id off c hc => (hcellAll id off c hc).after haf inv.ok, fun i' b hb => nxNext i' b (by rw [← haf.β]; exact hb), hclN⟩
    | new cs =>
      have hnew : newId s0 ops.toList es i = some (stAt s0 ops.toList es i).nx := by unfold newId; rw [hil, he]
      have hβ : g.β (stAt s0 ops.toList es i).nx = none := by
        cases hb : g.β (stAt s0 ops.toList es i).nx with
        | none => rfl
        | some b =>
          rcases inv.nx _ _ hb with h | ⟨k, h1, h2⟩
          · have := nx_le s0 ops.toList es 0 i (by omega)
            simp only [stAt] at this; omega
          · have hki : k ≠ i := fun h => by subst h; rw [hn] at h1; cases h1
            rcases Nat.lt_or_gt_of_ne hki with h3 | h3
            · have := newId_lt h3 h2 hnew; omega
            · have := newId_lt h3 hnew h2; omega
      refine hE g w a K Q hops fun arr T hs hr => ?_
      refine hk (g.bind (stAt s0 ops.toList es i).nx w.heap.size) _ _ ⟨tmNext (Gh.le_bind hβ) ⟨w.heap.size, ?_, rfl⟩, by rw [put_size]; exact inv.len, by rw [put_defers']; exact inv.df, inv.ok.alloc hβ arr T, fun id off c hc => ?_, fun i' b hb => ?_, hclN⟩
      · show (if (stAt s0 ops.toList es i).nx = (stAt s0 ops.toList es i).nx then some w.heap.size else _) = _
        rw [if_pos rfl]
      · by_cases hid : id = (stAt s0 ops.toList es i).nx
        · subst hid
          rw [fold_add_eq (x := cs[off]?) (by unfold wrH; rw [hil, he]; simp) ops.size hsz (hp_at F hcl hi hn hready (.inr (.inr hnew))).2] at hc
          exact CellRel.fresh hβ hs hr hc
        · rw [fold_add_ne (by unfold wrH; rw [hil, he]; simp [hid])] at hc
          exact CellRel.alloc inv.ok hβ arr T (inv.cells _ _ _ hc)
      · have hb : (if i' = (stAt s0 ops.toList es i).nx then some w.heap.size else g.β i') = some b := hb
        by_cases hid : i' = (stAt s0 ops.toList es i).nx
        · subst hid; exact .inr ⟨i, by unfold addL; rw [if_pos rfl], hnew⟩
        · rw [if_neg hid] at hb; exact nxNext i' b hb
    | put id off cs =>
      obtain ⟨⟨h0, hsome⟩, hh⟩ := hE
      have hwr : ∀ j, j < cs.length → (id, off + j) ∈ (foot (stAt s0 ops.toList es i) (es.getD i none)).wr := fun j hj => by
        rw [hgetD]; simp only [foot, List.mem_map, List.mem_range]; exact ⟨j, hj, rfl⟩
      obtain ⟨b, arr, T, hb, hheap, hl⟩ := block_of_cells (hp := fun id off => fold (wrH s0 ops.toList es id off) L (s0.hp id off) ops.size) inv.cells (id := id) (off := off) h0 (fun j hj => by
        rw [rdH _ _ (.inr (hwr j hj))]; exact hsome j hj)
      refine hh g w a K Q b arr T hops hb hheap hl fun us hu hr => ?_
      refine hk g _ _ ⟨tmNext g.le_refl rfl, by rw [put_size]; exact inv.len, by rw [put_defers']; exact inv.df, inv.ok.setRow hb _, fun i' o' c hc => ?_, nxNext, hclN⟩
      by_cases hid : i' = id ∧ off ≤ o' ∧ o' < off + cs.length
      · obtain ⟨rfl, h1, h2⟩ := hid
        have hmem := hwr (o' - off) (by omega)
        rw [show off + (o' - off) = o' by omega] at hmem
        rw [fold_add_eq (x := cs[o' - off]?) (by unfold wrH; rw [hil, he]; simp [h1, h2]) ops.size hsz (hp_at F hcl hi hn hready (.inr (.inl hmem))).2] at hc
        exact CellRel.setRow_in hb hheap hl hu hr h1 h2 hc
      · rw [fold_add_ne (by unfold wrH; rw [hil, he]; simp only; rw [if_neg hid])] at hc
        refine CellRel.setRow_out inv.ok hb hheap (by omega) (inv.cells _ _ _ hc) ?_
        by_cases hi' : i' = id
        · rcases Nat.lt_or_ge o' off with h1 | h1
          · exact .inr (.inl h1)
          · right; right; rcases Nat.lt_or_ge o' (off + us.length) with h2 | h2
            · exact (hid ⟨hi', h1, by omega⟩).elim
            · exact h2
        · exact .inl hi'

theorem least_unlisted (F : Facts ops s0 es) {listed : Array Bool} (hsz : listed.size = ops.size) : ∀ m, m ≤ ops.size → (∃ k, k < m ∧ listed.getD k false = false) → Region.ready .any ops listed ≠ [] := by
  intro m
  induction m with
  | zero => rintro _ ⟨k, hk, _⟩; omega
  | succ m ih =>
    rintro hm ⟨k, hk, hl⟩
    by_cases hex : ∃ k, k < m ∧ listed.getD k false = false
    · exact ih (by omega) hex
    · have hkm : k = m := by
        rcases Nat.lt_or_ge k m with h | h
        · exact (hex ⟨k, h, hl⟩).elim
        · omega
      subst hkm
      have hall : ∀ j, j < k → listed.getD j false = true := fun j hj => by
        cases h : listed.getD j false with
        | true => rfl
        | false => exact (hex ⟨j, hj, h⟩).elim
      have hmem : k ∈ Region.ready .any ops listed := by
        unfold Region.ready
        rw [List.mem_filter]
        have hk' : k < ops.size := by omega
        refine ⟨by simpa using hk', ?_⟩
        have h1 : listed.getD k true = false := by
          have hlt : k < listed.size := by omega
          simp [hlt] at hl ⊢; exact hl
        have h2 : ops[k]? = some ops[k] := by simp [hk']
        rw [h1, h2]
        simp only [Bool.not_false, Bool.true_and, Option.map_some, Option.getD_some]
        rw [Array.all_eq_true_iff_forall_mem]
        intro e he
        cases hb : Region.binds .any e with
        | false => rfl
        | true => simp only [Bool.not_true, Bool.false_or]; exact hall _ (F.edges k _ h2 e he hb)
      intro h; rw [h] at hmem; cases hmem

theorem any_order (F : Facts ops s0 es) (htr : ∀ (k : Nat) o, ops[k]? = some o → ∃ e, es[k]? = some e ∧ guardVal ops o (stAt s0 ops.toList es k) = some e.isSome ∧ ∀ e', e = some e' → EffOk P o (stAt s0 ops.toList es k) e')
    (hd : ∀ o ∈ ops.toList, ∀ x, o.dst = some x → x < n) {Q : Exit → Act → World → Prop} (hq : ∀ g a w, Sim w0 n (stAt s0 ops.toList es ops.size) g a w → Q .normal a w) :
    ∀ (fuel : Nat) (listed : Array Bool) (g : Gh) (a : Act) (w : World), listed.size = ops.size → cnt (fun k => listed.getD k false) ops.size ≤ fuel → AnyInv w0 n ops s0 es (fun k => listed.getD k false) g a w → wpAny P .any ops Q fuel listed a w := by
  have done : ∀ (listed : Array Bool) (g : Gh) (a : Act) (w : World), (∀ k, k < ops.size → listed.getD k false = true) → AnyInv w0 n ops s0 es (fun k => listed.getD k false) g a w → Q .normal a w := fun listed g a w hall inv => by
    have agreeT : ∀ t, fold (wrT s0 ops.toList es t) (fun k => listed.getD k false) (s0.tm t) ops.size = (stAt s0 ops.toList es ops.size).tm t := fun t => by
      rw [tm_fold]; exact fold_agree (fun k hk _ => hall k hk) ops.size (Nat.le_refl _) (fun k h1 h2 => by omega)
    have agreeH : ∀ id off, fold (wrH s0 ops.toList es id off) (fun k => listed.getD k false) (s0.hp id off) ops.size = (stAt s0 ops.toList es ops.size).hp id off := fun id off => by
      rw [hp_fold]; exact fold_agree (fun k hk _ => hall k hk) ops.size (Nat.le_refl _) (fun k h1 h2 => by omega)
    refine hq g a w ⟨fun t => by rw [← agreeT]; exact inv.tm t, inv.len, inv.df, inv.ok, fun id off c hc => inv.cells id off c (by rw [agreeH]; exact hc), fun i b hb => ?_⟩
    rcases inv.nx i b hb with h | ⟨k, h1, h2⟩
    · have := nx_le s0 ops.toList es 0 ops.size (by omega); simp only [stAt] at this; omega
    · unfold newId at h2
      split at h2
      · rename_i o cs ho he; cases h2
        have hk : k < ops.size := by
          rcases Nat.lt_or_ge k ops.size with h | h
          · exact h
          · rw [List.getElem?_eq_none (by simpa using h)] at ho; cases ho
        have e1 : (stAt s0 ops.toList es (k + 1)).nx = (stAt s0 ops.toList es k).nx + 1 := by simp only [stAt, ho, he]; rfl
        have := nx_le s0 ops.toList es (k + 1) ops.size (by omega)
        omega
      · cases h2
  intro fuel
  induction fuel with
  | zero =>
    intro listed g a w hsz hc inv
    have hall := cnt_zero (L := fun k => listed.getD k false) ops.size (by omega)
    refine ⟨?_, done listed g a w hall inv⟩
    unfold Region.ready
    rw [List.filter_eq_nil_iff]
    intro i hi
    have hi' : i < ops.size := by simpa using hi
    have h1 : listed.getD i true = true := by
      have := hall i hi'
      have hlt : i < listed.size := by omega
      simp [hlt] at this ⊢; exact this
    rw [h1]; simp
  | succ fuel ih =>
    intro listed g a w hsz hc inv
    refine ⟨fun hr => ?_, fun i hi => ?_⟩
    · by_cases hex : ∃ k, k < ops.size ∧ listed.getD k false = false
      · exact (least_unlisted F hsz ops.size (Nat.le_refl _) hex hr).elim
      · exact done listed g a w (fun k hk => by
          cases h : listed.getD k false with
          | true => rfl
          | false => exact (hex ⟨k, hk, h⟩).elim) inv
    · unfold Region.ready at hi
      rw [List.mem_filter] at hi
      obtain ⟨h1, h2⟩ := hi
      have hi' : i < ops.size := by simpa using h1
      have ho : ops[i]? = some ops[i] := by simp [hi']
      rw [ho] at h2
      simp only [Bool.and_eq_true, Bool.not_eq_true', Option.map_some, Option.getD_some, Array.all_eq_true_iff_forall_mem] at h2
      obtain ⟨h3, h4⟩ := h2
      have hlt : i < listed.size := by omega
      have hn : listed.getD i false = false := by simp [hlt] at h3 ⊢; exact h3
      have hready : ∀ e ∈ (ops[i]).after, Region.binds .any e = true → listed.getD e.on false = true := fun e he hb => by
        have := h4 e he; rw [hb] at this; simpa using this
      obtain ⟨e, he, hg, heff⟩ := htr i _ ho
      refine any_step F inv ho hn hready he hg heff (hd _ (by simp)) fun g' a' w' inv' => ?_
      have hfun : (fun k => (listed.setIfInBounds i true).getD k false) = addL (fun k => listed.getD k false) i := by
        funext k
        unfold addL
        by_cases hk : k = i
        · subst hk; simp [hlt]
        · have hk' : i ≠ k := fun h => hk h.symm
          simp [hk, Array.getElem?_setIfInBounds_ne hk']
      refine ih (listed.setIfInBounds i true) g' a' w' (by simpa using hsz) ?_ (by rw [hfun]; exact inv')
      rw [hfun]
      have := cnt_add (L := fun k => listed.getD k false) hn ops.size hi'
      omega

/-- a region that draws its order -/
theorem cops_any {Γ : CEnv} (hΓ : GoodC P Γ) (hm : P.follows .mixedOrders = true) {id : Nat} {s : St} {K : St → Tr} {rv : CV} (hd : ∀ o ∈ ops.toList, ∀ x, o.dst = some x → x < n)
    (h : (cops R P Γ ops ops.toList s [] fun s' feet => brT (orderOk ops feet.reverse) (K s') none) = some rv) {g : Gh} {a : Act} {w : World} (hs : Sim w0 n s g a w) {Q : Exit → Act → World → Prop}
    (hq : ∀ s' g' a' w', K s' = some rv → Sim w0 n s' g' a' w' → Q .normal a' w') : (Code.region id ops true).wp P Q a w := by
  obtain ⟨es, h1, h23, h4⟩ := cops_trace hΓ _ _ _ _ _ h
  obtain ⟨h2, h3⟩ := brT_req h23
  simp only [List.append_nil, List.reverse_reverse] at h2
  have hlen : es.length = ops.size := by simpa using h1
  have F := facts_of_orderOk hlen h2
  refine wp_region_any hm ?_
  have hlist : ops.toList.length = ops.size := by simp
  rw [hlist] at h3
  refine any_order F (fun k o ho => h4 k o (by simpa using ho)) hd (fun g a w hs' => hq _ g a w h3 hs') ops.size _ g a _ (by simp) ?_ ?_
  · have : ∀ m, cnt (fun k => (Array.replicate ops.size false).getD k false) m ≤ m := by
      intro m
      induction m with
      | zero => exact Nat.le_refl _
      | succ m ih => simp only [cnt]; split <;> omega
    exact this _
  · have hL : (fun k => (Array.replicate ops.size false).getD k false) = fun _ => false := by
      funext k
      rcases Nat.lt_or_ge k ops.size with h | h
      · simp [h]
      · simp [h]
    rw [hL]
    have hf : ∀ {X : Type} (wr : Nat → Option X) (x0 : X) m, fold wr (fun _ => false) x0 m = x0 := fun wr x0 m => by
      induction m with
      | zero => rfl
      | succ m ih => simp [fold, ih]
    have hdr : After w0 g w g { w with drawn := w.drawn + 1 } := After.drewN hs.ok 1
    have hs' := hs.after hdr
    exact ⟨fun t => by rw [hf]; exact hs'.tm t, hs'.len, hs'.df, hs'.ok, fun id off c hc => by rw [hf] at hc; exact hs'.cells id off c hc, fun i b hb => .inl (hs'.nx i b hb), fun k o _ hk => by cases hk⟩

end
end Go.Cv
