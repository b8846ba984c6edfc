/- From a contract of the library (what a call returns; the world below is as it was) to a contract in shapes. -/
import Derived.Test.YtgfplcpjnlignaaDoorDt

namespace Go.Dv
open Go.RowKit Go.Cv

theorem WOk.below {X : Fr} {w0 w w' : World} {g : Gh} (h : WOk X w0 g w) (hb : Below w.heap.size w w') : WOk X w0 g w' := by
  have hs := h.keep.size
  refine ⟨⟨hb.os.trans h.keep.os, hb.tape.trans h.keep.tape, hb.output.trans h.keep.output, Nat.le_trans hs hb.size, fun k hk hx => ?_⟩, h.im, fun k o ho => ?_, h.inj, fun i b hi => ?_, trivial, h.base, fun k o ho => ?_, h.pin⟩
  · rw [hb.block k (by omega)]; exact h.keep.block k hk hx
  · rw [hb.block k (lt_of_block (h.bi k o ho))]; exact h.bi k o ho
  · obtain ⟨h1, h2, h3⟩ := h.fresh i b hi
    exact ⟨h1, by have := hb.size; omega, h3⟩
  · exact h.imf k o ho

theorem done_below {X : Fr} {w0 w w' : World} {g : Gh} (hok : WOk X w0 g w) (hb : Below w.heap.size w w') {base : Nat} (hfree : ∀ i, base ≤ i → g.β i = none) {b : Bool} {cv : CV} {rd : List Dep} : Done X w0 g w { pre := b, cv := cv, nw := [], rd := rd, wr := [] } base g w' :=
  ⟨g.le_refl, fun _ _ => rfl, fun i hi => hfree i hi, fun _ => hok.below hb, fun _ => hb.size, fun k hk _ _ => hb.block k hk, (fun _ h => nomatch h), fun _ _ h => by simp at h⟩

/-- results without arrays: what is given stands for the same value under whatever names -/
def flatRes (ra : AS) (y : ra.Ty) : Prop := (encR ra y 0).2 = [] ∧ ∀ n, shiftV n (retCV (encR ra y 0).1) = retCV (encR ra y 0).1

/-- what a call of the library's is handed and what it must give -/
theorem okFn_lib {P : Program} {f : FuncId} {fn : Func} {body : Code} (hf : P.funcs[f]? = some fn) (hb : fn.body = some body) (hname : (fn.name == "runtime.NumGoroutine") = false)
    {sig ra : AS} {pre : sig.Ty → Bool} {p : sig.Ty → ra.Ty × List CS} (hno : sig.nOwn = 0) (hwr : ∀ x, (p x).2 = [])
    (hfl : ∀ x, pre x = true → flatRes ra (p x).1)
    (h : ∀ (x : sig.Ty), pre x = true → ∀ (g : Gh) (vals : Array Value) (w : World), (∀ k o, g.bi k = some o → w.heap[k]? = some o) → GQ (fun k => w.heap[k]?) → vals.size = (encA sig x 0).1.length →
      (∀ (j : Nat) c u, (encA sig x 0).1[j]? = some c → vals[j]? = some u → rel1 g c u) → Calls P f vals w (fun e w' => ∃ v, e = .returned v ∧ Below w.heap.size w w' ∧ ∀ g', relV g' (retCV (encR ra (p x).1 0).1) v)) : OkFn P f (mkSpec sig ra pre p) := by
  classical
  intro hp args r hS hpre
  unfold mkSpec at hS
  split at hS
  rotate_left
  · cases hS
  rename_i x d o k hdec
  cases hcond : (nodupB (o.map (·.1)) && d.all (fun q => !memB q.1 (o.map (·.1))))
  · rw [hcond] at hS; cases hS
  rw [hcond] at hS
  simp only [cond_true] at hS
  cases hS
  have hpre : (k && pre x) = true := hpre
  rw [Bool.and_eq_true] at hpre
  obtain ⟨rfl, hpre⟩ := hpre
  have hdec := uA_spec hdec
  obtain ⟨hdd, hoo, hol⟩ := decA_deps _ _ _ _ _ _ hdec
  have ho : o = [] := List.eq_nil_of_length_eq_zero (by rw [hol]; exact hno)
  subst ho
  obtain ⟨hnw, hsh⟩ := hfl x hpre
  rw [hwr x, hnw]
  refine ⟨fun q hq => hdd q (by simpa using hq), fun q hq => ?_, (fun c hc => nomatch hc), ?_⟩
  · have hq : q ∈ zipW [] [] := hq
    simp [zipW] at hq
  intro X g w0 w base vals hsz hrel hcell hok hbase hdb hfree
  have hcall : (callFunc f vals).run P w = .ok (.enter f vals) w := by
    have hname' : ¬ fn.name = "runtime.NumGoroutine" := by simpa using hname
    simp [callFunc, hf, hname', hb]
  unfold CallOk
  rw [hcall]
  let gc : Gh := { β := g.β, cp := g.cp, im := g.im, bi := fun k => w.heap[k]? }
  have hdep : ∀ q ∈ d, DepOk g gc w q := fun q hq => ⟨hcell q (by simpa using hq), fun b hb => rfl⟩
  obtain ⟨v1, v2, v3, v4⟩ := decA_view (gc := gc) (fun k ob hk => hok.bi k ob hk) hok.im (fun _ _ h => h) sig args [] x d [] 0 vals 0 hdec hdep (fun i id c hi => by simp at hi) (fun j c u hj hu => hrel j c u hj (by simpa using hu))
  have v4 := v4 (by omega)
  simp at v1
  have hq : GQ (fun k => w.heap[k]?) := GQ_mono (fun k ob hk => hok.imh k ob (hok.base k ob hk)) X.q
  refine (h x hpre gc vals w (fun k o hk => hk) hq (by omega) (fun j c u hj hu => v4 j c u hj (by simpa using hu))).mono fun e w' ⟨v, he, hbl, hv⟩ => ?_
  refine ⟨v, he, g, ?_, by rw [hsh]; exact hv g⟩
  have e0 : zipW ([] : List (Nat × CS)) ([] : List CS) = [] := rfl
  rw [e0]
  exact done_below hok hbl hfree

/-! ### arguments out of cells -/
section
variable {g : Gh} {w : World}

theorem vals_two {vals : Array Value} {c d : CV1} (hs : vals.size = 2) (h : ∀ (j : Nat) e u, [c, d][j]? = some e → vals[j]? = some u → rel1 g e u) : ∃ u v, vals = #[u, v] ∧ rel1 g c u ∧ rel1 g d v := by
  have h0 := h 0 c vals[0] rfl (by simp [hs])
  have h1 := h 1 d vals[1] rfl (by simp [hs])
  refine ⟨vals[0], vals[1], ?_, h0, h1⟩
  apply Array.ext (by simp [hs])
  intro i h2 h3
  match i, h3 with
  | 0, _ => rfl
  | 1, _ => rfl

end
end Go.Dv
