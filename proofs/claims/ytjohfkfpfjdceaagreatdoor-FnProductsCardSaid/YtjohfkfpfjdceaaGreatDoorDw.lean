/- From a contract of the library that gives one new row to a contract in shapes. -/
import Derived.Test.YtjohfkfpfjdceaaGreatDoorDu

namespace Go.Dv
open Go.RowKit Go.Cv

theorem done_row {X : Fr} {w0 w : World} {g : Gh} (hok : WOk X w0 g w) {base : Nat} (hb : X.n ≤ base) (hfree : ∀ i, base ≤ i → g.β i = none) {e : Sh} {l : List e.Ty} {arr : Array Value} {T : TypeId}
    (hs : arr.size = l.length * e.size) (hr : ∀ i y, l[i]? = some y → ∀ m : Nat → Option Obj, relT m e y (fun k u => arr[i * e.size + k]? = some u)) {b : Bool} {cv : CV} {rd : List Dep} :
    Done X w0 g w { pre := b, cv := cv, nw := [.arr e l], rd := rd, wr := [] } base (g.bind base w.heap.size l.length) (w.alloc (.cells arr T (0, 0))) := by
  have hne : ∀ i, i ≠ base → (g.bind base w.heap.size l.length).β i = g.β i := fun i h => Gh.bind_ne g h
  refine ⟨Gh.le_bind (hfree base (Nat.le_refl _)), fun i hi => hne i (by omega), fun i hi => ?_, fun _ => hok.alloc base l.length hb arr T, fun _ => by simp, fun k hk _ _ => ?_, (fun _ h => nomatch h), fun k c hk => ?_⟩
  · have hi : base + 1 ≤ i := hi
    rw [hne i (by omega)]; exact hfree i (by omega)
  · exact Below.heap_alloc _ _ _ hk
  · cases k with
    | zero =>
      cases hk
      refine .inl ⟨e, l, rfl, rfl, .inr ⟨w.heap.size, arr, T, (Gh.bind_same g base w.heap.size l.length).1, RowAt.of (heap_alloc_same w _), ?_, ?_, fun i x hx => hr i x hx _⟩⟩
      · rw [show base + 0 = base from rfl, (Gh.bind_same g base w.heap.size l.length).2]; exact hs
      · rw [show base + 0 = base from rfl, (Gh.bind_same g base w.heap.size l.length).2]; exact Nat.le_refl _
    | succ k => simp at hk

/-- a call of the library's gives one new row -/
theorem okFn_row {P : Program} {f : FuncId} {fn : Func} {body : Code} (hf : P.funcs[f]? = some fn) (hb : fn.body = some body) (hname : (fn.name == "runtime.NumGoroutine") = false)
    {sig : AS} {e : Sh} {pre : sig.Ty → Bool} {p : sig.Ty → List e.Ty} (hno : sig.nOwn = 0)
    (h : ∀ (x : sig.Ty), pre x = true → ∀ (g : Gh) (vals : Array Value) (w : World), (∀ k o, g.bi k = some o → w.heap[k]? = some o) → GQ (fun k => w.heap[k]?) → vals.size = (encA sig x 0).1.length →
      (∀ (j : Nat) c u, (encA sig x 0).1[j]? = some c → vals[j]? = some u → rel1 g c u) → Calls P f vals w (fun ev w' => ∃ arr T, ev = .returned (.slice (some ⟨w.heap.size, 0, none⟩) (p x).length (p x).length) ∧ w' = w.alloc (.cells arr T (0, 0)) ∧
        arr.size = (p x).length * e.size ∧ ∀ i y, (p x)[i]? = some y → ∀ m : Nat → Option Obj, relT m e y (fun k u => arr[i * e.size + k]? = some u))) : OkFn P f (mkSpec sig (.cons (.one (.ls e)) .nil) pre (fun x => ((p x, ()), []))) := by
  intro hp args r hS hpre
  unfold mkSpec at hS
  split at hS
  rotate_left
  · cases hS
  rename_i x d o k hdec
  cases hcond : (nodupB (o.map (·.1)) && d.all (fun q => !memB q.1 (o.map (·.1))))
  · rw [hcond] at hS; cases hS
  rw [hcond] at hS
  simp only [cond_true] at hS
  cases hS
  have hpre : (k && pre x) = true := hpre
  rw [Bool.and_eq_true] at hpre
  obtain ⟨rfl, hpre⟩ := hpre
  have hdec := uA_spec hdec
  obtain ⟨hdd, hoo, hol⟩ := decA_deps _ _ _ _ _ _ hdec
  have ho : o = [] := List.eq_nil_of_length_eq_zero (by rw [hol]; exact hno)
  subst ho
  refine ⟨fun q hq => hdd q (by simpa using hq), fun q hq => ?_, fun c hc => ?_, ?_⟩
  · have hq : q ∈ zipW [] [] := hq
    simp [zipW] at hq
  · have hc : c ∈ [CS.arr e (p x)] := hc
    exact ⟨e, p x, by simpa using hc⟩
  intro X g w0 w base vals hsz hrel hcell hok hbase hdb hfree
  have hcall : (callFunc f vals).run P w = .ok (.enter f vals) w := by
    have hname' : ¬ fn.name = "runtime.NumGoroutine" := by simpa using hname
    simp [callFunc, hf, hname', hb]
  unfold CallOk
  rw [hcall]
  let gc : Gh := { β := g.β, cp := g.cp, im := g.im, bi := fun k => w.heap[k]? }
  have hdep : ∀ q ∈ d, DepOk g gc w q := fun q hq => ⟨hcell q (by simpa using hq), fun b hb => rfl⟩
  obtain ⟨v1, v2, v3, v4⟩ := decA_view (gc := gc) (fun k ob hk => hok.bi k ob hk) hok.im (fun _ _ h => h) sig args [] x d [] 0 vals 0 hdec hdep (fun i id c hi => by simp at hi) (fun j c u hj hu => hrel j c u hj (by simpa using hu))
  have v4 := v4 (by omega)
  simp at v1
  have hq : GQ (fun k => w.heap[k]?) := GQ_mono (fun k ob hk => hok.imh k ob (hok.base k ob hk)) X.q
  refine (h x hpre gc vals w (fun k o hk => hk) hq (by omega) (fun j c u hj hu => v4 j c u hj (by simpa using hu))).mono fun ev w' ⟨arr, T, he, hw, hs, hr⟩ => ?_
  subst hw
  refine ⟨_, he, g.bind base w.heap.size (p x).length, done_row hok hbase hfree hs hr, ?_⟩
  show relV _ (.one (.s (.own (base + 0) (p x).length))) _
  obtain ⟨b1, b2⟩ := Gh.bind_same g base w.heap.size (p x).length
  exact .inr ⟨w.heap.size, b1, by rw [Nat.add_zero, b2], by rw [Nat.add_zero, b2]; exact Nat.le_refl _⟩
end Go.Dv
