/- From a function's contract to the row: the call from the outside. -/
import Derived.Test.YtmhmedbhngmmpaaCvM
import Derived.RowKit3
import Derived.ChangeSame
import Derived.JoinedOf
import Derived.JoinedAt
import Derived.Lib.SmallJoins
namespace Go.Cv
open Go.ChangeShapes Go.WideShapes Go.ChangeAt Go.RowKit Go.Joins

/-- what the outside's memory is to a call -/
def gOut (W : World) : Gh := { β := fun _ => none, im := fun k => W.heap[k]? }
theorem wok_out (W : World) : WOk W (gOut W) W :=
  ⟨Below.refl _ _, fun k o h => h, (fun i j b h => nomatch h), (fun i b h => nomatch h), fun k c t fr hk hc => by rw [Array.getElem?_eq_none hk] at hc; cases hc⟩

theorem grown_of_after {W W' : World} {g g' : Gh} (h : After W g W g' W') : Grown W W' := by
  have hb := h.ok.below
  refine ⟨⟨hb.os, hb.output, fun i hi => ?_⟩, fun a => ?_, hb.size⟩
  · rw [hb.block i hi]
    cases W.heap[i]? with
    | none => rfl
    | some o =>
      cases o with
      | cells c t fr => exact ⟨rfl, rfl, rfl, fun _ _ => rfl⟩
      | map es ck => exact .inr ⟨rfl, rfl⟩
      | _ => rfl
  · unfold World.frozen?
    rcases Nat.lt_or_ge a.block W.heap.size with h1 | h1
    · rw [hb.block _ h1]
    · have : W.heap[a.block]? = none := Array.getElem?_eq_none h1
      rw [this]
      cases ho : W'.heap[a.block]? with
      | none => rfl
      | some o =>
        cases o with
        | cells c t fr =>
          have := h.ok.fz _ c t fr h1 ho
          subst this
          simp
        | _ => rfl

variable {P : Program}
theorem calls_of_ok {f : FuncId} {fn : Func} {body : Code} (hf : P.funcs[f]? = some fn) (hb : fn.body = some body) (hname : (fn.name == "runtime.NumGoroutine") = false) {S : FSpec} (h : OkFn P f S)
    {args : List CV1} {cv : CV} (hS : S (fun _ _ => none) args = some (true, cv, [])) (vals : Array Value) (W : World) (hsz : vals.size = args.length)
    (hrel : ∀ (j : Nat) c u, args[j]? = some c → vals[j]? = some u → rel1 (gOut W) c u) :
    Calls P f vals W (fun e W' => ∃ v, e = .returned v ∧ Grown W W' ∧ ∃ g', relV g' cv v) := by
  obtain ⟨_, hc⟩ := h _ args cv [] hS
  have h1 := hc (gOut W) W W vals hsz hrel (fun d hd => nomatch hd) (wok_out W)
  have hcall : (callFunc f vals).run P W = .ok (.enter f vals) W := by
    have hname' : ¬ fn.name = "runtime.NumGoroutine" := by simpa using hname
    simp [callFunc, hf, hname', hb]
  unfold CallOk at h1
  rw [hcall] at h1
  exact h1.mono fun e W' ⟨v, he, g', ha, hr⟩ => ⟨v, he, grown_of_after ha, g', hr⟩

/-- a law's answer -/
theorem calls_true {f : FuncId} {fn : Func} {body : Code} (hf : P.funcs[f]? = some fn) (hb : fn.body = some body) (hname : (fn.name == "runtime.NumGoroutine") = false) {S : FSpec} (h : OkFn P f S)
    {args : List CV1} (hS : S (fun _ _ => none) args = some (true, .one (.s (.v (.bool true))), [])) (vals : Array Value) (W : World) (hsz : vals.size = args.length)
    (hrel : ∀ (j : Nat) c u, args[j]? = some c → vals[j]? = some u → rel1 (gOut W) c u) :
    Calls P f vals W (fun e W' => e = .returned (.bool true) ∧ Grown W W') :=
  (calls_of_ok hf hb hname h hS vals W hsz hrel).mono fun e W' ⟨v, he, hg, g', hr⟩ => by
    have : v = .bool true := hr
    subst this
    exact ⟨he, hg⟩

/-- a float's word from the outside -/
theorem rel_word (g : Gh) (k : FloatKind) (b : Nat) (h : (Lit.float k b).wf = true) : rel g (.fl k (cn k b)) (.float k b) := by
  refine ⟨b, rfl, rfl, ?_⟩
  cases k
  · have : b < 2 ^ 32 := by simpa [Lit.wf] using h
    exact this
  · have : b < 2 ^ 64 := by simpa [Lit.wf] using h
    exact this
theorem rel_words2 (g : Gh) (a b : Nat) (ha : (Lit.float .f32 a).wf = true) (hb : (Lit.float .f32 b).wf = true) : rel1 g (.agg [.fl .f32 (cn .f32 a), .fl .f32 (cn .f32 b)]) (.agg #[.float .f32 a, .float .f32 b]) := by
  refine ⟨_, rfl, rfl, fun j c u h1 h2 => ?_⟩
  match j with
  | 0 => simp at h1 h2; subst h1 h2; exact rel_word g _ _ ha
  | 1 => simp at h1 h2; subst h1 h2; exact rel_word g _ _ hb
  | j + 2 => simp at h1

section
variable {H : Type} {enc : TypeId × Value → H} {w : World} {base : Nat} {spare : Nat → Bool} {held : Bool}
/-- a float's reading -/
theorem trod_float {t : TypeId} {k : FloatKind} {v : Value} {y : DataW H × List MemPlace} {n : Nat} (ht : P.underlying t = some (.float k)) (h : DataW.trod enc P w base spare held n t [v] = some y) :
    ∃ b, v = .float k b ∧ y = (.lit (.float k b), []) ∧ (Lit.float k b).wf = true := by
  cases n with
  | zero => simp [DataW.trod] at h
  | succ n =>
    cases v with
    | float q b =>
      cases q <;> cases k <;> simp [DataW.trod, ht] at h <;> exact ⟨b, rfl, h.2.symm, h.1⟩
    | _ => simp [DataW.trod, ht] at h
theorem shut_float {t : TypeId} {k : FloatKind} {b : Nat} (ht : P.underlying t = some (.float k)) (hw : (Lit.float k b).wf = true) : DataW.Trod enc P w base spare held t (.float k b) (.lit (.float k b)) [] :=
  ⟨1, by simp [DataW.trod, Value.cells, ht, hw]⟩
theorem trod1_float {t : TypeId} {k : FloatKind} {b : Nat} (ht : P.underlying t = some (.float k)) (hw : (Lit.float k b).wf = true) : ∃ n, DataW.trod enc P w base spare held n t [.float k b] = some (.lit (.float k b), []) :=
  ⟨1, by simp [DataW.trod, ht, hw]⟩
end
end Go.Cv
