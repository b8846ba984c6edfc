/- The contracts at hand; what has no Go body; ways of trees. -/
import Derived.Test.YtjohfkfpfjdceaaGreatDoorDs
import Derived.Laws.BitsAllLaws

namespace Go.Dv
open Go.RowKit Go.Cv

/-! ### trees -/
section
variable {α β : Type}
theorem push2 {F : α → β} {c : Bool} {A B : Tr β} {a b : α} (hA : A = some (F a)) (hB : B = some (F b)) : brT c A B = some (F (bif c then a else b)) := by
  cases c
  · exact hB
  · exact hA
theorem pushR {F : α → β} {c rA rB : Bool} {A B : Tr β} {a b : α} (hA : rA = true → A = some (F a)) (hB : rB = true → B = some (F b)) (h : (bif c then rA else rB) = true) :
    brT c A B = some (F (bif c then a else b)) := by
  cases c
  · exact hB h
  · exact hA h
theorem pushL {F : α → β} {c rA : Bool} {A B : Tr β} {a : α} (hA : rA = true → A = some (F a)) (h : (c && rA) = true) : brT c A B = some (F a) := by
  cases c
  · cases h
  · exact hA h
theorem pushN {F : α → β} {c rB : Bool} {A B : Tr β} {b : α} (hB : rB = true → B = some (F b)) (h : (!c && rB) = true) : brT c A B = some (F b) := by
  cases c
  · exact hB h
  · cases h
end

/-! ### the contracts at hand, as a list -/
section
variable {P : Program}
def envOf : List (FuncId × FSpec) → CEnv
  | [], _ => none
  | (g, S) :: rest, f => bif Nat.beq f g then some S else envOf rest f

theorem good_nil : GoodC P (envOf []) := fun _ _ h => nomatch h
theorem good_cons {g : FuncId} {S : FSpec} {rest : List (FuncId × FSpec)} (h : OkFn P g S) (hr : GoodC P (envOf rest)) : GoodC P (envOf ((g, S) :: rest)) := by
  intro f S' hf
  simp only [envOf] at hf
  cases hb : Nat.beq f g
  · rw [hb] at hf; exact hr f S' hf
  · rw [hb] at hf
    obtain rfl := Nat.eq_of_beq_eq_true hb
    cases hf; exact h

/-- the loops that are told -/
def lamOf : List (Nat × LSpec) → Nat → Option LSpec
  | [], _ => none
  | (i, L) :: rest, j => bif Nat.beq j i then some L else lamOf rest j

def LamOk (P : Program) (n : Nat) (c : Code) (Λ : Nat → Option LSpec) : Prop := ∀ i cc L, (loopsOf c)[i]? = some cc → Λ i = some L → LOk P n cc L
theorem lam_nil {n : Nat} {c : Code} : LamOk P n c (lamOf []) := fun _ _ _ _ h => nomatch h
theorem lam_cons {n : Nat} {c cc : Code} {i : Nat} {L : LSpec} {rest : List (Nat × LSpec)} (hc : (loopsOf c)[i]? = some cc) (h : LOk P n cc L) (hr : LamOk P n c (lamOf rest)) : LamOk P n c (lamOf ((i, L) :: rest)) := by
  intro j cc' L' hj hL
  simp only [lamOf] at hL
  cases hb : Nat.beq j i
  · rw [hb] at hL; exact hr j cc' L' hj hL
  · rw [hb] at hL
    obtain rfl := Nat.eq_of_beq_eq_true hb
    cases hL
    rw [hc] at hj; cases hj; exact h

end

/-! ### Go's package math -/
section
variable {P : Program}

/-- what an entry without a body does -/
def ExtRun (P : Program) (f : FuncId) (e : Array Value → Sem Value) : Prop := ∀ args w, (callFunc f args).run P w = ((e args) >>= fun v => pure (Next.value v)).run P w

def un64 (F : Nat → Nat) : FSpec := fun _ args => match args with
  | [.s (.fl .f64 x)] => some { pre := true, cv := fl .f64 (F x), nw := [], rd := [], wr := [] }
  | _ => none

theorem done_same {X : Fr} {w0 w : World} {g : Gh} (hok : WOk X w0 g w) {base : Nat} (hfree : ∀ i, base ≤ i → g.β i = none) {b : Bool} {cv : CV} {rd : List Dep} (n : Nat) : Done X w0 g w { pre := b, cv := cv, nw := [], rd := rd, wr := [] } base g (w.drewN n) :=
  ⟨g.le_refl, fun _ _ => rfl, fun i hi => hfree i hi, fun _ => hok.drewN n, fun _ => Nat.le_refl _, fun _ _ _ _ => rfl, (fun _ h => nomatch h), fun _ _ h => by simp at h⟩

theorem arr_one {us : Array Value} (h : us.size = 1) : ∃ u, us = #[u] := ⟨us[0], by
    apply Array.ext (by simp [h]); intro i h1 h2
    match i, h2 with
    | 0, _ => rfl⟩

theorem okUn64 {f : FuncId} {e : Array Value → Sem Value} (hx : ExtRun P f e) {F : Nat → Nat}
    (h : ∀ x w, x < lim .f64 → ∃ r n, (e #[.float .f64 x]).run P w = .ok (.float .f64 r) (w.drewN n) ∧ cn .f64 r = F (cn .f64 x) ∧ r < lim .f64) : OkFn P f (un64 F) := by
  intro hp args r hS _
  unfold un64 at hS
  split at hS
  · cases hS
    refine ⟨(fun d hd => nomatch hd), (fun d hd => nomatch hd), (fun d hd => nomatch hd), fun X g w0 w base vals hsz hrel _ hok _ _ hfree => ?_⟩
    obtain ⟨u, rfl⟩ := arr_one hsz
    obtain ⟨m, rfl, rfl, hm⟩ := hrel 0 _ u rfl rfl
    obtain ⟨r, n, hr, hc, hl⟩ := h m w hm
    unfold CallOk
    rw [hx]
    simp only [Sem.run_bind, hr, Result.andThen_ok, Sem.run_pure]
    exact ⟨g, done_same hok hfree n, r, rfl, hc, hl⟩
  · cases hS

theorem sqrt_eq (x : Nat) : Extern.MathSqrt.sqrt #[.float .f64 x] = (match FloatKind.f64.format.sqrt x with
    | some r => pure (.float .f64 r)
    | none => do pure (.float .f64 (← choose (.nanBits .f64 x x)))) := rfl

theorem okSqrt {f : FuncId} (hx : ExtRun P f Extern.MathSqrt.sqrt) : OkFn P f (un64 fsqrt) := by
  refine okUn64 hx fun x w hm => ?_
  have hcn : FloatKind.f64.format.sqrt (cn .f64 x) = FloatKind.f64.format.sqrt x := by
    cases hn : isNan .f64 x
    · rw [cn_of_not hn]
    · obtain ⟨s, t, e⟩ := nan_read hn
      obtain ⟨s', t', e'⟩ := nan_read (k := .f64) (n := cn .f64 x) (by rw [isNan_cn, hn])
      unfold Ieee.Format.sqrt; rw [e, e']; rfl
  cases h : FloatKind.f64.format.sqrt x with
  | some r =>
    refine ⟨r, 0, ?_, ?_, FloatKind.f64.format.sqrt_lt h⟩
    · rw [sqrt_eq]; simp [h]; rfl
    · rw [cn_of_not (k := .f64) (n := r) (map_write_not_nan (fun d hd => root_not_nan hd) h)]
      unfold fsqrt; rw [hcn, h]; rfl
  | none =>
    obtain ⟨hn, hl⟩ := nan_bits .f64 x x (w.tape w.drawn (.nanBits .f64 x x))
    refine ⟨_, 1, ?_, ?_, hl⟩
    · rw [sqrt_eq]; simp [h, forced_bits]; rfl
    · rw [cn_of_nan hn]; unfold fsqrt; rw [hcn, h]; rfl

end
end Go.Dv
