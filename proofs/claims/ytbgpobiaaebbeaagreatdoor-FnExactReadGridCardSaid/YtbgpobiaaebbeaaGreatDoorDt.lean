/- The contracts at hand; what has no Go body; ways of trees. -/
import Derived.Test.YtbgpobiaaebbeaaGreatDoorDs
import Derived.Laws.BitsAllLaws

namespace Go.Dv
open Go.RowKit Go.Cv

/-! ### trees -/
section
variable {α β : Type}
theorem push2 {F : α → β} {c : Bool} {A B : Tr β} {a b : α} (hA : A = some (F a)) (hB : B = some (F b)) : brT c A B = some (F (bif c then a else b)) := by
  cases c
  · exact hB
  · exact hA
theorem pushR {F : α → β} {c rA rB : Bool} {A B : Tr β} {a b : α} (hA : rA = true → A = some (F a)) (hB : rB = true → B = some (F b)) (h : (bif c then rA else rB) = true) :
    brT c A B = some (F (bif c then a else b)) := by
  cases c
  · exact hB h
  · exact hA h
theorem pushL {F : α → β} {c rA : Bool} {A B : Tr β} {a : α} (hA : rA = true → A = some (F a)) (h : (c && rA) = true) : brT c A B = some (F a) := by
  cases c
  · cases h
  · exact hA h
theorem pushN {F : α → β} {c rB : Bool} {A B : Tr β} {b : α} (hB : rB = true → B = some (F b)) (h : (!c && rB) = true) : brT c A B = some (F b) := by
  cases c
  · exact hB h
  · cases h
/-- a truth that holds anyway -/
theorem pushT {c : Bool} {A B : Tr β} {x : β} (hc : c = true) (hA : A = some x) : brT c A B = some x := by
  rw [hc]; exact hA
theorem beq_self_eq {a : Nat} : Nat.beq a a = true := Nat.beq_refl a
end

/-! ### the contracts at hand, as a list -/
section
variable {P : Program}
def envOf : List (FuncId × FSpec) → CEnv
  | [], _ => none
  | (g, S) :: rest, f => bif Nat.beq f g then some S else envOf rest f

theorem good_nil : GoodC P (envOf []) := fun _ _ h => nomatch h
theorem good_cons {g : FuncId} {S : FSpec} {rest : List (FuncId × FSpec)} (h : OkFn P g S) (hr : GoodC P (envOf rest)) : GoodC P (envOf ((g, S) :: rest)) := by
  intro f S' hf
  simp only [envOf] at hf
  cases hb : Nat.beq f g
  · rw [hb] at hf; exact hr f S' hf
  · rw [hb] at hf
    obtain rfl := Nat.eq_of_beq_eq_true hb
    cases hf; exact h

/-- the loops that are told -/
def lamOf : List (Nat × LSpec) → Nat → Option LSpec
  | [], _ => none
  | (i, L) :: rest, j => bif Nat.beq j i then some L else lamOf rest j

def LamOk (P : Program) (n : Nat) (c : Code) (Λ : Nat → Option LSpec) : Prop := ∀ i cc L, (loopsOf c)[i]? = some cc → Λ i = some L → LOk P n cc L
theorem lam_nil {n : Nat} {c : Code} : LamOk P n c (lamOf []) := fun _ _ _ _ h => nomatch h
theorem lam_cons {n : Nat} {c cc : Code} {i : Nat} {L : LSpec} {rest : List (Nat × LSpec)} (hc : (loopsOf c)[i]? = some cc) (h : LOk P n cc L) (hr : LamOk P n c (lamOf rest)) : LamOk P n c (lamOf ((i, L) :: rest)) := by
  intro j cc' L' hj hL
  simp only [lamOf] at hL
  cases hb : Nat.beq j i
  · rw [hb] at hL; exact hr j cc' L' hj hL
  · rw [hb] at hL
    obtain rfl := Nat.eq_of_beq_eq_true hb
    cases hL
    rw [hc] at hj; cases hj; exact h

def LamAt (P : Program) (n : Nat) (c : Code) (b : Nat) (Λ : Nat → Option LSpec) : Prop := ∀ i cc L, (loopsOf c)[i]? = some cc → Λ (b + i) = some L → LOk P n cc L
theorem lamAt_nil {n b : Nat} {c : Code} : LamAt P n c b (lamOf []) := fun _ _ _ _ h => nomatch h
theorem lamAt_cons {n b : Nat} {c cc : Code} {i k : Nat} {L : LSpec} {rest : List (Nat × LSpec)} (hk : k = b + i) (hc : (loopsOf c)[i]? = some cc) (h : LOk P n cc L) (hr : LamAt P n c b (lamOf rest)) : LamAt P n c b (lamOf ((k, L) :: rest)) := by
  intro j cc' L' hj hL
  simp only [lamOf] at hL
  cases hb : Nat.beq (b + j) k
  · rw [hb] at hL; exact hr j cc' L' hj hL
  · rw [hb] at hL
    have := Nat.eq_of_beq_eq_true hb
    obtain rfl : i = j := by omega
    cases hL
    rw [hc] at hj; cases hj; exact h
end

/-! ### Go's package math -/
section
variable {P : Program}

/-- what an entry without a body does -/
def ExtRun (P : Program) (f : FuncId) (e : Array Value → Sem Value) : Prop := ∀ args w, (callFunc f args).run P w = ((e args) >>= fun v => pure (Next.value v)).run P w

theorem done_same {X : Fr} {w0 w : World} {g : Gh} (hok : WOk X w0 g w) {base : Nat} (hfree : ∀ i, base ≤ i → g.β i = none) {b : Bool} {cv : CV} {rd : List Dep} (n : Nat) : Done X w0 g w { pre := b, cv := cv, nw := [], rd := rd, wr := [] } base g (w.drewN n) :=
  ⟨g.le_refl, fun _ _ => rfl, fun i hi => hfree i hi, fun _ => hok.drewN n, fun _ => Nat.le_refl _, fun _ _ _ _ => rfl, (fun _ h => nomatch h), fun _ _ h => by simp at h⟩

theorem arr_one {us : Array Value} (h : us.size = 1) : ∃ u, us = #[u] := ⟨us[0], by
    apply Array.ext (by simp [h]); intro i h1 h2
    match i, h2 with
    | 0, _ => rfl⟩

end
end Go.Dv
