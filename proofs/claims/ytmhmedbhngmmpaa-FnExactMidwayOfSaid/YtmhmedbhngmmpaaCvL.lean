/- Loops over lists: from one round to all. -/
import Derived.Test.YtmhmedbhngmmpaaCvM
namespace Go.Cv

theorem upd_self (f : Nat → CV) (d : Nat) {x : CV} (h : f d = x) : upd f (some d) x = f := by
  funext t
  by_cases e : t = d
  · subst e; rw [upd_same, h]
  · exact upd_ne f x e

theorem loop_rule {body : (Exit → St → Tr) → St → Tr} {K : Exit → St → Tr} {N : Nat} (out : Nat → Tr) (Inv : Nat → St → Prop)
    (step : ∀ i, i < N → ∀ s, Inv i s → ∀ Kn, (∀ s', Inv (i + 1) s' → Kn s' = out (i + 1)) → body (seqK Kn K) s = out i)
    (stop : ∀ s, Inv N s → ∀ Kn, body (seqK Kn K) s = out N) :
    ∀ fuel i s, i + fuel = N + 1 → i ≤ N → Inv i s → cloop body fuel K s = out i := by
  intro fuel
  induction fuel with
  | zero => intro i s h1 h2; omega
  | succ k ih =>
    intro i s h1 h2 hi
    unfold cloop
    by_cases h : i < N
    · exact step i h s hi _ fun s' hs' => ih (i + 1) s' (by omega) (by omega) hs'
    · have : i = N := by omega
      subst this
      exact stop s hi _

theorem brT_true {t : Bool} {A B : Tr} (h : t = true) : brT t A B = A := by rw [h]; rfl
theorem brT_false {t : Bool} {A B : Tr} (h : t = false) : brT t A B = B := by rw [h]; rfl
theorem wrapI64 {i : Nat} {n : Nat} (h : i < n) (hn : n < 2 ^ 62) : IntKind.i64.wrap ((i : Int) + 1) = ((i + 1 : Nat) : Int) := by
  unfold IntKind.wrap
  have e1 : (IntKind.i64.bits) = 64 := rfl
  simp [IntKind.signed, e1]
  omega
end Go.Cv
