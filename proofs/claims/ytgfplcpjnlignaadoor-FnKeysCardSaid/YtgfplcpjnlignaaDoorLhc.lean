/- The plain law of valid tracks: names, steps of places. -/
import Derived.Test.YtgfplcpjnlignaaDoorLha
import Derived.Test.YtgfplcpjnlignaaDoorWkc
import Derived.Test.YtgfplcpjnlignaaDoorQa
import Derived.Test.YtgfplcpjnlignaaDoorGa
import Derived.Test.YtgfplcpjnlignaaDoorWkh
import Derived.Test.YtgfplcpjnlignaaDoorGz

set_option linter.unusedSimpArgs false
namespace Go.Dv
open Go.Cv
open Ieee

/-! ### names -/
theorem dropWhile_head {α : Type} (p : α → Bool) : ∀ (l : List α) (x : α) (r : List α), l.dropWhile p = x :: r → p x = false
  | [], _, _, h => by cases h
  | a :: l, x, r, h => by
    rw [List.dropWhile_cons] at h
    cases hp : p a
    · rw [hp] at h
      simp at h
      rw [← h.1]; exact hp
    · rw [hp] at h
      exact dropWhile_head p l x r (by simpa using h)
theorem dropWhile_nil {α : Type} (p : α → Bool) : ∀ (l : List α), l.dropWhile p = [] ↔ ∀ x ∈ l, p x = true
  | [] => by simp
  | a :: l => by
    rw [List.dropWhile_cons]
    have ih := dropWhile_nil p l
    cases hp : p a
    · simp [hp]
    · simp [hp, ih]
theorem trim_nil (l cs : List UInt8) : (Lib.trimS l cs = []) ↔ l.all (fun b => cs.contains b) = true := by
  unfold Lib.trimS Lib.trimLeftS Lib.trimRightS
  constructor
  · intro h
    have h1 : ∀ x ∈ (l.reverse.dropWhile (cs.contains ·)).reverse, cs.contains x = true := (dropWhile_nil _ _).1 h
    rw [List.all_eq_true]
    cases hd : l.reverse.dropWhile (cs.contains ·) with
    | nil =>
      intro x hx
      exact (dropWhile_nil _ _).1 hd x (by simpa using hx)
    | cons x r =>
      exfalso
      have h2 := dropWhile_head _ _ _ _ hd
      have h3 := h1 x (by rw [hd]; simp)
      rw [h3] at h2; cases h2
  · intro h
    rw [List.all_eq_true] at h
    have : l.reverse.dropWhile (cs.contains ·) = [] := (dropWhile_nil _ _).2 fun x hx => h x (by simpa using hx)
    rw [this]; rfl

/-! ### steps of places -/
end Go.Dv
