/- What is known of the package-level variables: the table of trailing zeros. -/
import Derived.WalkKit

namespace Go.Dv
open Go
def GQ (m : Nat → Option Obj) : Prop := ∃ arr T fr, m 8 = some (.cells arr T fr) ∧ arr[15]? = some (.int .u8 4)
theorem GQ_mono {m m' : Nat → Option Obj} (hm : ∀ k o, m k = some o → m' k = some o) (h : GQ m) : GQ m' := by
  obtain ⟨arr, T, fr, h1, h2⟩ := h
  exact ⟨arr, T, fr, hm _ _ h1, h2⟩
theorem GQ_tz {w : World} (h : GQ (fun k => w.heap[k]?)) : w.cell? ⟨8, 15, none⟩ = some (.int .u8 4) := by
  obtain ⟨arr, T, fr, h1, h2⟩ := h
  have h1 : w.heap[8]? = some (.cells arr T fr) := h1
  simp [World.cell?, h1, h2]
end Go.Dv
