/- What is known of the package-level variables: the table of trailing zeros; that others hold a number, an error. -/
import Derived.WalkKit

namespace Go.Dv
open Go
def errAt (m : Nat → Option Obj) (b : Nat) : Prop := ∃ arr T fr v, m b = some (.cells arr T fr) ∧ arr[0]? = some v ∧ (v = .nilIface ∨ ∃ t u, v = .iface t u)
def intAt (m : Nat → Option Obj) (b : Nat) : Prop := ∃ arr T fr n, m b = some (.cells arr T fr) ∧ arr[0]? = some (.int .i64 n)
theorem errAt_mono {m m' : Nat → Option Obj} (hm : ∀ k o, m k = some o → m' k = some o) {b : Nat} (h : errAt m b) : errAt m' b := by
  obtain ⟨arr, T, fr, v, h1, h2⟩ := h
  exact ⟨arr, T, fr, v, hm _ _ h1, h2⟩
theorem intAt_mono {m m' : Nat → Option Obj} (hm : ∀ k o, m k = some o → m' k = some o) {b : Nat} (h : intAt m b) : intAt m' b := by
  obtain ⟨arr, T, fr, v, h1, h2⟩ := h
  exact ⟨arr, T, fr, v, hm _ _ h1, h2⟩
theorem errAt_cell {w : World} {b : Nat} (h : errAt (fun k => w.heap[k]?) b) : ∃ v, w.cell? ⟨b, 0, none⟩ = some v ∧ (v = .nilIface ∨ ∃ t u, v = .iface t u) := by
  obtain ⟨arr, T, fr, v, h1, h2, h3⟩ := h
  have h1 : w.heap[b]? = some (.cells arr T fr) := h1
  exact ⟨v, by simp [World.cell?, h1, h2], h3⟩
theorem intAt_cell {w : World} {b : Nat} (h : intAt (fun k => w.heap[k]?) b) : ∃ n, w.cell? ⟨b, 0, none⟩ = some (.int .i64 n) := by
  obtain ⟨arr, T, fr, n, h1, h2⟩ := h
  have h1 : w.heap[b]? = some (.cells arr T fr) := h1
  exact ⟨n, by simp [World.cell?, h1, h2]⟩
theorem errAt_of {w : World} {b : Nat} {v : Value} (h : w.cell? ⟨b, 0, none⟩ = some v) (hv : v = .nilIface ∨ ∃ t u, v = .iface t u) : errAt (fun k => w.heap[k]?) b := by
  unfold World.cell? at h
  split at h
  · rename_i c T fr hc
    split at h
    · cases h
    · exact ⟨c, T, fr, v, hc, h, hv⟩
  · cases h
theorem intAt_of {w : World} {b : Nat} {n : Int} (h : w.cell? ⟨b, 0, none⟩ = some (.int .i64 n)) : intAt (fun k => w.heap[k]?) b := by
  unfold World.cell? at h
  split at h
  · rename_i c T fr hc
    split at h
    · cases h
    · exact ⟨c, T, fr, n, hc, h⟩
  · cases h
def GQ (m : Nat → Option Obj) : Prop := (∃ arr T fr, m 8 = some (.cells arr T fr) ∧ arr[15]? = some (.int .u8 4)) ∧ intAt m 4 ∧ errAt m 2 ∧ errAt m 3
theorem GQ_mono {m m' : Nat → Option Obj} (hm : ∀ k o, m k = some o → m' k = some o) (h : GQ m) : GQ m' := by
  obtain ⟨⟨arr, T, fr, h1, h2⟩, h3, h4, h5⟩ := h
  exact ⟨⟨arr, T, fr, hm _ _ h1, h2⟩, intAt_mono hm h3, errAt_mono hm h4, errAt_mono hm h5⟩
theorem GQ_tz {w : World} (h : GQ (fun k => w.heap[k]?)) : w.cell? ⟨8, 15, none⟩ = some (.int .u8 4) := by
  obtain ⟨⟨arr, T, fr, h1, h2⟩, _⟩ := h
  have h1 : w.heap[8]? = some (.cells arr T fr) := h1
  simp [World.cell?, h1, h2]
theorem GQ_maxlen {m : Nat → Option Obj} (h : GQ m) : intAt m 4 := h.2.1
theorem GQ_syntax {m : Nat → Option Obj} (h : GQ m) : errAt m 2 := h.2.2.1
theorem GQ_range {m : Nat → Option Obj} (h : GQ m) : errAt m 3 := h.2.2.2
end Go.Dv
