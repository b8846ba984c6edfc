/- The row of a law whose program's tables are laid. -/
import Derived.Test.YtjohfkfpfjdceaaGreatDoorOr
import Derived.Handed
import Derived.SizedLaws
import Derived.LaidLaws
import Derived.Lib.LaidTab
import Derived.Lib.LaidU8

namespace Go.Dv
open Go.Cv Go.ChangeShapes Go.WideShapes Go.ChangeAt Go.RowKit Go.Joins

/-- a table that is laid, cell by cell -/
theorem row_of_reads {P : Program} {W : World} {name : String} {k : IntKind} {zs : List Int} {g : Nat} {t e : TypeId} {n : Nat}
    (hg : P.globalNamed name = some g) (hty : (P.globals[g]?).map (·.type) = some t) (ht : P.underlying t = some (.array n e)) (he : P.underlying e = some (.int k)) (hce : P.cellsOf e = 1) (hct : P.cellsOf t = n)
    (h : Lib.VarReads P W name (Lib.tabData k zs)) : ∃ T fr, W.heap[g]? = some (.cells (zs.map fun z => Value.int k z).toArray T fr) := by
  obtain ⟨g', t', cs, fuel, p, hg', ht', hvar, hd⟩ := h
  obtain rfl := Option.some.inj (hg.symm.trans hg')
  obtain rfl := Option.some.inj (hty.symm.trans ht')
  have hc := Lib.cells_of_tab ht he hce hct hd
  unfold World.var? at hvar
  rw [hg] at hvar
  simp only [Option.bind_some] at hvar
  split at hvar
  · rename_i cs' T fr hh
    cases hvar
    exact ⟨T, fr, by rw [hh, ← hc]⟩
  · cases hvar

/-- is this variable a table of integers -/
def tabTyB (P : Program) (name : String) (g : Nat) (k : IntKind) : Bool :=
  decide (P.globalNamed name = some g) && (match P.globals[g]? with
    | some gl => match P.underlying gl.type with
      | some (.array n e) => (match P.underlying e with | some (.int k') => eqI k' k | _ => false) && (Nat.beq (P.cellsOf e) 1 && Nat.beq (P.cellsOf gl.type) n)
      | _ => false
    | none => false)
theorem row_of_tab {P : Program} {W : World} {name : String} {k : IntKind} {zs : List Int} {g : Nat} (hB : tabTyB P name g k = true)
    (h : Lib.VarReads P W name (Lib.tabData k zs)) : ∃ T fr, W.heap[g]? = some (.cells (zs.map fun z => Value.int k z).toArray T fr) := by
  unfold tabTyB at hB
  rw [Bool.and_eq_true, decide_eq_true_eq] at hB
  obtain ⟨hg, hB⟩ := hB
  split at hB
  · rename_i gl hgl
    split at hB
    · rename_i n e hn
      simp only [Bool.and_eq_true] at hB
      obtain ⟨h1, h2, h3⟩ := hB
      split at h1
      · rename_i k' hk
        obtain rfl := eqI_spec h1
        exact row_of_reads hg (by rw [hgl]; rfl) hn hk (Nat.eq_of_beq_eq_true h2) (Nat.eq_of_beq_eq_true h3) h
      · cases h1
    · cases hB
  · cases hB

end Go.Dv
