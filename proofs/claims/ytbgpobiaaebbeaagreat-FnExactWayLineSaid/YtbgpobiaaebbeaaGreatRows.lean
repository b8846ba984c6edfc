/-
  No cell of these rows narrows 'for every input' (looked for: loops, veiled, ifaces, maps, wideKeys, modest, calm, conditions, laid).
  DERIVED. THE GIVEN ROWS OF THIS SEAT. 4 by the template 'for every input the law returns true; each argument reads behind the call as it read before'; 0 by the template 'total and deterministic' (their statements: YtbgpobiaaebbeaaGreatTotals.lean).
  GIVEN WITH THE SEED: the statements are not yours to turn. If you find one false, say at which input.
  Laid BY PROGRAM, IN A SANDBOX (cutbox-rows.mjs): the forced cells as the released guide's own fill.sh prints them over the translation d43a25da9536c988… (all of the seat's roots in one cut). By AI agents, Wed Nov 11 2026. No macro, syntax, notation, axiom, sorry.
-/
import Derived.Test.YtbgpobiaaebbeaaGreatChecked
import GoSem.Claim
import GoSem.ClaimJoined
import GoSem.ClaimMapViews
import Derived.JoinedTies
import Derived.KernelRfl
namespace Go.Proofs.YtbgpobiaaebbeaaGreat
/- THE CELL 'sum', in the pinned program and in every row, IS THE sha256 OF THE DUMP (.gsa) THAT YtbgpobiaaebbeaaGreatProg.lean LOADS. Nothing in Lean hashes anything: it is a label: what it is worth is what the hold of that sum in a sandbox is worth. -/
noncomputable def Tryz.pinned : Pinned := { name := "ytbgpobiaaebbeaagreat", sum := "d43a25da9536c9881ddc8545c53e0f1d160185f779b5be955c16bca176997083", checked := Tryz.checked }
namespace Rows
def none {H : Type} : Left H := { results := [], args := [] }

/-- 'laws.FnExactEastLine': WHATEVER THE INPUT: true; the input reads as it did. -/
def fnExactEastLineSpec : ChangeSpec := { name := "fnExactEastLine", fn := fun _ => fun
  | [d1, d2, d3] => { results := [.lit (.bool true)], args := [d1, d2, d3] }
  | _ => none }
def fnExactEastLineRow : OpenClaim := { program := "ytbgpobiaaebbeaagreat", sum := "d43a25da9536c9881ddc8545c53e0f1d160185f779b5be955c16bca176997083", func := "loop.example/g01341/laws.FnExactEastLine", spec := "fnExactEastLine", inPlace := ["math.archFloor", "math.Float64bits", "math.Float64frombits", "math.archTrunc", "math.sqrt", "math.Float32frombits"], unfollowed := true, recurses := true, apart := false }
def FnExactEastLineSaid : Prop := fnExactEastLineRow.holds Tryz.pinned (OpenSpec.ofChange fnExactEastLineSpec)

/-- ITS FALSE NEIGHBOUR: 'it returns false'. Refute it at one input. -/
def fnExactEastLineWrong : ChangeSpec := { name := "fnExactEastLine", fn := fun _ => fun
  | [d1, d2, d3] => { results := [.lit (.bool false)], args := [d1, d2, d3] }
  | _ => none }
def FnExactEastLineWrongFalsely : Prop := fnExactEastLineRow.holds Tryz.pinned (OpenSpec.ofChange fnExactEastLineWrong)

/-- 'laws.FnExactWayLine': WHATEVER THE INPUT: true; the input reads as it did. -/
def fnExactWayLineSpec : ChangeSpec := { name := "fnExactWayLine", fn := fun _ => fun
  | [d1, d2, d3, d4] => { results := [.lit (.bool true)], args := [d1, d2, d3, d4] }
  | _ => none }
def fnExactWayLineRow : OpenClaim := { program := "ytbgpobiaaebbeaagreat", sum := "d43a25da9536c9881ddc8545c53e0f1d160185f779b5be955c16bca176997083", func := "loop.example/g01341/laws.FnExactWayLine", spec := "fnExactWayLine", inPlace := ["math.Float64frombits", "math.Float64bits", "math.sqrt", "math.archFloor", "math.archTrunc", "math.Float32frombits"], unfollowed := true, recurses := true, apart := false }
def FnExactWayLineSaid : Prop := fnExactWayLineRow.holds Tryz.pinned (OpenSpec.ofChange fnExactWayLineSpec)

/-- ITS FALSE NEIGHBOUR: 'it returns false'. Refute it at one input. -/
def fnExactWayLineWrong : ChangeSpec := { name := "fnExactWayLine", fn := fun _ => fun
  | [d1, d2, d3, d4] => { results := [.lit (.bool false)], args := [d1, d2, d3, d4] }
  | _ => none }
def FnExactWayLineWrongFalsely : Prop := fnExactWayLineRow.holds Tryz.pinned (OpenSpec.ofChange fnExactWayLineWrong)

/-- 'laws.FnExactWorstScales': WHATEVER THE INPUT: true; the input reads as it did. -/
def fnExactWorstScalesSpec : ChangeSpec := { name := "fnExactWorstScales", fn := fun _ => fun
  | [d1, d2] => { results := [.lit (.bool true)], args := [d1, d2] }
  | _ => none }
def fnExactWorstScalesRow : OpenClaim := { program := "ytbgpobiaaebbeaagreat", sum := "d43a25da9536c9881ddc8545c53e0f1d160185f779b5be955c16bca176997083", func := "loop.example/g01341/laws.FnExactWorstScales", spec := "fnExactWorstScales", inPlace := ["math.archFloor", "math.Float64bits", "math.Float64frombits", "math.archTrunc", "math.sqrt", "math.Float32frombits"], unfollowed := true, recurses := true, apart := false }
def FnExactWorstScalesSaid : Prop := fnExactWorstScalesRow.holds Tryz.pinned (OpenSpec.ofChange fnExactWorstScalesSpec)

/-- ITS FALSE NEIGHBOUR: 'it returns false'. Refute it at one input. -/
def fnExactWorstScalesWrong : ChangeSpec := { name := "fnExactWorstScales", fn := fun _ => fun
  | [d1, d2] => { results := [.lit (.bool false)], args := [d1, d2] }
  | _ => none }
def FnExactWorstScalesWrongFalsely : Prop := fnExactWorstScalesRow.holds Tryz.pinned (OpenSpec.ofChange fnExactWorstScalesWrong)

/-- 'laws.FnExactFitFirst': WHATEVER THE INPUT: true; the input reads as it did. -/
def fnExactFitFirstSpec : ChangeSpec := { name := "fnExactFitFirst", fn := fun _ => fun
  | [d1, d2] => { results := [.lit (.bool true)], args := [d1, d2] }
  | _ => none }
def fnExactFitFirstRow : OpenClaim := { program := "ytbgpobiaaebbeaagreat", sum := "d43a25da9536c9881ddc8545c53e0f1d160185f779b5be955c16bca176997083", func := "loop.example/g01341/laws.FnExactFitFirst", spec := "fnExactFitFirst", inPlace := ["math.archFloor", "math.Float64bits", "math.Float64frombits", "math.archTrunc", "math.sqrt", "math.Float32frombits"], unfollowed := true, recurses := true, apart := false }
def FnExactFitFirstSaid : Prop := fnExactFitFirstRow.holds Tryz.pinned (OpenSpec.ofChange fnExactFitFirstSpec)

/-- ITS FALSE NEIGHBOUR: 'it returns false'. Refute it at one input. -/
def fnExactFitFirstWrong : ChangeSpec := { name := "fnExactFitFirst", fn := fun _ => fun
  | [d1, d2] => { results := [.lit (.bool false)], args := [d1, d2] }
  | _ => none }
def FnExactFitFirstWrongFalsely : Prop := fnExactFitFirstRow.holds Tryz.pinned (OpenSpec.ofChange fnExactFitFirstWrong)

/- THE SECOND FORM. 'bulk': how many values and letters a reading holds, each counted each time it is reached (what is shared counts as often as it is met; a slice's spare places count too). A statement '..UptoSaid' is the law's where the arguments, and the package variables that the reading takes, are together of bulk at most 1048576: NARROWER than '..Said'. Prove '..Said' where nothing that the law and all that it calls make is longer than what came in: it says more and counts as full. Else prove '..UptoSaid'. A law counts once. -/
mutual
def uptoBulk {H : Type} : DataW H → Nat
  | .lit (.string bytes) => bytes.length + 1
  | .lit _ => 1
  | .nil => 1
  | .ptr d => uptoBulk d + 1
  | .slice elems spare => uptoBulkAll elems + uptoBulkAll spare + 1
  | .agg parts => uptoBulkAll parts + 1
  | .iface _ d => uptoBulk d + 1
  | .map entries => uptoBulkEntries entries + 1
  | .held _ => 1
def uptoBulkAll {H : Type} : List (DataW H) → Nat
  | [] => 0
  | d :: r => uptoBulk d + uptoBulkAll r
def uptoBulkEntries {H : Type} : List (Lit × DataW H) → Nat
  | [] => 0
  | x :: r => uptoBulkEntry x + uptoBulkEntries r
def uptoBulkEntry {H : Type} : Lit × DataW H → Nat
  | (.string bytes, d) => bytes.length + uptoBulk d + 1
  | (_, d) => uptoBulk d + 1
 end
def uptoSmall : (H : Type) → List (DataW H) → Bool := fun _ ds => decide (uptoBulkAll ds ≤ 1048576)
def OpenSpec.upto (s : _root_.Go.ChangeSpec) : _root_.Go.OpenSpec := { _root_.Go.OpenSpec.ofChange s with cond := some uptoSmall }

/-- 'laws.FnExactEastLine', WHERE WHAT IT READS IS OF BULK AT MOST 1048576: true; the input reads as it did. -/
def fnExactEastLineUptoRow : OpenClaim := { program := "ytbgpobiaaebbeaagreat", sum := "d43a25da9536c9881ddc8545c53e0f1d160185f779b5be955c16bca176997083", func := "loop.example/g01341/laws.FnExactEastLine", spec := "fnExactEastLine", inPlace := ["math.archFloor", "math.Float64bits", "math.Float64frombits", "math.archTrunc", "math.sqrt", "math.Float32frombits"], unfollowed := true, recurses := true, apart := false, narrowed := true }
def FnExactEastLineUptoSaid : Prop := fnExactEastLineUptoRow.holds Tryz.pinned (OpenSpec.upto fnExactEastLineSpec)

/-- 'laws.FnExactWayLine', WHERE WHAT IT READS IS OF BULK AT MOST 1048576: true; the input reads as it did. -/
def fnExactWayLineUptoRow : OpenClaim := { program := "ytbgpobiaaebbeaagreat", sum := "d43a25da9536c9881ddc8545c53e0f1d160185f779b5be955c16bca176997083", func := "loop.example/g01341/laws.FnExactWayLine", spec := "fnExactWayLine", inPlace := ["math.Float64frombits", "math.Float64bits", "math.sqrt", "math.archFloor", "math.archTrunc", "math.Float32frombits"], unfollowed := true, recurses := true, apart := false, narrowed := true }
def FnExactWayLineUptoSaid : Prop := fnExactWayLineUptoRow.holds Tryz.pinned (OpenSpec.upto fnExactWayLineSpec)

/-- 'laws.FnExactWorstScales', WHERE WHAT IT READS IS OF BULK AT MOST 1048576: true; the input reads as it did. -/
def fnExactWorstScalesUptoRow : OpenClaim := { program := "ytbgpobiaaebbeaagreat", sum := "d43a25da9536c9881ddc8545c53e0f1d160185f779b5be955c16bca176997083", func := "loop.example/g01341/laws.FnExactWorstScales", spec := "fnExactWorstScales", inPlace := ["math.archFloor", "math.Float64bits", "math.Float64frombits", "math.archTrunc", "math.sqrt", "math.Float32frombits"], unfollowed := true, recurses := true, apart := false, narrowed := true }
def FnExactWorstScalesUptoSaid : Prop := fnExactWorstScalesUptoRow.holds Tryz.pinned (OpenSpec.upto fnExactWorstScalesSpec)

/-- 'laws.FnExactFitFirst', WHERE WHAT IT READS IS OF BULK AT MOST 1048576: true; the input reads as it did. -/
def fnExactFitFirstUptoRow : OpenClaim := { program := "ytbgpobiaaebbeaagreat", sum := "d43a25da9536c9881ddc8545c53e0f1d160185f779b5be955c16bca176997083", func := "loop.example/g01341/laws.FnExactFitFirst", spec := "fnExactFitFirst", inPlace := ["math.archFloor", "math.Float64bits", "math.Float64frombits", "math.archTrunc", "math.sqrt", "math.Float32frombits"], unfollowed := true, recurses := true, apart := false, narrowed := true }
def FnExactFitFirstUptoSaid : Prop := fnExactFitFirstUptoRow.holds Tryz.pinned (OpenSpec.upto fnExactFitFirstSpec)

end Rows
end Go.Proofs.YtbgpobiaaebbeaaGreat
