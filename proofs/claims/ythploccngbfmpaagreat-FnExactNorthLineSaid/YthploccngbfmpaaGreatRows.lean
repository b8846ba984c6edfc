/-
  No cell of these rows narrows 'for every input' (looked for: loops, veiled, ifaces, maps, wideKeys, modest, calm, conditions, laid).
  DERIVED. THE GIVEN ROWS OF THIS SEAT. 14 by the template 'for every input the law returns true; each argument reads behind the call as it read before'; 0 by the template 'total and deterministic' (their statements: YthploccngbfmpaaGreatTotals.lean).
  GIVEN WITH THE SEED: the statements are not yours to turn. If you find one false, say at which input.
  Laid BY PROGRAM, IN A SANDBOX (cutbox-rows.mjs): the forced cells as the released guide's own fill.sh prints them over the translation 7c4ec9621ea8a124… (all of the seat's roots in one cut). By AI agents, Wed Nov 11 2026. No macro, syntax, notation, axiom, sorry.
-/
import Derived.Test.YthploccngbfmpaaGreatChecked
import GoSem.Claim
import GoSem.ClaimJoined
import GoSem.ClaimMapViews
import Derived.JoinedTies
import Derived.KernelRfl
namespace Go.Proofs.YthploccngbfmpaaGreat
/- THE CELL 'sum', in the pinned program and in every row, IS THE sha256 OF THE DUMP (.gsa) THAT YthploccngbfmpaaGreatProg.lean LOADS. Nothing in Lean hashes anything: it is a label: what it is worth is what the hold of that sum in a sandbox is worth. -/
noncomputable def Tryz.pinned : Pinned := { name := "ythploccngbfmpaagreat", sum := "7c4ec9621ea8a124d9b3a2d2b3bb6d649b6902c6c385f32057f5c0fd94e2a61d", checked := Tryz.checked }
namespace Rows
def none {H : Type} : Left H := { results := [], args := [] }

/-- 'laws.FnExactLongRatio': WHATEVER THE INPUT: true; the input reads as it did. -/
def fnExactLongRatioSpec : ChangeSpec := { name := "fnExactLongRatio", fn := fun _ => fun
  | [d1, d2, d3] => { results := [.lit (.bool true)], args := [d1, d2, d3] }
  | _ => none }
def fnExactLongRatioRow : OpenClaim := { program := "ythploccngbfmpaagreat", sum := "7c4ec9621ea8a124d9b3a2d2b3bb6d649b6902c6c385f32057f5c0fd94e2a61d", func := "loop.example/g01341/laws.FnExactLongRatio", spec := "fnExactLongRatio", inPlace := ["math.archFloor", "math.Float64bits", "math.Float64frombits", "math.archTrunc", "math.sqrt", "math.Float32frombits"], unfollowed := true, recurses := true, apart := false }
def FnExactLongRatioSaid : Prop := fnExactLongRatioRow.holds Tryz.pinned (OpenSpec.ofChange fnExactLongRatioSpec)

/-- ITS FALSE NEIGHBOUR: 'it returns false'. Refute it at one input. -/
def fnExactLongRatioWrong : ChangeSpec := { name := "fnExactLongRatio", fn := fun _ => fun
  | [d1, d2, d3] => { results := [.lit (.bool false)], args := [d1, d2, d3] }
  | _ => none }
def FnExactLongRatioWrongFalsely : Prop := fnExactLongRatioRow.holds Tryz.pinned (OpenSpec.ofChange fnExactLongRatioWrong)

/-- 'laws.FnExactEastScale': WHATEVER THE INPUT: true; the input reads as it did. -/
def fnExactEastScaleSpec : ChangeSpec := { name := "fnExactEastScale", fn := fun _ => fun
  | [d1, d2] => { results := [.lit (.bool true)], args := [d1, d2] }
  | _ => none }
def fnExactEastScaleRow : OpenClaim := { program := "ythploccngbfmpaagreat", sum := "7c4ec9621ea8a124d9b3a2d2b3bb6d649b6902c6c385f32057f5c0fd94e2a61d", func := "loop.example/g01341/laws.FnExactEastScale", spec := "fnExactEastScale", inPlace := ["math.archFloor", "math.Float64bits", "math.Float64frombits", "math.archTrunc", "math.sqrt", "math.Float32frombits"], unfollowed := true, recurses := true, apart := false }
def FnExactEastScaleSaid : Prop := fnExactEastScaleRow.holds Tryz.pinned (OpenSpec.ofChange fnExactEastScaleSpec)

/-- ITS FALSE NEIGHBOUR: 'it returns false'. Refute it at one input. -/
def fnExactEastScaleWrong : ChangeSpec := { name := "fnExactEastScale", fn := fun _ => fun
  | [d1, d2] => { results := [.lit (.bool false)], args := [d1, d2] }
  | _ => none }
def FnExactEastScaleWrongFalsely : Prop := fnExactEastScaleRow.holds Tryz.pinned (OpenSpec.ofChange fnExactEastScaleWrong)

/-- 'laws.FnExactNorthScale': WHATEVER THE INPUT: true; the input reads as it did. -/
def fnExactNorthScaleSpec : ChangeSpec := { name := "fnExactNorthScale", fn := fun _ => fun
  | [d1, d2] => { results := [.lit (.bool true)], args := [d1, d2] }
  | _ => none }
def fnExactNorthScaleRow : OpenClaim := { program := "ythploccngbfmpaagreat", sum := "7c4ec9621ea8a124d9b3a2d2b3bb6d649b6902c6c385f32057f5c0fd94e2a61d", func := "loop.example/g01341/laws.FnExactNorthScale", spec := "fnExactNorthScale", inPlace := ["math.archFloor", "math.Float64bits", "math.Float64frombits", "math.archTrunc", "math.sqrt", "math.Float32frombits"], unfollowed := true, recurses := true, apart := false }
def FnExactNorthScaleSaid : Prop := fnExactNorthScaleRow.holds Tryz.pinned (OpenSpec.ofChange fnExactNorthScaleSpec)

/-- ITS FALSE NEIGHBOUR: 'it returns false'. Refute it at one input. -/
def fnExactNorthScaleWrong : ChangeSpec := { name := "fnExactNorthScale", fn := fun _ => fun
  | [d1, d2] => { results := [.lit (.bool false)], args := [d1, d2] }
  | _ => none }
def FnExactNorthScaleWrongFalsely : Prop := fnExactNorthScaleRow.holds Tryz.pinned (OpenSpec.ofChange fnExactNorthScaleWrong)

/-- 'laws.FnExactCrossAngle': WHATEVER THE INPUT: true; the input reads as it did. -/
def fnExactCrossAngleSpec : ChangeSpec := { name := "fnExactCrossAngle", fn := fun _ => fun
  | [d1, d2] => { results := [.lit (.bool true)], args := [d1, d2] }
  | _ => none }
def fnExactCrossAngleRow : OpenClaim := { program := "ythploccngbfmpaagreat", sum := "7c4ec9621ea8a124d9b3a2d2b3bb6d649b6902c6c385f32057f5c0fd94e2a61d", func := "loop.example/g01341/laws.FnExactCrossAngle", spec := "fnExactCrossAngle", inPlace := ["math.archFloor", "math.Float64bits", "math.Float64frombits", "math.archTrunc", "math.sqrt", "math.Float32frombits"], unfollowed := true, recurses := true, apart := false }
def FnExactCrossAngleSaid : Prop := fnExactCrossAngleRow.holds Tryz.pinned (OpenSpec.ofChange fnExactCrossAngleSpec)

/-- ITS FALSE NEIGHBOUR: 'it returns false'. Refute it at one input. -/
def fnExactCrossAngleWrong : ChangeSpec := { name := "fnExactCrossAngle", fn := fun _ => fun
  | [d1, d2] => { results := [.lit (.bool false)], args := [d1, d2] }
  | _ => none }
def FnExactCrossAngleWrongFalsely : Prop := fnExactCrossAngleRow.holds Tryz.pinned (OpenSpec.ofChange fnExactCrossAngleWrong)

/-- 'laws.FnExactNorthLine': WHATEVER THE INPUT: true; the input reads as it did. -/
def fnExactNorthLineSpec : ChangeSpec := { name := "fnExactNorthLine", fn := fun _ => fun
  | [d1, d2, d3] => { results := [.lit (.bool true)], args := [d1, d2, d3] }
  | _ => none }
def fnExactNorthLineRow : OpenClaim := { program := "ythploccngbfmpaagreat", sum := "7c4ec9621ea8a124d9b3a2d2b3bb6d649b6902c6c385f32057f5c0fd94e2a61d", func := "loop.example/g01341/laws.FnExactNorthLine", spec := "fnExactNorthLine", inPlace := ["math.archFloor", "math.Float64bits", "math.Float64frombits", "math.archTrunc", "math.sqrt", "math.Float32frombits"], unfollowed := true, recurses := true, apart := false }
def FnExactNorthLineSaid : Prop := fnExactNorthLineRow.holds Tryz.pinned (OpenSpec.ofChange fnExactNorthLineSpec)

/-- ITS FALSE NEIGHBOUR: 'it returns false'. Refute it at one input. -/
def fnExactNorthLineWrong : ChangeSpec := { name := "fnExactNorthLine", fn := fun _ => fun
  | [d1, d2, d3] => { results := [.lit (.bool false)], args := [d1, d2, d3] }
  | _ => none }
def FnExactNorthLineWrongFalsely : Prop := fnExactNorthLineRow.holds Tryz.pinned (OpenSpec.ofChange fnExactNorthLineWrong)

/-- 'laws.FnExactEastLine': WHATEVER THE INPUT: true; the input reads as it did. -/
def fnExactEastLineSpec : ChangeSpec := { name := "fnExactEastLine", fn := fun _ => fun
  | [d1, d2, d3] => { results := [.lit (.bool true)], args := [d1, d2, d3] }
  | _ => none }
def fnExactEastLineRow : OpenClaim := { program := "ythploccngbfmpaagreat", sum := "7c4ec9621ea8a124d9b3a2d2b3bb6d649b6902c6c385f32057f5c0fd94e2a61d", func := "loop.example/g01341/laws.FnExactEastLine", spec := "fnExactEastLine", inPlace := ["math.archFloor", "math.Float64bits", "math.Float64frombits", "math.archTrunc", "math.sqrt", "math.Float32frombits"], unfollowed := true, recurses := true, apart := false }
def FnExactEastLineSaid : Prop := fnExactEastLineRow.holds Tryz.pinned (OpenSpec.ofChange fnExactEastLineSpec)

/-- ITS FALSE NEIGHBOUR: 'it returns false'. Refute it at one input. -/
def fnExactEastLineWrong : ChangeSpec := { name := "fnExactEastLine", fn := fun _ => fun
  | [d1, d2, d3] => { results := [.lit (.bool false)], args := [d1, d2, d3] }
  | _ => none }
def FnExactEastLineWrongFalsely : Prop := fnExactEastLineRow.holds Tryz.pinned (OpenSpec.ofChange fnExactEastLineWrong)

/-- 'laws.FnExactPointsOf': WHATEVER THE INPUT: true; the input reads as it did. -/
def fnExactPointsOfSpec : ChangeSpec := { name := "fnExactPointsOf", fn := fun _ => fun
  | [d1, d2] => { results := [.lit (.bool true)], args := [d1, d2] }
  | _ => none }
def fnExactPointsOfRow : OpenClaim := { program := "ythploccngbfmpaagreat", sum := "7c4ec9621ea8a124d9b3a2d2b3bb6d649b6902c6c385f32057f5c0fd94e2a61d", func := "loop.example/g01341/laws.FnExactPointsOf", spec := "fnExactPointsOf", inPlace := ["math.archFloor", "math.Float64bits", "math.Float64frombits", "math.archTrunc", "math.sqrt", "math.Float32frombits"], unfollowed := true, recurses := true, apart := false }
def FnExactPointsOfSaid : Prop := fnExactPointsOfRow.holds Tryz.pinned (OpenSpec.ofChange fnExactPointsOfSpec)

/-- ITS FALSE NEIGHBOUR: 'it returns false'. Refute it at one input. -/
def fnExactPointsOfWrong : ChangeSpec := { name := "fnExactPointsOf", fn := fun _ => fun
  | [d1, d2] => { results := [.lit (.bool false)], args := [d1, d2] }
  | _ => none }
def FnExactPointsOfWrongFalsely : Prop := fnExactPointsOfRow.holds Tryz.pinned (OpenSpec.ofChange fnExactPointsOfWrong)

/-- 'laws.FnExactAxesAt': WHATEVER THE INPUT: true; the input reads as it did. -/
def fnExactAxesAtSpec : ChangeSpec := { name := "fnExactAxesAt", fn := fun _ => fun
  | [d1, d2] => { results := [.lit (.bool true)], args := [d1, d2] }
  | _ => none }
def fnExactAxesAtRow : OpenClaim := { program := "ythploccngbfmpaagreat", sum := "7c4ec9621ea8a124d9b3a2d2b3bb6d649b6902c6c385f32057f5c0fd94e2a61d", func := "loop.example/g01341/laws.FnExactAxesAt", spec := "fnExactAxesAt", inPlace := ["math.archFloor", "math.Float64bits", "math.Float64frombits", "math.archTrunc", "math.sqrt", "math.Float32frombits"], unfollowed := true, recurses := true, apart := false }
def FnExactAxesAtSaid : Prop := fnExactAxesAtRow.holds Tryz.pinned (OpenSpec.ofChange fnExactAxesAtSpec)

/-- ITS FALSE NEIGHBOUR: 'it returns false'. Refute it at one input. -/
def fnExactAxesAtWrong : ChangeSpec := { name := "fnExactAxesAt", fn := fun _ => fun
  | [d1, d2] => { results := [.lit (.bool false)], args := [d1, d2] }
  | _ => none }
def FnExactAxesAtWrongFalsely : Prop := fnExactAxesAtRow.holds Tryz.pinned (OpenSpec.ofChange fnExactAxesAtWrong)

/-- 'laws.FnExactPointsShared': WHATEVER THE INPUT: true; the input reads as it did. -/
def fnExactPointsSharedSpec : ChangeSpec := { name := "fnExactPointsShared", fn := fun _ => fun
  | [d1, d2, d3] => { results := [.lit (.bool true)], args := [d1, d2, d3] }
  | _ => none }
def fnExactPointsSharedRow : OpenClaim := { program := "ythploccngbfmpaagreat", sum := "7c4ec9621ea8a124d9b3a2d2b3bb6d649b6902c6c385f32057f5c0fd94e2a61d", func := "loop.example/g01341/laws.FnExactPointsShared", spec := "fnExactPointsShared", inPlace := ["math.archFloor", "math.Float64bits", "math.Float64frombits", "math.archTrunc", "math.sqrt", "math.Float32frombits"], unfollowed := true, recurses := true, apart := false }
def FnExactPointsSharedSaid : Prop := fnExactPointsSharedRow.holds Tryz.pinned (OpenSpec.ofChange fnExactPointsSharedSpec)

/-- ITS FALSE NEIGHBOUR: 'it returns false'. Refute it at one input. -/
def fnExactPointsSharedWrong : ChangeSpec := { name := "fnExactPointsShared", fn := fun _ => fun
  | [d1, d2, d3] => { results := [.lit (.bool false)], args := [d1, d2, d3] }
  | _ => none }
def FnExactPointsSharedWrongFalsely : Prop := fnExactPointsSharedRow.holds Tryz.pinned (OpenSpec.ofChange fnExactPointsSharedWrong)

/-- 'laws.FnExactMapBox': WHATEVER THE INPUT: true; the input reads as it did. -/
def fnExactMapBoxSpec : ChangeSpec := { name := "fnExactMapBox", fn := fun _ => fun
  | [d1, d2] => { results := [.lit (.bool true)], args := [d1, d2] }
  | _ => none }
def fnExactMapBoxRow : OpenClaim := { program := "ythploccngbfmpaagreat", sum := "7c4ec9621ea8a124d9b3a2d2b3bb6d649b6902c6c385f32057f5c0fd94e2a61d", func := "loop.example/g01341/laws.FnExactMapBox", spec := "fnExactMapBox", inPlace := ["math.archFloor", "math.Float64bits", "math.Float64frombits", "math.archTrunc", "math.sqrt", "math.Float32frombits"], unfollowed := true, recurses := true, apart := false }
def FnExactMapBoxSaid : Prop := fnExactMapBoxRow.holds Tryz.pinned (OpenSpec.ofChange fnExactMapBoxSpec)

/-- ITS FALSE NEIGHBOUR: 'it returns false'. Refute it at one input. -/
def fnExactMapBoxWrong : ChangeSpec := { name := "fnExactMapBox", fn := fun _ => fun
  | [d1, d2] => { results := [.lit (.bool false)], args := [d1, d2] }
  | _ => none }
def FnExactMapBoxWrongFalsely : Prop := fnExactMapBoxRow.holds Tryz.pinned (OpenSpec.ofChange fnExactMapBoxWrong)

/-- 'laws.FnExactWayLine': WHATEVER THE INPUT: true; the input reads as it did. -/
def fnExactWayLineSpec : ChangeSpec := { name := "fnExactWayLine", fn := fun _ => fun
  | [d1, d2, d3, d4] => { results := [.lit (.bool true)], args := [d1, d2, d3, d4] }
  | _ => none }
def fnExactWayLineRow : OpenClaim := { program := "ythploccngbfmpaagreat", sum := "7c4ec9621ea8a124d9b3a2d2b3bb6d649b6902c6c385f32057f5c0fd94e2a61d", func := "loop.example/g01341/laws.FnExactWayLine", spec := "fnExactWayLine", inPlace := ["math.Float64frombits", "math.Float64bits", "math.sqrt", "math.archFloor", "math.archTrunc", "math.Float32frombits"], unfollowed := true, recurses := true, apart := false }
def FnExactWayLineSaid : Prop := fnExactWayLineRow.holds Tryz.pinned (OpenSpec.ofChange fnExactWayLineSpec)

/-- ITS FALSE NEIGHBOUR: 'it returns false'. Refute it at one input. -/
def fnExactWayLineWrong : ChangeSpec := { name := "fnExactWayLine", fn := fun _ => fun
  | [d1, d2, d3, d4] => { results := [.lit (.bool false)], args := [d1, d2, d3, d4] }
  | _ => none }
def FnExactWayLineWrongFalsely : Prop := fnExactWayLineRow.holds Tryz.pinned (OpenSpec.ofChange fnExactWayLineWrong)

/-- 'laws.FnExactBendOfMap': WHATEVER THE INPUT: true; the input reads as it did. -/
def fnExactBendOfMapSpec : ChangeSpec := { name := "fnExactBendOfMap", fn := fun _ => fun
  | [d1, d2] => { results := [.lit (.bool true)], args := [d1, d2] }
  | _ => none }
def fnExactBendOfMapRow : OpenClaim := { program := "ythploccngbfmpaagreat", sum := "7c4ec9621ea8a124d9b3a2d2b3bb6d649b6902c6c385f32057f5c0fd94e2a61d", func := "loop.example/g01341/laws.FnExactBendOfMap", spec := "fnExactBendOfMap", inPlace := ["math.archFloor", "math.Float64bits", "math.Float64frombits", "math.archTrunc", "math.sqrt", "math.Float32frombits"], unfollowed := true, recurses := true, apart := false }
def FnExactBendOfMapSaid : Prop := fnExactBendOfMapRow.holds Tryz.pinned (OpenSpec.ofChange fnExactBendOfMapSpec)

/-- ITS FALSE NEIGHBOUR: 'it returns false'. Refute it at one input. -/
def fnExactBendOfMapWrong : ChangeSpec := { name := "fnExactBendOfMap", fn := fun _ => fun
  | [d1, d2] => { results := [.lit (.bool false)], args := [d1, d2] }
  | _ => none }
def FnExactBendOfMapWrongFalsely : Prop := fnExactBendOfMapRow.holds Tryz.pinned (OpenSpec.ofChange fnExactBendOfMapWrong)

/-- 'laws.FnExactWorstScales': WHATEVER THE INPUT: true; the input reads as it did. -/
def fnExactWorstScalesSpec : ChangeSpec := { name := "fnExactWorstScales", fn := fun _ => fun
  | [d1, d2] => { results := [.lit (.bool true)], args := [d1, d2] }
  | _ => none }
def fnExactWorstScalesRow : OpenClaim := { program := "ythploccngbfmpaagreat", sum := "7c4ec9621ea8a124d9b3a2d2b3bb6d649b6902c6c385f32057f5c0fd94e2a61d", func := "loop.example/g01341/laws.FnExactWorstScales", spec := "fnExactWorstScales", inPlace := ["math.archFloor", "math.Float64bits", "math.Float64frombits", "math.archTrunc", "math.sqrt", "math.Float32frombits"], unfollowed := true, recurses := true, apart := false }
def FnExactWorstScalesSaid : Prop := fnExactWorstScalesRow.holds Tryz.pinned (OpenSpec.ofChange fnExactWorstScalesSpec)

/-- ITS FALSE NEIGHBOUR: 'it returns false'. Refute it at one input. -/
def fnExactWorstScalesWrong : ChangeSpec := { name := "fnExactWorstScales", fn := fun _ => fun
  | [d1, d2] => { results := [.lit (.bool false)], args := [d1, d2] }
  | _ => none }
def FnExactWorstScalesWrongFalsely : Prop := fnExactWorstScalesRow.holds Tryz.pinned (OpenSpec.ofChange fnExactWorstScalesWrong)

/-- 'laws.FnExactFitFirst': WHATEVER THE INPUT: true; the input reads as it did. -/
def fnExactFitFirstSpec : ChangeSpec := { name := "fnExactFitFirst", fn := fun _ => fun
  | [d1, d2] => { results := [.lit (.bool true)], args := [d1, d2] }
  | _ => none }
def fnExactFitFirstRow : OpenClaim := { program := "ythploccngbfmpaagreat", sum := "7c4ec9621ea8a124d9b3a2d2b3bb6d649b6902c6c385f32057f5c0fd94e2a61d", func := "loop.example/g01341/laws.FnExactFitFirst", spec := "fnExactFitFirst", inPlace := ["math.archFloor", "math.Float64bits", "math.Float64frombits", "math.archTrunc", "math.sqrt", "math.Float32frombits"], unfollowed := true, recurses := true, apart := false }
def FnExactFitFirstSaid : Prop := fnExactFitFirstRow.holds Tryz.pinned (OpenSpec.ofChange fnExactFitFirstSpec)

/-- ITS FALSE NEIGHBOUR: 'it returns false'. Refute it at one input. -/
def fnExactFitFirstWrong : ChangeSpec := { name := "fnExactFitFirst", fn := fun _ => fun
  | [d1, d2] => { results := [.lit (.bool false)], args := [d1, d2] }
  | _ => none }
def FnExactFitFirstWrongFalsely : Prop := fnExactFitFirstRow.holds Tryz.pinned (OpenSpec.ofChange fnExactFitFirstWrong)

/- THE SECOND FORM. 'bulk': how many values and letters a reading holds, each counted each time it is reached (what is shared counts as often as it is met; a slice's spare places count too). A statement '..UptoSaid' is the law's where the arguments, and the package variables that the reading takes, are together of bulk at most 1048576: NARROWER than '..Said'. Prove '..Said' where nothing that the law and all that it calls make is longer than what came in: it says more and counts as full. Else prove '..UptoSaid'. A law counts once. -/
mutual
def uptoBulk {H : Type} : DataW H → Nat
  | .lit (.string bytes) => bytes.length + 1
  | .lit _ => 1
  | .nil => 1
  | .ptr d => uptoBulk d + 1
  | .slice elems spare => uptoBulkAll elems + uptoBulkAll spare + 1
  | .agg parts => uptoBulkAll parts + 1
  | .iface _ d => uptoBulk d + 1
  | .map entries => uptoBulkEntries entries + 1
  | .held _ => 1
def uptoBulkAll {H : Type} : List (DataW H) → Nat
  | [] => 0
  | d :: r => uptoBulk d + uptoBulkAll r
def uptoBulkEntries {H : Type} : List (Lit × DataW H) → Nat
  | [] => 0
  | x :: r => uptoBulkEntry x + uptoBulkEntries r
def uptoBulkEntry {H : Type} : Lit × DataW H → Nat
  | (.string bytes, d) => bytes.length + uptoBulk d + 1
  | (_, d) => uptoBulk d + 1
 end
def uptoSmall : (H : Type) → List (DataW H) → Bool := fun _ ds => decide (uptoBulkAll ds ≤ 1048576)
def OpenSpec.upto (s : _root_.Go.ChangeSpec) : _root_.Go.OpenSpec := { _root_.Go.OpenSpec.ofChange s with cond := some uptoSmall }

/-- 'laws.FnExactLongRatio', WHERE WHAT IT READS IS OF BULK AT MOST 1048576: true; the input reads as it did. -/
def fnExactLongRatioUptoRow : OpenClaim := { program := "ythploccngbfmpaagreat", sum := "7c4ec9621ea8a124d9b3a2d2b3bb6d649b6902c6c385f32057f5c0fd94e2a61d", func := "loop.example/g01341/laws.FnExactLongRatio", spec := "fnExactLongRatio", inPlace := ["math.archFloor", "math.Float64bits", "math.Float64frombits", "math.archTrunc", "math.sqrt", "math.Float32frombits"], unfollowed := true, recurses := true, apart := false, narrowed := true }
def FnExactLongRatioUptoSaid : Prop := fnExactLongRatioUptoRow.holds Tryz.pinned (OpenSpec.upto fnExactLongRatioSpec)

/-- 'laws.FnExactEastScale', WHERE WHAT IT READS IS OF BULK AT MOST 1048576: true; the input reads as it did. -/
def fnExactEastScaleUptoRow : OpenClaim := { program := "ythploccngbfmpaagreat", sum := "7c4ec9621ea8a124d9b3a2d2b3bb6d649b6902c6c385f32057f5c0fd94e2a61d", func := "loop.example/g01341/laws.FnExactEastScale", spec := "fnExactEastScale", inPlace := ["math.archFloor", "math.Float64bits", "math.Float64frombits", "math.archTrunc", "math.sqrt", "math.Float32frombits"], unfollowed := true, recurses := true, apart := false, narrowed := true }
def FnExactEastScaleUptoSaid : Prop := fnExactEastScaleUptoRow.holds Tryz.pinned (OpenSpec.upto fnExactEastScaleSpec)

/-- 'laws.FnExactNorthScale', WHERE WHAT IT READS IS OF BULK AT MOST 1048576: true; the input reads as it did. -/
def fnExactNorthScaleUptoRow : OpenClaim := { program := "ythploccngbfmpaagreat", sum := "7c4ec9621ea8a124d9b3a2d2b3bb6d649b6902c6c385f32057f5c0fd94e2a61d", func := "loop.example/g01341/laws.FnExactNorthScale", spec := "fnExactNorthScale", inPlace := ["math.archFloor", "math.Float64bits", "math.Float64frombits", "math.archTrunc", "math.sqrt", "math.Float32frombits"], unfollowed := true, recurses := true, apart := false, narrowed := true }
def FnExactNorthScaleUptoSaid : Prop := fnExactNorthScaleUptoRow.holds Tryz.pinned (OpenSpec.upto fnExactNorthScaleSpec)

/-- 'laws.FnExactCrossAngle', WHERE WHAT IT READS IS OF BULK AT MOST 1048576: true; the input reads as it did. -/
def fnExactCrossAngleUptoRow : OpenClaim := { program := "ythploccngbfmpaagreat", sum := "7c4ec9621ea8a124d9b3a2d2b3bb6d649b6902c6c385f32057f5c0fd94e2a61d", func := "loop.example/g01341/laws.FnExactCrossAngle", spec := "fnExactCrossAngle", inPlace := ["math.archFloor", "math.Float64bits", "math.Float64frombits", "math.archTrunc", "math.sqrt", "math.Float32frombits"], unfollowed := true, recurses := true, apart := false, narrowed := true }
def FnExactCrossAngleUptoSaid : Prop := fnExactCrossAngleUptoRow.holds Tryz.pinned (OpenSpec.upto fnExactCrossAngleSpec)

/-- 'laws.FnExactNorthLine', WHERE WHAT IT READS IS OF BULK AT MOST 1048576: true; the input reads as it did. -/
def fnExactNorthLineUptoRow : OpenClaim := { program := "ythploccngbfmpaagreat", sum := "7c4ec9621ea8a124d9b3a2d2b3bb6d649b6902c6c385f32057f5c0fd94e2a61d", func := "loop.example/g01341/laws.FnExactNorthLine", spec := "fnExactNorthLine", inPlace := ["math.archFloor", "math.Float64bits", "math.Float64frombits", "math.archTrunc", "math.sqrt", "math.Float32frombits"], unfollowed := true, recurses := true, apart := false, narrowed := true }
def FnExactNorthLineUptoSaid : Prop := fnExactNorthLineUptoRow.holds Tryz.pinned (OpenSpec.upto fnExactNorthLineSpec)

/-- 'laws.FnExactEastLine', WHERE WHAT IT READS IS OF BULK AT MOST 1048576: true; the input reads as it did. -/
def fnExactEastLineUptoRow : OpenClaim := { program := "ythploccngbfmpaagreat", sum := "7c4ec9621ea8a124d9b3a2d2b3bb6d649b6902c6c385f32057f5c0fd94e2a61d", func := "loop.example/g01341/laws.FnExactEastLine", spec := "fnExactEastLine", inPlace := ["math.archFloor", "math.Float64bits", "math.Float64frombits", "math.archTrunc", "math.sqrt", "math.Float32frombits"], unfollowed := true, recurses := true, apart := false, narrowed := true }
def FnExactEastLineUptoSaid : Prop := fnExactEastLineUptoRow.holds Tryz.pinned (OpenSpec.upto fnExactEastLineSpec)

/-- 'laws.FnExactPointsOf', WHERE WHAT IT READS IS OF BULK AT MOST 1048576: true; the input reads as it did. -/
def fnExactPointsOfUptoRow : OpenClaim := { program := "ythploccngbfmpaagreat", sum := "7c4ec9621ea8a124d9b3a2d2b3bb6d649b6902c6c385f32057f5c0fd94e2a61d", func := "loop.example/g01341/laws.FnExactPointsOf", spec := "fnExactPointsOf", inPlace := ["math.archFloor", "math.Float64bits", "math.Float64frombits", "math.archTrunc", "math.sqrt", "math.Float32frombits"], unfollowed := true, recurses := true, apart := false, narrowed := true }
def FnExactPointsOfUptoSaid : Prop := fnExactPointsOfUptoRow.holds Tryz.pinned (OpenSpec.upto fnExactPointsOfSpec)

/-- 'laws.FnExactAxesAt', WHERE WHAT IT READS IS OF BULK AT MOST 1048576: true; the input reads as it did. -/
def fnExactAxesAtUptoRow : OpenClaim := { program := "ythploccngbfmpaagreat", sum := "7c4ec9621ea8a124d9b3a2d2b3bb6d649b6902c6c385f32057f5c0fd94e2a61d", func := "loop.example/g01341/laws.FnExactAxesAt", spec := "fnExactAxesAt", inPlace := ["math.archFloor", "math.Float64bits", "math.Float64frombits", "math.archTrunc", "math.sqrt", "math.Float32frombits"], unfollowed := true, recurses := true, apart := false, narrowed := true }
def FnExactAxesAtUptoSaid : Prop := fnExactAxesAtUptoRow.holds Tryz.pinned (OpenSpec.upto fnExactAxesAtSpec)

/-- 'laws.FnExactPointsShared', WHERE WHAT IT READS IS OF BULK AT MOST 1048576: true; the input reads as it did. -/
def fnExactPointsSharedUptoRow : OpenClaim := { program := "ythploccngbfmpaagreat", sum := "7c4ec9621ea8a124d9b3a2d2b3bb6d649b6902c6c385f32057f5c0fd94e2a61d", func := "loop.example/g01341/laws.FnExactPointsShared", spec := "fnExactPointsShared", inPlace := ["math.archFloor", "math.Float64bits", "math.Float64frombits", "math.archTrunc", "math.sqrt", "math.Float32frombits"], unfollowed := true, recurses := true, apart := false, narrowed := true }
def FnExactPointsSharedUptoSaid : Prop := fnExactPointsSharedUptoRow.holds Tryz.pinned (OpenSpec.upto fnExactPointsSharedSpec)

/-- 'laws.FnExactMapBox', WHERE WHAT IT READS IS OF BULK AT MOST 1048576: true; the input reads as it did. -/
def fnExactMapBoxUptoRow : OpenClaim := { program := "ythploccngbfmpaagreat", sum := "7c4ec9621ea8a124d9b3a2d2b3bb6d649b6902c6c385f32057f5c0fd94e2a61d", func := "loop.example/g01341/laws.FnExactMapBox", spec := "fnExactMapBox", inPlace := ["math.archFloor", "math.Float64bits", "math.Float64frombits", "math.archTrunc", "math.sqrt", "math.Float32frombits"], unfollowed := true, recurses := true, apart := false, narrowed := true }
def FnExactMapBoxUptoSaid : Prop := fnExactMapBoxUptoRow.holds Tryz.pinned (OpenSpec.upto fnExactMapBoxSpec)

/-- 'laws.FnExactWayLine', WHERE WHAT IT READS IS OF BULK AT MOST 1048576: true; the input reads as it did. -/
def fnExactWayLineUptoRow : OpenClaim := { program := "ythploccngbfmpaagreat", sum := "7c4ec9621ea8a124d9b3a2d2b3bb6d649b6902c6c385f32057f5c0fd94e2a61d", func := "loop.example/g01341/laws.FnExactWayLine", spec := "fnExactWayLine", inPlace := ["math.Float64frombits", "math.Float64bits", "math.sqrt", "math.archFloor", "math.archTrunc", "math.Float32frombits"], unfollowed := true, recurses := true, apart := false, narrowed := true }
def FnExactWayLineUptoSaid : Prop := fnExactWayLineUptoRow.holds Tryz.pinned (OpenSpec.upto fnExactWayLineSpec)

/-- 'laws.FnExactBendOfMap', WHERE WHAT IT READS IS OF BULK AT MOST 1048576: true; the input reads as it did. -/
def fnExactBendOfMapUptoRow : OpenClaim := { program := "ythploccngbfmpaagreat", sum := "7c4ec9621ea8a124d9b3a2d2b3bb6d649b6902c6c385f32057f5c0fd94e2a61d", func := "loop.example/g01341/laws.FnExactBendOfMap", spec := "fnExactBendOfMap", inPlace := ["math.archFloor", "math.Float64bits", "math.Float64frombits", "math.archTrunc", "math.sqrt", "math.Float32frombits"], unfollowed := true, recurses := true, apart := false, narrowed := true }
def FnExactBendOfMapUptoSaid : Prop := fnExactBendOfMapUptoRow.holds Tryz.pinned (OpenSpec.upto fnExactBendOfMapSpec)

/-- 'laws.FnExactWorstScales', WHERE WHAT IT READS IS OF BULK AT MOST 1048576: true; the input reads as it did. -/
def fnExactWorstScalesUptoRow : OpenClaim := { program := "ythploccngbfmpaagreat", sum := "7c4ec9621ea8a124d9b3a2d2b3bb6d649b6902c6c385f32057f5c0fd94e2a61d", func := "loop.example/g01341/laws.FnExactWorstScales", spec := "fnExactWorstScales", inPlace := ["math.archFloor", "math.Float64bits", "math.Float64frombits", "math.archTrunc", "math.sqrt", "math.Float32frombits"], unfollowed := true, recurses := true, apart := false, narrowed := true }
def FnExactWorstScalesUptoSaid : Prop := fnExactWorstScalesUptoRow.holds Tryz.pinned (OpenSpec.upto fnExactWorstScalesSpec)

/-- 'laws.FnExactFitFirst', WHERE WHAT IT READS IS OF BULK AT MOST 1048576: true; the input reads as it did. -/
def fnExactFitFirstUptoRow : OpenClaim := { program := "ythploccngbfmpaagreat", sum := "7c4ec9621ea8a124d9b3a2d2b3bb6d649b6902c6c385f32057f5c0fd94e2a61d", func := "loop.example/g01341/laws.FnExactFitFirst", spec := "fnExactFitFirst", inPlace := ["math.archFloor", "math.Float64bits", "math.Float64frombits", "math.archTrunc", "math.sqrt", "math.Float32frombits"], unfollowed := true, recurses := true, apart := false, narrowed := true }
def FnExactFitFirstUptoSaid : Prop := fnExactFitFirstUptoRow.holds Tryz.pinned (OpenSpec.upto fnExactFitFirstSpec)

end Rows
end Go.Proofs.YthploccngbfmpaaGreat
