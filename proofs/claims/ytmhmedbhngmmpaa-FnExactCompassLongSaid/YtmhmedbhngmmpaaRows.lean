/-
  No cell of these rows narrows 'for every input' (looked for: loops, veiled, ifaces, maps, wideKeys, modest, calm, conditions, laid).
  DERIVED. THE GIVEN ROWS OF THIS SEAT. 9 by the template 'for every input the law returns true; each argument reads behind the call as it read before'; 0 by the template 'total and deterministic' (their statements: YtmhmedbhngmmpaaTotals.lean).
  GIVEN WITH THE SEED: the statements are not yours to turn. If you find one false, say at which input.
  Laid BY PROGRAM, IN A SANDBOX (cutbox-rows.mjs): the forced cells as the released guide's own fill.sh prints them over the translation fc45c3a12fa9ea87… (all of the seat's roots in one cut). By AI agents, Wed Nov 11 2026. No macro, syntax, notation, axiom, sorry.
-/
import Derived.Test.YtmhmedbhngmmpaaChecked
import GoSem.Claim
import GoSem.ClaimJoined
import GoSem.ClaimMapViews
import Derived.JoinedTies
import Derived.KernelRfl
namespace Go.Proofs.Ytmhmedbhngmmpaa
/- THE CELL 'sum', in the pinned program and in every row, IS THE sha256 OF THE DUMP (.gsa) THAT YtmhmedbhngmmpaaProg.lean LOADS. Nothing in Lean hashes anything: it is a label: what it is worth is what the hold of that sum in a sandbox is worth. -/
noncomputable def Try.pinned : Pinned := { name := "ytmhmedbhngmmpaa", sum := "fc45c3a12fa9ea8754d7690621e49a78291eb1b077917d6e12be5ae520097a7b", checked := Try.checked }
namespace Rows
def none {H : Type} : Left H := { results := [], args := [] }

/-- 'laws.FnExactAreaOfPlaces': WHATEVER THE INPUT: true; the input reads as it did. -/
def fnExactAreaOfPlacesSpec : ChangeSpec := { name := "fnExactAreaOfPlaces", fn := fun _ => fun
  | [d] => { results := [.lit (.bool true)], args := [d] }
  | _ => none }
def fnExactAreaOfPlacesRow : OpenClaim := { program := "ytmhmedbhngmmpaa", sum := "fc45c3a12fa9ea8754d7690621e49a78291eb1b077917d6e12be5ae520097a7b", func := "loop.example/g01341/laws.FnExactAreaOfPlaces", spec := "fnExactAreaOfPlaces", inPlace := ["math.Float64frombits", "math.Float64bits", "math.sqrt", "math.archTrunc"], unfollowed := true, recurses := true, apart := false }
def FnExactAreaOfPlacesSaid : Prop := fnExactAreaOfPlacesRow.holds Try.pinned (OpenSpec.ofChange fnExactAreaOfPlacesSpec)

/-- ITS FALSE NEIGHBOUR: 'it returns false'. Refute it at one input. -/
def fnExactAreaOfPlacesWrong : ChangeSpec := { name := "fnExactAreaOfPlaces", fn := fun _ => fun
  | [d] => { results := [.lit (.bool false)], args := [d] }
  | _ => none }
def FnExactAreaOfPlacesWrongFalsely : Prop := fnExactAreaOfPlacesRow.holds Try.pinned (OpenSpec.ofChange fnExactAreaOfPlacesWrong)

/-- 'laws.FnExactMidwayOf': WHATEVER THE INPUT: true; the input reads as it did. -/
def fnExactMidwayOfSpec : ChangeSpec := { name := "fnExactMidwayOf", fn := fun _ => fun
  | [d1, d2] => { results := [.lit (.bool true)], args := [d1, d2] }
  | _ => none }
def fnExactMidwayOfRow : OpenClaim := { program := "ytmhmedbhngmmpaa", sum := "fc45c3a12fa9ea8754d7690621e49a78291eb1b077917d6e12be5ae520097a7b", func := "loop.example/g01341/laws.FnExactMidwayOf", spec := "fnExactMidwayOf", inPlace := ["math.Float64frombits", "math.sqrt", "math.Float64bits", "math.archFloor", "math.archTrunc"], unfollowed := true, recurses := true, apart := false }
def FnExactMidwayOfSaid : Prop := fnExactMidwayOfRow.holds Try.pinned (OpenSpec.ofChange fnExactMidwayOfSpec)

/-- ITS FALSE NEIGHBOUR: 'it returns false'. Refute it at one input. -/
def fnExactMidwayOfWrong : ChangeSpec := { name := "fnExactMidwayOf", fn := fun _ => fun
  | [d1, d2] => { results := [.lit (.bool false)], args := [d1, d2] }
  | _ => none }
def FnExactMidwayOfWrongFalsely : Prop := fnExactMidwayOfRow.holds Try.pinned (OpenSpec.ofChange fnExactMidwayOfWrong)

/-- 'laws.FnExactLongOfPlaces': WHATEVER THE INPUT: true; the input reads as it did. -/
def fnExactLongOfPlacesSpec : ChangeSpec := { name := "fnExactLongOfPlaces", fn := fun _ => fun
  | [d1, d2] => { results := [.lit (.bool true)], args := [d1, d2] }
  | _ => none }
def fnExactLongOfPlacesRow : OpenClaim := { program := "ytmhmedbhngmmpaa", sum := "fc45c3a12fa9ea8754d7690621e49a78291eb1b077917d6e12be5ae520097a7b", func := "loop.example/g01341/laws.FnExactLongOfPlaces", spec := "fnExactLongOfPlaces", inPlace := ["math.Float64frombits", "math.sqrt", "math.Float64bits", "math.archTrunc"], unfollowed := true, recurses := true, apart := false }
def FnExactLongOfPlacesSaid : Prop := fnExactLongOfPlacesRow.holds Try.pinned (OpenSpec.ofChange fnExactLongOfPlacesSpec)

/-- ITS FALSE NEIGHBOUR: 'it returns false'. Refute it at one input. -/
def fnExactLongOfPlacesWrong : ChangeSpec := { name := "fnExactLongOfPlaces", fn := fun _ => fun
  | [d1, d2] => { results := [.lit (.bool false)], args := [d1, d2] }
  | _ => none }
def FnExactLongOfPlacesWrongFalsely : Prop := fnExactLongOfPlacesRow.holds Try.pinned (OpenSpec.ofChange fnExactLongOfPlacesWrong)

/-- 'laws.FnExactGoFrom': WHATEVER THE INPUT: true; the input reads as it did. -/
def fnExactGoFromSpec : ChangeSpec := { name := "fnExactGoFrom", fn := fun _ => fun
  | [d1, d2, d3] => { results := [.lit (.bool true)], args := [d1, d2, d3] }
  | _ => none }
def fnExactGoFromRow : OpenClaim := { program := "ytmhmedbhngmmpaa", sum := "fc45c3a12fa9ea8754d7690621e49a78291eb1b077917d6e12be5ae520097a7b", func := "loop.example/g01341/laws.FnExactGoFrom", spec := "fnExactGoFrom", inPlace := ["math.Float64frombits", "math.sqrt", "math.Float64bits", "math.archFloor", "math.archTrunc"], apart := false }
def FnExactGoFromSaid : Prop := fnExactGoFromRow.holds Try.pinned (OpenSpec.ofChange fnExactGoFromSpec)

/-- ITS FALSE NEIGHBOUR: 'it returns false'. Refute it at one input. -/
def fnExactGoFromWrong : ChangeSpec := { name := "fnExactGoFrom", fn := fun _ => fun
  | [d1, d2, d3] => { results := [.lit (.bool false)], args := [d1, d2, d3] }
  | _ => none }
def FnExactGoFromWrongFalsely : Prop := fnExactGoFromRow.holds Try.pinned (OpenSpec.ofChange fnExactGoFromWrong)

/-- 'laws.FnExactMeetOfWays': WHATEVER THE INPUT: true; the input reads as it did. -/
def fnExactMeetOfWaysSpec : ChangeSpec := { name := "fnExactMeetOfWays", fn := fun _ => fun
  | [d1, d2, d3, d4] => { results := [.lit (.bool true)], args := [d1, d2, d3, d4] }
  | _ => none }
def fnExactMeetOfWaysRow : OpenClaim := { program := "ytmhmedbhngmmpaa", sum := "fc45c3a12fa9ea8754d7690621e49a78291eb1b077917d6e12be5ae520097a7b", func := "loop.example/g01341/laws.FnExactMeetOfWays", spec := "fnExactMeetOfWays", inPlace := ["math.Float64frombits", "math.sqrt", "math.Float64bits", "math.archFloor", "math.archTrunc"], unfollowed := true, recurses := true, apart := false }
def FnExactMeetOfWaysSaid : Prop := fnExactMeetOfWaysRow.holds Try.pinned (OpenSpec.ofChange fnExactMeetOfWaysSpec)

/-- ITS FALSE NEIGHBOUR: 'it returns false'. Refute it at one input. -/
def fnExactMeetOfWaysWrong : ChangeSpec := { name := "fnExactMeetOfWays", fn := fun _ => fun
  | [d1, d2, d3, d4] => { results := [.lit (.bool false)], args := [d1, d2, d3, d4] }
  | _ => none }
def FnExactMeetOfWaysWrongFalsely : Prop := fnExactMeetOfWaysRow.holds Try.pinned (OpenSpec.ofChange fnExactMeetOfWaysWrong)

/-- 'laws.FnExactCompassCourse': WHATEVER THE INPUT: true; the input reads as it did. -/
def fnExactCompassCourseSpec : ChangeSpec := { name := "fnExactCompassCourse", fn := fun _ => fun
  | [d1, d2] => { results := [.lit (.bool true)], args := [d1, d2] }
  | _ => none }
def fnExactCompassCourseRow : OpenClaim := { program := "ytmhmedbhngmmpaa", sum := "fc45c3a12fa9ea8754d7690621e49a78291eb1b077917d6e12be5ae520097a7b", func := "loop.example/g01341/laws.FnExactCompassCourse", spec := "fnExactCompassCourse", inPlace := ["math.Float64frombits", "math.Float64bits", "math.archFloor", "math.archTrunc", "math.sqrt"], unfollowed := true, recurses := true, apart := false }
def FnExactCompassCourseSaid : Prop := fnExactCompassCourseRow.holds Try.pinned (OpenSpec.ofChange fnExactCompassCourseSpec)

/-- ITS FALSE NEIGHBOUR: 'it returns false'. Refute it at one input. -/
def fnExactCompassCourseWrong : ChangeSpec := { name := "fnExactCompassCourse", fn := fun _ => fun
  | [d1, d2] => { results := [.lit (.bool false)], args := [d1, d2] }
  | _ => none }
def FnExactCompassCourseWrongFalsely : Prop := fnExactCompassCourseRow.holds Try.pinned (OpenSpec.ofChange fnExactCompassCourseWrong)

/-- 'laws.FnExactMeanPlace': WHATEVER THE INPUT: true; the input reads as it did. -/
def fnExactMeanPlaceSpec : ChangeSpec := { name := "fnExactMeanPlace", fn := fun _ => fun
  | [d] => { results := [.lit (.bool true)], args := [d] }
  | _ => none }
def fnExactMeanPlaceRow : OpenClaim := { program := "ytmhmedbhngmmpaa", sum := "fc45c3a12fa9ea8754d7690621e49a78291eb1b077917d6e12be5ae520097a7b", func := "loop.example/g01341/laws.FnExactMeanPlace", spec := "fnExactMeanPlace", inPlace := ["math.Float64frombits", "math.sqrt", "math.Float64bits", "math.archFloor", "math.archTrunc"], unfollowed := true, recurses := true, apart := false }
def FnExactMeanPlaceSaid : Prop := fnExactMeanPlaceRow.holds Try.pinned (OpenSpec.ofChange fnExactMeanPlaceSpec)

/-- ITS FALSE NEIGHBOUR: 'it returns false'. Refute it at one input. -/
def fnExactMeanPlaceWrong : ChangeSpec := { name := "fnExactMeanPlace", fn := fun _ => fun
  | [d] => { results := [.lit (.bool false)], args := [d] }
  | _ => none }
def FnExactMeanPlaceWrongFalsely : Prop := fnExactMeanPlaceRow.holds Try.pinned (OpenSpec.ofChange fnExactMeanPlaceWrong)

/-- 'laws.FnExactCompassLong': WHATEVER THE INPUT: true; the input reads as it did. -/
def fnExactCompassLongSpec : ChangeSpec := { name := "fnExactCompassLong", fn := fun _ => fun
  | [d1, d2] => { results := [.lit (.bool true)], args := [d1, d2] }
  | _ => none }
def fnExactCompassLongRow : OpenClaim := { program := "ytmhmedbhngmmpaa", sum := "fc45c3a12fa9ea8754d7690621e49a78291eb1b077917d6e12be5ae520097a7b", func := "loop.example/g01341/laws.FnExactCompassLong", spec := "fnExactCompassLong", inPlace := ["math.Float64frombits", "math.Float64bits", "math.archFloor", "math.archTrunc", "math.sqrt"], unfollowed := true, recurses := true, apart := false }
def FnExactCompassLongSaid : Prop := fnExactCompassLongRow.holds Try.pinned (OpenSpec.ofChange fnExactCompassLongSpec)

/-- ITS FALSE NEIGHBOUR: 'it returns false'. Refute it at one input. -/
def fnExactCompassLongWrong : ChangeSpec := { name := "fnExactCompassLong", fn := fun _ => fun
  | [d1, d2] => { results := [.lit (.bool false)], args := [d1, d2] }
  | _ => none }
def FnExactCompassLongWrongFalsely : Prop := fnExactCompassLongRow.holds Try.pinned (OpenSpec.ofChange fnExactCompassLongWrong)

/-- 'laws.FnExactShareOfWay': WHATEVER THE INPUT: true; the input reads as it did. -/
def fnExactShareOfWaySpec : ChangeSpec := { name := "fnExactShareOfWay", fn := fun _ => fun
  | [d1, d2, d3] => { results := [.lit (.bool true)], args := [d1, d2, d3] }
  | _ => none }
def fnExactShareOfWayRow : OpenClaim := { program := "ytmhmedbhngmmpaa", sum := "fc45c3a12fa9ea8754d7690621e49a78291eb1b077917d6e12be5ae520097a7b", func := "loop.example/g01341/laws.FnExactShareOfWay", spec := "fnExactShareOfWay", inPlace := ["math.Float64frombits", "math.Float64bits", "math.sqrt", "math.archFloor", "math.archTrunc"], unfollowed := true, recurses := true, apart := false }
def FnExactShareOfWaySaid : Prop := fnExactShareOfWayRow.holds Try.pinned (OpenSpec.ofChange fnExactShareOfWaySpec)

/-- ITS FALSE NEIGHBOUR: 'it returns false'. Refute it at one input. -/
def fnExactShareOfWayWrong : ChangeSpec := { name := "fnExactShareOfWay", fn := fun _ => fun
  | [d1, d2, d3] => { results := [.lit (.bool false)], args := [d1, d2, d3] }
  | _ => none }
def FnExactShareOfWayWrongFalsely : Prop := fnExactShareOfWayRow.holds Try.pinned (OpenSpec.ofChange fnExactShareOfWayWrong)

/- THE SECOND FORM. 'bulk': how many values and letters a reading holds, each counted each time it is reached (what is shared counts as often as it is met; a slice's spare places count too). A statement '..UptoSaid' is the law's where the arguments, and the package variables that the reading takes, are together of bulk at most 1048576: NARROWER than '..Said'. Prove '..Said' where nothing that the law and all that it calls make is longer than what came in: it says more and counts as full. Else prove '..UptoSaid'. A law counts once. -/
mutual
def uptoBulk {H : Type} : DataW H → Nat
  | .lit (.string bytes) => bytes.length + 1
  | .lit _ => 1
  | .nil => 1
  | .ptr d => uptoBulk d + 1
  | .slice elems spare => uptoBulkAll elems + uptoBulkAll spare + 1
  | .agg parts => uptoBulkAll parts + 1
  | .iface _ d => uptoBulk d + 1
  | .map entries => uptoBulkEntries entries + 1
  | .held _ => 1
def uptoBulkAll {H : Type} : List (DataW H) → Nat
  | [] => 0
  | d :: r => uptoBulk d + uptoBulkAll r
def uptoBulkEntries {H : Type} : List (Lit × DataW H) → Nat
  | [] => 0
  | x :: r => uptoBulkEntry x + uptoBulkEntries r
def uptoBulkEntry {H : Type} : Lit × DataW H → Nat
  | (.string bytes, d) => bytes.length + uptoBulk d + 1
  | (_, d) => uptoBulk d + 1
 end
def uptoSmall : (H : Type) → List (DataW H) → Bool := fun _ ds => decide (uptoBulkAll ds ≤ 1048576)
def OpenSpec.upto (s : _root_.Go.ChangeSpec) : _root_.Go.OpenSpec := { _root_.Go.OpenSpec.ofChange s with cond := some uptoSmall }

/-- 'laws.FnExactAreaOfPlaces', WHERE WHAT IT READS IS OF BULK AT MOST 1048576: true; the input reads as it did. -/
def fnExactAreaOfPlacesUptoRow : OpenClaim := { program := "ytmhmedbhngmmpaa", sum := "fc45c3a12fa9ea8754d7690621e49a78291eb1b077917d6e12be5ae520097a7b", func := "loop.example/g01341/laws.FnExactAreaOfPlaces", spec := "fnExactAreaOfPlaces", inPlace := ["math.Float64frombits", "math.Float64bits", "math.sqrt", "math.archTrunc"], unfollowed := true, recurses := true, apart := false, narrowed := true }
def FnExactAreaOfPlacesUptoSaid : Prop := fnExactAreaOfPlacesUptoRow.holds Try.pinned (OpenSpec.upto fnExactAreaOfPlacesSpec)

/-- 'laws.FnExactMidwayOf', WHERE WHAT IT READS IS OF BULK AT MOST 1048576: true; the input reads as it did. -/
def fnExactMidwayOfUptoRow : OpenClaim := { program := "ytmhmedbhngmmpaa", sum := "fc45c3a12fa9ea8754d7690621e49a78291eb1b077917d6e12be5ae520097a7b", func := "loop.example/g01341/laws.FnExactMidwayOf", spec := "fnExactMidwayOf", inPlace := ["math.Float64frombits", "math.sqrt", "math.Float64bits", "math.archFloor", "math.archTrunc"], unfollowed := true, recurses := true, apart := false, narrowed := true }
def FnExactMidwayOfUptoSaid : Prop := fnExactMidwayOfUptoRow.holds Try.pinned (OpenSpec.upto fnExactMidwayOfSpec)

/-- 'laws.FnExactLongOfPlaces', WHERE WHAT IT READS IS OF BULK AT MOST 1048576: true; the input reads as it did. -/
def fnExactLongOfPlacesUptoRow : OpenClaim := { program := "ytmhmedbhngmmpaa", sum := "fc45c3a12fa9ea8754d7690621e49a78291eb1b077917d6e12be5ae520097a7b", func := "loop.example/g01341/laws.FnExactLongOfPlaces", spec := "fnExactLongOfPlaces", inPlace := ["math.Float64frombits", "math.sqrt", "math.Float64bits", "math.archTrunc"], unfollowed := true, recurses := true, apart := false, narrowed := true }
def FnExactLongOfPlacesUptoSaid : Prop := fnExactLongOfPlacesUptoRow.holds Try.pinned (OpenSpec.upto fnExactLongOfPlacesSpec)

/-- 'laws.FnExactGoFrom', WHERE WHAT IT READS IS OF BULK AT MOST 1048576: true; the input reads as it did. -/
def fnExactGoFromUptoRow : OpenClaim := { program := "ytmhmedbhngmmpaa", sum := "fc45c3a12fa9ea8754d7690621e49a78291eb1b077917d6e12be5ae520097a7b", func := "loop.example/g01341/laws.FnExactGoFrom", spec := "fnExactGoFrom", inPlace := ["math.Float64frombits", "math.sqrt", "math.Float64bits", "math.archFloor", "math.archTrunc"], apart := false, narrowed := true }
def FnExactGoFromUptoSaid : Prop := fnExactGoFromUptoRow.holds Try.pinned (OpenSpec.upto fnExactGoFromSpec)

/-- 'laws.FnExactMeetOfWays', WHERE WHAT IT READS IS OF BULK AT MOST 1048576: true; the input reads as it did. -/
def fnExactMeetOfWaysUptoRow : OpenClaim := { program := "ytmhmedbhngmmpaa", sum := "fc45c3a12fa9ea8754d7690621e49a78291eb1b077917d6e12be5ae520097a7b", func := "loop.example/g01341/laws.FnExactMeetOfWays", spec := "fnExactMeetOfWays", inPlace := ["math.Float64frombits", "math.sqrt", "math.Float64bits", "math.archFloor", "math.archTrunc"], unfollowed := true, recurses := true, apart := false, narrowed := true }
def FnExactMeetOfWaysUptoSaid : Prop := fnExactMeetOfWaysUptoRow.holds Try.pinned (OpenSpec.upto fnExactMeetOfWaysSpec)

/-- 'laws.FnExactCompassCourse', WHERE WHAT IT READS IS OF BULK AT MOST 1048576: true; the input reads as it did. -/
def fnExactCompassCourseUptoRow : OpenClaim := { program := "ytmhmedbhngmmpaa", sum := "fc45c3a12fa9ea8754d7690621e49a78291eb1b077917d6e12be5ae520097a7b", func := "loop.example/g01341/laws.FnExactCompassCourse", spec := "fnExactCompassCourse", inPlace := ["math.Float64frombits", "math.Float64bits", "math.archFloor", "math.archTrunc", "math.sqrt"], unfollowed := true, recurses := true, apart := false, narrowed := true }
def FnExactCompassCourseUptoSaid : Prop := fnExactCompassCourseUptoRow.holds Try.pinned (OpenSpec.upto fnExactCompassCourseSpec)

/-- 'laws.FnExactMeanPlace', WHERE WHAT IT READS IS OF BULK AT MOST 1048576: true; the input reads as it did. -/
def fnExactMeanPlaceUptoRow : OpenClaim := { program := "ytmhmedbhngmmpaa", sum := "fc45c3a12fa9ea8754d7690621e49a78291eb1b077917d6e12be5ae520097a7b", func := "loop.example/g01341/laws.FnExactMeanPlace", spec := "fnExactMeanPlace", inPlace := ["math.Float64frombits", "math.sqrt", "math.Float64bits", "math.archFloor", "math.archTrunc"], unfollowed := true, recurses := true, apart := false, narrowed := true }
def FnExactMeanPlaceUptoSaid : Prop := fnExactMeanPlaceUptoRow.holds Try.pinned (OpenSpec.upto fnExactMeanPlaceSpec)

/-- 'laws.FnExactCompassLong', WHERE WHAT IT READS IS OF BULK AT MOST 1048576: true; the input reads as it did. -/
def fnExactCompassLongUptoRow : OpenClaim := { program := "ytmhmedbhngmmpaa", sum := "fc45c3a12fa9ea8754d7690621e49a78291eb1b077917d6e12be5ae520097a7b", func := "loop.example/g01341/laws.FnExactCompassLong", spec := "fnExactCompassLong", inPlace := ["math.Float64frombits", "math.Float64bits", "math.archFloor", "math.archTrunc", "math.sqrt"], unfollowed := true, recurses := true, apart := false, narrowed := true }
def FnExactCompassLongUptoSaid : Prop := fnExactCompassLongUptoRow.holds Try.pinned (OpenSpec.upto fnExactCompassLongSpec)

/-- 'laws.FnExactShareOfWay', WHERE WHAT IT READS IS OF BULK AT MOST 1048576: true; the input reads as it did. -/
def fnExactShareOfWayUptoRow : OpenClaim := { program := "ytmhmedbhngmmpaa", sum := "fc45c3a12fa9ea8754d7690621e49a78291eb1b077917d6e12be5ae520097a7b", func := "loop.example/g01341/laws.FnExactShareOfWay", spec := "fnExactShareOfWay", inPlace := ["math.Float64frombits", "math.Float64bits", "math.sqrt", "math.archFloor", "math.archTrunc"], unfollowed := true, recurses := true, apart := false, narrowed := true }
def FnExactShareOfWayUptoSaid : Prop := fnExactShareOfWayUptoRow.holds Try.pinned (OpenSpec.upto fnExactShareOfWaySpec)

end Rows
end Go.Proofs.Ytmhmedbhngmmpaa
