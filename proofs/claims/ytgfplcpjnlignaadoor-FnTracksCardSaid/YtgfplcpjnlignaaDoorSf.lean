/- What is proved: the law FnTracks returns true for every input, and leaves its arguments as they were. Conditions: the tables of Go's library that the row lists are as the program's text lays them (the card ties them). -/
import Derived.Test.YtgfplcpjnlignaaDoorZls
import Derived.Test.YtgfplcpjnlignaaDoorLlw
import Derived.Test.YtgfplcpjnlignaaDoorOq
import Derived.Test.YtgfplcpjnlignaaDoorRows
import Derived.Test.YtgfplcpjnlignaaDoorCards
import Derived.Test.YtgfplcpjnlignaaDoorTie
import Derived.SevenTiedAt

namespace Go.Proofs.YtgfplcpjnlignaaDoor
open Go Go.Cv Go.Dv
open Go.ChangeShapes Go.WideShapes Go.ChangeAt Go.RowKit Go.Joins

theorem ownT : ownKnob Tryd.prog.godebug = none := by kernel_rfl
theorem laidT : laidOutB Tryd.prog = true := by kernel_rfl

/-- a table's numbers as cells -/
def tabOne : DataW Unit → List Value
  | .lit (.int k z) => [Value.int k z]
  | .agg l => l.map fun d => match d with | .lit (.int k z) => Value.int k z | _ => .nilIface
  | _ => [.nilIface]
def tabVals : DataW Unit → Array Value
  | .agg l => (l.flatMap tabOne).toArray
  | _ => #[]
def setCells (cs : Array Value) : Obj → Obj
  | .cells _ t fr => .cells cs t fr
  | o => o
/-- the settled world with the tables laid -/
noncomputable def laidWorld (os : Os) : World :=
  { World.holding Tryd.prog os ⟨#[], #[], []⟩ with heap := (((World.holding Tryd.prog os ⟨#[], #[], []⟩).heap.modify 2 (setCells (tabVals Rows.laid_unicode_utf8_acceptRanges))).modify 1 (setCells (tabVals Rows.laid_unicode_utf8_first))) }
theorem laidWorld_met (os : Os) (args : Array Value) : laidMet Tryd.prog Rows.fnTracksRow.laid ((laidWorld os).forCall (fun _ _ => 0) ⟨#[], args, []⟩).memory :=
  laidMet_of_run' 8 (by kernel_rfl) (by kernel_rfl)

set_option maxRecDepth 100000 in
theorem tracks_holds_lifted (os : Os) (started : os.Started) (H : Type) (enc : TypeId × Value → H) :
    ReturnsInHanded {} Tryd.checked os 3 .any (fun w args => (Rows.fnTracksSpec.pre enc Tryd.prog Tryd.f3 Rows.fnTracksRow.domain false w args ∧ laidMet Tryd.prog Rows.fnTracksRow.laid w) ∧ sizedMet enc Tryd.prog Tryd.f3 (OpenSpec.ofChange Rows.fnTracksSpec) false w args) (Rows.fnTracksSpec.post enc Tryd.prog Tryd.f3 false true false false) := by
  refine Go.Dv.law_row_laid (C := Tryd.checked) (tb := 4) (sig := (.cons (.fz (.ls (.int .u8))) (.cons (.fz (.ls (.int .u8))) .nil))) ownT started (by kernel_rfl) Tryd.func3 rfl (by decide)
    (ChangeSpec.witness_at (enc := enc) (C := Tryd.checked) (os := os) (X := fun w _ => laidMet Tryd.prog Rows.fnTracksRow.laid w) false (laidWorld os) #[.slice none 0 0, .slice none 0 0] 8 rfl (by kernel_rfl) (by kernel_rfl) (by kernel_rfl) (by kernel_rfl) (by kernel_rfl) (laidWorld_met os _))
    laidT (by kernel_rfl) rfl Tryd.underlying4 rfl (fun ds hds => ?_) (by kernel_rfl) ok_laws_FnTracks (fun x hx => by
      obtain ⟨h1, h2⟩ := law_Tracks x.1 x.2.1 (fun y hy => let ⟨i, hi⟩ := List.getElem?_of_mem hy; hx.1.2 i y hi) (fun y hy => let ⟨i, hi⟩ := List.getElem?_of_mem hy; hx.2.1.2 i y hi)
      exact ⟨h1, by unfold F_laws_FnTracks; rw [h2]⟩) (fun W _ => GQ_out _)
  match ds, hds with
  | [_, _], _ => exact ⟨rfl, rfl, rfl⟩

theorem tracks_holds_row : Rows.FnTracksSaid :=
  OpenClaim.holds_of_wide 3 Tryd.f3 rfl rfl rfl rfl rfl rfl rfl ⟨rfl, rfl, rfl, rfl, rfl⟩ rfl rfl rfl rfl rfl (by kernel_rfl) Tryd.func3 (by kernel_rfl)
    (of_decide_eq_true (by kernel_rfl)) (by unfold Func.isWrapper; rw [if_neg (by decide +kernel)]; exact ⟨rfl, rfl⟩)
    (fun os started H enc _ => tracks_holds_lifted os started H enc)

theorem plainParams {P : Program} {fn : Func} (h : fn.params.toList.all (fun t => !P.wantsStandIn t) = true) : ∀ (j : Nat) t, fn.params[j]? = some t → P.wantsStandIn t = false := fun j t ht => by
  have := List.all_eq_true.1 h t (List.mem_of_getElem? (by simpa using ht))
  simpa using this

theorem tracks_holds : Rows.FnTracksCardSaid :=
  Claim7.holds_tied_plain_at .later [] Rows.fnTracksCard.laidKinds true Rows.fnTracksCard.stood.harness Rows.fnTracksCard.stood.looks
    tracks_holds_row (fun _ h => by cases h) (by kernel_rfl) (fun _ h => by cases h) fnTracks_row_tie rfl ⟨rfl, rfl⟩ (by kernel_rfl) rfl
    (fun f fn hf hfn => by
      obtain rfl : f = 3 := Option.some.inj ((show Tryd.prog.funcNamed Rows.fnTracksRow.func = some 3 by kernel_rfl).symm.trans hf) |>.symm
      obtain rfl : fn = Tryd.f3 := (Option.some.inj (Tryd.func3.symm.trans hfn)).symm
      exact ⟨by kernel_rfl, plainParams (by kernel_rfl)⟩)
    (by kernel_rfl)
end Go.Proofs.YtgfplcpjnlignaaDoor
