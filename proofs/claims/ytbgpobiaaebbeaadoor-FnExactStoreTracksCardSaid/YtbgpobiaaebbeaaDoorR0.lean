/- What is proved: the law FnExactStoreTracks returns true for every input, and leaves its arguments as they were. Conditions: the tables of Go's library that the row lists are as the program's text lays them (the card ties them). -/
import Derived.Test.YtbgpobiaaebbeaaDoorZkl
import Derived.Test.YtbgpobiaaebbeaaDoorLhf
import Derived.Test.YtbgpobiaaebbeaaDoorOq
import Derived.Test.YtbgpobiaaebbeaaDoorRows
import Derived.Test.YtbgpobiaaebbeaaDoorCards
import Derived.Test.YtbgpobiaaebbeaaDoorTie
import Derived.SevenTiedAt
namespace Go.Proofs.YtbgpobiaaebbeaaDoor
open Go Go.Cv Go.Dv
open Go.ChangeShapes Go.WideShapes Go.ChangeAt Go.RowKit Go.Joins

theorem ownT : ownKnob Tryd.prog.godebug = none := by kernel_rfl
theorem laidT : laidOutB Tryd.prog = true := by kernel_rfl

/-- a table's numbers as cells -/
def tabOne : DataW Unit → List Value
  | .lit (.int k z) => [Value.int k z]
  | .agg l => l.map fun d => match d with | .lit (.int k z) => Value.int k z | _ => .nilIface
  | _ => [.nilIface]
def tabVals : DataW Unit → Array Value
  | .agg l => (l.flatMap tabOne).toArray
  | _ => #[]
def setCells (cs : Array Value) : Obj → Obj
  | .cells _ t fr => .cells cs t fr
  | o => o
/-- the settled world with the tables laid -/
noncomputable def laidWorld (os : Os) : World :=
  { World.holding Tryd.prog os ⟨#[], #[], []⟩ with heap := (((World.holding Tryd.prog os ⟨#[], #[], []⟩).heap.modify 3 (setCells (tabVals Rows.laid_unicode_utf8_acceptRanges))).modify 2 (setCells (tabVals Rows.laid_unicode_utf8_first))) }
theorem laidWorld_met (os : Os) (args : Array Value) : laidMet Tryd.prog Rows.fnExactStoreTracksRow.laid ((laidWorld os).forCall (fun _ _ => 0) ⟨#[], args, []⟩).memory :=
  laidMet_of_run' 8 (by kernel_rfl) (by kernel_rfl)


set_option maxRecDepth 100000 in
theorem storeTracks_holds_lifted (os : Os) (started : os.Started) (H : Type) (enc : TypeId × Value → H) :
    ReturnsInHanded {} Tryd.checked os 8 .any (fun w args => (Rows.fnExactStoreTracksSpec.pre enc Tryd.prog Tryd.f8 Rows.fnExactStoreTracksRow.domain false w args ∧ laidMet Tryd.prog Rows.fnExactStoreTracksRow.laid w) ∧ sizedMet enc Tryd.prog Tryd.f8 (OpenSpec.ofChange Rows.fnExactStoreTracksSpec) false w args) (Rows.fnExactStoreTracksSpec.post enc Tryd.prog Tryd.f8 false true false false) := by
  refine Go.Dv.law_row_laid (C := Tryd.checked) (tb := 4) (sig := (.cons (.one (.ls (.pair .str (.ls shPlace)))) .nil)) ownT started (by kernel_rfl) Tryd.func8 rfl (by decide)
    (ChangeSpec.witness_at (enc := enc) (C := Tryd.checked) (os := os) (X := fun w _ => laidMet Tryd.prog Rows.fnExactStoreTracksRow.laid w) false (laidWorld os) #[.slice none 0 0] 8 rfl (by kernel_rfl) (by kernel_rfl) (by kernel_rfl) (by kernel_rfl) (by kernel_rfl) (laidWorld_met os _))
    laidT (by kernel_rfl) rfl Tryd.underlying4 rfl (fun ds hds => ?_) (by kernel_rfl) ok_laws_FnExactStoreTracks (fun x hx => by
      obtain ⟨h1, h2⟩ := law_StoreTracks x.1 (by have := hx.1.1; unfold maxLen at this; omega) (fun i hi => by
        have hm := hx.1.2 i (x.1.getD i tk0) (by rw [getD_lt hi]; exact List.getElem?_eq_getElem hi)
        have h1 : (x.1.getD i tk0).1.size ≤ maxLen := hm.1
        have h2 : (x.1.getD i tk0).2.length ≤ maxLen := hm.2.1
        unfold maxLen at h1 h2; omega)
      exact ⟨h1, by unfold F_laws_FnExactStoreTracks; rw [h2]⟩) (fun W _ => GQ_out _)
  match ds, hds with
  | [_], _ => exact ⟨rfl, rfl, rfl⟩

theorem storeTracks_holds_row : Rows.FnExactStoreTracksSaid :=
  OpenClaim.holds_of_wide 8 Tryd.f8 rfl rfl rfl rfl rfl rfl rfl ⟨rfl, rfl, rfl, rfl, rfl⟩ rfl rfl rfl rfl rfl (by kernel_rfl) Tryd.func8 (by kernel_rfl)
    (of_decide_eq_true (by kernel_rfl)) (by unfold Func.isWrapper; rw [if_neg (by decide +kernel)]; exact ⟨rfl, rfl⟩)
    (fun os started H enc _ => storeTracks_holds_lifted os started H enc)

theorem plainParams {P : Program} {fn : Func} (h : fn.params.toList.all (fun t => !P.wantsStandIn t) = true) : ∀ (j : Nat) t, fn.params[j]? = some t → P.wantsStandIn t = false := fun j t ht => by
  have := List.all_eq_true.1 h t (List.mem_of_getElem? (by simpa using ht))
  simpa using this

theorem storeTracks_holds : Rows.FnExactStoreTracksCardSaid :=
  Claim7.holds_tied_plain_at .later [] Rows.fnExactStoreTracksCard.laidKinds true Rows.fnExactStoreTracksCard.stood.harness true
    storeTracks_holds_row (fun _ h => by cases h) (by kernel_rfl) (fun _ h => by cases h) fnExactStoreTracks_row_tie rfl ⟨rfl, rfl⟩ (by kernel_rfl) rfl
    (fun f fn hf hfn => by
      obtain rfl : f = 8 := Option.some.inj ((show Tryd.prog.funcNamed Rows.fnExactStoreTracksRow.func = some 8 by kernel_rfl).symm.trans hf) |>.symm
      obtain rfl : fn = Tryd.f8 := (Option.some.inj (Tryd.func8.symm.trans hfn)).symm
      exact ⟨by kernel_rfl, plainParams (by kernel_rfl)⟩)
    (by kernel_rfl)
end Go.Proofs.YtbgpobiaaebbeaaDoor
