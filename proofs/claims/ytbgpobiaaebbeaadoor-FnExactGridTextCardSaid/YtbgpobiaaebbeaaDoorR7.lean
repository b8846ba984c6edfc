/- What is proved: the law FnExactGridText returns true for every input, and leaves its arguments as they were. Conditions: the tables of Go's library that the row lists are as the program's text lays them (the card ties them). -/
import Derived.Test.YtbgpobiaaebbeaaDoorZkd
import Derived.Test.YtbgpobiaaebbeaaDoorLhb
import Derived.Test.YtbgpobiaaebbeaaDoorOq
import Derived.Test.YtbgpobiaaebbeaaDoorRows
import Derived.Test.YtbgpobiaaebbeaaDoorCards
import Derived.Test.YtbgpobiaaebbeaaDoorTie
import Derived.SevenTiedAt
namespace Go.Proofs.YtbgpobiaaebbeaaDoor
open Go Go.Cv Go.Dv
open Go.ChangeShapes Go.WideShapes Go.ChangeAt Go.RowKit Go.Joins

theorem ownT : ownKnob Tryd.prog.godebug = none := by kernel_rfl
theorem laidT : laidOutB Tryd.prog = true := by kernel_rfl

/-- a table's numbers as cells -/
def tabVals : DataW Unit → Array Value
  | .agg l => (l.map fun d => match d with | .lit (.int k z) => Value.int k z | _ => .nilIface).toArray
  | _ => #[]
def tabInts : DataW Unit → List Int
  | .agg l => l.map fun d => match d with | .lit (.int _ z) => z | _ => 0
  | _ => []
def setCells (cs : Array Value) : Obj → Obj
  | .cells _ t fr => .cells cs t fr
  | o => o
/-- the settled world with the tables laid -/
noncomputable def laidWorld (os : Os) : World :=
  { World.holding Tryd.prog os ⟨#[], #[], []⟩ with heap := ((((World.holding Tryd.prog os ⟨#[], #[], []⟩).heap.modify 7 (setCells (tabVals Rows.laid_math_bits_deBruijn32tab))).modify 8 (setCells (tabVals Rows.laid_math_bits_deBruijn64tab))).modify 4 (setCells (tabVals Rows.laid_internal_strconv_uint64pow10))) }
theorem laidWorld_met (os : Os) (args : Array Value) : laidMet Tryd.prog Rows.fnExactGridTextRow.laid ((laidWorld os).forCall (fun _ _ => 0) ⟨#[], args, []⟩).memory :=
  laidMet_of_run' 8 (by kernel_rfl) (by kernel_rfl)

theorem gq {W : World} (hL : laidMet Tryd.prog Rows.fnExactGridTextRow.laid W) : GQ (fun k => W.heap[k]?) := by
  obtain ⟨T, fr, h⟩ := row_of_tab (name := "math/bits.deBruijn64tab") (k := .u8) (zs := tabInts Rows.laid_math_bits_deBruijn64tab) (g := 8) (by kernel_rfl) (Lib.laidMet.reads hL (.tail _ (.head _)))
  exact ⟨_, T, fr, h, by kernel_rfl⟩

set_option maxRecDepth 100000 in
theorem gridText_holds_lifted (os : Os) (started : os.Started) (H : Type) (enc : TypeId × Value → H) :
    ReturnsInHanded {} Tryd.checked os 5 .any (fun w args => (Rows.fnExactGridTextSpec.pre enc Tryd.prog Tryd.f5 Rows.fnExactGridTextRow.domain false w args ∧ laidMet Tryd.prog Rows.fnExactGridTextRow.laid w) ∧ sizedMet enc Tryd.prog Tryd.f5 (OpenSpec.ofChange Rows.fnExactGridTextSpec) false w args) (Rows.fnExactGridTextSpec.post enc Tryd.prog Tryd.f5 false true false false) := by
  refine Go.Dv.law_row_laid (C := Tryd.checked) (tb := 4) (sig := (.cons (.agg (.pair (.int .i64) (.pair (.int .i64) (.ls (.fl .f32))))) .nil)) ownT started (by kernel_rfl) Tryd.func5 rfl (by decide)
    (ChangeSpec.witness_at (enc := enc) (C := Tryd.checked) (os := os) (X := fun w _ => laidMet Tryd.prog Rows.fnExactGridTextRow.laid w) false (laidWorld os) #[.agg #[.int .i64 0, .int .i64 0, .slice none 0 0]] 8 rfl (by kernel_rfl) (by kernel_rfl) (by kernel_rfl) (by kernel_rfl) (by kernel_rfl) (laidWorld_met os _))
    laidT (by kernel_rfl) rfl Tryd.underlying4 rfl (fun ds hds => ?_) (by kernel_rfl) ok_laws_FnExactGridText (fun x hx => by
      obtain ⟨h1, h2⟩ := law_GridText x.1.1 x.1.2.1 x.1.2.2 (by have := hx.1.2.2.1; unfold maxLen at this; omega) (floats_small hx.1.2.2)
      exact ⟨h1, by unfold F_laws_FnExactGridText; rw [h2]⟩) (fun W hL => gq hL)
  match ds, hds with
  | [_], _ => exact ⟨rfl, rfl, rfl⟩

theorem gridText_holds_row : Rows.FnExactGridTextSaid :=
  OpenClaim.holds_of_wide 5 Tryd.f5 rfl rfl rfl rfl rfl rfl rfl ⟨rfl, rfl, rfl, rfl, rfl⟩ rfl rfl rfl rfl rfl (by kernel_rfl) Tryd.func5 (by kernel_rfl)
    (of_decide_eq_true (by kernel_rfl)) (by unfold Func.isWrapper; rw [if_neg (by decide +kernel)]; exact ⟨rfl, rfl⟩)
    (fun os started H enc _ => gridText_holds_lifted os started H enc)

theorem plainParams {P : Program} {fn : Func} (h : fn.params.toList.all (fun t => !P.wantsStandIn t) = true) : ∀ (j : Nat) t, fn.params[j]? = some t → P.wantsStandIn t = false := fun j t ht => by
  have := List.all_eq_true.1 h t (List.mem_of_getElem? (by simpa using ht))
  simpa using this

theorem gridText_holds : Rows.FnExactGridTextCardSaid :=
  Claim7.holds_tied_plain_at .later [] Rows.fnExactGridTextCard.laidKinds true Rows.fnExactGridTextCard.stood.harness true
    gridText_holds_row (fun _ h => by cases h) (by kernel_rfl) (fun _ h => by cases h) fnExactGridText_row_tie rfl ⟨rfl, rfl⟩ (by kernel_rfl) rfl
    (fun f fn hf hfn => by
      obtain rfl : f = 5 := Option.some.inj ((show Tryd.prog.funcNamed Rows.fnExactGridTextRow.func = some 5 by kernel_rfl).symm.trans hf) |>.symm
      obtain rfl : fn = Tryd.f5 := (Option.some.inj (Tryd.func5.symm.trans hfn)).symm
      exact ⟨by kernel_rfl, plainParams (by kernel_rfl)⟩)
    (by kernel_rfl)
end Go.Proofs.YtbgpobiaaebbeaaDoor
