/- What is proved: the law FnExactReadPlaces returns true for every input, and leaves its arguments as they were. Conditions: the tables of Go's library that the row lists are as the program's text lays them (the card ties them). -/
import Derived.Test.YtbgpobiaaebbeaaDoorZkp
import Derived.Test.YtbgpobiaaebbeaaDoorLre
import Derived.Test.YtbgpobiaaebbeaaDoorOt
import Derived.Test.YtbgpobiaaebbeaaDoorRows
import Derived.Test.YtbgpobiaaebbeaaDoorCards
import Derived.Test.YtbgpobiaaebbeaaDoorTie
import Derived.SevenTiedAt

namespace Go.Proofs.YtbgpobiaaebbeaaDoor
open Go Go.Cv Go.Dv
open Go.ChangeShapes Go.WideShapes Go.ChangeAt Go.RowKit Go.Joins

theorem ownT : ownKnob Tryd.prog.godebug = none := by kernel_rfl
theorem laidT : laidOutB Tryd.prog = true := by kernel_rfl

/-- a table's numbers as cells -/
def tabOne : DataW Unit → List Value
  | .lit (.int k z) => [Value.int k z]
  | .agg l => l.map fun d => match d with | .lit (.int k z) => Value.int k z | _ => .nilIface
  | _ => [.nilIface]
def tabVals : DataW Unit → Array Value
  | .agg l => (l.flatMap tabOne).toArray
  | _ => #[]
def tabInts : DataW Unit → List Int
  | .agg l => l.map fun d => match d with | .lit (.int _ z) => z | _ => 0
  | _ => []
theorem shape_int {W : World} (h : W.ShapedOpen Tryd.prog) : intAt (fun k => W.heap[k]?) 1 :=
  have ⟨_, hm⟩ := cell_of_shapedOpen_int (g := 1) (zero := #[.int .i64 0]) (t := 3) h (of_decide_eq_true (by kernel_rfl)) (by kernel_rfl) rfl (by kernel_rfl) (by kernel_rfl) Tryd.underlying3
  intAt_of hm
set_option maxRecDepth 100000 in
theorem laid_ErrSyntax {W : World} (hL : laidMet Tryd.prog Rows.fnExactReadPlacesRow.laid W) : errAt (fun k => W.heap[k]?) 5 :=
  have ⟨_, hm, hv⟩ := cell_iface (name := "strconv.ErrSyntax") (g := 5) (t := 157) (by kernel_rfl) (by kernel_rfl) Tryd.underlying157 (Lib.laidMet.reads hL (.tail _ (.tail _ (.tail _ (.tail _ (.tail _ (.head _)))))))
  errAt_of hm hv
set_option maxRecDepth 100000 in
theorem laid_ErrRange {W : World} (hL : laidMet Tryd.prog Rows.fnExactReadPlacesRow.laid W) : errAt (fun k => W.heap[k]?) 6 :=
  have ⟨_, hm, hv⟩ := cell_iface (name := "strconv.ErrRange") (g := 6) (t := 157) (by kernel_rfl) (by kernel_rfl) Tryd.underlying157 (Lib.laidMet.reads hL (.tail _ (.tail _ (.tail _ (.tail _ (.head _))))))
  errAt_of hm hv
/-- an error of the library's own, in a block of its own -/
def errCell (b : Nat) : Obj → Obj
  | .cells _ t fr => .cells #[.iface 226 (.pointer (some ⟨b, 0, none⟩))] t fr
  | o => o
def errText : DataW Unit → ByteArray
  | .iface _ (.ptr (.agg [.lit (.string l)])) => ⟨l.toArray⟩
  | _ => ⟨#[]⟩
def withErrs (h : Array Obj) : Array Obj :=
  (((h.modify 6 (errCell (h.size + 0))).modify 5 (errCell (h.size + 1))).push (.cells #[.string (errText Rows.laid_strconv_ErrRange)] 228)).push (.cells #[.string (errText Rows.laid_strconv_ErrSyntax)] 228)
def setCells (cs : Array Value) : Obj → Obj
  | .cells _ t fr => .cells cs t fr
  | o => o
/-- the settled world with the tables laid -/
noncomputable def laidWorld (os : Os) : World :=
  { World.holding Tryd.prog os ⟨#[], #[], []⟩ with heap := (withErrs ((((((World.holding Tryd.prog os ⟨#[], #[], []⟩).heap.modify 7 (setCells (tabVals Rows.laid_math_bits_deBruijn32tab))).modify 8 (setCells (tabVals Rows.laid_math_bits_deBruijn64tab))).modify 4 (setCells (tabVals Rows.laid_internal_strconv_uint64pow10))).modify 3 (setCells (tabVals Rows.laid_unicode_utf8_acceptRanges))).modify 2 (setCells (tabVals Rows.laid_unicode_utf8_first)))) }
theorem laidWorld_met (os : Os) (args : Array Value) : laidMet Tryd.prog Rows.fnExactReadPlacesRow.laid ((laidWorld os).forCall (fun _ _ => 0) ⟨#[], args, []⟩).memory :=
  laidMet_of_run' 8 (by kernel_rfl) (by kernel_rfl)

theorem gq {W : World} (hS : W.ShapedOpen Tryd.prog) (hL : laidMet Tryd.prog Rows.fnExactReadPlacesRow.laid W) : GQ (fun k => W.heap[k]?) := by
  refine ⟨?_, shape_int hS, laid_ErrSyntax hL, laid_ErrRange hL⟩
  obtain ⟨T, fr, h⟩ := row_of_tab (name := "math/bits.deBruijn64tab") (k := .u8) (zs := tabInts Rows.laid_math_bits_deBruijn64tab) (g := 8) (by kernel_rfl) (Lib.laidMet.reads hL (.tail _ (.head _)))
  exact ⟨_, T, fr, h, by kernel_rfl⟩

set_option maxRecDepth 100000 in
theorem readPlaces_holds_lifted (os : Os) (started : os.Started) (H : Type) (enc : TypeId × Value → H) :
    ReturnsInHanded {} Tryd.checked os 9 .any (fun w args => (Rows.fnExactReadPlacesSpec.pre enc Tryd.prog Tryd.f9 Rows.fnExactReadPlacesRow.domain false w args ∧ laidMet Tryd.prog Rows.fnExactReadPlacesRow.laid w) ∧ sizedMet enc Tryd.prog Tryd.f9 (OpenSpec.ofChange Rows.fnExactReadPlacesSpec) false w args) (Rows.fnExactReadPlacesSpec.post enc Tryd.prog Tryd.f9 false true false false) := by
  refine Go.Dv.law_row_shaped (C := Tryd.checked) (tb := 4) (sig := (.cons (.one .str) .nil)) ownT started (by kernel_rfl) Tryd.func9 rfl (by decide)
    (ChangeSpec.witness_at (enc := enc) (C := Tryd.checked) (os := os) (X := fun w _ => laidMet Tryd.prog Rows.fnExactReadPlacesRow.laid w) false (laidWorld os) #[.string ⟨#[]⟩] 8 rfl (by kernel_rfl) (by kernel_rfl) (by kernel_rfl) (by kernel_rfl) (by kernel_rfl) (laidWorld_met os _))
    laidT (by kernel_rfl) rfl Tryd.underlying4 rfl (fun ds hds => ?_) (by kernel_rfl) ok_laws_FnExactReadPlaces (fun x hx => by
      obtain ⟨h1, h2⟩ := law_ReadPlaces x.1
      exact ⟨h1, by unfold F_laws_FnExactReadPlaces; rw [h2]⟩) (fun W hS hL => gq hS hL)
  match ds, hds with
  | [_], _ => exact ⟨rfl, rfl, rfl⟩

theorem readPlaces_holds_row : Rows.FnExactReadPlacesSaid :=
  OpenClaim.holds_of_wide 9 Tryd.f9 rfl rfl rfl rfl rfl rfl rfl ⟨rfl, rfl, rfl, rfl, rfl⟩ rfl rfl rfl rfl rfl (by kernel_rfl) Tryd.func9 (by kernel_rfl)
    (of_decide_eq_true (by kernel_rfl)) (by unfold Func.isWrapper; rw [if_neg (by decide +kernel)]; exact ⟨rfl, rfl⟩)
    (fun os started H enc _ => readPlaces_holds_lifted os started H enc)

theorem plainParams {P : Program} {fn : Func} (h : fn.params.toList.all (fun t => !P.wantsStandIn t) = true) : ∀ (j : Nat) t, fn.params[j]? = some t → P.wantsStandIn t = false := fun j t ht => by
  have := List.all_eq_true.1 h t (List.mem_of_getElem? (by simpa using ht))
  simpa using this

theorem readPlaces_holds : Rows.FnExactReadPlacesCardSaid :=
  Claim7.holds_tied_plain_at .later [] Rows.fnExactReadPlacesCard.laidKinds true Rows.fnExactReadPlacesCard.stood.harness true
    readPlaces_holds_row (fun _ h => by cases h) (by kernel_rfl) (fun _ h => by cases h) fnExactReadPlaces_row_tie rfl ⟨rfl, rfl⟩ (by kernel_rfl) rfl
    (fun f fn hf hfn => by
      obtain rfl : f = 9 := Option.some.inj ((show Tryd.prog.funcNamed Rows.fnExactReadPlacesRow.func = some 9 by kernel_rfl).symm.trans hf) |>.symm
      obtain rfl : fn = Tryd.f9 := (Option.some.inj (Tryd.func9.symm.trans hfn)).symm
      exact ⟨by kernel_rfl, plainParams (by kernel_rfl)⟩)
    (by kernel_rfl)
end Go.Proofs.YtbgpobiaaebbeaaDoor
