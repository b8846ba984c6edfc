/- What is proved: the law FnProducts returns true for every input, and leaves its arguments as they were. Conditions: the tables of Go's library that the row lists are as the program's text lays them (the card ties them). -/
import Derived.Test.YtjohfkfpfjdceaaGreatDoorZlg
import Derived.Test.YtjohfkfpfjdceaaGreatDoorLle
import Derived.Test.YtjohfkfpfjdceaaGreatDoorOt
import Derived.Test.YtjohfkfpfjdceaaGreatDoorRows
import Derived.Test.YtjohfkfpfjdceaaGreatDoorCards
import Derived.Test.YtjohfkfpfjdceaaGreatDoorTie
import Derived.SevenTiedAt

namespace Go.Proofs.YtjohfkfpfjdceaaGreatDoor
open Go Go.Cv Go.Dv
open Go.ChangeShapes Go.WideShapes Go.ChangeAt Go.RowKit Go.Joins

theorem ownT : ownKnob Tryz.prog.godebug = none := by kernel_rfl
theorem laidT : laidOutB Tryz.prog = true := by kernel_rfl

/-- a table's numbers as cells -/
def tabOne : DataW Unit → List Value
  | .lit (.int k z) => [Value.int k z]
  | .agg l => l.map fun d => match d with | .lit (.int k z) => Value.int k z | _ => .nilIface
  | _ => [.nilIface]
def tabVals : DataW Unit → Array Value
  | .agg l => (l.flatMap tabOne).toArray
  | _ => #[]
def tabInts : DataW Unit → List Int
  | .agg l => l.map fun d => match d with | .lit (.int _ z) => z | _ => 0
  | _ => []
theorem shape_int {W : World} (h : W.ShapedOpen Tryz.prog) : intAt (fun k => W.heap[k]?) 4 :=
  have ⟨_, hm⟩ := cell_of_shapedOpen_int (g := 4) (zero := #[.int .i64 0]) (t := 3) h (of_decide_eq_true (by kernel_rfl)) (by kernel_rfl) rfl (by kernel_rfl) (by kernel_rfl) Tryz.underlying3
  intAt_of hm
set_option maxRecDepth 100000 in
theorem laid_ErrSyntax {W : World} (hL : laidMet Tryz.prog Rows.fnProductsRow.laid W) : errAt (fun k => W.heap[k]?) 2 :=
  have ⟨_, hm, hv⟩ := cell_iface (name := "strconv.ErrSyntax") (g := 2) (t := 126) (by kernel_rfl) (by kernel_rfl) Tryz.underlying126 (Lib.laidMet.reads hL (.tail _ (.tail _ (.tail _ (.tail _ (.tail _ (.head _)))))))
  errAt_of hm hv
set_option maxRecDepth 100000 in
theorem laid_ErrRange {W : World} (hL : laidMet Tryz.prog Rows.fnProductsRow.laid W) : errAt (fun k => W.heap[k]?) 3 :=
  have ⟨_, hm, hv⟩ := cell_iface (name := "strconv.ErrRange") (g := 3) (t := 126) (by kernel_rfl) (by kernel_rfl) Tryz.underlying126 (Lib.laidMet.reads hL (.tail _ (.tail _ (.tail _ (.tail _ (.head _))))))
  errAt_of hm hv
/-- an error of the library's own, in a block of its own -/
def errCell (b : Nat) : Obj → Obj
  | .cells _ t fr => .cells #[.iface 219 (.pointer (some ⟨b, 0, none⟩))] t fr
  | o => o
def errText : DataW Unit → ByteArray
  | .iface _ (.ptr (.agg [.lit (.string l)])) => ⟨l.toArray⟩
  | _ => ⟨#[]⟩
def withErrs (h : Array Obj) : Array Obj :=
  (((h.modify 3 (errCell (h.size + 0))).modify 2 (errCell (h.size + 1))).push (.cells #[.string (errText Rows.laid_strconv_ErrRange)] 221)).push (.cells #[.string (errText Rows.laid_strconv_ErrSyntax)] 221)
def setCells (cs : Array Value) : Obj → Obj
  | .cells _ t fr => .cells cs t fr
  | o => o
/-- the settled world with the tables laid -/
noncomputable def laidWorld (os : Os) : World :=
  { World.holding Tryz.prog os ⟨#[], #[], []⟩ with heap := (withErrs ((((((World.holding Tryz.prog os ⟨#[], #[], []⟩).heap.modify 7 (setCells (tabVals Rows.laid_math_bits_deBruijn32tab))).modify 8 (setCells (tabVals Rows.laid_math_bits_deBruijn64tab))).modify 1 (setCells (tabVals Rows.laid_internal_strconv_uint64pow10))).modify 6 (setCells (tabVals Rows.laid_unicode_utf8_acceptRanges))).modify 5 (setCells (tabVals Rows.laid_unicode_utf8_first)))) }
theorem laidWorld_met (os : Os) (args : Array Value) : laidMet Tryz.prog Rows.fnProductsRow.laid ((laidWorld os).forCall (fun _ _ => 0) ⟨#[], args, []⟩).memory :=
  laidMet_of_run' 8 (by kernel_rfl) (by kernel_rfl)

theorem gq {W : World} (hS : W.ShapedOpen Tryz.prog) (hL : laidMet Tryz.prog Rows.fnProductsRow.laid W) : GQ (fun k => W.heap[k]?) := by
  refine ⟨?_, shape_int hS, laid_ErrSyntax hL, laid_ErrRange hL⟩
  · obtain ⟨T, fr, h⟩ := row_of_tab (name := "math/bits.deBruijn64tab") (k := .u8) (zs := tabInts Rows.laid_math_bits_deBruijn64tab) (g := 8) (by kernel_rfl) (Lib.laidMet.reads hL (.tail _ (.head _)))
    exact ⟨_, T, fr, h, by kernel_rfl⟩

set_option maxRecDepth 100000 in
theorem products_holds_lifted (os : Os) (started : os.Started) (H : Type) (enc : TypeId × Value → H) :
    ReturnsInHanded {} Tryz.checked os 3 .any (fun w args => (Rows.fnProductsSpec.pre enc Tryz.prog Tryz.f3 Rows.fnProductsRow.domain false w args ∧ laidMet Tryz.prog Rows.fnProductsRow.laid w) ∧ sizedMet enc Tryz.prog Tryz.f3 (OpenSpec.ofChange Rows.fnProductsSpec) false w args) (Rows.fnProductsSpec.post enc Tryz.prog Tryz.f3 false true false false) := by
  refine Go.Dv.law_row_shaped (C := Tryz.checked) (tb := 4) (sig := (.cons (.fz (.ls (.int .u8))) (.cons (.fz (.ls (.int .u8))) .nil))) ownT started (by kernel_rfl) Tryz.func3 rfl (by decide)
    (ChangeSpec.witness_at (enc := enc) (C := Tryz.checked) (os := os) (X := fun w _ => laidMet Tryz.prog Rows.fnProductsRow.laid w) false (laidWorld os) #[.slice none 0 0, .slice none 0 0] 8 rfl (by kernel_rfl) (by kernel_rfl) (by kernel_rfl) (by kernel_rfl) (by kernel_rfl) (laidWorld_met os _))
    laidT (by kernel_rfl) rfl Tryz.underlying4 rfl (fun ds hds => ?_) (by kernel_rfl) ok_laws_FnProducts (fun x hx => by
      obtain ⟨h1, h2⟩ := law_Products x.1 x.2.1 (fun y hy => let ⟨i, hi⟩ := List.getElem?_of_mem hy; hx.1.2 i y hi) (fun y hy => let ⟨i, hi⟩ := List.getElem?_of_mem hy; hx.2.1.2 i y hi)
      exact ⟨h1, by unfold F_laws_FnProducts; rw [h2]⟩) (fun W hS hL => gq hS hL)
  match ds, hds with
  | [_, _], _ => exact ⟨rfl, rfl, rfl⟩

theorem products_holds_row : Rows.FnProductsSaid :=
  OpenClaim.holds_of_wide 3 Tryz.f3 rfl rfl rfl rfl rfl rfl rfl ⟨rfl, rfl, rfl, rfl, rfl⟩ rfl rfl rfl rfl rfl (by kernel_rfl) Tryz.func3 (by kernel_rfl)
    (of_decide_eq_true (by kernel_rfl)) (by unfold Func.isWrapper; rw [if_neg (by decide +kernel)]; exact ⟨rfl, rfl⟩)
    (fun os started H enc _ => products_holds_lifted os started H enc)

theorem plainParams {P : Program} {fn : Func} (h : fn.params.toList.all (fun t => !P.wantsStandIn t) = true) : ∀ (j : Nat) t, fn.params[j]? = some t → P.wantsStandIn t = false := fun j t ht => by
  have := List.all_eq_true.1 h t (List.mem_of_getElem? (by simpa using ht))
  simpa using this

theorem products_holds : Rows.FnProductsCardSaid :=
  Claim7.holds_tied_plain_at .later [] Rows.fnProductsCard.laidKinds true Rows.fnProductsCard.stood.harness true
    products_holds_row (fun _ h => by cases h) (by kernel_rfl) (fun _ h => by cases h) fnProducts_row_tie rfl ⟨rfl, rfl⟩ (by kernel_rfl) rfl
    (fun f fn hf hfn => by
      obtain rfl : f = 3 := Option.some.inj ((show Tryz.prog.funcNamed Rows.fnProductsRow.func = some 3 by kernel_rfl).symm.trans hf) |>.symm
      obtain rfl : fn = Tryz.f3 := (Option.some.inj (Tryz.func3.symm.trans hfn)).symm
      exact ⟨by kernel_rfl, plainParams (by kernel_rfl)⟩)
    (by kernel_rfl)
end Go.Proofs.YtjohfkfpfjdceaaGreatDoor
