/- What is proved: the law FnExactLongOfPlaces returns true for every input, and leaves its arguments as they were. Conditions: none. -/
import Derived.Test.YtmhmedbhngmmpaaRows
import Derived.Test.YtmhmedbhngmmpaaZf
import Derived.Test.YtmhmedbhngmmpaaLp
import Derived.Test.YtmhmedbhngmmpaaOr
namespace Go.Proofs.Ytmhmedbhngmmpaa
open Go Go.Cv Go.Dv
open Go.ChangeShapes Go.WideShapes Go.ChangeAt Go.RowKit Go.Joins

theorem ownT : ownKnob Try.prog.godebug = none := by kernel_rfl
theorem laidT : laidOutB Try.prog = true := by kernel_rfl

set_option maxRecDepth 100000 in
theorem longOfPlaces_holds_lifted (os : Os) (started : os.Started) (H : Type) (enc : TypeId × Value → H) :
    ReturnsInHanded {} Try.checked os 5 .any (Rows.fnExactLongOfPlacesSpec.pre6 enc Try.prog Try.f5 Rows.fnExactLongOfPlacesRow.domain false) (Rows.fnExactLongOfPlacesSpec.post enc Try.prog Try.f5 false true false false) := by
  refine Go.Dv.law_row (C := Try.checked) (tb := 4) (sig := (.cons (.one (.ls shPlace)) (.cons (.one .bool) .nil))) ownT started (by kernel_rfl) Try.func5 rfl (by decide)
    (ChangeSpec.witness6 (enc := enc) (C := Try.checked) false ⟨#[], #[.slice none 0 0, .bool false], []⟩ 8 (by kernel_rfl) (by kernel_rfl) (by kernel_rfl) (by kernel_rfl))
    laidT (by kernel_rfl) rfl Try.underlying4 rfl (fun ds hds => ?_) (by kernel_rfl) ok_laws_FnExactLongOfPlaces (fun x hx => by
      obtain ⟨h1, h2⟩ := law_LongOfPlaces x.1 x.2.1 (by have := hx.1.1; unfold maxLen at this; omega)
      exact ⟨h1, by unfold F_laws_FnExactLongOfPlaces; rw [h2]⟩)
  match ds, hds with
  | [_, _], _ => exact ⟨rfl, rfl, rfl⟩

theorem longOfPlaces_holds : Rows.FnExactLongOfPlacesSaid :=
  OpenClaim.holds_of_wide 5 Try.f5 rfl rfl rfl rfl rfl rfl rfl ⟨rfl, rfl, rfl, rfl, rfl⟩ rfl rfl rfl rfl rfl (by kernel_rfl) Try.func5 (by kernel_rfl)
    (of_decide_eq_true (by kernel_rfl)) (by unfold Func.isWrapper; rw [if_neg (by decide +kernel)]; exact ⟨rfl, rfl⟩)
    (fun os started H enc _ => longOfPlaces_holds_lifted os started H enc)
end Go.Proofs.Ytmhmedbhngmmpaa
