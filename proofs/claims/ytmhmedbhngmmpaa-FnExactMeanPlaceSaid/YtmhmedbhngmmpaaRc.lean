/- What is proved: the law FnExactMeanPlace returns true for every input, and leaves its arguments as they were. Conditions: none. -/
import Derived.Test.YtmhmedbhngmmpaaRows
import Derived.Test.YtmhmedbhngmmpaaZm
import Derived.Test.YtmhmedbhngmmpaaLm
import Derived.Test.YtmhmedbhngmmpaaOr
namespace Go.Proofs.Ytmhmedbhngmmpaa
open Go Go.Cv Go.Dv
open Go.ChangeShapes Go.WideShapes Go.ChangeAt Go.RowKit Go.Joins

theorem ownT : ownKnob Try.prog.godebug = none := by kernel_rfl
theorem laidT : laidOutB Try.prog = true := by kernel_rfl

set_option maxRecDepth 100000 in
theorem meanPlace_holds_lifted (os : Os) (started : os.Started) (H : Type) (enc : TypeId × Value → H) :
    ReturnsInHanded {} Try.checked os 9 .any (Rows.fnExactMeanPlaceSpec.pre6 enc Try.prog Try.f9 Rows.fnExactMeanPlaceRow.domain false) (Rows.fnExactMeanPlaceSpec.post enc Try.prog Try.f9 false true false false) := by
  refine Go.Dv.law_row (C := Try.checked) (tb := 4) (sig := (.cons (.one (.ls shPlace)) .nil)) ownT started (by kernel_rfl) Try.func9 rfl (by decide)
    (ChangeSpec.witness6 (enc := enc) (C := Try.checked) false ⟨#[], #[.slice none 0 0], []⟩ 8 (by kernel_rfl) (by kernel_rfl) (by kernel_rfl) (by kernel_rfl))
    laidT (by kernel_rfl) rfl Try.underlying4 rfl (fun ds hds => ?_) (by kernel_rfl) ok_laws_FnExactMeanPlace (fun x hx => by
      obtain ⟨h1, h2⟩ := law_MeanPlace x.1 (by have := hx.1.1; unfold maxLen at this; omega)
      exact ⟨h1, by unfold F_laws_FnExactMeanPlace; rw [h2]⟩)
  match ds, hds with
  | [_], _ => exact ⟨rfl, rfl, rfl⟩

theorem meanPlace_holds : Rows.FnExactMeanPlaceSaid :=
  OpenClaim.holds_of_wide 9 Try.f9 rfl rfl rfl rfl rfl rfl rfl ⟨rfl, rfl, rfl, rfl, rfl⟩ rfl rfl rfl rfl rfl (by kernel_rfl) Try.func9 (by kernel_rfl)
    (of_decide_eq_true (by kernel_rfl)) (by unfold Func.isWrapper; rw [if_neg (by decide +kernel)]; exact ⟨rfl, rfl⟩)
    (fun os started H enc _ => meanPlace_holds_lifted os started H enc)
end Go.Proofs.Ytmhmedbhngmmpaa
