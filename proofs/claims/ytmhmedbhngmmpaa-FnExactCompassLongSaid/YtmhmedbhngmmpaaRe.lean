/- What is proved: the law FnExactCompassLong returns true for every input, and leaves its arguments as they were. Conditions: none. -/
import Derived.Test.YtmhmedbhngmmpaaRows
import Derived.Test.YtmhmedbhngmmpaaZh
import Derived.Test.YtmhmedbhngmmpaaLq
import Derived.Test.YtmhmedbhngmmpaaOr
namespace Go.Proofs.Ytmhmedbhngmmpaa
open Go Go.Cv Go.Dv
open Go.ChangeShapes Go.WideShapes Go.ChangeAt Go.RowKit Go.Joins

theorem ownT : ownKnob Try.prog.godebug = none := by kernel_rfl
theorem laidT : laidOutB Try.prog = true := by kernel_rfl

set_option maxRecDepth 100000 in
theorem compassLong_holds_lifted (os : Os) (started : os.Started) (H : Type) (enc : TypeId × Value → H) :
    ReturnsInHanded {} Try.checked os 10 .any (Rows.fnExactCompassLongSpec.pre6 enc Try.prog Try.f10 Rows.fnExactCompassLongRow.domain false) (Rows.fnExactCompassLongSpec.post enc Try.prog Try.f10 false true false false) := by
  refine Go.Dv.law_row (C := Try.checked) (tb := 4) (sig := (.cons (.agg shPlace) (.cons (.agg shPlace) .nil))) ownT started (by kernel_rfl) Try.func10 rfl (by decide)
    (ChangeSpec.witness6 (enc := enc) (C := Try.checked) false ⟨#[], #[.agg #[.float .f32 0, .float .f32 0], .agg #[.float .f32 0, .float .f32 0]], []⟩ 8 (by kernel_rfl) (by kernel_rfl) (by kernel_rfl) (by kernel_rfl))
    laidT (by kernel_rfl) rfl Try.underlying4 rfl (fun ds hds => ?_) (by kernel_rfl) ok_laws_FnExactCompassLong (fun x _ => by
      obtain ⟨h1, h2⟩ := law_CompassLong x.1.1 x.1.2 x.2.1.1 x.2.1.2
      exact ⟨h1, by unfold F_laws_FnExactCompassLong; rw [h2]⟩)
  match ds, hds with
  | [_, _], _ => exact ⟨rfl, rfl, rfl⟩

theorem compassLong_holds : Rows.FnExactCompassLongSaid :=
  OpenClaim.holds_of_wide 10 Try.f10 rfl rfl rfl rfl rfl rfl rfl ⟨rfl, rfl, rfl, rfl, rfl⟩ rfl rfl rfl rfl rfl (by kernel_rfl) Try.func10 (by kernel_rfl)
    (of_decide_eq_true (by kernel_rfl)) (by unfold Func.isWrapper; rw [if_neg (by decide +kernel)]; exact ⟨rfl, rfl⟩)
    (fun os started H enc _ => compassLong_holds_lifted os started H enc)
end Go.Proofs.Ytmhmedbhngmmpaa
