/- What is proved: the law FnExactMatchTrack returns true for every input, and leaves its arguments as they were. Conditions: none. -/
import Derived.Test.YtggaemodkekeeaaZni
import Derived.Test.YtggaemodkekeeaaLnm
import Derived.Test.YtggaemodkekeeaaOr
import Derived.Test.YtggaemodkekeeaaRows

namespace Go.Proofs.Ytggaemodkekeeaa
open Go Go.Cv Go.Dv
open Go.ChangeShapes Go.WideShapes Go.ChangeAt Go.RowKit Go.Joins

theorem ownT : ownKnob Try.prog.godebug = none := by kernel_rfl
theorem laidT : laidOutB Try.prog = true := by kernel_rfl

set_option maxRecDepth 100000 in
theorem matchTrack_holds_lifted (os : Os) (started : os.Started) (H : Type) (enc : TypeId × Value → H) :
    ReturnsInHanded {} Try.checked os 3 .any (Rows.fnExactMatchTrackSpec.pre6 enc Try.prog Try.f3 Rows.fnExactMatchTrackRow.domain false) (Rows.fnExactMatchTrackSpec.post enc Try.prog Try.f3 false true false false) := by
  refine Go.Dv.law_row (C := Try.checked) (tb := 4) (sig := (.cons (.agg (.pair (.ls shPlace) (.ls (.pair (.int .i64) (.pair (.int .i64) (.int .i64)))))) (.cons (.one (.ls shPlace)) (.cons (.one (.int .i64)) .nil)))) ownT started (by kernel_rfl) Try.func3 rfl (by decide)
    (ChangeSpec.witness6 (enc := enc) (C := Try.checked) false ⟨#[], #[.agg #[.slice none 0 0, .slice none 0 0], .slice none 0 0, .int .i64 0], []⟩ 8 (by kernel_rfl) (by kernel_rfl) (by kernel_rfl) (by kernel_rfl))
    laidT (by kernel_rfl) rfl Try.underlying4 rfl (fun ds hds => ?_) (by kernel_rfl) ok_laws_FnExactMatchTrack (fun x hx => by
      obtain ⟨h1, h2⟩ := law_MatchTrack x.1.1 x.1.2 x.2.1 x.2.2.1 (by have := hx.1.1.1; unfold maxLen at this; omega) (by have := hx.1.2.1; unfold maxLen at this; omega) (by have := hx.2.1.1; unfold maxLen at this; omega)
      exact ⟨h1, by unfold F_laws_FnExactMatchTrack; rw [h2]⟩) (fun _ => trivial)
  match ds, hds with
  | [_, _, _], _ => exact ⟨rfl, rfl, rfl⟩

theorem matchTrack_holds : Rows.FnExactMatchTrackSaid :=
  OpenClaim.holds_of_wide 3 Try.f3 rfl rfl rfl rfl rfl rfl rfl ⟨rfl, rfl, rfl, rfl, rfl⟩ rfl rfl rfl rfl rfl (by kernel_rfl) Try.func3 (by kernel_rfl)
    (of_decide_eq_true (by kernel_rfl)) (by unfold Func.isWrapper; rw [if_neg (by decide +kernel)]; exact ⟨rfl, rfl⟩)
    (fun os started H enc _ => matchTrack_holds_lifted os started H enc)
end Go.Proofs.Ytggaemodkekeeaa
