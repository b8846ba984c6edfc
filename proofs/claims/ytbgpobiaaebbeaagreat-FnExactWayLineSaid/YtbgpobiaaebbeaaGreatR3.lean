/- What is proved: the law FnExactWayLine returns true for every input, and leaves its arguments as they were. Conditions: none. -/
import Derived.Test.YtbgpobiaaebbeaaGreatZv
import Derived.Test.YtbgpobiaaebbeaaGreatLz
import Derived.Test.YtbgpobiaaebbeaaGreatOr
import Derived.Test.YtbgpobiaaebbeaaGreatRs
import Derived.Test.YtbgpobiaaebbeaaGreatRows
namespace Go.Proofs.YtbgpobiaaebbeaaGreat
open Go Go.Cv Go.Dv
open Go.ChangeShapes Go.WideShapes Go.ChangeAt Go.RowKit Go.Joins

theorem ownT : ownKnob Tryz.prog.godebug = none := by kernel_rfl
theorem laidT : laidOutB Tryz.prog = true := by kernel_rfl

set_option maxRecDepth 100000 in
theorem wayLine_holds_lifted (os : Os) (started : os.Started) (H : Type) (enc : TypeId × Value → H) :
    ReturnsInHanded {} Tryz.checked os 4 .any (Rows.fnExactWayLineSpec.pre6 enc Tryz.prog Tryz.f4 Rows.fnExactWayLineRow.domain false) (Rows.fnExactWayLineSpec.post enc Tryz.prog Tryz.f4 false true false false) := by
  refine Go.Dv.law_row (C := Tryz.checked) (tb := 4) (sig := (.cons (.agg (.pair (.int .i64) (.pair (.pair (.fl .f32) (.fl .f32)) (.fl .f32)))) (.cons (.agg shPlace) (.cons (.agg shPlace) (.cons (.one (.int .i64)) .nil))))) ownT started (by kernel_rfl) Tryz.func4 rfl (by decide)
    (ChangeSpec.witness6 (enc := enc) (C := Tryz.checked) false ⟨#[], #[.agg #[.int .i64 0, .float .f32 0, .float .f32 0, .float .f32 0], .agg #[.float .f32 0, .float .f32 0], .agg #[.float .f32 0, .float .f32 0], .int .i64 0], []⟩ 8 (by kernel_rfl) (by kernel_rfl) (by kernel_rfl) (by kernel_rfl))
    laidT (by kernel_rfl) rfl Tryz.underlying4 rfl (fun ds hds => ?_) (by kernel_rfl) ok_laws_FnExactWayLine (fun x _ => by
      obtain ⟨h1, h2⟩ := law_WayLine x.1.1 x.1.2.1.1 x.1.2.1.2 x.1.2.2 x.2.1.1 x.2.1.2 x.2.2.1.1 x.2.2.1.2 x.2.2.2.1
      exact ⟨h1, by unfold F_laws_FnExactWayLine; rw [h2]⟩)
  match ds, hds with
  | [_, _, _, _], _ => exact ⟨rfl, rfl, rfl⟩

set_option maxHeartbeats 4000000 in
set_option maxRecDepth 100000 in
theorem wayLine_holds_closed : joinedFacts Tryz.pinned.checked.prog 4 Tryz.f4 Rows.fnExactWayLineSpec Rows.fnExactWayLineRow = true := by
  unfold joinedFacts
  repeat' (with_reducible apply and_tt)
  all_goals first
    | with_reducible exact sh_heard
    | with_reducible exact sh_enter
    | ((with_reducible refine sh_lift _ ?_); rfl)
    | (as_aux_lemma => kernel_rfl)

theorem wayLine_holds : Rows.FnExactWayLineSaid :=
  OpenClaim.holds_of_wide 4 Tryz.f4 rfl rfl rfl rfl rfl rfl rfl ⟨rfl, rfl, rfl, rfl, rfl⟩ rfl rfl rfl rfl rfl (by kernel_rfl) Tryz.func4 wayLine_holds_closed
    (of_decide_eq_true (by kernel_rfl)) (by unfold Func.isWrapper; rw [if_neg (by decide +kernel)]; exact ⟨rfl, rfl⟩)
    (fun os started H enc _ => wayLine_holds_lifted os started H enc)
end Go.Proofs.YtbgpobiaaebbeaaGreat
