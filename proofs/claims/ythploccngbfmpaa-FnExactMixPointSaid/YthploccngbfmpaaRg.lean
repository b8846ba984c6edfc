/- What is proved: the law FnExactMixPoint returns true for every input, and leaves its arguments as they were. Conditions: none. -/
import Derived.Test.YthploccngbfmpaaRows
import Derived.Test.YthploccngbfmpaaZq
import Derived.Test.YthploccngbfmpaaLa
import Derived.Test.YthploccngbfmpaaOr
namespace Go.Proofs.Ythploccngbfmpaa
open Go Go.Cv Go.Dv
open Go.ChangeShapes Go.WideShapes Go.ChangeAt Go.RowKit Go.Joins

theorem ownT : ownKnob Try.prog.godebug = none := by kernel_rfl
theorem laidT : laidOutB Try.prog = true := by kernel_rfl

set_option maxRecDepth 100000 in
theorem mixPoint_holds_lifted (os : Os) (started : os.Started) (H : Type) (enc : TypeId × Value → H) :
    ReturnsInHanded {} Try.checked os 4 .any (Rows.fnExactMixPointSpec.pre6 enc Try.prog Try.f4 Rows.fnExactMixPointRow.domain false) (Rows.fnExactMixPointSpec.post enc Try.prog Try.f4 false true false false) := by
  refine Go.Dv.law_row (C := Try.checked) (tb := 4) (sig := (.cons (.agg (.pair (.int .i64) (.pair (.pair (.fl .f32) (.fl .f32)) (.fl .f32)))) (.cons (.agg (.pair (.int .i64) (.pair (.pair (.fl .f32) (.fl .f32)) (.fl .f32)))) (.cons (.one (.fl .f32)) (.cons (.agg shPlace) .nil))))) ownT started (by kernel_rfl) Try.func4 rfl (by decide)
    (ChangeSpec.witness6 (enc := enc) (C := Try.checked) false ⟨#[], #[.agg #[.int .i64 0, .float .f32 0, .float .f32 0, .float .f32 0], .agg #[.int .i64 0, .float .f32 0, .float .f32 0, .float .f32 0], .float .f32 0, .agg #[.float .f32 0, .float .f32 0]], []⟩ 8 (by kernel_rfl) (by kernel_rfl) (by kernel_rfl) (by kernel_rfl))
    laidT (by kernel_rfl) rfl Try.underlying4 rfl (fun ds hds => ?_) (by kernel_rfl) ok_laws_FnExactMixPoint (fun x _ => by
      obtain ⟨h1, h2⟩ := law_MixPoint x.1.1 x.1.2.1.1 x.1.2.1.2 x.1.2.2 x.2.1.1 x.2.1.2.1.1 x.2.1.2.1.2 x.2.1.2.2 x.2.2.1 x.2.2.2.1.1 x.2.2.2.1.2
      exact ⟨h1, by unfold F_laws_FnExactMixPoint; rw [h2]⟩)
  match ds, hds with
  | [_, _, _, _], _ => exact ⟨rfl, rfl, rfl⟩

theorem mixPoint_holds : Rows.FnExactMixPointSaid :=
  OpenClaim.holds_of_wide 4 Try.f4 rfl rfl rfl rfl rfl rfl rfl ⟨rfl, rfl, rfl, rfl, rfl⟩ rfl rfl rfl rfl rfl (by kernel_rfl) Try.func4 (by kernel_rfl)
    (of_decide_eq_true (by kernel_rfl)) (by unfold Func.isWrapper; rw [if_neg (by decide +kernel)]; exact ⟨rfl, rfl⟩)
    (fun os started H enc _ => mixPoint_holds_lifted os started H enc)
end Go.Proofs.Ythploccngbfmpaa
