/- What is proved: the law FnExactMeetOfWays returns true for every input, and leaves its arguments as they were. Conditions: none. -/
import Derived.Test.YtmhmedbhngmmpaaRows
import Derived.Test.YtmhmedbhngmmpaaXc
import Derived.Test.YtmhmedbhngmmpaaLx
import Derived.Test.YtmhmedbhngmmpaaRz
namespace Go.Proofs.Ytmhmedbhngmmpaa
open Go Go.Cv
open Go.ChangeShapes Go.WideShapes Go.ChangeAt Go.RowKit Go.Joins

theorem ownT : ownKnob Try.prog.godebug = none := by kernel_rfl
theorem laidT : laidOutB Try.prog = true := by kernel_rfl
theorem cells34T : Try.prog.cellsOf 34 = 2 := by kernel_rfl

set_option maxRecDepth 100000 in
theorem meetOfWays_holds_lifted (os : Os) (started : os.Started) (H : Type) (enc : TypeId × Value → H) :
    ReturnsInHanded {} Try.checked os 7 .any (Rows.fnExactMeetOfWaysSpec.pre6 enc Try.prog Try.f7 Rows.fnExactMeetOfWaysRow.domain false) (Rows.fnExactMeetOfWaysSpec.post enc Try.prog Try.f7 false true false false) := by
  refine law_row (C := Try.checked) (tb := 4) ownT started (by kernel_rfl) Try.func7 rfl (by decide)
    (ChangeSpec.witness6 (enc := enc) (C := Try.checked) false ⟨#[], #[.agg #[.float .f32 0, .float .f32 0], .agg #[.float .f32 0, .float .f32 0], .agg #[.float .f32 0, .float .f32 0], .agg #[.float .f32 0, .float .f32 0]], []⟩ 8 (by kernel_rfl) (by kernel_rfl) (by kernel_rfl) (by kernel_rfl))
    laidT (by kernel_rfl) rfl Try.underlying4 rfl (fun ds hds => ?_) ok_laws_FnExactMeetOfWays ?_
  · match ds, hds with
    | [_, _, _, _], _ => exact ⟨rfl, rfl, rfl⟩
  intro W base args ds p hA hval0
  have hval : ∀ (j : Nat) t v, Try.f7.params[j]? = some t → args[j]? = some v → Value.okWide Try.prog W .any base t v := hval0
  have hA : DataW.TrodAll enc Try.prog W 0 (fun _ => true) true Try.f7.params.toList args.toList ds p := hA
  rw [Try.params7] at hA hval
  obtain ⟨v0, v1, v2, v3, d0, d1, d2, d3, p0, p1, p2, p3, rfl, rfl, rfl, h0, h1, h2, h3⟩ := trodAll_four hA
  obtain ⟨c00, c01, y00, y01, m0, rfl, rfl, rfl, hy00, hy01⟩ := open_agg2 Try.underlying34 (by kernel_rfl) cells34T (hval 0 34 v0 rfl rfl) h0
  obtain ⟨a0, rfl, rfl, wa0⟩ := trod_float Try.underlying24 hy00
  obtain ⟨b0, rfl, rfl, wb0⟩ := trod_float Try.underlying24 hy01
  obtain ⟨c10, c11, y10, y11, m1, rfl, rfl, rfl, hy10, hy11⟩ := open_agg2 Try.underlying34 (by kernel_rfl) cells34T (hval 1 34 v1 rfl rfl) h1
  obtain ⟨a1, rfl, rfl, wa1⟩ := trod_float Try.underlying24 hy10
  obtain ⟨b1, rfl, rfl, wb1⟩ := trod_float Try.underlying24 hy11
  obtain ⟨c20, c21, y20, y21, m2, rfl, rfl, rfl, hy20, hy21⟩ := open_agg2 Try.underlying34 (by kernel_rfl) cells34T (hval 2 34 v2 rfl rfl) h2
  obtain ⟨a2, rfl, rfl, wa2⟩ := trod_float Try.underlying24 hy20
  obtain ⟨b2, rfl, rfl, wb2⟩ := trod_float Try.underlying24 hy21
  obtain ⟨c30, c31, y30, y31, m3, rfl, rfl, rfl, hy30, hy31⟩ := open_agg2 Try.underlying34 (by kernel_rfl) cells34T (hval 3 34 v3 rfl rfl) h3
  obtain ⟨a3, rfl, rfl, wa3⟩ := trod_float Try.underlying24 hy30
  obtain ⟨b3, rfl, rfl, wb3⟩ := trod_float Try.underlying24 hy31
  refine ⟨[.agg [.fl .f32 (cn .f32 a0), .fl .f32 (cn .f32 b0)], .agg [.fl .f32 (cn .f32 a1), .fl .f32 (cn .f32 b1)], .agg [.fl .f32 (cn .f32 a2), .fl .f32 (cn .f32 b2)], .agg [.fl .f32 (cn .f32 a3), .fl .f32 (cn .f32 b3)]], ?_, rfl, ?_⟩
  · show some (true, F_laws_FnExactMeetOfWays (p_laws_FnExactMeetOfWays R _ _ _ _ _ _ _ _), []) = _
    rw [law_MeetOfWays]; rfl
  · intro j cc u hc hu
    match j with
    | 0 => simp at hc hu; subst hc hu; exact rel_words2 (gOut W) _ _ wa0 wb0
    | 1 => simp at hc hu; subst hc hu; exact rel_words2 (gOut W) _ _ wa1 wb1
    | 2 => simp at hc hu; subst hc hu; exact rel_words2 (gOut W) _ _ wa2 wb2
    | 3 => simp at hc hu; subst hc hu; exact rel_words2 (gOut W) _ _ wa3 wb3
    | j + 4 => simp at hc

theorem meetOfWays_holds : Rows.FnExactMeetOfWaysSaid :=
  OpenClaim.holds_of_wide 7 Try.f7 rfl rfl rfl rfl rfl rfl rfl ⟨rfl, rfl, rfl, rfl, rfl⟩ rfl rfl rfl rfl rfl (by kernel_rfl) Try.func7 (by kernel_rfl)
    (of_decide_eq_true (by kernel_rfl)) (by unfold Func.isWrapper; rw [if_neg (by decide +kernel)]; exact ⟨rfl, rfl⟩)
    (fun os started H enc _ => meetOfWays_holds_lifted os started H enc)
end Go.Proofs.Ytmhmedbhngmmpaa
