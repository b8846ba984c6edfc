/- What is proved: the law FnExactShareOfWay returns true for every input, and leaves its arguments as they were. Conditions: none. -/
import Derived.Test.YtmhmedbhngmmpaaRows
import Derived.Test.YtmhmedbhngmmpaaXc
import Derived.Test.YtmhmedbhngmmpaaLx
import Derived.Test.YtmhmedbhngmmpaaRz
namespace Go.Proofs.Ytmhmedbhngmmpaa
open Go Go.Cv
open Go.ChangeShapes Go.WideShapes Go.ChangeAt Go.RowKit Go.Joins

theorem ownT : ownKnob Try.prog.godebug = none := by kernel_rfl
theorem laidT : laidOutB Try.prog = true := by kernel_rfl
theorem cells34T : Try.prog.cellsOf 34 = 2 := by kernel_rfl

set_option maxRecDepth 100000 in
theorem shareOfWay_holds_lifted (os : Os) (started : os.Started) (H : Type) (enc : TypeId × Value → H) :
    ReturnsInHanded {} Try.checked os 11 .any (Rows.fnExactShareOfWaySpec.pre6 enc Try.prog Try.f11 Rows.fnExactShareOfWayRow.domain false) (Rows.fnExactShareOfWaySpec.post enc Try.prog Try.f11 false true false false) := by
  refine law_row (C := Try.checked) (tb := 4) ownT started (by kernel_rfl) Try.func11 rfl (by decide)
    (ChangeSpec.witness6 (enc := enc) (C := Try.checked) false ⟨#[], #[.agg #[.float .f32 0, .float .f32 0], .agg #[.float .f32 0, .float .f32 0], .float .f32 0], []⟩ 8 (by kernel_rfl) (by kernel_rfl) (by kernel_rfl) (by kernel_rfl))
    laidT (by kernel_rfl) rfl Try.underlying4 rfl (fun ds hds => ?_) ok_laws_FnExactShareOfWay ?_
  · match ds, hds with
    | [_, _, _], _ => exact ⟨rfl, rfl, rfl⟩
  intro W base args ds p hA hval0
  have hval : ∀ (j : Nat) t v, Try.f11.params[j]? = some t → args[j]? = some v → Value.okWide Try.prog W .any base t v := hval0
  have hA : DataW.TrodAll enc Try.prog W 0 (fun _ => true) true Try.f11.params.toList args.toList ds p := hA
  rw [Try.params11] at hA hval
  obtain ⟨v0, v1, v2, d0, d1, d2, p0, p1, p2, rfl, rfl, rfl, h0, h1, h2⟩ := trodAll_three hA
  obtain ⟨c00, c01, y00, y01, m0, rfl, rfl, rfl, hy00, hy01⟩ := open_agg2 Try.underlying34 (by kernel_rfl) cells34T (hval 0 34 v0 rfl rfl) h0
  obtain ⟨a0, rfl, rfl, wa0⟩ := trod_float Try.underlying24 hy00
  obtain ⟨b0, rfl, rfl, wb0⟩ := trod_float Try.underlying24 hy01
  obtain ⟨c10, c11, y10, y11, m1, rfl, rfl, rfl, hy10, hy11⟩ := open_agg2 Try.underlying34 (by kernel_rfl) cells34T (hval 1 34 v1 rfl rfl) h1
  obtain ⟨a1, rfl, rfl, wa1⟩ := trod_float Try.underlying24 hy10
  obtain ⟨b1, rfl, rfl, wb1⟩ := trod_float Try.underlying24 hy11
  obtain ⟨a2, rfl, rfl, rfl, wa2⟩ := open_float Try.underlying24 (hval 2 24 v2 rfl rfl) h2
  refine ⟨[.agg [.fl .f32 (cn .f32 a0), .fl .f32 (cn .f32 b0)], .agg [.fl .f32 (cn .f32 a1), .fl .f32 (cn .f32 b1)], .s (.fl .f32 (cn .f32 a2))], ?_, rfl, ?_⟩
  · show some (true, F_laws_FnExactShareOfWay (p_laws_FnExactShareOfWay R _ _ _ _ _), []) = _
    rw [law_ShareOfWay]; rfl
  · intro j cc u hc hu
    match j with
    | 0 => simp at hc hu; subst hc hu; exact rel_words2 (gOut W) _ _ wa0 wb0
    | 1 => simp at hc hu; subst hc hu; exact rel_words2 (gOut W) _ _ wa1 wb1
    | 2 => simp at hc hu; subst hc hu; exact rel_word (gOut W) _ _ wa2
    | j + 3 => simp at hc

theorem shareOfWay_holds : Rows.FnExactShareOfWaySaid :=
  OpenClaim.holds_of_wide 11 Try.f11 rfl rfl rfl rfl rfl rfl rfl ⟨rfl, rfl, rfl, rfl, rfl⟩ rfl rfl rfl rfl rfl (by kernel_rfl) Try.func11 (by kernel_rfl)
    (of_decide_eq_true (by kernel_rfl)) (by unfold Func.isWrapper; rw [if_neg (by decide +kernel)]; exact ⟨rfl, rfl⟩)
    (fun os started H enc _ => shareOfWay_holds_lifted os started H enc)
end Go.Proofs.Ytmhmedbhngmmpaa
