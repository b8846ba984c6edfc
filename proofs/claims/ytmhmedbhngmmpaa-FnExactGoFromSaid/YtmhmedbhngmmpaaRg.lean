/- THE ROW of FnExactGoFrom. -/
import Derived.Test.YtmhmedbhngmmpaaRows
import Derived.Test.YtmhmedbhngmmpaaXc
import Derived.Test.YtmhmedbhngmmpaaLw
import Derived.Test.YtmhmedbhngmmpaaRw
namespace Go.Proofs.Ytmhmedbhngmmpaa
open Go Go.Cv
open Go.ChangeShapes Go.WideShapes Go.ChangeAt Go.RowKit Go.Joins

theorem ownT : ownKnob Try.prog.godebug = none := by kernel_rfl
theorem cells34T : Try.prog.cellsOf 34 = 2 := by kernel_rfl

set_option maxRecDepth 100000 in
theorem goFrom_lifted (os : Os) (started : os.Started) (H : Type) (enc : TypeId × Value → H) :
    ReturnsInHanded {} Try.checked os 6 .any (Rows.fnExactGoFromSpec.pre6 enc Try.prog Try.f6 Rows.fnExactGoFromRow.domain false) (Rows.fnExactGoFromSpec.post enc Try.prog Try.f6 false true false false) := by
  refine returnsInHanded_of_change (C := Try.checked) ownT started (by kernel_rfl) Try.func6
    (ChangeSpec.witness6 (enc := enc) (C := Try.checked) false ⟨#[], #[.agg #[.float .f32 0, .float .f32 0], .float .f32 0, .float .f32 0], []⟩ 8 (by kernel_rfl) (by kernel_rfl) (by kernel_rfl) (by kernel_rfl)) ?_
  intro W base args ds gs before hval0 hW _ _
  have hval : ∀ (j : Nat) t v, Try.f6.params[j]? = some t → args[j]? = some v → Value.okWide Try.prog W .any base t v := hval0
  have hW' := hW
  obtain ⟨p, q, hA0, hV, rfl, _, _⟩ := hW
  have hA : DataW.TrodAll enc Try.prog W 0 (fun _ => true) true Try.f6.params.toList args.toList ds p := hA0
  rw [Try.params6] at hA hval
  obtain ⟨v0, v1, v2, d0, d1, d2, p0, p1, p2, rfl, rfl, rfl, h0, h1, h2⟩ := trodAll_three hA
  obtain ⟨rfl, rfl⟩ := trodVars_none hV
  obtain ⟨c0, c1, y0, y1, m, rfl, rfl, rfl, hy0, hy1⟩ := open_agg2 Try.underlying34 (by kernel_rfl) cells34T (hval 0 34 v0 rfl rfl) h0
  obtain ⟨a, rfl, rfl, wa⟩ := trod_float Try.underlying24 hy0
  obtain ⟨b, rfl, rfl, wb⟩ := trod_float Try.underlying24 hy1
  obtain ⟨c, rfl, rfl, rfl, wc⟩ := open_float Try.underlying24 (hval 1 24 v1 rfl rfl) h1
  obtain ⟨d, rfl, rfl, rfl, wd⟩ := open_float Try.underlying24 (hval 2 24 v2 rfl rfl) h2
  clear hA0 hval0
  simp only [List.append_nil] at hW'
  refine (calls_true (args := [.agg [.fl .f32 (cn .f32 a), .fl .f32 (cn .f32 b)], .s (.fl .f32 (cn .f32 c)), .s (.fl .f32 (cn .f32 d))]) Try.func6 rfl (by decide) ok_laws_FnExactGoFrom
    (by show some (true, F_laws_FnExactGoFrom (p_laws_FnExactGoFrom R _ _ _ _), []) = _; rw [law_GoFrom]; rfl) _ W rfl ?_).mono fun e W' ⟨he, hg⟩ => ?_
  · intro j cc u hc hu
    match j with
    | 0 => simp at hc hu; subst hc hu; exact rel_words2 (gOut W) _ _ wa wb
    | 1 => simp at hc hu; subst hc hu; exact rel_word (gOut W) _ _ wc
    | 2 => simp at hc hu; subst hc hu; exact rel_word (gOut W) _ _ wd
    | j + 3 => simp at hc
  · subst he
    exact ⟨_, rfl, post_of_same (pa := []) (pv := []) hW' (fun _ _ _ => trodAll_mk1 (shut_bool Try.underlying4 _))
      (fun sp _ => trodAll_mk3 (shut_agg2 (y0 := (.lit (.float .f32 a), [])) (y1 := (.lit (.float .f32 b), [])) Try.underlying34 (by kernel_rfl) cells34T (trod1_float Try.underlying24 wa) (trod1_float Try.underlying24 wb)) (Go.ChangeShapes.shut_float Try.underlying24 wc) (Go.ChangeShapes.shut_float Try.underlying24 wd))
      (fun _ _ => rfl) rfl (World.keptBut_mono (fun p hp => hp.elim) hg.1) hg.2.1 (ok_one (by kernel_rfl) rfl (okWide_bool_mk Try.underlying4 _))⟩

theorem goFrom_holds : Rows.FnExactGoFromSaid :=
  OpenClaim.holds_of_wide 6 Try.f6 rfl rfl rfl rfl rfl rfl rfl ⟨rfl, rfl, rfl, rfl, rfl⟩ rfl rfl rfl rfl rfl (by kernel_rfl) Try.func6 (by kernel_rfl)
    (of_decide_eq_true (by kernel_rfl)) (by unfold Func.isWrapper; rw [if_neg (by decide +kernel)]; exact ⟨rfl, rfl⟩)
    (fun os started H enc _ => goFrom_lifted os started H enc)
end Go.Proofs.Ytmhmedbhngmmpaa
