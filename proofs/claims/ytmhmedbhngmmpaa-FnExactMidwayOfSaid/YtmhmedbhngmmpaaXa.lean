/- The contracts of the functions of part 1 over this translation. -/
import Derived.Test.YtmhmedbhngmmpaaNa
import Derived.Test.YtmhmedbhngmmpaaXm

-- GENERATED BELOW (gen.py)
namespace Go.Proofs.Ytmhmedbhngmmpaa
open Go Go.Cv
set_option maxRecDepth 100000 in
theorem e_math_NaN (M : FOps) : cwp M Try.prog (envOf [(111, sFrombits)]) 40 (Try.f96.body.getD .skip) (retK Try.prog Try.f96.results.toList) (initSt []) = some (F_math_NaN (p_math_NaN M)) := by kernel_rfl

theorem ok_math_NaN : OkFn Try.prog 96 (S_math_NaN R) := by
  refine okFn_of_cwp (good_cons ok_frombits good_nil) follows Try.func96 rfl (by decide) (by decide) ?_
  intro hp args cv deps h
  unfold S_math_NaN at h
  split at h
  · cases h
    exact ⟨rfl, (fun d hd => nomatch hd), Nat.le_of_ble_eq_true rfl, _, 40, view_plain rfl, e_math_NaN R⟩
  · cases h

set_option maxRecDepth 100000 in
theorem e_math_Floor (M : FOps) (a0 : Nat) : cwp M Try.prog (envOf [(115, un64 M.floor)]) 40 (Try.f102.body.getD .skip) (retK Try.prog Try.f102.results.toList) (initSt [.s (.fl .f64 a0)]) = some (F_math_Floor (p_math_Floor M a0)) := by kernel_rfl

theorem ok_math_Floor : OkFn Try.prog 102 (S_math_Floor R) := by
  refine okFn_of_cwp (good_cons ok_archFloor good_nil) follows Try.func102 rfl (by decide) (by decide) ?_
  intro hp args cv deps h
  unfold S_math_Floor at h
  split at h
  · cases h
    exact ⟨rfl, (fun d hd => nomatch hd), Nat.le_of_ble_eq_true rfl, _, 40, view_plain rfl, e_math_Floor R _⟩
  · cases h

set_option maxRecDepth 100000 in
theorem e_math_Sqrt (M : FOps) (a0 : Nat) : cwp M Try.prog (envOf [(118, un64 M.sqrt)]) 40 (Try.f105.body.getD .skip) (retK Try.prog Try.f105.results.toList) (initSt [.s (.fl .f64 a0)]) = some (F_math_Sqrt (p_math_Sqrt M a0)) := by kernel_rfl

theorem ok_math_Sqrt : OkFn Try.prog 105 (S_math_Sqrt R) := by
  refine okFn_of_cwp (good_cons ok_sqrt good_nil) follows Try.func105 rfl (by decide) (by decide) ?_
  intro hp args cv deps h
  unfold S_math_Sqrt at h
  split at h
  · cases h
    exact ⟨rfl, (fun d hd => nomatch hd), Nat.le_of_ble_eq_true rfl, _, 40, view_plain rfl, e_math_Sqrt R _⟩
  · cases h

set_option maxRecDepth 100000 in
theorem e_math_Trunc (M : FOps) (a0 : Nat) : cwp M Try.prog (envOf [(125, un64 M.trunc)]) 40 (Try.f119.body.getD .skip) (retK Try.prog Try.f119.results.toList) (initSt [.s (.fl .f64 a0)]) = some (F_math_Trunc (p_math_Trunc M a0)) := by kernel_rfl

theorem ok_math_Trunc : OkFn Try.prog 119 (S_math_Trunc R) := by
  refine okFn_of_cwp (good_cons ok_archTrunc good_nil) follows Try.func119 rfl (by decide) (by decide) ?_
  intro hp args cv deps h
  unfold S_math_Trunc at h
  split at h
  · cases h
    exact ⟨rfl, (fun d hd => nomatch hd), Nat.le_of_ble_eq_true rfl, _, 40, view_plain rfl, e_math_Trunc R _⟩
  · cases h

set_option maxRecDepth 100000 in
theorem e_math_Inf (M : FOps) (a0 : Int) : cwp M Try.prog (envOf [(111, sFrombits)]) 40 (Try.f120.body.getD .skip) (retK Try.prog Try.f120.results.toList) (initSt [.s (.v (.int .i64 a0))]) = some (F_math_Inf (p_math_Inf M a0)) := 
  Eq.trans (b := (brT (decide (a0 ≥ 0)) (some (F_math_Inf (cn FloatKind.f64 (Int.toNat 9218868437227405312)))) (some (F_math_Inf (cn FloatKind.f64 (Int.toNat 18442240474082181120)))))) (by kernel_rfl)
    ((push2 rfl rfl))

theorem ok_math_Inf : OkFn Try.prog 120 (S_math_Inf R) := by
  refine okFn_of_cwp (good_cons ok_frombits good_nil) follows Try.func120 rfl (by decide) (by decide) ?_
  intro hp args cv deps h
  unfold S_math_Inf at h
  split at h
  · cases h
    exact ⟨rfl, (fun d hd => nomatch hd), Nat.le_of_ble_eq_true rfl, _, 40, view_plain rfl, e_math_Inf R _⟩
  · cases h

set_option maxRecDepth 100000 in
theorem e_math_IsNaN (M : FOps) (a0 : Nat) : cwp M Try.prog (envOf []) 40 (Try.f122.body.getD .skip) (retK Try.prog Try.f122.results.toList) (initSt [.s (.fl .f64 a0)]) = some (F_math_IsNaN (p_math_IsNaN M a0)) := by kernel_rfl

theorem ok_math_IsNaN : OkFn Try.prog 122 (S_math_IsNaN R) := by
  refine okFn_of_cwp good_nil follows Try.func122 rfl (by decide) (by decide) ?_
  intro hp args cv deps h
  unfold S_math_IsNaN at h
  split at h
  · cases h
    exact ⟨rfl, (fun d hd => nomatch hd), Nat.le_of_ble_eq_true rfl, _, 40, view_plain rfl, e_math_IsNaN R _⟩
  · cases h

set_option maxRecDepth 100000 in
theorem e_math_IsInf (M : FOps) (a0 : Nat) (a1 : Int) : cwp M Try.prog (envOf [(97, un64 M.abs)]) 40 (Try.f121.body.getD .skip) (retK Try.prog Try.f121.results.toList) (initSt [.s (.fl .f64 a0), .s (.v (.int .i64 a1))]) = some (F_math_IsInf (p_math_IsInf M a0 a1)) := 
  Eq.trans (b := (brT (a1 == 0) (some (F_math_IsInf (M.cmp BinOp.gtr FloatKind.f64 (M.abs a0) 9218868437227405311))) (brT (decide (a1 < 0)) (some (F_math_IsInf (M.cmp BinOp.gtr FloatKind.f64 (M.neg FloatKind.f64 a0) 9218868437227405311))) (some (F_math_IsInf (M.cmp BinOp.gtr FloatKind.f64 a0 9218868437227405311)))))) (by kernel_rfl)
    ((push2 rfl (push2 rfl rfl)))

theorem ok_math_IsInf : OkFn Try.prog 121 (S_math_IsInf R) := by
  refine okFn_of_cwp (good_cons ok_Abs good_nil) follows Try.func121 rfl (by decide) (by decide) ?_
  intro hp args cv deps h
  unfold S_math_IsInf at h
  split at h
  · cases h
    exact ⟨rfl, (fun d hd => nomatch hd), Nat.le_of_ble_eq_true rfl, _, 40, view_plain rfl, e_math_IsInf R _ _⟩
  · cases h

set_option maxRecDepth 100000 in
theorem e_impl_isFinite (M : FOps) (a0 : Nat) : cwp M Try.prog (envOf []) 40 (Try.f95.body.getD .skip) (retK Try.prog Try.f95.results.toList) (initSt [.s (.fl .f64 a0)]) = some (F_impl_isFinite (p_impl_isFinite M a0)) := by kernel_rfl

theorem ok_impl_isFinite : OkFn Try.prog 95 (S_impl_isFinite R) := by
  refine okFn_of_cwp good_nil follows Try.func95 rfl (by decide) (by decide) ?_
  intro hp args cv deps h
  unfold S_impl_isFinite at h
  split at h
  · cases h
    exact ⟨rfl, (fun d hd => nomatch hd), Nat.le_of_ble_eq_true rfl, _, 40, view_plain rfl, e_impl_isFinite R _⟩
  · cases h

set_option maxRecDepth 100000 in
theorem e_impl_IsFinite (M : FOps) (a0 : Nat) : cwp M Try.prog (envOf [(95, S_impl_isFinite M)]) 40 (Try.f77.body.getD .skip) (retK Try.prog Try.f77.results.toList) (initSt [.s (.fl .f32 a0)]) = some (F_impl_IsFinite (p_impl_IsFinite M a0)) := by kernel_rfl

theorem ok_impl_IsFinite : OkFn Try.prog 77 (S_impl_IsFinite R) := by
  refine okFn_of_cwp (good_cons ok_impl_isFinite good_nil) follows Try.func77 rfl (by decide) (by decide) ?_
  intro hp args cv deps h
  unfold S_impl_IsFinite at h
  split at h
  · cases h
    exact ⟨rfl, (fun d hd => nomatch hd), Nat.le_of_ble_eq_true rfl, _, 40, view_plain rfl, e_impl_IsFinite R _⟩
  · cases h

set_option maxRecDepth 100000 in
theorem e_impl_fraction (M : FOps) (a0 : Nat) : cwp M Try.prog (envOf [(119, S_math_Trunc M)]) 40 (Try.f113.body.getD .skip) (retK Try.prog Try.f113.results.toList) (initSt [.s (.fl .f64 a0)]) = some (F_impl_fraction (p_impl_fraction M a0)) := 
  Eq.trans (b := (brT (M.cmp BinOp.eql FloatKind.f64 (p_math_Trunc M a0) 0) (brT (M.cmp BinOp.lss FloatKind.f64 (M.bin BinOp.sub FloatKind.f64 a0 0) 0) (some (F_impl_fraction (M.bin BinOp.add FloatKind.f64 (M.bin BinOp.sub FloatKind.f64 a0 0) 4607182418800017408))) (some (F_impl_fraction (M.bin BinOp.sub FloatKind.f64 a0 0)))) (brT (M.cmp BinOp.lss FloatKind.f64 (M.bin BinOp.sub FloatKind.f64 a0 (p_math_Trunc M a0)) 0) (some (F_impl_fraction (M.bin BinOp.add FloatKind.f64 (M.bin BinOp.sub FloatKind.f64 a0 (p_math_Trunc M a0)) 4607182418800017408))) (some (F_impl_fraction (M.bin BinOp.sub FloatKind.f64 a0 (p_math_Trunc M a0))))))) (by kernel_rfl)
    ((push2 (push2 rfl rfl) (push2 rfl rfl)))

theorem ok_impl_fraction : OkFn Try.prog 113 (S_impl_fraction R) := by
  refine okFn_of_cwp (good_cons ok_math_Trunc good_nil) follows Try.func113 rfl (by decide) (by decide) ?_
  intro hp args cv deps h
  unfold S_impl_fraction at h
  split at h
  · cases h
    exact ⟨rfl, (fun d hd => nomatch hd), Nat.le_of_ble_eq_true rfl, _, 40, view_plain rfl, e_impl_fraction R _⟩
  · cases h

set_option maxRecDepth 100000 in
theorem e_impl_floor (M : FOps) (a0 : Nat) (h : r_impl_floor M a0 = true) : cwp M Try.prog (envOf [(102, S_math_Floor M)]) 40 (Try.f106.body.getD .skip) (retK Try.prog Try.f106.results.toList) (initSt [.s (.fl .f32 a0)]) = some (F_impl_floor (p_impl_floor M a0)) := 
  Eq.trans (b := (brT (M.narOk (p_math_Floor M (M.wid a0))) (some (F_impl_floor (M.nar (p_math_Floor M (M.wid a0))))) none)) (by kernel_rfl)
    ((pushL (fun _ => rfl)) h)

theorem ok_impl_floor : OkFn Try.prog 106 (S_impl_floor R) := by
  refine okFn_of_cwp (good_cons ok_math_Floor good_nil) follows Try.func106 rfl (by decide) (by decide) ?_
  intro hp args cv deps h
  unfold S_impl_floor at h
  split at h
  · cases h
    exact ⟨rfl, (fun d hd => nomatch hd), Nat.le_of_ble_eq_true rfl, _, 40, view_plain rfl, e_impl_floor R _ (rr_impl_floor _)⟩
  · cases h

set_option maxRecDepth 100000 in
theorem e_impl_RootNumber (M : FOps) (a0 : Nat) (h : r_impl_RootNumber M a0 = true) : cwp M Try.prog (envOf [(105, S_math_Sqrt M)]) 40 (Try.f90.body.getD .skip) (retK Try.prog Try.f90.results.toList) (initSt [.s (.fl .f32 a0)]) = some (F_impl_RootNumber (p_impl_RootNumber M a0)) := 
  Eq.trans (b := (brT (M.narOk (p_math_Sqrt M (M.wid a0))) (some (F_impl_RootNumber (M.nar (p_math_Sqrt M (M.wid a0))))) none)) (by kernel_rfl)
    ((pushL (fun _ => rfl)) h)

theorem ok_impl_RootNumber : OkFn Try.prog 90 (S_impl_RootNumber R) := by
  refine okFn_of_cwp (good_cons ok_math_Sqrt good_nil) follows Try.func90 rfl (by decide) (by decide) ?_
  intro hp args cv deps h
  unfold S_impl_RootNumber at h
  split at h
  · cases h
    exact ⟨rfl, (fun d hd => nomatch hd), Nat.le_of_ble_eq_true rfl, _, 40, view_plain rfl, e_impl_RootNumber R _ (rr_impl_RootNumber _)⟩
  · cases h

set_option maxRecDepth 100000 in
theorem e_impl_absolute (M : FOps) (a0 : Nat) (h : r_impl_absolute M a0 = true) : cwp M Try.prog (envOf [(97, un64 M.abs)]) 40 (Try.f74.body.getD .skip) (retK Try.prog Try.f74.results.toList) (initSt [.s (.fl .f32 a0)]) = some (F_impl_absolute (p_impl_absolute M a0)) := 
  Eq.trans (b := (brT (M.narOk (M.abs (M.wid a0))) (some (F_impl_absolute (M.nar (M.abs (M.wid a0))))) none)) (by kernel_rfl)
    ((pushL (fun _ => rfl)) h)

theorem ok_impl_absolute : OkFn Try.prog 74 (S_impl_absolute R) := by
  refine okFn_of_cwp (good_cons ok_Abs good_nil) follows Try.func74 rfl (by decide) (by decide) ?_
  intro hp args cv deps h
  unfold S_impl_absolute at h
  split at h
  · cases h
    exact ⟨rfl, (fun d hd => nomatch hd), Nat.le_of_ble_eq_true rfl, _, 40, view_plain rfl, e_impl_absolute R _ (rr_impl_absolute _)⟩
  · cases h

set_option maxRecDepth 100000 in
theorem e_spec_l01Finite (M : FOps) (a0 : Nat) : cwp M Try.prog (envOf []) 40 (Try.f53.body.getD .skip) (retK Try.prog Try.f53.results.toList) (initSt [.s (.fl .f32 a0)]) = some (F_spec_l01Finite (p_spec_l01Finite M a0)) := by kernel_rfl

theorem ok_spec_l01Finite : OkFn Try.prog 53 (S_spec_l01Finite R) := by
  refine okFn_of_cwp good_nil follows Try.func53 rfl (by decide) (by decide) ?_
  intro hp args cv deps h
  unfold S_spec_l01Finite at h
  split at h
  · cases h
    exact ⟨rfl, (fun d hd => nomatch hd), Nat.le_of_ble_eq_true rfl, _, 40, view_plain rfl, e_spec_l01Finite R _⟩
  · cases h

set_option maxRecDepth 100000 in
theorem e_spec_l01Narrow (M : FOps) (a0 : Nat) (h : r_spec_l01Narrow M a0 = true) : cwp M Try.prog (envOf []) 40 (Try.f100.body.getD .skip) (retK Try.prog Try.f100.results.toList) (initSt [.s (.fl .f64 a0)]) = some (F_spec_l01Narrow (p_spec_l01Narrow M a0)) := 
  Eq.trans (b := (brT (M.narOk a0) (some (F_spec_l01Narrow (M.nar a0))) none)) (by kernel_rfl)
    ((pushL (fun _ => rfl)) h)

theorem ok_spec_l01Narrow : OkFn Try.prog 100 (S_spec_l01Narrow R) := by
  refine okFn_of_cwp good_nil follows Try.func100 rfl (by decide) (by decide) ?_
  intro hp args cv deps h
  unfold S_spec_l01Narrow at h
  split at h
  · simp only [Option.some.injEq, Prod.mk.injEq] at h
    obtain ⟨hr, rfl, rfl⟩ := h
    exact ⟨rfl, (fun d hd => nomatch hd), Nat.le_of_ble_eq_true rfl, _, 40, view_plain rfl, e_spec_l01Narrow R _ hr⟩
  · cases h

set_option maxRecDepth 100000 in
theorem e_spec_l01Sqrt (M : FOps) (a0 : Nat) (h : r_spec_l01Sqrt M a0 = true) : cwp M Try.prog (envOf [(100, S_spec_l01Narrow M), (105, S_math_Sqrt M)]) 40 (Try.f84.body.getD .skip) (retK Try.prog Try.f84.results.toList) (initSt [.s (.fl .f32 a0)]) = some (F_spec_l01Sqrt (p_spec_l01Sqrt M a0)) := 
  Eq.trans (b := (brT (r_spec_l01Narrow M (p_math_Sqrt M (M.wid a0))) (some (F_spec_l01Sqrt (p_spec_l01Narrow M (p_math_Sqrt M (M.wid a0))))) none)) (by kernel_rfl)
    ((pushL (fun _ => rfl)) h)

theorem ok_spec_l01Sqrt : OkFn Try.prog 84 (S_spec_l01Sqrt R) := by
  refine okFn_of_cwp (good_cons ok_spec_l01Narrow (good_cons ok_math_Sqrt good_nil)) follows Try.func84 rfl (by decide) (by decide) ?_
  intro hp args cv deps h
  unfold S_spec_l01Sqrt at h
  split at h
  · cases h
    exact ⟨rfl, (fun d hd => nomatch hd), Nat.le_of_ble_eq_true rfl, _, 40, view_plain rfl, e_spec_l01Sqrt R _ (rr_spec_l01Sqrt _)⟩
  · cases h

set_option maxRecDepth 100000 in
theorem e_impl_inside (M : FOps) (a0 : Nat) (a1 : Nat) (a2 : Nat) : cwp M Try.prog (envOf []) 40 (Try.f94.body.getD .skip) (retK Try.prog Try.f94.results.toList) (initSt [.s (.fl .f32 a0), .s (.fl .f32 a1), .s (.fl .f32 a2)]) = some (F_impl_inside (p_impl_inside M a0 a1 a2)) := 
  Eq.trans (b := (brT (M.cmp BinOp.geq FloatKind.f32 a0 a1) (some (F_impl_inside (M.cmp BinOp.leq FloatKind.f32 a0 a2))) (some (F_impl_inside (false))))) (by kernel_rfl)
    ((push2 rfl rfl))

theorem ok_impl_inside : OkFn Try.prog 94 (S_impl_inside R) := by
  refine okFn_of_cwp good_nil follows Try.func94 rfl (by decide) (by decide) ?_
  intro hp args cv deps h
  unfold S_impl_inside at h
  split at h
  · cases h
    exact ⟨rfl, (fun d hd => nomatch hd), Nat.le_of_ble_eq_true rfl, _, 40, view_plain rfl, e_impl_inside R _ _ _⟩
  · cases h

set_option maxRecDepth 100000 in
theorem e_impl_ValidPlace (M : FOps) (a0_0 : Nat) (a0_1 : Nat) : cwp M Try.prog (envOf [(94, S_impl_inside M)]) 40 (Try.f55.body.getD .skip) (retK Try.prog Try.f55.results.toList) (initSt [.agg [.fl .f32 a0_0, .fl .f32 a0_1]]) = some (F_impl_ValidPlace (p_impl_ValidPlace M a0_0 a0_1)) := 
  Eq.trans (b := (brT (p_impl_inside M a0_0 3196059648 1048576000) (brT (M.cmp BinOp.geq FloatKind.f32 a0_1 3204448256) (some (F_impl_ValidPlace (M.cmp BinOp.lss FloatKind.f32 a0_1 1056964608))) (some (F_impl_ValidPlace (false)))) (some (F_impl_ValidPlace (false))))) (by kernel_rfl)
    ((push2 (push2 rfl rfl) rfl))

theorem ok_impl_ValidPlace : OkFn Try.prog 55 (S_impl_ValidPlace R) := by
  refine okFn_of_cwp (good_cons ok_impl_inside good_nil) follows Try.func55 rfl (by decide) (by decide) ?_
  intro hp args cv deps h
  unfold S_impl_ValidPlace at h
  split at h
  · cases h
    exact ⟨rfl, (fun d hd => nomatch hd), Nat.le_of_ble_eq_true rfl, _, 40, view_plain rfl, e_impl_ValidPlace R _ _⟩
  · cases h

set_option maxRecDepth 100000 in
theorem e_spec_l02Is (M : FOps) (a0_0 : Nat) (a0_1 : Nat) : cwp M Try.prog (envOf []) 40 (Try.f52.body.getD .skip) (retK Try.prog Try.f52.results.toList) (initSt [.s (.ip 2 (fun j => ([.fl .f32 a0_0, .fl .f32 a0_1] : List CS).getD j .any))]) = some (F_spec_l02Is (p_spec_l02Is M a0_0 a0_1)) := 
  Eq.trans (b := (brT (M.cmp BinOp.geq FloatKind.f32 a0_0 3196059648) (brT (M.cmp BinOp.leq FloatKind.f32 a0_0 1048576000) (brT (M.cmp BinOp.geq FloatKind.f32 a0_1 3204448256) (some (F_spec_l02Is (M.cmp BinOp.lss FloatKind.f32 a0_1 1056964608))) (some (F_spec_l02Is (false)))) (some (F_spec_l02Is (false)))) (some (F_spec_l02Is (false))))) (by kernel_rfl)
    ((push2 (push2 (push2 rfl rfl) rfl) rfl))

theorem ok_spec_l02Is : OkFn Try.prog 52 (S_spec_l02Is R) := by
  refine okFn_of_cwp good_nil follows Try.func52 rfl (by decide) (by decide) ?_
  intro hp args cv deps h
  unfold S_spec_l02Is at h
  split at h
  · split at h
    · rename_i q0
      cases h
      exact ⟨rfl, ptrCells_hp q0, Nat.le_of_ble_eq_true rfl, [.s (.ip 2 (fun j => ([.fl .f32 _, .fl .f32 _] : List CS).getD j .any))], 40, (And.intro (view_ptr q0 (fun d hd => hd) (lift_cells rfl)) trivial), e_spec_l02Is R _ _⟩
    · cases h
  · cases h

set_option maxRecDepth 100000 in
theorem e_impl_within (M : FOps) (a0 : Int) (a1 : Int) (a2 : Int) : cwp M Try.prog (envOf []) 40 (Try.f79.body.getD .skip) (retK Try.prog Try.f79.results.toList) (initSt [.s (.v (.int .i64 a0)), .s (.v (.int .i64 a1)), .s (.v (.int .i64 a2))]) = some (F_impl_within (p_impl_within M a0 a1 a2)) := 
  Eq.trans (b := (brT (decide (a1 ≤ a0)) (some (F_impl_within (decide (a0 ≤ a2)))) (some (F_impl_within (false))))) (by kernel_rfl)
    ((push2 rfl rfl))

theorem ok_impl_within : OkFn Try.prog 79 (S_impl_within R) := by
  refine okFn_of_cwp good_nil follows Try.func79 rfl (by decide) (by decide) ?_
  intro hp args cv deps h
  unfold S_impl_within at h
  split at h
  · cases h
    exact ⟨rfl, (fun d hd => nomatch hd), Nat.le_of_ble_eq_true rfl, _, 40, view_plain rfl, e_impl_within R _ _ _⟩
  · cases h

set_option maxRecDepth 100000 in
theorem e_spec_l02Two (M : FOps) (a0_0 : Nat) (a0_1 : Nat) (a1_0 : Nat) (a1_1 : Nat) : cwp M Try.prog (envOf [(52, S_spec_l02Is M)]) 40 (Try.f42.body.getD .skip) (retK Try.prog Try.f42.results.toList) (initSt [.agg [.fl .f32 a0_0, .fl .f32 a0_1], .agg [.fl .f32 a1_0, .fl .f32 a1_1]]) = some (F_spec_l02Two (p_spec_l02Two M a0_0 a0_1 a1_0 a1_1)) := 
  Eq.trans (b := (brT (p_spec_l02Is M a0_0 a0_1) (some (F_spec_l02Two (p_spec_l02Is M a1_0 a1_1))) (some (F_spec_l02Two (false))))) (by kernel_rfl)
    ((push2 rfl rfl))

theorem ok_spec_l02Two : OkFn Try.prog 42 (S_spec_l02Two R) := by
  refine okFn_of_cwp (good_cons ok_spec_l02Is good_nil) follows Try.func42 rfl (by decide) (by decide) ?_
  intro hp args cv deps h
  unfold S_spec_l02Two at h
  split at h
  · cases h
    exact ⟨rfl, (fun d hd => nomatch hd), Nat.le_of_ble_eq_true rfl, _, 40, view_plain rfl, e_spec_l02Two R _ _ _ _⟩
  · cases h

set_option maxRecDepth 100000 in
theorem e_spec_l02Number (M : FOps) (a0 : Nat) : cwp M Try.prog (envOf [(53, S_spec_l01Finite M)]) 40 (Try.f38.body.getD .skip) (retK Try.prog Try.f38.results.toList) (initSt [.s (.fl .f32 a0)]) = some (F_spec_l02Number (p_spec_l02Number M a0)) := 
  Eq.trans (b := (brT (!p_spec_l01Finite M a0) (some (F_spec_l02Number (0, false))) (some (F_spec_l02Number (a0, true))))) (by kernel_rfl)
    ((push2 rfl rfl))

theorem ok_spec_l02Number : OkFn Try.prog 38 (S_spec_l02Number R) := by
  refine okFn_of_cwp (good_cons ok_spec_l01Finite good_nil) follows Try.func38 rfl (by decide) (by decide) ?_
  intro hp args cv deps h
  unfold S_spec_l02Number at h
  split at h
  · cases h
    exact ⟨rfl, (fun d hd => nomatch hd), Nat.le_of_ble_eq_true rfl, _, 40, view_plain rfl, e_spec_l02Number R _⟩
  · cases h

set_option maxRecDepth 100000 in
theorem e_impl_finite (M : FOps) (a0 : Nat) (a1 : Bool) : cwp M Try.prog (envOf [(77, S_impl_IsFinite M)]) 40 (Try.f41.body.getD .skip) (retK Try.prog Try.f41.results.toList) (initSt [.s (.fl .f32 a0), .s (.v (.bool a1))]) = some (F_impl_finite (p_impl_finite M a0 a1)) := 
  Eq.trans (b := (brT (!a1) (some (F_impl_finite (0, false))) (brT (!p_impl_IsFinite M a0) (some (F_impl_finite (0, false))) (some (F_impl_finite (a0, true)))))) (by kernel_rfl)
    ((push2 rfl (push2 rfl rfl)))

theorem ok_impl_finite : OkFn Try.prog 41 (S_impl_finite R) := by
  refine okFn_of_cwp (good_cons ok_impl_IsFinite good_nil) follows Try.func41 rfl (by decide) (by decide) ?_
  intro hp args cv deps h
  unfold S_impl_finite at h
  split at h
  · cases h
    exact ⟨rfl, (fun d hd => nomatch hd), Nat.le_of_ble_eq_true rfl, _, 40, view_plain rfl, e_impl_finite R _ _⟩
  · cases h

set_option maxRecDepth 100000 in
theorem e_spec_l02Above (M : FOps) (a0 : Nat) : cwp M Try.prog (envOf [(53, S_spec_l01Finite M)]) 40 (Try.f83.body.getD .skip) (retK Try.prog Try.f83.results.toList) (initSt [.s (.fl .f32 a0)]) = some (F_spec_l02Above (p_spec_l02Above M a0)) := 
  Eq.trans (b := (brT (p_spec_l01Finite M a0) (some (F_spec_l02Above (M.cmp BinOp.gtr FloatKind.f32 a0 0))) (some (F_spec_l02Above (false))))) (by kernel_rfl)
    ((push2 rfl rfl))

theorem ok_spec_l02Above : OkFn Try.prog 83 (S_spec_l02Above R) := by
  refine okFn_of_cwp (good_cons ok_spec_l01Finite good_nil) follows Try.func83 rfl (by decide) (by decide) ?_
  intro hp args cv deps h
  unfold S_spec_l02Above at h
  split at h
  · cases h
    exact ⟨rfl, (fun d hd => nomatch hd), Nat.le_of_ble_eq_true rfl, _, 40, view_plain rfl, e_spec_l02Above R _⟩
  · cases h

set_option maxRecDepth 100000 in
theorem e_spec_l02Above0 (M : FOps) (a0 : Nat) : cwp M Try.prog (envOf []) 40 (Try.f65.body.getD .skip) (retK Try.prog Try.f65.results.toList) (initSt [.s (.fl .f32 a0)]) = some (F_spec_l02Above0 (p_spec_l02Above0 M a0)) := 
  Eq.trans (b := (brT (M.cmp BinOp.lss FloatKind.f32 a0 0) (some (F_spec_l02Above0 (M.bin BinOp.add FloatKind.f32 a0 1065353216))) (some (F_spec_l02Above0 (a0))))) (by kernel_rfl)
    ((push2 rfl rfl))

theorem ok_spec_l02Above0 : OkFn Try.prog 65 (S_spec_l02Above0 R) := by
  refine okFn_of_cwp good_nil follows Try.func65 rfl (by decide) (by decide) ?_
  intro hp args cv deps h
  unfold S_spec_l02Above0 at h
  split at h
  · cases h
    exact ⟨rfl, (fun d hd => nomatch hd), Nat.le_of_ble_eq_true rfl, _, 40, view_plain rfl, e_spec_l02Above0 R _⟩
  · cases h

set_option maxRecDepth 100000 in
theorem e_impl_positive (M : FOps) (a0 : Nat) : cwp M Try.prog (envOf []) 40 (Try.f69.body.getD .skip) (retK Try.prog Try.f69.results.toList) (initSt [.s (.fl .f32 a0)]) = some (F_impl_positive (p_impl_positive M a0)) := 
  Eq.trans (b := (brT (M.cmp BinOp.lss FloatKind.f32 a0 0) (some (F_impl_positive (M.bin BinOp.add FloatKind.f32 a0 1065353216))) (some (F_impl_positive (a0))))) (by kernel_rfl)
    ((push2 rfl rfl))

theorem ok_impl_positive : OkFn Try.prog 69 (S_impl_positive R) := by
  refine okFn_of_cwp good_nil follows Try.func69 rfl (by decide) (by decide) ?_
  intro hp args cv deps h
  unfold S_impl_positive at h
  split at h
  · cases h
    exact ⟨rfl, (fun d hd => nomatch hd), Nat.le_of_ble_eq_true rfl, _, 40, view_plain rfl, e_impl_positive R _⟩
  · cases h

set_option maxRecDepth 100000 in
theorem e_spec_l02Size (M : FOps) (a0 : Nat) : cwp M Try.prog (envOf []) 40 (Try.f73.body.getD .skip) (retK Try.prog Try.f73.results.toList) (initSt [.s (.fl .f32 a0)]) = some (F_spec_l02Size (p_spec_l02Size M a0)) := 
  Eq.trans (b := (brT (M.cmp BinOp.leq FloatKind.f32 a0 0) (some (F_spec_l02Size (M.bin BinOp.sub FloatKind.f32 0 a0))) (some (F_spec_l02Size (a0))))) (by kernel_rfl)
    ((push2 rfl rfl))

theorem ok_spec_l02Size : OkFn Try.prog 73 (S_spec_l02Size R) := by
  refine okFn_of_cwp good_nil follows Try.func73 rfl (by decide) (by decide) ?_
  intro hp args cv deps h
  unfold S_spec_l02Size at h
  split at h
  · cases h
    exact ⟨rfl, (fun d hd => nomatch hd), Nat.le_of_ble_eq_true rfl, _, 40, view_plain rfl, e_spec_l02Size R _⟩
  · cases h

set_option maxRecDepth 100000 in
theorem e_spec_l02Ways (M : FOps) (a0_0 : Nat) (a0_1 : Nat) (a0_2 : Nat) : cwp M Try.prog (envOf [(53, S_spec_l01Finite M)]) 40 (Try.f82.body.getD .skip) (retK Try.prog Try.f82.results.toList) (initSt [.agg [.fl .f32 a0_0, .fl .f32 a0_1, .fl .f32 a0_2]]) = some (F_spec_l02Ways (p_spec_l02Ways M a0_0 a0_1 a0_2)) := 
  Eq.trans (b := (brT (p_spec_l01Finite M a0_0) (brT (p_spec_l01Finite M a0_1) (some (F_spec_l02Ways (p_spec_l01Finite M a0_2))) (some (F_spec_l02Ways (false)))) (some (F_spec_l02Ways (false))))) (by kernel_rfl)
    ((push2 (push2 rfl rfl) rfl))

theorem ok_spec_l02Ways : OkFn Try.prog 82 (S_spec_l02Ways R) := by
  refine okFn_of_cwp (good_cons ok_spec_l01Finite good_nil) follows Try.func82 rfl (by decide) (by decide) ?_
  intro hp args cv deps h
  unfold S_spec_l02Ways at h
  split at h
  · cases h
    exact ⟨rfl, (fun d hd => nomatch hd), Nat.le_of_ble_eq_true rfl, _, 40, view_plain rfl, e_spec_l02Ways R _ _ _⟩
  · cases h

set_option maxRecDepth 100000 in
theorem e_spec_l02Give (M : FOps) (a0_0 : Nat) (a0_1 : Nat) : cwp M Try.prog (envOf [(52, S_spec_l02Is M)]) 40 (Try.f85.body.getD .skip) (retK Try.prog Try.f85.results.toList) (initSt [.agg [.fl .f32 a0_0, .fl .f32 a0_1]]) = some (F_spec_l02Give (p_spec_l02Give M a0_0 a0_1)) := 
  Eq.trans (b := (brT (!p_spec_l02Is M a0_0 a0_1) (some (F_spec_l02Give (0, 0, false))) (some (F_spec_l02Give (a0_0, a0_1, true))))) (by kernel_rfl)
    ((push2 rfl rfl))

theorem ok_spec_l02Give : OkFn Try.prog 85 (S_spec_l02Give R) := by
  refine okFn_of_cwp (good_cons ok_spec_l02Is good_nil) follows Try.func85 rfl (by decide) (by decide) ?_
  intro hp args cv deps h
  unfold S_spec_l02Give at h
  split at h
  · cases h
    exact ⟨rfl, (fun d hd => nomatch hd), Nat.le_of_ble_eq_true rfl, _, 40, view_plain rfl, e_spec_l02Give R _ _⟩
  · cases h

set_option maxRecDepth 100000 in
theorem e_impl_valid (M : FOps) (a0_0 : Nat) (a0_1 : Nat) (a1 : Bool) : cwp M Try.prog (envOf [(55, S_impl_ValidPlace M)]) 40 (Try.f91.body.getD .skip) (retK Try.prog Try.f91.results.toList) (initSt [.agg [.fl .f32 a0_0, .fl .f32 a0_1], .s (.v (.bool a1))]) = some (F_impl_valid (p_impl_valid M a0_0 a0_1 a1)) := 
  Eq.trans (b := (brT (!a1) (some (F_impl_valid (0, 0, false))) (brT (!p_impl_ValidPlace M a0_0 a0_1) (some (F_impl_valid (0, 0, false))) (some (F_impl_valid (a0_0, a0_1, true)))))) (by kernel_rfl)
    ((push2 rfl (push2 rfl rfl)))

theorem ok_impl_valid : OkFn Try.prog 91 (S_impl_valid R) := by
  refine okFn_of_cwp (good_cons ok_impl_ValidPlace good_nil) follows Try.func91 rfl (by decide) (by decide) ?_
  intro hp args cv deps h
  unfold S_impl_valid at h
  split at h
  · cases h
    exact ⟨rfl, (fun d hd => nomatch hd), Nat.le_of_ble_eq_true rfl, _, 40, view_plain rfl, e_impl_valid R _ _ _⟩
  · cases h

set_option maxRecDepth 100000 in
theorem e_spec_l02Wrap (M : FOps) (a0 : Nat) (h : r_spec_l02Wrap M a0 = true) : cwp M Try.prog (envOf [(102, S_math_Floor M)]) 40 (Try.f67.body.getD .skip) (retK Try.prog Try.f67.results.toList) (initSt [.s (.fl .f32 a0)]) = some (F_spec_l02Wrap (p_spec_l02Wrap M a0)) := 
  Eq.trans (b := (brT (M.narOk (p_math_Floor M (M.wid (M.bin BinOp.add FloatKind.f32 a0 1056964608)))) (brT (M.cmp BinOp.geq FloatKind.f32 (M.bin BinOp.sub FloatKind.f32 a0 (M.nar (p_math_Floor M (M.wid (M.bin BinOp.add FloatKind.f32 a0 1056964608))))) 1056964608) (some (F_spec_l02Wrap (3204448256))) (some (F_spec_l02Wrap (M.bin BinOp.sub FloatKind.f32 a0 (M.nar (p_math_Floor M (M.wid (M.bin BinOp.add FloatKind.f32 a0 1056964608)))))))) none)) (by kernel_rfl)
    ((pushL (fun _ => (push2 rfl rfl))) h)

theorem ok_spec_l02Wrap : OkFn Try.prog 67 (S_spec_l02Wrap R) := by
  refine okFn_of_cwp (good_cons ok_math_Floor good_nil) follows Try.func67 rfl (by decide) (by decide) ?_
  intro hp args cv deps h
  unfold S_spec_l02Wrap at h
  split at h
  · cases h
    exact ⟨rfl, (fun d hd => nomatch hd), Nat.le_of_ble_eq_true rfl, _, 40, view_plain rfl, e_spec_l02Wrap R _ (rr_spec_l02Wrap _)⟩
  · cases h

set_option maxRecDepth 100000 in
theorem e_impl_wrap (M : FOps) (a0 : Nat) : cwp M Try.prog (envOf [(106, S_impl_floor M)]) 40 (Try.f71.body.getD .skip) (retK Try.prog Try.f71.results.toList) (initSt [.s (.fl .f32 a0)]) = some (F_impl_wrap (p_impl_wrap M a0)) := 
  Eq.trans (b := (brT (M.cmp BinOp.geq FloatKind.f32 (M.bin BinOp.sub FloatKind.f32 a0 (p_impl_floor M (M.bin BinOp.add FloatKind.f32 a0 1056964608))) 1056964608) (some (F_impl_wrap (3204448256))) (some (F_impl_wrap (M.bin BinOp.sub FloatKind.f32 a0 (p_impl_floor M (M.bin BinOp.add FloatKind.f32 a0 1056964608))))))) (by kernel_rfl)
    ((push2 rfl rfl))

theorem ok_impl_wrap : OkFn Try.prog 71 (S_impl_wrap R) := by
  refine okFn_of_cwp (good_cons ok_impl_floor good_nil) follows Try.func71 rfl (by decide) (by decide) ?_
  intro hp args cv deps h
  unfold S_impl_wrap at h
  split at h
  · cases h
    exact ⟨rfl, (fun d hd => nomatch hd), Nat.le_of_ble_eq_true rfl, _, 40, view_plain rfl, e_impl_wrap R _⟩
  · cases h

set_option maxRecDepth 100000 in
theorem e_impl_isBetweenPoles (M : FOps) (a0 : Nat) : cwp M Try.prog (envOf []) 40 (Try.f104.body.getD .skip) (retK Try.prog Try.f104.results.toList) (initSt [.s (.fl .f32 a0)]) = some (F_impl_isBetweenPoles (p_impl_isBetweenPoles M a0)) := 
  Eq.trans (b := (brT (M.cmp BinOp.gtr FloatKind.f32 a0 3196059648) (some (F_impl_isBetweenPoles (M.cmp BinOp.lss FloatKind.f32 a0 1048576000))) (some (F_impl_isBetweenPoles (false))))) (by kernel_rfl)
    ((push2 rfl rfl))

theorem ok_impl_isBetweenPoles : OkFn Try.prog 104 (S_impl_isBetweenPoles R) := by
  refine okFn_of_cwp good_nil follows Try.func104 rfl (by decide) (by decide) ?_
  intro hp args cv deps h
  unfold S_impl_isBetweenPoles at h
  split at h
  · cases h
    exact ⟨rfl, (fun d hd => nomatch hd), Nat.le_of_ble_eq_true rfl, _, 40, view_plain rfl, e_impl_isBetweenPoles R _⟩
  · cases h

set_option maxRecDepth 100000 in
theorem e_impl_dotOf (M : FOps) (a0_0 : Nat) (a0_1 : Nat) (a0_2 : Nat) (a1_0 : Nat) (a1_1 : Nat) (a1_2 : Nat) : cwp M Try.prog (envOf []) 40 (Try.f63.body.getD .skip) (retK Try.prog Try.f63.results.toList) (initSt [.agg [.fl .f32 a0_0, .fl .f32 a0_1, .fl .f32 a0_2], .agg [.fl .f32 a1_0, .fl .f32 a1_1, .fl .f32 a1_2]]) = some (F_impl_dotOf (p_impl_dotOf M a0_0 a0_1 a0_2 a1_0 a1_1 a1_2)) := by kernel_rfl

theorem ok_impl_dotOf : OkFn Try.prog 63 (S_impl_dotOf R) := by
  refine okFn_of_cwp good_nil follows Try.func63 rfl (by decide) (by decide) ?_
  intro hp args cv deps h
  unfold S_impl_dotOf at h
  split at h
  · cases h
    exact ⟨rfl, (fun d hd => nomatch hd), Nat.le_of_ble_eq_true rfl, _, 40, view_plain rfl, e_impl_dotOf R _ _ _ _ _ _⟩
  · cases h

set_option maxRecDepth 100000 in
theorem e_spec_l02Dot (M : FOps) (a0_0 : Nat) (a0_1 : Nat) (a0_2 : Nat) (a1_0 : Nat) (a1_1 : Nat) (a1_2 : Nat) : cwp M Try.prog (envOf []) 40 (Try.f61.body.getD .skip) (retK Try.prog Try.f61.results.toList) (initSt [.agg [.fl .f32 a0_0, .fl .f32 a0_1, .fl .f32 a0_2], .agg [.fl .f32 a1_0, .fl .f32 a1_1, .fl .f32 a1_2]]) = some (F_spec_l02Dot (p_spec_l02Dot M a0_0 a0_1 a0_2 a1_0 a1_1 a1_2)) := by kernel_rfl

theorem ok_spec_l02Dot : OkFn Try.prog 61 (S_spec_l02Dot R) := by
  refine okFn_of_cwp good_nil follows Try.func61 rfl (by decide) (by decide) ?_
  intro hp args cv deps h
  unfold S_spec_l02Dot at h
  split at h
  · cases h
    exact ⟨rfl, (fun d hd => nomatch hd), Nat.le_of_ble_eq_true rfl, _, 40, view_plain rfl, e_spec_l02Dot R _ _ _ _ _ _⟩
  · cases h

set_option maxRecDepth 100000 in
theorem e_impl_cross (M : FOps) (a0_0 : Nat) (a0_1 : Nat) (a0_2 : Nat) (a1_0 : Nat) (a1_1 : Nat) (a1_2 : Nat) : cwp M Try.prog (envOf []) 40 (Try.f62.body.getD .skip) (retK Try.prog Try.f62.results.toList) (initSt [.agg [.fl .f32 a0_0, .fl .f32 a0_1, .fl .f32 a0_2], .agg [.fl .f32 a1_0, .fl .f32 a1_1, .fl .f32 a1_2]]) = some (F_impl_cross (p_impl_cross M a0_0 a0_1 a0_2 a1_0 a1_1 a1_2)) := by kernel_rfl

theorem ok_impl_cross : OkFn Try.prog 62 (S_impl_cross R) := by
  refine okFn_of_cwp good_nil follows Try.func62 rfl (by decide) (by decide) ?_
  intro hp args cv deps h
  unfold S_impl_cross at h
  split at h
  · cases h
    exact ⟨rfl, (fun d hd => nomatch hd), Nat.le_of_ble_eq_true rfl, _, 40, view_plain rfl, e_impl_cross R _ _ _ _ _ _⟩
  · cases h

set_option maxRecDepth 100000 in
theorem e_spec_l02Cross (M : FOps) (a0_0 : Nat) (a0_1 : Nat) (a0_2 : Nat) (a1_0 : Nat) (a1_1 : Nat) (a1_2 : Nat) : cwp M Try.prog (envOf []) 40 (Try.f60.body.getD .skip) (retK Try.prog Try.f60.results.toList) (initSt [.agg [.fl .f32 a0_0, .fl .f32 a0_1, .fl .f32 a0_2], .agg [.fl .f32 a1_0, .fl .f32 a1_1, .fl .f32 a1_2]]) = some (F_spec_l02Cross (p_spec_l02Cross M a0_0 a0_1 a0_2 a1_0 a1_1 a1_2)) := by kernel_rfl

theorem ok_spec_l02Cross : OkFn Try.prog 60 (S_spec_l02Cross R) := by
  refine okFn_of_cwp good_nil follows Try.func60 rfl (by decide) (by decide) ?_
  intro hp args cv deps h
  unfold S_spec_l02Cross at h
  split at h
  · cases h
    exact ⟨rfl, (fun d hd => nomatch hd), Nat.le_of_ble_eq_true rfl, _, 40, view_plain rfl, e_spec_l02Cross R _ _ _ _ _ _⟩
  · cases h

set_option maxRecDepth 100000 in
theorem e_impl_plusWays (M : FOps) (a0_0 : Nat) (a0_1 : Nat) (a0_2 : Nat) (a1_0 : Nat) (a1_1 : Nat) (a1_2 : Nat) : cwp M Try.prog (envOf []) 40 (Try.f48.body.getD .skip) (retK Try.prog Try.f48.results.toList) (initSt [.agg [.fl .f32 a0_0, .fl .f32 a0_1, .fl .f32 a0_2], .agg [.fl .f32 a1_0, .fl .f32 a1_1, .fl .f32 a1_2]]) = some (F_impl_plusWays (p_impl_plusWays M a0_0 a0_1 a0_2 a1_0 a1_1 a1_2)) := by kernel_rfl

theorem ok_impl_plusWays : OkFn Try.prog 48 (S_impl_plusWays R) := by
  refine okFn_of_cwp good_nil follows Try.func48 rfl (by decide) (by decide) ?_
  intro hp args cv deps h
  unfold S_impl_plusWays at h
  split at h
  · cases h
    exact ⟨rfl, (fun d hd => nomatch hd), Nat.le_of_ble_eq_true rfl, _, 40, view_plain rfl, e_impl_plusWays R _ _ _ _ _ _⟩
  · cases h

set_option maxRecDepth 100000 in
theorem e_spec_l02Add (M : FOps) (a0_0 : Nat) (a0_1 : Nat) (a0_2 : Nat) (a1_0 : Nat) (a1_1 : Nat) (a1_2 : Nat) : cwp M Try.prog (envOf []) 40 (Try.f44.body.getD .skip) (retK Try.prog Try.f44.results.toList) (initSt [.agg [.fl .f32 a0_0, .fl .f32 a0_1, .fl .f32 a0_2], .agg [.fl .f32 a1_0, .fl .f32 a1_1, .fl .f32 a1_2]]) = some (F_spec_l02Add (p_spec_l02Add M a0_0 a0_1 a0_2 a1_0 a1_1 a1_2)) := by kernel_rfl

theorem ok_spec_l02Add : OkFn Try.prog 44 (S_spec_l02Add R) := by
  refine okFn_of_cwp good_nil follows Try.func44 rfl (by decide) (by decide) ?_
  intro hp args cv deps h
  unfold S_spec_l02Add at h
  split at h
  · cases h
    exact ⟨rfl, (fun d hd => nomatch hd), Nat.le_of_ble_eq_true rfl, _, 40, view_plain rfl, e_spec_l02Add R _ _ _ _ _ _⟩
  · cases h

set_option maxRecDepth 100000 in
theorem e_impl_sumOf (M : FOps) (a0_0 : Nat) (a0_1 : Nat) (a0_2 : Nat) (a1 : Nat) (a2_0 : Nat) (a2_1 : Nat) (a2_2 : Nat) (a3 : Nat) : cwp M Try.prog (envOf []) 40 (Try.f59.body.getD .skip) (retK Try.prog Try.f59.results.toList) (initSt [.agg [.fl .f32 a0_0, .fl .f32 a0_1, .fl .f32 a0_2], .s (.fl .f32 a1), .agg [.fl .f32 a2_0, .fl .f32 a2_1, .fl .f32 a2_2], .s (.fl .f32 a3)]) = some (F_impl_sumOf (p_impl_sumOf M a0_0 a0_1 a0_2 a1 a2_0 a2_1 a2_2 a3)) := by kernel_rfl

theorem ok_impl_sumOf : OkFn Try.prog 59 (S_impl_sumOf R) := by
  refine okFn_of_cwp good_nil follows Try.func59 rfl (by decide) (by decide) ?_
  intro hp args cv deps h
  unfold S_impl_sumOf at h
  split at h
  · cases h
    exact ⟨rfl, (fun d hd => nomatch hd), Nat.le_of_ble_eq_true rfl, _, 40, view_plain rfl, e_impl_sumOf R _ _ _ _ _ _ _ _⟩
  · cases h

set_option maxRecDepth 100000 in
theorem e_spec_l02Times (M : FOps) (a0_0 : Nat) (a0_1 : Nat) (a0_2 : Nat) (a1 : Nat) : cwp M Try.prog (envOf []) 40 (Try.f93.body.getD .skip) (retK Try.prog Try.f93.results.toList) (initSt [.agg [.fl .f32 a0_0, .fl .f32 a0_1, .fl .f32 a0_2], .s (.fl .f32 a1)]) = some (F_spec_l02Times (p_spec_l02Times M a0_0 a0_1 a0_2 a1)) := by kernel_rfl

theorem ok_spec_l02Times : OkFn Try.prog 93 (S_spec_l02Times R) := by
  refine okFn_of_cwp good_nil follows Try.func93 rfl (by decide) (by decide) ?_
  intro hp args cv deps h
  unfold S_spec_l02Times at h
  split at h
  · cases h
    exact ⟨rfl, (fun d hd => nomatch hd), Nat.le_of_ble_eq_true rfl, _, 40, view_plain rfl, e_spec_l02Times R _ _ _ _⟩
  · cases h

set_option maxRecDepth 100000 in
theorem e_impl_Way_long (M : FOps) (a0_0 : Nat) (a0_1 : Nat) (a0_2 : Nat) : cwp M Try.prog (envOf [(63, S_impl_dotOf M), (90, S_impl_RootNumber M)]) 40 (Try.f92.body.getD .skip) (retK Try.prog Try.f92.results.toList) (initSt [.agg [.fl .f32 a0_0, .fl .f32 a0_1, .fl .f32 a0_2]]) = some (F_impl_Way_long (p_impl_Way_long M a0_0 a0_1 a0_2)) := by kernel_rfl

theorem ok_impl_Way_long : OkFn Try.prog 92 (S_impl_Way_long R) := by
  refine okFn_of_cwp (good_cons ok_impl_dotOf (good_cons ok_impl_RootNumber good_nil)) follows Try.func92 rfl (by decide) (by decide) ?_
  intro hp args cv deps h
  unfold S_impl_Way_long at h
  split at h
  · cases h
    exact ⟨rfl, (fun d hd => nomatch hd), Nat.le_of_ble_eq_true rfl, _, 40, view_plain rfl, e_impl_Way_long R _ _ _⟩
  · cases h

set_option maxRecDepth 100000 in
theorem e_spec_l02Long (M : FOps) (a0_0 : Nat) (a0_1 : Nat) (a0_2 : Nat) : cwp M Try.prog (envOf [(61, S_spec_l02Dot M), (84, S_spec_l01Sqrt M)]) 40 (Try.f81.body.getD .skip) (retK Try.prog Try.f81.results.toList) (initSt [.agg [.fl .f32 a0_0, .fl .f32 a0_1, .fl .f32 a0_2]]) = some (F_spec_l02Long (p_spec_l02Long M a0_0 a0_1 a0_2)) := by kernel_rfl

theorem ok_spec_l02Long : OkFn Try.prog 81 (S_spec_l02Long R) := by
  refine okFn_of_cwp (good_cons ok_spec_l02Dot (good_cons ok_spec_l01Sqrt good_nil)) follows Try.func81 rfl (by decide) (by decide) ?_
  intro hp args cv deps h
  unfold S_spec_l02Long at h
  split at h
  · cases h
    exact ⟨rfl, (fun d hd => nomatch hd), Nat.le_of_ble_eq_true rfl, _, 40, view_plain rfl, e_spec_l02Long R _ _ _⟩
  · cases h

set_option maxRecDepth 100000 in
theorem e_laws_sameFloat (M : FOps) (a0 : Nat) (a1 : Nat) : cwp M Try.prog (envOf []) 40 (Try.f16.body.getD .skip) (retK Try.prog Try.f16.results.toList) (initSt [.s (.fl .f64 a0), .s (.fl .f64 a1)]) = some (F_laws_sameFloat (p_laws_sameFloat M a0 a1)) := 
  Eq.trans (b := (brT (M.cmp BinOp.neq FloatKind.f64 a0 a0) (brT (M.cmp BinOp.neq FloatKind.f64 a0 a0) (some (F_laws_sameFloat (M.cmp BinOp.neq FloatKind.f64 a1 a1))) (some (F_laws_sameFloat (false)))) (brT (M.cmp BinOp.neq FloatKind.f64 a1 a1) (brT (M.cmp BinOp.neq FloatKind.f64 a0 a0) (some (F_laws_sameFloat (M.cmp BinOp.neq FloatKind.f64 a1 a1))) (some (F_laws_sameFloat (false)))) (brT (M.cmp BinOp.eql FloatKind.f64 a0 0) (brT (M.cmp BinOp.eql FloatKind.f64 a1 0) (some (F_laws_sameFloat (M.cmp BinOp.gtr FloatKind.f64 (M.bin BinOp.quo FloatKind.f64 4607182418800017408 a0) 0 == M.cmp BinOp.gtr FloatKind.f64 (M.bin BinOp.quo FloatKind.f64 4607182418800017408 a1) 0))) (some (F_laws_sameFloat (M.cmp BinOp.eql FloatKind.f64 a0 a1)))) (some (F_laws_sameFloat (M.cmp BinOp.eql FloatKind.f64 a0 a1))))))) (by kernel_rfl)
    ((push2 (push2 rfl rfl) (push2 (push2 rfl rfl) (push2 (push2 rfl rfl) rfl))))

theorem ok_laws_sameFloat : OkFn Try.prog 16 (S_laws_sameFloat R) := by
  refine okFn_of_cwp good_nil follows Try.func16 rfl (by decide) (by decide) ?_
  intro hp args cv deps h
  unfold S_laws_sameFloat at h
  split at h
  · cases h
    exact ⟨rfl, (fun d hd => nomatch hd), Nat.le_of_ble_eq_true rfl, _, 40, view_plain rfl, e_laws_sameFloat R _ _⟩
  · cases h

set_option maxRecDepth 100000 in
theorem e_laws_eqPlace (M : FOps) (a0_0 : Nat) (a0_1 : Nat) (a1_0 : Nat) (a1_1 : Nat) : cwp M Try.prog (envOf [(16, S_laws_sameFloat M)]) 40 (Try.f21.body.getD .skip) (retK Try.prog Try.f21.results.toList) (initSt [.agg [.fl .f32 a0_0, .fl .f32 a0_1], .agg [.fl .f32 a1_0, .fl .f32 a1_1]]) = some (F_laws_eqPlace (p_laws_eqPlace M a0_0 a0_1 a1_0 a1_1)) := 
  Eq.trans (b := (brT (!p_laws_sameFloat M (M.wid a0_0) (M.wid a1_0)) (some (F_laws_eqPlace (false))) (brT (!p_laws_sameFloat M (M.wid a0_1) (M.wid a1_1)) (some (F_laws_eqPlace (false))) (some (F_laws_eqPlace (true)))))) (by kernel_rfl)
    ((push2 rfl (push2 rfl rfl)))

theorem ok_laws_eqPlace : OkFn Try.prog 21 (S_laws_eqPlace R) := by
  refine okFn_of_cwp (good_cons ok_laws_sameFloat good_nil) follows Try.func21 rfl (by decide) (by decide) ?_
  intro hp args cv deps h
  unfold S_laws_eqPlace at h
  split at h
  · cases h
    exact ⟨rfl, (fun d hd => nomatch hd), Nat.le_of_ble_eq_true rfl, _, 40, view_plain rfl, e_laws_eqPlace R _ _ _ _⟩
  · cases h

set_option maxRecDepth 100000 in
theorem e_laws_toPlace (M : FOps) (a0_0 : Nat) (a0_1 : Nat) : cwp M Try.prog (envOf []) 40 (Try.f19.body.getD .skip) (retK Try.prog Try.f19.results.toList) (initSt [.agg [.fl .f32 a0_0, .fl .f32 a0_1]]) = some (F_laws_toPlace (p_laws_toPlace M a0_0 a0_1)) := by kernel_rfl

theorem ok_laws_toPlace : OkFn Try.prog 19 (S_laws_toPlace R) := by
  refine okFn_of_cwp good_nil follows Try.func19 rfl (by decide) (by decide) ?_
  intro hp args cv deps h
  unfold S_laws_toPlace at h
  split at h
  · cases h
    exact ⟨rfl, (fun d hd => nomatch hd), Nat.le_of_ble_eq_true rfl, _, 40, view_plain rfl, e_laws_toPlace R _ _⟩
  · cases h

end Go.Proofs.Ytmhmedbhngmmpaa
