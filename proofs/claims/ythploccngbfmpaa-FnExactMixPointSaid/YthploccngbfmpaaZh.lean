/- Printed by gen2.py. -/
import Derived.Test.YthploccngbfmpaaWh
import Derived.Test.YthploccngbfmpaaZg
set_option linter.unusedVariables false
set_option linter.unusedSimpArgs false

-- GENERATED BELOW (gen.py)
namespace Go.Proofs.Ythploccngbfmpaa
open Go Go.Cv Go.Dv
set_option maxRecDepth 100000 in
theorem e_spec_l01Log (M : FOps) (a0 : Nat) (h : r_spec_l01Log M a0 = true) : cwp M Try.prog (envOf [(61, S_spec_l01Narrow M), (83, S_spec_l01LogWide M)]) (lamOf []) 40 (Try.f60.body.getD .skip) 0 (retK Try.prog Try.f60.results.toList (.cons (.one (.fl .f32)) .nil) 0) (initSt (.cons (.one (.fl .f32)) .nil) (a0, ())) = some (F_spec_l01Log (p_spec_l01Log M a0)) := 
  Eq.trans (b := (brT (r_spec_l01LogWide M (c0_spec_l01Log M a0)) (brT (r_spec_l01Narrow M (c1_spec_l01Log M a0)) (some (F_spec_l01Log (p_spec_l01Narrow M (c1_spec_l01Log M a0)))) none) none)) (by kernel_rfl)
    ((pushL (pushL (fun _ => rfl))) h)
theorem ok_spec_l01Log : OkFn Try.prog 60 (S_spec_l01Log R) :=
  okFn_of (good_cons ok_spec_l01Narrow (good_cons ok_spec_l01LogWide good_nil)) follows Try.func60 rfl (by decide) (by decide) lam_nil (m := 1) (fun _ => rfl) (by decide) (fun _ _ h => nomatch h) (fun _ _ h => nomatch h) (fun x hx => ⟨40, e_spec_l01Log R x.1 hx⟩)

set_option maxRecDepth 100000 in
theorem e_spec_l02Stretch (M : FOps) (a0 : Nat) (h : r_spec_l02Stretch M a0 = true) : cwp M Try.prog (envOf [(28, S_spec_l02Number M), (33, S_spec_l02Cosine M), (36, S_spec_l01Sine M), (60, S_spec_l01Log M)]) (lamOf []) 40 (Try.f35.body.getD .skip) 0 (retK Try.prog Try.f35.results.toList (.cons (.one (.fl .f32)) (.cons (.one .bool) .nil)) 0) (initSt (.cons (.one (.fl .f32)) .nil) (a0, ())) = some (F_spec_l02Stretch (p_spec_l02Stretch M a0)) := 
  Eq.trans (b := (brT (M.cmp BinOp.gtr FloatKind.f32 a0 3196059648) (brT (!M.cmp BinOp.lss FloatKind.f32 a0 1048576000) (some (F_spec_l02Stretch ((0, false)))) (brT (r_spec_l01Log M (c0_spec_l02Stretch M a0)) (some (F_spec_l02Stretch (((c1_spec_l02Stretch M a0).fst, (c1_spec_l02Stretch M a0).snd)))) none)) (some (F_spec_l02Stretch ((0, false)))))) (by kernel_rfl)
    ((pushR (pushR (fun _ => rfl) (pushL (fun _ => rfl))) (fun _ => rfl)) h)
theorem ok_spec_l02Stretch : OkFn Try.prog 35 (S_spec_l02Stretch R) :=
  okFn_of (good_cons ok_spec_l02Number (good_cons ok_spec_l02Cosine (good_cons ok_spec_l01Sine (good_cons ok_spec_l01Log good_nil)))) follows Try.func35 rfl (by decide) (by decide) lam_nil (m := 1) (fun _ => rfl) (by decide) (fun _ _ h => nomatch h) (fun _ _ h => nomatch h) (fun x hx => ⟨40, e_spec_l02Stretch R x.1 hx⟩)

set_option maxRecDepth 100000 in
theorem e_impl_LogNumber (M : FOps) (a0 : Nat) (h : r_impl_LogNumber M a0 = true) : cwp M Try.prog (envOf [(58, S_impl_IsFinite M), (74, S_math_NaN M), (102, S_math_Inf M), (104, S_impl_logarithm M)]) (lamOf []) 40 (Try.f87.body.getD .skip) 0 (retK Try.prog Try.f87.results.toList (.cons (.one (.fl .f32)) .nil) 0) (initSt (.cons (.one (.fl .f32)) .nil) (a0, ())) = some (F_impl_LogNumber (p_impl_LogNumber M a0)) := 
  Eq.trans (b := (brT (M.cmp BinOp.eql FloatKind.f32 a0 0) (brT (M.narOk (c0_impl_LogNumber M a0)) (some (F_impl_LogNumber (M.nar (c0_impl_LogNumber M a0)))) none) (brT (M.cmp BinOp.lss FloatKind.f32 a0 0) (brT ((c2_impl_LogNumber M a0)) (some (F_impl_LogNumber ((c3_impl_LogNumber M a0)))) none) (brT (M.cmp BinOp.neq FloatKind.f32 a0 a0) (brT ((c2_impl_LogNumber M a0)) (some (F_impl_LogNumber ((c3_impl_LogNumber M a0)))) none) (brT (!p_impl_IsFinite M a0) (some (F_impl_LogNumber (a0))) (brT (r_impl_logarithm M a0) (brT (M.narOk (c4_impl_LogNumber M a0)) (some (F_impl_LogNumber (M.nar (c4_impl_LogNumber M a0)))) none) none)))))) (by kernel_rfl)
    ((pushR (pushL (fun _ => rfl)) (pushR (pushL (fun _ => rfl)) (pushR (pushL (fun _ => rfl)) (pushR (fun _ => rfl) (pushL (pushL (fun _ => rfl))))))) h)
theorem ok_impl_LogNumber : OkFn Try.prog 87 (S_impl_LogNumber R) :=
  okFn_of (good_cons ok_impl_IsFinite (good_cons ok_math_NaN (good_cons ok_math_Inf (good_cons ok_impl_logarithm good_nil)))) follows Try.func87 rfl (by decide) (by decide) lam_nil (m := 1) (fun _ => rfl) (by decide) (fun _ _ h => nomatch h) (fun _ _ h => nomatch h) (fun x hx => ⟨40, e_impl_LogNumber R x.1 hx⟩)

set_option maxRecDepth 100000 in
theorem e_impl_stretch (M : FOps) (a0 : Nat) (h : r_impl_stretch M a0 = true) : cwp M Try.prog (envOf [(45, S_impl_SineTurns M), (43, S_impl_cosine M), (87, S_impl_LogNumber M)]) (lamOf []) 40 (Try.f71.body.getD .skip) 0 (retK Try.prog Try.f71.results.toList (.cons (.one (.fl .f32)) .nil) 0) (initSt (.cons (.one (.fl .f32)) .nil) (a0, ())) = some (F_impl_stretch (p_impl_stretch M a0)) := 
  Eq.trans (b := (brT (r_impl_LogNumber M (c0_impl_stretch M a0)) (some (F_impl_stretch (M.bin BinOp.quo FloatKind.f32 (p_impl_LogNumber M (c0_impl_stretch M a0)) 1086918619))) none)) (by kernel_rfl)
    ((pushL (fun _ => rfl)) h)
theorem ok_impl_stretch : OkFn Try.prog 71 (S_impl_stretch R) :=
  okFn_of (good_cons ok_impl_SineTurns (good_cons ok_impl_cosine (good_cons ok_impl_LogNumber good_nil))) follows Try.func71 rfl (by decide) (by decide) lam_nil (m := 1) (fun _ => rfl) (by decide) (fun _ _ h => nomatch h) (fun _ _ h => nomatch h) (fun x hx => ⟨40, e_impl_stretch R x.1 hx⟩)

set_option maxRecDepth 100000 in
theorem e_impl_StretchNorth (M : FOps) (a0 : Nat) (h : r_impl_StretchNorth M a0 = true) : cwp M Try.prog (envOf [(30, S_impl_finite M), (71, S_impl_stretch M), (72, S_impl_isBetweenPoles M)]) (lamOf []) 40 (Try.f44.body.getD .skip) 0 (retK Try.prog Try.f44.results.toList (.cons (.one (.fl .f32)) (.cons (.one .bool) .nil)) 0) (initSt (.cons (.one (.fl .f32)) .nil) (a0, ())) = some (F_impl_StretchNorth (p_impl_StretchNorth M a0)) := 
  Eq.trans (b := (brT (r_impl_stretch M a0) (some (F_impl_StretchNorth (((c0_impl_StretchNorth M a0).fst, (c0_impl_StretchNorth M a0).snd)))) none)) (by kernel_rfl)
    ((pushL (fun _ => rfl)) h)
theorem ok_impl_StretchNorth : OkFn Try.prog 44 (S_impl_StretchNorth R) :=
  okFn_of (good_cons ok_impl_finite (good_cons ok_impl_stretch (good_cons ok_impl_isBetweenPoles good_nil))) follows Try.func44 rfl (by decide) (by decide) lam_nil (m := 1) (fun _ => rfl) (by decide) (fun _ _ h => nomatch h) (fun _ _ h => nomatch h) (fun x hx => ⟨40, e_impl_StretchNorth R x.1 hx⟩)

end Go.Proofs.Ythploccngbfmpaa
