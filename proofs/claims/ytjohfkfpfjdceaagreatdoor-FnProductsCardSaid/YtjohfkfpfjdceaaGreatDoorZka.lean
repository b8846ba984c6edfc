/- Functions of the library met by their contracts: repeated and joined texts; trailing zeros. -/
import Derived.Test.YtjohfkfpfjdceaaGreatDoorDu
import Derived.Test.YtjohfkfpfjdceaaGreatDoorWkm
import Derived.Test.YtjohfkfpfjdceaaGreatDoorLq
import Derived.Test.YtjohfkfpfjdceaaGreatDoorKp
import Derived.Test.YtjohfkfpfjdceaaGreatDoorChecked
import Derived.BigCall

namespace Go.Proofs.YtjohfkfpfjdceaaGreatDoor
open Go Go.RowKit Go.Cv Go.Dv

set_option maxRecDepth 100000 in
theorem tz64 (w : World) (h : w.cell? ⟨8, 15, none⟩ = some (.int .u8 4)) : Calls Tryz.prog 219 #[.int .u64 16] w fun e w' => e = .returned (.int .i64 4) ∧ w' = w := by
  go_enter Tryz.func219, Tryz.ntmps219
  have e15 : IntKind.u64.wrap (bits BinOp.and IntKind.u64 16 (IntKind.u64.wrap (-16)) * 285870213051353865) / 288230376151711744 = 15 := by kernel_rfl
  have h' : w.cell? ⟨8, (IntKind.u64.wrap (bits BinOp.and IntKind.u64 16 (IntKind.u64.wrap (-16)) * 285870213051353865) / 288230376151711744).toNat, none⟩ = some (.int .u8 4) := by rw [e15]; exact h
  go_wp2
  all_goals first
    | (go_ret; exact ⟨rfl, rfl⟩)
    | (exfalso; rw [e15] at *; omega)

theorem ok_math_bits_TrailingZeros64_16 : OkFn Tryz.prog 219 (S_math_bits_TrailingZeros64_16 R) :=
  okFn_lib Tryz.func219 rfl (by decide) rfl (fun _ => rfl) (fun _ _ => ⟨rfl, fun _ => rfl⟩) (fun x _ g vals w hb hq hs hr => by
    obtain ⟨u, rfl⟩ := arr_one hs
    obtain rfl : u = _ := hr 0 _ u rfl rfl
    refine (tz64 w (GQ_tz hq)).mono fun e w' ⟨he, hw⟩ => ⟨_, he, hw ▸ Below.refl _ _, fun g' => ?_⟩
    rfl)

theorem e_math_bits_TrailingZeros_16 (M : FOps) : cwp M Tryz.prog (envOf [(219, S_math_bits_TrailingZeros64_16 M)]) (lamOf []) 40 (Tryz.f194.body.getD .skip) 0 (retK Tryz.prog Tryz.f194.results.toList (.cons (.one (.int .i64)) .nil) 0) (initSt (.cons (.lit (.int .u64 16)) .nil) ((), ())) = some ((4, ()), []) := by kernel_rfl
theorem ok_math_bits_TrailingZeros_16 : OkFn Tryz.prog 194 (S_math_bits_TrailingZeros_16 R) :=
  okFn_of (good_cons ok_math_bits_TrailingZeros64_16 good_nil) follows Tryz.func194 rfl (by decide) (by decide) lam_nil (m := 1) (fun _ => rfl) (by decide) (fun _ _ h => nomatch h) (fun _ _ h => nomatch h) (fun _ _ => ⟨40, e_math_bits_TrailingZeros_16 R⟩)
theorem e_internal_strconv_isPowerOfTwo_16 (M : FOps) : cwp M Tryz.prog (envOf []) (lamOf []) 40 (Tryz.f193.body.getD .skip) 0 (retK Tryz.prog Tryz.f193.results.toList (.cons (.one .bool) .nil) 0) (initSt (.cons (.lit (.int .i64 16)) .nil) ((), ())) = some ((true, ()), []) := by kernel_rfl
theorem ok_internal_strconv_isPowerOfTwo_16 : OkFn Tryz.prog 193 (S_internal_strconv_isPowerOfTwo_16 R) :=
  okFn_of good_nil follows Tryz.func193 rfl (by decide) (by decide) lam_nil (m := 1) (fun _ => rfl) (by decide) (fun _ _ h => nomatch h) (fun _ _ h => nomatch h) (fun _ _ => ⟨40, e_internal_strconv_isPowerOfTwo_16 R⟩)

theorem ok_strings_Repeat : OkFn Tryz.prog 109 (S_strings_Repeat R) :=
  okFn_lib Tryz.func109 rfl (by decide) rfl (fun _ => rfl) (fun _ _ => ⟨rfl, fun _ => rfl⟩) (fun x hx g vals w hb hq hs hr => by
    obtain ⟨s, n, ⟨⟩⟩ := x
    unfold r_strings_Repeat at hx
    simp only [Bool.and_eq_true, decide_eq_true_eq] at hx
    obtain ⟨h0, h1, h2⟩ := hx
    obtain ⟨u, v, rfl, hu, hv⟩ := vals_two hs hr
    obtain rfl : u = .string s := hu
    obtain rfl : v = .int .i64 n := hv
    have hlen : s.size * n.toNat ≤ 140737488355328 := Nat.le_trans (Nat.mul_le_mul h2 (show n.toNat ≤ 1000000 by omega)) (by decide)
    have := Tryz.strings_Repeat s n.toNat w (by omega) hlen
    rw [Int.toNat_of_nonneg h0] at this
    exact this.mono fun e w' ⟨he, hw⟩ => ⟨_, he, hw, fun g' => rfl⟩)

theorem ok_strings_Join : OkFn Tryz.prog 101 (S_strings_Join R) :=
  okFn_lib Tryz.func101 rfl (by decide) rfl (fun _ => rfl) (fun _ _ => ⟨rfl, fun _ => rfl⟩) (fun x hx g vals w hb hq hs hr => by
    obtain ⟨l, s, ⟨⟩⟩ := x
    unfold r_strings_Join at hx
    simp only [Bool.and_eq_true, decide_eq_true_eq] at hx
    obtain ⟨h1, h2⟩ := hx
    obtain ⟨u, v, rfl, hu, hv⟩ := vals_two hs hr
    obtain rfl : v = .string s := hv
    obtain ⟨a, cap, rfl, h3, h4, h5⟩ := texts_cells hb hu
    match l, h1, h2, h3, h5 with
    | [], _, _, _, _ =>
      exact (Tryz.strings_Join_none a cap s w).mono fun e w' ⟨he, hw⟩ => ⟨_, he, hw ▸ Below.refl _ _, fun g' => rfl⟩
    | y :: l, h1, h2, h3, h5 =>
      obtain ⟨b, off, rfl, h6, h7⟩ := h5 (by simp)
      exact (Tryz.strings_Join b off cap (y :: l) s w h7 h6 (by omega) h3 (by omega)).mono fun e w' ⟨he, hw⟩ => ⟨_, he, hw, fun g' => rfl⟩)
end Go.Proofs.YtjohfkfpfjdceaaGreatDoor
