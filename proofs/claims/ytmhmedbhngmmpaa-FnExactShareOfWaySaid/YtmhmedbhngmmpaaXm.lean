/- The contracts of Go's package math over this translation. -/
import Derived.Test.YtmhmedbhngmmpaaCvM
import Derived.Test.YtmhmedbhngmmpaaChecked
import Derived.KernelRfl
namespace Go.Proofs.Ytmhmedbhngmmpaa
open Go.Cv Go.RowKit

theorem follows : Try.prog.follows .mixedOrders = true := by kernel_rfl

theorem ok_sqrt : OkFn Try.prog 118 (un64 fsqrt) := okSqrt (fun _ _ => by kernel_rfl)
theorem ok_archFloor : OkFn Try.prog 115 (un64 (ffloor .down)) := okFloor (name := "math.archFloor") (fun _ _ => by kernel_rfl)
theorem ok_archTrunc : OkFn Try.prog 125 (un64 (ffloor .zero)) := okFloor (name := "math.archTrunc") (fun _ _ => by kernel_rfl)
theorem ok_frombits : OkFn Try.prog 111 sFrombits := okFrombits (fun _ _ => by kernel_rfl)

theorem ok_xbits : OkFn Try.prog 112 xBits := okxBits (fun _ _ => by kernel_rfl)
theorem ok_xfrombits : OkFn Try.prog 111 xFrombits := okxFrombits (fun _ _ => by kernel_rfl)

theorem abs_run (M : FOps) (n : Nat) : cwp M Try.prog (envOf [(112, xBits), (111, xFrombits)]) 1 (Try.f97.body.getD .skip) (retK Try.prog Try.f97.results.toList) (initSt [.s (.v (.float .f64 n))]) =
    some (ex (.float .f64 (bits .andNot .u64 (n : Int) 9223372036854775808).toNat)) := by kernel_rfl
theorem ok_xAbs : OkFn Try.prog 97 xAbs := by
  refine okFn_of_cwp (good_cons ok_xbits (good_cons ok_xfrombits good_nil)) follows Try.func97 rfl (by decide) (by decide) ?_
  intro hp args cv deps h
  unfold xAbs at h
  split at h
  · cases h
    exact ⟨rfl, (fun d hd => nomatch hd), Nat.le_of_ble_eq_true rfl, _, 1, view_same (by simp [Lift1, lift_v]), abs_run R _⟩
  · cases h
theorem ok_Abs : OkFn Try.prog 97 (un64 fabs) := okAbs ok_xAbs
end Go.Proofs.Ytmhmedbhngmmpaa
