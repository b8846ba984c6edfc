/- The contracts of Go's package math over this translation. -/
import Derived.Test.YthploccngbfmpaaDt
import Derived.Test.YthploccngbfmpaaChecked
import Derived.KernelRfl
namespace Go.Proofs.Ythploccngbfmpaa
open Go.Cv Go.Dv Go.RowKit

theorem follows : Try.prog.follows .mixedOrders = true := by kernel_rfl

theorem ok_sqrt : OkFn Try.prog 111 (un64 fsqrt) := okSqrt (fun _ _ => by kernel_rfl)
theorem ok_archFloor : OkFn Try.prog 81 (un64 (ffloor .down)) := okFloor (name := "math.archFloor") (fun _ _ => by kernel_rfl)
theorem ok_archTrunc : OkFn Try.prog 108 (un64 (ffloor .zero)) := okFloor (name := "math.archTrunc") (fun _ _ => by kernel_rfl)
theorem ok_frombits : OkFn Try.prog 88 sFrombits := okFrombits (fun _ _ => by kernel_rfl)

theorem ok_xbits : OkFn Try.prog 89 xBits := okxBits (fun _ _ => by kernel_rfl)
theorem ok_xfrombits : OkFn Try.prog 88 xFrombits := okxFrombits (fun _ _ => by kernel_rfl)

set_option maxRecDepth 100000 in
theorem abs_run (n : Nat) : cwp R Try.prog (envOf [(89, xBits), (88, xFrombits)]) (lamOf []) 1 (Try.f75.body.getD .skip) 0 (retK Try.prog Try.f75.results.toList sigRaw 0) (initSt sigRaw (.float .f64 n, ())) =
    some (pAbs (.float .f64 n, ())) := by kernel_rfl
theorem ok_xAbs : OkFn Try.prog 75 xAbs :=
  okFn_of (good_cons ok_xbits (good_cons ok_xfrombits good_nil)) follows Try.func75 rfl (by decide) (by decide) lam_nil (m := 1) (fun _ => rfl) (by decide) (fun _ _ h => nomatch h) (fun _ _ h => nomatch h)
    (fun x hx => by
      obtain ⟨v, u⟩ := x
      cases v <;> first | (cases hx; done) | skip
      rename_i k n
      cases k
      · cases hx
      · exact ⟨1, abs_run n⟩)
theorem ok_Abs : OkFn Try.prog 75 (un64 fabs) := okAbs ok_xAbs
end Go.Proofs.Ythploccngbfmpaa
