/- Ym, Yh: merged by merge.py. -/
import Derived.Test.YtbgpobiaaebbeaaGreatDt
import Derived.Test.YtbgpobiaaebbeaaGreatQd
import Derived.Test.YtbgpobiaaebbeaaGreatChecked
import Derived.KernelRfl

/- The contracts of Go's package math over this translation. -/
namespace Go.Proofs.YtbgpobiaaebbeaaGreat
open Go.Cv Go.Dv Go.RowKit

theorem follows : Tryz.prog.follows .mixedOrders = true := by kernel_rfl

theorem ok_sqrt : OkFn Tryz.prog 154 (un64 fsqrt) := okSqrt (fun _ _ => by kernel_rfl)
theorem ok_archFloor : OkFn Tryz.prog 130 (un64 (ffloor .down)) := okFloor (name := "math.archFloor") (fun _ _ => by kernel_rfl)
theorem ok_archTrunc : OkFn Tryz.prog 172 (un64 (ffloor .zero)) := okFloor (name := "math.archTrunc") (fun _ _ => by kernel_rfl)
theorem ok_frombits : OkFn Tryz.prog 159 sFrombits := okFrombits (fun _ _ => by kernel_rfl)

theorem ok_xbits : OkFn Tryz.prog 167 xBits := okxBits (fun _ _ => by kernel_rfl)
theorem ok_xfrombits : OkFn Tryz.prog 159 xFrombits := okxFrombits (fun _ _ => by kernel_rfl)

set_option maxRecDepth 100000 in
theorem abs_run (n : Nat) : cwp R Tryz.prog (envOf [(167, xBits), (159, xFrombits)]) (lamOf []) 1 (Tryz.f150.body.getD .skip) 0 (retK Tryz.prog Tryz.f150.results.toList sigRaw 0) (initSt sigRaw (.float .f64 n, ())) =
    some (pAbs (.float .f64 n, ())) := by kernel_rfl
theorem ok_xAbs : OkFn Tryz.prog 150 xAbs :=
  okFn_of (good_cons ok_xbits (good_cons ok_xfrombits good_nil)) follows Tryz.func150 rfl (by decide) (by decide) lam_nil (m := 1) (fun _ => rfl) (by decide) (fun _ _ h => nomatch h) (fun _ _ h => nomatch h)
    (fun x hx => by
      obtain ⟨v, u⟩ := x
      cases v <;> first | (cases hx; done) | skip
      rename_i k n
      cases k
      · cases hx
      · exact ⟨1, abs_run n⟩)
theorem ok_Abs : OkFn Tryz.prog 150 (un64 fabs) := okAbs ok_xAbs
end Go.Proofs.YtbgpobiaaebbeaaGreat

/- The bits of a float32 (the program's). -/
namespace Go.Proofs.YtbgpobiaaebbeaaGreat
open Go Go.Cv Go.Dv
theorem ok_math_Float32frombits : OkFn Tryz.prog 162 (S_math_Float32frombits R) := okFrombits32 (fun _ _ => by kernel_rfl)
end Go.Proofs.YtbgpobiaaebbeaaGreat
