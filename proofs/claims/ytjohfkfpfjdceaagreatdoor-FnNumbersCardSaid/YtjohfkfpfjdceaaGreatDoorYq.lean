/- Ym, Yh: merged by merge.py. -/
import Derived.Test.YtjohfkfpfjdceaaGreatDoorDt
import Derived.Test.YtjohfkfpfjdceaaGreatDoorQd
import Derived.Test.YtjohfkfpfjdceaaGreatDoorChecked
import Derived.KernelRfl

/- math.Copysign of numbers. -/
namespace Go.Dv
open Go.RowKit Go.Cv
noncomputable section

@[reducible] def sigRaw2 : AS := .cons .raw (.cons .raw .nil)
def copyBits (n m : Nat) : Nat := (bits .or .u64 (bits .andNot .u64 (n : Int) 9223372036854775808) (bits .and .u64 (m : Int) 9223372036854775808)).toNat
def pCopy (x : sigRaw2.Ty) : sigRaw.Ty × List CS := ((match x.1, x.2.1 with | .float .f64 n, .float .f64 m => .float .f64 (copyBits n m) | v, _ => v, ()), [])
def isF64s (x : sigRaw2.Ty) : Bool := match x.1, x.2.1 with | .float .f64 _, .float .f64 _ => true | _, _ => false
def xCopy : FSpec := mkSpec sigRaw2 sigRaw isF64s pCopy
def p_math_Copysign (_ : FOps) (a b : Nat) : Nat := cn .f64 (copyBits a b)
def r_math_Copysign (M : FOps) (a b : Nat) : Bool := M.cmp .eql .f64 a a && M.cmp .eql .f64 b b && Nat.blt (copyBits a b) 18446744073709551616
def S_math_Copysign (M : FOps) : FSpec := fun _ args => match args with
  | [.s (.fl .f64 a), .s (.fl .f64 b)] => some { pre := r_math_Copysign M a b, cv := fl .f64 (p_math_Copysign M a b), nw := [], rd := [], wr := [] }
  | _ => none

theorem not_nan64 {n m : Nat} (h : cn .f64 m = n) (hp : R.cmp .eql .f64 n n = true) : m = n := by
  have hnn : isNan .f64 m = false := by
    cases hn : isNan .f64 m
    · rfl
    · exfalso
      have hnan : isNan .f64 n = true := by rw [← h, isNan_cn, hn]
      obtain ⟨s, t, e⟩ := nan_read hnan
      have hpre : (fcmp .eql .f64 n n).getD false = true := hp
      simp only [fcmp, feq, Option.getD_some, Ieee.Format.order] at hpre
      rw [e] at hpre
      cases hpre
  rw [← h, cn_of_not hnn]

theorem arr_two {us : Array Value} (h : us.size = 2) : ∃ u v, us = #[u, v] := by
  obtain ⟨l⟩ := us
  match l, h with
  | [u, v], _ => exact ⟨u, v, rfl⟩

theorem okCopy {P : Program} {f : FuncId} (h : OkFn P f xCopy) : OkFn P f (S_math_Copysign R) := by
  intro hp args r hS hpre
  unfold S_math_Copysign at hS
  split at hS
  · rename_i a b
    cases hS
    have hpre : r_math_Copysign R a b = true := hpre
    unfold r_math_Copysign at hpre
    simp only [Bool.and_eq_true] at hpre
    obtain ⟨⟨ha, hb⟩, hlt⟩ := hpre
    have hlt : copyBits a b < 18446744073709551616 := Nat.le_of_ble_eq_true hlt
    refine ⟨(fun d hd => nomatch hd), (fun d hd => nomatch hd), (fun d hd => nomatch hd), fun X g w0 w base vals hsz hrel _ hok hbase _ hfree => ?_⟩
    obtain ⟨u, v, rfl⟩ := arr_two hsz
    obtain ⟨m, rfl, hm, _⟩ := hrel 0 _ u rfl rfl
    obtain ⟨m', rfl, hm', _⟩ := hrel 1 _ v rfl rfl
    obtain rfl := not_nan64 hm ha
    obtain rfl := not_nan64 hm' hb
    obtain ⟨_, _, _, h2⟩ := h hp [.s (.v (.float .f64 m)), .s (.v (.float .f64 m'))] _ rfl rfl
    have h3 := h2 X g w0 w base #[.float .f64 m, .float .f64 m'] rfl (fun j c u hj hu => by
      match j with
      | 0 => simp at hj hu; subst hj hu; exact rfl
      | 1 => simp at hj hu; subst hj hu; exact rfl
      | j + 2 => simp at hj) (fun d hd => nomatch hd) hok hbase (fun d hd => nomatch hd) hfree
    have key : ∀ v, relV g (ex (.float .f64 (copyBits m m'))) v → ∀ g', relV g' (fl .f64 (cn .f64 (copyBits m m'))) v := fun v hv g' => by
      obtain rfl : v = _ := hv
      refine ⟨_, rfl, rfl, ?_⟩
      have e64 : lim .f64 = 18446744073709551616 := by decide
      rw [e64]; exact hlt
    have conv : ∀ {r : Res} {g' w'}, r.nw = [] → r.wr = [] → r.eat = none → Done X w0 g w r base g' w' → Done X w0 g w { pre := r_math_Copysign R m m', cv := fl .f64 (p_math_Copysign R m m'), nw := [], rd := [], wr := [] } base g' w' := fun {r} _ _ h1 h2 h3 d => by
      obtain ⟨a, b, c, d', e, e'⟩ := r
      subst h1 h2 h3
      exact ⟨d.le, d.β, d.top, d.ok, d.size, d.same, d.wr, d.nw⟩
    unfold CallOk at h3 ⊢
    generalize (callFunc f #[.float .f64 m, .float .f64 m']).run P w = r at h3 ⊢
    cases r with
    | halt x w' => exact h3
    | ok n w' =>
      cases n <;> simp only at h3 ⊢ <;> try exact h3
      · obtain ⟨g', h4, h5⟩ := h3; exact ⟨g', conv rfl rfl rfl h4, key _ h5 g'⟩
      · refine h3.mono fun e w'' hh => ?_
        obtain ⟨v, he, g', h4, h5⟩ := hh
        exact ⟨v, he, g', conv rfl rfl rfl h4, key _ h5 g'⟩
  · cases hS
end
end Go.Dv


/- The contracts of Go's package math over this translation. -/
namespace Go.Proofs.YtjohfkfpfjdceaaGreatDoor
open Go.Cv Go.Dv Go.RowKit

theorem follows : Tryz.prog.follows .mixedOrders = true := by kernel_rfl

theorem ok_sqrt : OkFn Tryz.prog 99 (un64 fsqrt) := okSqrt (fun _ _ => by kernel_rfl)
theorem ok_archTrunc : OkFn Tryz.prog 173 (un64 (ffloor .zero)) := okFloor (name := "math.archTrunc") (fun _ _ => by kernel_rfl)
theorem ok_frombits : OkFn Tryz.prog 106 sFrombits := okFrombits (fun _ _ => by kernel_rfl)

theorem ok_xbits : OkFn Tryz.prog 107 xBits := okxBits (fun _ _ => by kernel_rfl)
theorem ok_xfrombits : OkFn Tryz.prog 106 xFrombits := okxFrombits (fun _ _ => by kernel_rfl)

set_option maxRecDepth 100000 in
theorem abs_run (n : Nat) : cwp R Tryz.prog (envOf [(107, xBits), (106, xFrombits)]) (lamOf []) 1 (Tryz.f77.body.getD .skip) 0 (retK Tryz.prog Tryz.f77.results.toList sigRaw 0) (initSt sigRaw (.float .f64 n, ())) =
    some (pAbs (.float .f64 n, ())) := by kernel_rfl
theorem ok_xAbs : OkFn Tryz.prog 77 xAbs :=
  okFn_of (good_cons ok_xbits (good_cons ok_xfrombits good_nil)) follows Tryz.func77 rfl (by decide) (by decide) lam_nil (m := 1) (fun _ => rfl) (by decide) (fun _ _ h => nomatch h) (fun _ _ h => nomatch h)
    (fun x hx => by
      obtain ⟨v, u⟩ := x
      cases v <;> first | (cases hx; done) | skip
      rename_i k n
      cases k
      · cases hx
      · exact ⟨1, abs_run n⟩)
theorem ok_Abs : OkFn Tryz.prog 77 (un64 fabs) := okAbs ok_xAbs
end Go.Proofs.YtjohfkfpfjdceaaGreatDoor

/- The bits of a float32 (the program's). -/
namespace Go.Proofs.YtjohfkfpfjdceaaGreatDoor
open Go Go.Cv Go.Dv
theorem ok_math_Float32frombits : OkFn Tryz.prog 61 (S_math_Float32frombits R) := okFrombits32 (fun _ _ => by kernel_rfl)
theorem ok_math_Float32bits : OkFn Tryz.prog 62 (S_math_Float32bits R) := okBits32 (fun _ _ => by kernel_rfl)
end Go.Proofs.YtjohfkfpfjdceaaGreatDoor


/- math.Copysign over this translation. -/
namespace Go.Proofs.YtjohfkfpfjdceaaGreatDoor
open Go.Cv Go.Dv Go.RowKit
set_option maxRecDepth 100000 in
theorem copy_run (n m : Nat) : cwp R Tryz.prog (envOf [(107, xBits), (106, xFrombits)]) (lamOf []) 1 (Tryz.f69.body.getD .skip) 0 (retK Tryz.prog Tryz.f69.results.toList sigRaw 0) (initSt sigRaw2 (.float .f64 n, .float .f64 m, ())) =
    some (pCopy (.float .f64 n, .float .f64 m, ())) := by kernel_rfl
theorem ok_xCopy : OkFn Tryz.prog 69 xCopy :=
  okFn_of (good_cons ok_xbits (good_cons ok_xfrombits good_nil)) follows Tryz.func69 rfl (by decide) (by decide) lam_nil (m := 2) (fun _ => rfl) (by decide) (fun _ _ h => nomatch h) (fun _ _ h => nomatch h)
    (fun x hx => by
      obtain ⟨v, v', u⟩ := x
      have key : ∃ n m, v = .float .f64 n ∧ v' = .float .f64 m := by
        have hx : isF64s (v, v', u) = true := hx
        unfold isF64s at hx
        split at hx
        · rename_i n m h1 h2; exact ⟨n, m, h1, h2⟩
        · cases hx
      obtain ⟨n, m, rfl, rfl⟩ := key
      exact ⟨1, copy_run n m⟩)
theorem ok_math_Copysign : OkFn Tryz.prog 69 (S_math_Copysign R) := okCopy ok_xCopy
end Go.Proofs.YtjohfkfpfjdceaaGreatDoor
