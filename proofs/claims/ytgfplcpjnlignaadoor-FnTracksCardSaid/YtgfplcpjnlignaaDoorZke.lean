/- Contracts of the library at this translation, laid by the tool lay-plain (numbers of seat YtgfplcpjnlignaaDoor). -/
/- Printed by gen2.py. -/
/- Sine and angle as plain functions: what the program's and the reference's texts compute, step by step. -/
/- Qt, Qd: merged by merge.py. -/
/- Ym, Yh: merged by merge.py. -/
/- Functions of the library as plain functions: trimmed texts. -/
/- Functions of the library met by their contracts: trimmed texts. -/
import Derived.Test.YtgfplcpjnlignaaDoorDu
import Derived.Test.YtgfplcpjnlignaaDoorChecked
import Derived.Shelf.Strings.SlTrimAscii
import Derived.KernelRfl
import Derived.Shelf.Strings.Trim
import Derived.Test.YtgfplcpjnlignaaDoorProg

namespace Go.Proofs
open Go.Shelf
def Tryd.lays160_ren : Go.Shelf.Ren := ⟨fun | 160 => 44 | 232 => 65 | 231 => 64 | 227 => 66 | 234 => 68 | 233 => 67 | 236 => 70 | 235 => 69 | 228 => 83 | 271 => 86 | 151 => 85 | 197 => 84 | 120 => 93 | 152 => 92 | 260 => 91 | 137 => 96 | 119 => 97 | 224 => 98 | 225 => 99 | 217 => 103 | 266 => 107 | n => n, fun | 9 => 9 | 4 => 4 | 3 => 3 | 5 => 5 | 117 => 97 | 116 => 96 | 0 => 0 | 124 => 100 | 21 => 21 | 105 => 112 | 46 => 86 | 119 => 120 | 139 => 123 | 138 => 122 | n => n, fun | 3 => 1 | 4 => 2 | n => n⟩
theorem Tryd.lays160 : Go.Proofs.Lays.n160 Tryd.prog Tryd.lays160_ren := {
  mixed := by kernel_rfl
  f119 := Tryd.func97.trans (congrArg some (by kernel_rfl))
  f120 := Tryd.func93.trans (congrArg some (by kernel_rfl))
  f137 := Tryd.func96.trans (congrArg some (by kernel_rfl))
  f151 := Tryd.func85.trans (congrArg some (by kernel_rfl))
  f152 := Tryd.func92.trans (congrArg some (by kernel_rfl))
  f160 := Tryd.func44.trans (congrArg some (by kernel_rfl))
  f197 := Tryd.func84.trans (congrArg some (by kernel_rfl))
  f217 := Tryd.func103.trans (congrArg some (by kernel_rfl))
  f224 := Tryd.func98.trans (congrArg some (by kernel_rfl))
  f225 := Tryd.func99.trans (congrArg some (by kernel_rfl))
  f227 := Tryd.func66.trans (congrArg some (by kernel_rfl))
  f228 := Tryd.func83.trans (congrArg some (by kernel_rfl))
  f231 := Tryd.func64.trans (congrArg some (by kernel_rfl))
  f232 := Tryd.func65.trans (congrArg some (by kernel_rfl))
  f233 := Tryd.func67.trans (congrArg some (by kernel_rfl))
  f234 := Tryd.func68.trans (congrArg some (by kernel_rfl))
  f235 := Tryd.func69.trans (congrArg some (by kernel_rfl))
  f236 := Tryd.func70.trans (congrArg some (by kernel_rfl))
  f260 := Tryd.func91.trans (congrArg some (by kernel_rfl))
  f266 := Tryd.func107.trans (congrArg some (by kernel_rfl))
  f271 := Tryd.func86.trans (congrArg some (by kernel_rfl))
  t0 := Tryd.underlying0
  a0 := Tryd.isAgg0
  z0 := Tryd.sizeOf0
  v0 := Tryd.zeroValue0
  t3 := Tryd.underlying3
  a3 := Tryd.isAgg3
  z3 := Tryd.sizeOf3
  v3 := Tryd.zeroValue3
  t4 := Tryd.underlying4
  a4 := Tryd.isAgg4
  z4 := Tryd.sizeOf4
  v4 := Tryd.zeroValue4
  t5 := Tryd.underlying5
  a5 := Tryd.isAgg5
  z5 := Tryd.sizeOf5
  v5 := Tryd.zeroValue5
  t9 := Tryd.underlying9
  a9 := Tryd.isAgg9
  z9 := Tryd.sizeOf9
  v9 := Tryd.zeroValue9
  t21 := Tryd.underlying21
  a21 := Tryd.isAgg21
  z21 := Tryd.sizeOf21
  v21 := Tryd.zeroValue21
  t46 := Tryd.underlying86
  a46 := Tryd.isAgg86
  z46 := Tryd.sizeOf86
  v46 := Tryd.zeroValue86
  t105 := Tryd.underlying112
  a105 := Tryd.isAgg112
  z105 := Tryd.sizeOf112
  v105 := Tryd.zeroValue112
  t116 := Tryd.underlying96
  a116 := Tryd.isAgg96
  z116 := Tryd.sizeOf96
  t117 := Tryd.underlying97
  a117 := Tryd.isAgg97
  z117 := Tryd.sizeOf97
  v117 := Tryd.zeroValue97
  t119 := Tryd.underlying120
  a119 := Tryd.isAgg120
  z119 := Tryd.sizeOf120
  t124 := Tryd.underlying100
  a124 := Tryd.isAgg100
  z124 := Tryd.sizeOf100
  v124 := Tryd.zeroValue100
  t138 := Tryd.underlying122
  a138 := Tryd.isAgg122
  z138 := Tryd.sizeOf122
  v138 := Tryd.zeroValue122
  t139 := Tryd.underlying123
  a139 := Tryd.isAgg123
  z139 := Tryd.sizeOf123
  v139 := Tryd.zeroValue123
  g3 := by kernel_rfl
  g4 := by kernel_rfl }
end Go.Proofs


set_option linter.unusedVariables false
set_option linter.unusedSimpArgs false

-- GENERATED BELOW (gen.py)
namespace Go.Dv
open Go.Cv
noncomputable section
def F_math_Floor (r : Nat) : AS.Ty (.cons (.one (.fl .f64)) .nil) × List CS := ((r, ()), [])
def p_math_Floor (M : FOps) (a0 : Nat) : Nat :=
  M.floor a0
def S_math_Floor (M : FOps) : FSpec := mkSpec (.cons (.one (.fl .f64)) .nil) (.cons (.one (.fl .f64)) .nil) (fun _ => true) (fun x => F_math_Floor (p_math_Floor M x.1))

def F_impl_inside (r : Bool) : AS.Ty (.cons (.one .bool) .nil) × List CS := ((r, ()), [])
def p_impl_inside (M : FOps) (a0 : Nat) (a1 : Nat) (a2 : Nat) : Bool :=
  (bif M.cmp BinOp.geq FloatKind.f32 a0 a1 then M.cmp BinOp.leq FloatKind.f32 a0 a2 else false)
def S_impl_inside (M : FOps) : FSpec := mkSpec (.cons (.one (.fl .f32)) (.cons (.one (.fl .f32)) (.cons (.one (.fl .f32)) .nil))) (.cons (.one .bool) .nil) (fun _ => true) (fun x => F_impl_inside (p_impl_inside M x.1 x.2.1 x.2.2.1))

def F_impl_ValidPlace (r : Bool) : AS.Ty (.cons (.one .bool) .nil) × List CS := ((r, ()), [])
def p_impl_ValidPlace (M : FOps) (a0_0 : Nat) (a0_1 : Nat) : Bool :=
  (bif p_impl_inside M a0_0 3196059648 1048576000 then (bif M.cmp BinOp.geq FloatKind.f32 a0_1 3204448256 then M.cmp BinOp.lss FloatKind.f32 a0_1 1056964608 else false) else false)
def S_impl_ValidPlace (M : FOps) : FSpec := mkSpec (.cons (.agg (.pair (.fl .f32) (.fl .f32))) .nil) (.cons (.one .bool) .nil) (fun _ => true) (fun x => F_impl_ValidPlace (p_impl_ValidPlace M x.1.1 x.1.2))

def p_spec_l02Is (M : FOps) (a0_0 : Nat) (a0_1 : Nat) : Bool :=
  (bif M.cmp BinOp.geq FloatKind.f32 a0_0 3196059648 then (bif M.cmp BinOp.leq FloatKind.f32 a0_0 1048576000 then (bif M.cmp BinOp.geq FloatKind.f32 a0_1 3204448256 then M.cmp BinOp.lss FloatKind.f32 a0_1 1056964608 else false) else false) else false)
def F_impl_within (r : Bool) : AS.Ty (.cons (.one .bool) .nil) × List CS := ((r, ()), [])
def p_impl_within (M : FOps) (a0 : Int) (a1 : Int) (a2 : Int) : Bool :=
  (bif decide (a1 ≤ a0) then decide (a0 ≤ a2) else false)
def S_impl_within (M : FOps) : FSpec := mkSpec (.cons (.one (.int .i64)) (.cons (.one (.int .i64)) (.cons (.one (.int .i64)) .nil))) (.cons (.one .bool) .nil) (fun _ => true) (fun x => F_impl_within (p_impl_within M x.1 x.2.1 x.2.2.1))

end
end Go.Dv


namespace Go.Dv
open Go.Cv
noncomputable section

/-! ### angles -/

variable {β : Type}
@[reducible] def shPlace : Sh := .pair (.fl .f32) (.fl .f32)
/-- whether all places of a list are valid -/
def validsB (M : FOps) (l : List (Nat × Nat)) : Bool := l.all fun x => p_impl_ValidPlace M x.1 x.2
def S_impl_areValid (M : FOps) : FSpec := mkSpec (.cons (.one (.ls shPlace)) .nil) (.cons (.one .bool) .nil) (fun x => decide (x.1.length < 2 ^ 62)) (fun x => ((validsB M x.1, ()), []))
def placesB (M : FOps) (l : List (Nat × Nat)) : Bool := validsB M l && (decide (1 ≤ l.length) && decide (l.length ≤ 64))
def S_impl_ArePlaces (M : FOps) : FSpec := mkSpec (.cons (.one (.ls shPlace)) .nil) (.cons (.one .bool) .nil) (fun x => decide (x.1.length < 2 ^ 62)) (fun x => ((placesB M x.1, ()), []))
end
end Go.Dv


/- The laws' own functions on lists of places, as plain functions. -/
namespace Go.Dv
open Go.Cv
noncomputable section

end
end Go.Dv

/- The bits of a float32. -/
namespace Go.Dv
open Go.RowKit Go.Cv

/-- the word of a float32 that is a number -/
def p_math_Float32bits (_ : FOps) (a0 : Nat) : Int := (a0 : Int)
def S_math_Float32bits (M : FOps) : FSpec := fun _ args => match args with
  | [.s (.fl .f32 n)] => some { pre := M.cmp .eql .f32 n n, cv := ex (.int .u32 (p_math_Float32bits M n)), nw := [], rd := [], wr := [] }
  | _ => none

theorem okBits32 {P : Program} {f : FuncId} (hx : ExtRun P f Extern.MathFloatBits.float32bits) : OkFn P f (S_math_Float32bits R) := by
  intro hp args r hS hpre
  unfold S_math_Float32bits at hS
  split at hS
  · rename_i n
    cases hS
    refine ⟨(fun d hd => nomatch hd), (fun d hd => nomatch hd), (fun d hd => nomatch hd), fun X g w0 w base vals hsz hrel _ hok _ _ hfree => ?_⟩
    obtain ⟨u, rfl⟩ := arr_one hsz
    obtain ⟨m, rfl, hm, hl⟩ := hrel 0 _ u rfl rfl
    have hnn : isNan .f32 m = false := by
      cases hn : isNan .f32 m
      · rfl
      · exfalso
        have hnan : isNan .f32 n = true := by rw [← hm, isNan_cn, hn]
        obtain ⟨s, t, e⟩ := nan_read hnan
        have hpre : (fcmp .eql .f32 n n).getD false = true := hpre
        simp only [fcmp, feq, Option.getD_some, Ieee.Format.order] at hpre
        rw [e] at hpre
        cases hpre
    have hmn : m = n := by rw [← hm, cn_of_not hnn]
    subst hmn
    unfold CallOk
    rw [hx]
    have e : Extern.MathFloatBits.float32bits #[.float .f32 m] = pure (.int .u32 (m : Int)) := rfl
    rw [e]
    simp only [Sem.run_bind, Result.andThen_ok, Sem.run_pure]
    exact ⟨g, done_same hok hfree 0, rfl⟩
  · cases hS
end Go.Dv


/- The contracts of Go's package math over this translation. -/
namespace Go.Proofs.YtgfplcpjnlignaaDoor
open Go.Cv Go.Dv Go.RowKit

theorem follows : Tryd.prog.follows .mixedOrders = true := by kernel_rfl

theorem ok_archFloor : OkFn Tryd.prog 94 (un64 (ffloor .down)) := okFloor (name := "math.archFloor") (fun _ _ => by kernel_rfl)
end Go.Proofs.YtgfplcpjnlignaaDoor

/- The bits of a float32 (the program's). -/
namespace Go.Proofs.YtgfplcpjnlignaaDoor
open Go Go.Cv Go.Dv
theorem ok_math_Float32bits : OkFn Tryd.prog 89 (S_math_Float32bits R) := okBits32 (fun _ _ => by kernel_rfl)
end Go.Proofs.YtgfplcpjnlignaaDoor


namespace Go.Dv
open Go.Cv
noncomputable section

def p_strings_Trim (_ : FOps) (s c : ByteArray) : ByteArray := ⟨(Lib.trimS s.data.toList c.data.toList).toArray⟩
def r_strings_Trim (_ : FOps) (s c : ByteArray) : Bool := decide (s.size ≤ 1073741824) && (decide (c.size ≤ 1073741824) && c.data.toList.all (fun b => decide (b.toNat < 128)))
def S_strings_Trim (M : FOps) : FSpec := mkSpec (.cons (.one .str) (.cons (.one .str) .nil)) (.cons (.one .str) .nil) (fun x => r_strings_Trim M x.1 x.2.1) (fun x => ((p_strings_Trim M x.1 x.2.1, ()), []))
end
end Go.Dv


namespace Go.Proofs.YtgfplcpjnlignaaDoor
open Go Go.RowKit Go.Cv Go.Dv

theorem ok_strings_Trim : OkFn Tryd.prog 44 (S_strings_Trim R) :=
  okFn_lib Tryd.func44 rfl (by decide) rfl (fun _ => rfl) (fun _ _ => ⟨rfl, fun _ => rfl⟩) (fun x hx g vals w hb hq hs hr => by
    obtain ⟨s, c, ⟨⟩⟩ := x
    unfold r_strings_Trim at hx
    simp only [Bool.and_eq_true, decide_eq_true_eq] at hx
    obtain ⟨h0, h1, h2⟩ := hx
    obtain ⟨u, v, rfl, hu, hv⟩ := vals_two hs hr
    obtain rfl : u = .string s := hu
    obtain rfl : v = .string c := hv
    have := Any.strings_Trim_laid Tryd.lays160 (by kernel_rfl) s c w (by omega) (by omega) (ascii_of_all h2)
    exact this.mono fun e w' ⟨he, hw⟩ => ⟨_, he, hw, fun g' => rfl⟩)
end Go.Proofs.YtgfplcpjnlignaaDoor
