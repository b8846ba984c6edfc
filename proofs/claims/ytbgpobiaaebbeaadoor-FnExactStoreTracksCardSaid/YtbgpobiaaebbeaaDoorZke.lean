/- Ym, Yh: merged by merge.py. -/
/- Functions of the library as plain functions: trimmed texts. -/
/- Functions of the library met by their contracts: trimmed texts. -/
import Derived.Test.YtbgpobiaaebbeaaDoorDu
import Derived.Test.YtbgpobiaaebbeaaDoorKq
import Derived.Test.YtbgpobiaaebbeaaDoorChecked
import Derived.Test.YtbgpobiaaebbeaaDoorQd
import Derived.Shelf.Strings.SlTrimAscii
import Derived.Test.YtbgpobiaaebbeaaDoorDt
import Derived.KernelRfl

/- The contracts of Go's package math over this translation. -/
namespace Go.Proofs.YtbgpobiaaebbeaaDoor
open Go.Cv Go.Dv Go.RowKit

theorem follows : Tryd.prog.follows .mixedOrders = true := by kernel_rfl

theorem ok_archFloor : OkFn Tryd.prog 189 (un64 (ffloor .down)) := okFloor (name := "math.archFloor") (fun _ _ => by kernel_rfl)
end Go.Proofs.YtbgpobiaaebbeaaDoor

/- The bits of a float32 (the program's). -/
namespace Go.Proofs.YtbgpobiaaebbeaaDoor
open Go Go.Cv Go.Dv
theorem ok_math_Float32bits : OkFn Tryd.prog 155 (S_math_Float32bits R) := okBits32 (fun _ _ => by kernel_rfl)
end Go.Proofs.YtbgpobiaaebbeaaDoor


namespace Go.Dv
open Go.Cv
noncomputable section

def p_strings_Trim (_ : FOps) (s c : ByteArray) : ByteArray := ⟨(Lib.trimS s.data.toList c.data.toList).toArray⟩
def r_strings_Trim (_ : FOps) (s c : ByteArray) : Bool := decide (s.size ≤ 1073741824) && (decide (c.size ≤ 1073741824) && c.data.toList.all (fun b => decide (b.toNat < 128)))
def S_strings_Trim (M : FOps) : FSpec := mkSpec (.cons (.one .str) (.cons (.one .str) .nil)) (.cons (.one .str) .nil) (fun x => r_strings_Trim M x.1 x.2.1) (fun x => ((p_strings_Trim M x.1 x.2.1, ()), []))
end
end Go.Dv


namespace Go.Proofs.YtbgpobiaaebbeaaDoor
open Go Go.RowKit Go.Cv Go.Dv

theorem ok_strings_Trim : OkFn Tryd.prog 68 (S_strings_Trim R) :=
  okFn_lib Tryd.func68 rfl (by decide) rfl (fun _ => rfl) (fun _ _ => ⟨rfl, fun _ => rfl⟩) (fun x hx g vals w hb hq hs hr => by
    obtain ⟨s, c, ⟨⟩⟩ := x
    unfold r_strings_Trim at hx
    simp only [Bool.and_eq_true, decide_eq_true_eq] at hx
    obtain ⟨h0, h1, h2⟩ := hx
    obtain ⟨u, v, rfl, hu, hv⟩ := vals_two hs hr
    obtain rfl : u = .string s := hu
    obtain rfl : v = .string c := hv
    have := Any.strings_Trim_laid Tryd.lays160 (by kernel_rfl) s c w (by omega) (by omega) (ascii_of_all h2)
    exact this.mono fun e w' ⟨he, hw⟩ => ⟨_, he, hw, fun g' => rfl⟩)
end Go.Proofs.YtbgpobiaaebbeaaDoor
