/- Functions of the library met by their contracts: trimmed texts. -/
import Derived.Test.YtgfplcpjnlignaaDoorDu
import Derived.Test.YtgfplcpjnlignaaDoorWke
import Derived.Test.YtgfplcpjnlignaaDoorYm
import Derived.Test.YtgfplcpjnlignaaDoorKq
import Derived.Test.YtgfplcpjnlignaaDoorChecked

namespace Go.Proofs.YtgfplcpjnlignaaDoor
open Go Go.RowKit Go.Cv Go.Dv

theorem ok_strings_Trim : OkFn Tryd.prog 44 (S_strings_Trim R) :=
  okFn_lib Tryd.func44 rfl (by decide) rfl (fun _ => rfl) (fun _ _ => ⟨rfl, fun _ => rfl⟩) (fun x hx g vals w hb hq hs hr => by
    obtain ⟨s, c, ⟨⟩⟩ := x
    unfold r_strings_Trim at hx
    simp only [Bool.and_eq_true, decide_eq_true_eq] at hx
    obtain ⟨h0, h1, h2⟩ := hx
    obtain ⟨u, v, rfl, hu, hv⟩ := vals_two hs hr
    obtain rfl : u = .string s := hu
    obtain rfl : v = .string c := hv
    have := Any.strings_Trim_laid Tryd.lays160 (by kernel_rfl) s c w (by omega) (by omega) (ascii_of_all h2)
    exact this.mono fun e w' ⟨he, hw⟩ => ⟨_, he, hw, fun g' => rfl⟩)
end Go.Proofs.YtgfplcpjnlignaaDoor
