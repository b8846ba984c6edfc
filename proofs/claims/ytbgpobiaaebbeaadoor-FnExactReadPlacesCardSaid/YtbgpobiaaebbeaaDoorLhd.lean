/- The plain law of stored tracks: numbers in as many bytes as they take; check numbers; texts of bytes. -/
import Derived.Test.YtbgpobiaaebbeaaDoorLha
import Derived.Test.YtbgpobiaaebbeaaDoorDr
import Derived.Test.YtbgpobiaaebbeaaDoorWkb
import Derived.Test.YtbgpobiaaebbeaaDoorLp
import Derived.Test.YtbgpobiaaebbeaaDoorQd
import Derived.Test.YtbgpobiaaebbeaaDoorWa
import Derived.Test.YtbgpobiaaebbeaaDoorWkm
import Derived.Test.YtbgpobiaaebbeaaDoorGz
import Derived.Test.YtbgpobiaaebbeaaDoorDs

set_option linter.unusedSimpArgs false
namespace Go.Dv
open Go.Cv

/-! ### numbers in bytes -/
theorem wrap8 (i : Int) : IntKind.u8.wrap i = i % 256 := by
  unfold IntKind.wrap
  have e1 : (IntKind.u8.bits) = 8 := rfl
  simp [IntKind.signed, e1]
theorem wrapu {i : Int} (h0 : 0 ≤ i) (h1 : i < 9223372036854775808) : IntKind.u64.wrap i = i := by rw [IntKind.wrap_u64]; omega
theorem ble_of {a b : Nat} (h : a ≤ b) : Nat.ble a b = true := Nat.ble_eq_true_of_le h

/-! ### places in bytes -/
/-! ### check numbers -/
/-! ### texts of bytes -/
end Go.Dv
