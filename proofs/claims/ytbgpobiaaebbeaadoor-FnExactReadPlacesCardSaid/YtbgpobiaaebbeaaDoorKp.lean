/- Contracts of the library at this translation, laid by the tool lay-plain (numbers of seat YtbgpobiaaebbeaaDoor). -/
import Derived.Shelf.Strings.OnBuilder
import Derived.Shelf.Strings.Repeat
import Derived.Test.YtbgpobiaaebbeaaDoorProg

namespace Go.Proofs
open Go.Shelf
def Tryd.lays105_ren : Go.Shelf.Ren := ⟨fun | 105 => 160 | 212 => 183 | 99 => 184 | 165 => 185 | 166 => 186 | 170 => 187 | 169 => 188 | 263 => 203 | 264 => 204 | 206 => 205 | 240 => 206 | 241 => 207 | 276 => 214 | 277 => 215 | n => n, fun | 9 => 9 | 3 => 3 | 4 => 4 | 20 => 20 | 0 => 0 | 46 => 149 | 109 => 192 | 5 => 5 | 72 => 196 | 76 => 198 | 51 => 161 | 146 => 212 | 53 => 155 | 148 => 219 | 70 => 194 | 37 => 123 | 75 => 157 | 127 => 221 | 164 => 229 | 80 => 201 | n => n, fun | n => n⟩
theorem Tryd.lays105 : Go.Proofs.Lays.n105 Tryd.prog Tryd.lays105_ren := {
  mixed := by kernel_rfl
  f99 := Tryd.func184.trans (congrArg some (by kernel_rfl))
  f105 := Tryd.func160.trans (congrArg some (by kernel_rfl))
  f165 := Tryd.func185.trans (congrArg some (by kernel_rfl))
  f166 := Tryd.func186.trans (congrArg some (by kernel_rfl))
  f169 := Tryd.func188.trans (congrArg some (by kernel_rfl))
  f170 := Tryd.func187.trans (congrArg some (by kernel_rfl))
  f206 := Tryd.func205.trans (congrArg some (by kernel_rfl))
  f212 := Tryd.func183.trans (congrArg some (by kernel_rfl))
  f240 := Tryd.func206.trans (congrArg some (by kernel_rfl))
  f241 := Tryd.func207.trans (congrArg some (by kernel_rfl))
  f263 := Tryd.func203.trans (congrArg some (by kernel_rfl))
  f264 := Tryd.func204.trans (congrArg some (by kernel_rfl))
  f276 := Tryd.func214.trans (congrArg some (by kernel_rfl))
  f277 := Tryd.func215.trans (congrArg some (by kernel_rfl))
  t0 := Tryd.underlying0
  a0 := Tryd.isAgg0
  z0 := Tryd.sizeOf0
  v0 := Tryd.zeroValue0
  t3 := Tryd.underlying3
  a3 := Tryd.isAgg3
  z3 := Tryd.sizeOf3
  v3 := Tryd.zeroValue3
  t4 := Tryd.underlying4
  a4 := Tryd.isAgg4
  z4 := Tryd.sizeOf4
  v4 := Tryd.zeroValue4
  t5 := Tryd.underlying5
  a5 := Tryd.isAgg5
  z5 := Tryd.sizeOf5
  v5 := Tryd.zeroValue5
  t9 := Tryd.underlying9
  a9 := Tryd.isAgg9
  z9 := Tryd.sizeOf9
  v9 := Tryd.zeroValue9
  t20 := Tryd.underlying20
  a20 := Tryd.isAgg20
  z20 := Tryd.sizeOf20
  v20 := Tryd.zeroValue20
  t37 := Tryd.underlying123
  a37 := Tryd.isAgg123
  z37 := Tryd.sizeOf123
  v37 := Tryd.zeroValue123
  t46 := Tryd.underlying149
  a46 := Tryd.isAgg149
  z46 := Tryd.sizeOf149
  v46 := Tryd.zeroValue149
  t51 := Tryd.underlying161
  a51 := Tryd.isAgg161
  z51 := Tryd.sizeOf161
  v51 := Tryd.zeroValue161
  t53 := Tryd.underlying155
  a53 := Tryd.isAgg155
  z53 := Tryd.sizeOf155
  v53 := Tryd.zeroValue155
  t70 := Tryd.underlying194
  a70 := Tryd.isAgg194
  z70 := Tryd.sizeOf194
  v70 := Tryd.zeroValue194
  t72 := Tryd.underlying196
  a72 := Tryd.isAgg196
  z72 := Tryd.sizeOf196
  v72 := Tryd.zeroValue196
  t75 := Tryd.underlying157
  a75 := Tryd.isAgg157
  z75 := Tryd.sizeOf157
  v75 := Tryd.zeroValue157
  t76 := Tryd.underlying198
  a76 := Tryd.isAgg198
  z76 := Tryd.sizeOf198
  v76 := Tryd.zeroValue198
  t109 := Tryd.underlying192
  a109 := Tryd.isAgg192
  z109 := Tryd.sizeOf192
  v109 := Tryd.zeroValue192
  t127 := Tryd.underlying221
  a127 := Tryd.isAgg221
  z127 := Tryd.sizeOf221
  v127 := Tryd.zeroValue221
  t146 := Tryd.underlying212
  a146 := Tryd.isAgg212
  z146 := Tryd.sizeOf212
  v146 := Tryd.zeroValue212
  t148 := Tryd.underlying219
  a148 := Tryd.isAgg219
  z148 := Tryd.sizeOf219
  v148 := Tryd.zeroValue219
  t164 := Tryd.underlying229
  a164 := Tryd.isAgg229
  z164 := Tryd.sizeOf229
  v164 := Tryd.zeroValue229 }
theorem Tryd.Builder_Extra_105 : Builder.Extra Tryd.prog Tryd.lays105_ren := {
  sizeBuilder := by kernel_rfl
  liesBuilder := by kernel_rfl
  t5 := Tryd.underlying5
  a5 := Tryd.isAgg5
  z5 := Tryd.sizeOf5
  v5 := Tryd.zeroValue5
  infoByte := by kernel_rfl
  cellsByte := by kernel_rfl
  sizeByte := by kernel_rfl
  neB5 := by decide }
open Go.RowKit Go.Lib in
theorem Tryd.strings_Repeat (s : ByteArray) (c : Nat) (w : World) (hc : c ≤ 9223372036854775807) (hlen : s.size * c ≤ 140737488355328) :
    Calls Tryd.prog 160 #[.string s, .int .i64 c] w fun e w' => e = .returned (.string ⟨(Lib.repeatL s.data.toList c).toArray⟩) ∧ Below w.heap.size w w' := Any.strings_Repeat Tryd.lays105 Tryd.Builder_Extra_105 s c w hc hlen
end Go.Proofs
