/- Contracts of the library at this translation, laid by the tool lay-plain (numbers of seat YtbgpobiaaebbeaaGreatDoor). -/
/- Functions of the library met by their contracts: split texts, errors. -/
import Derived.Test.YtbgpobiaaebbeaaGreatDoorDw
import Derived.Test.YtbgpobiaaebbeaaGreatDoorWkq
import Derived.Test.YtbgpobiaaebbeaaGreatDoorYm
import Derived.Test.YtbgpobiaaebbeaaGreatDoorKs
import Derived.Test.YtbgpobiaaebbeaaGreatDoorChecked
import Derived.Shelf.Strings.Split
import Derived.Test.YtbgpobiaaebbeaaGreatDoorProg

namespace Go.Proofs
open Go.Shelf
def Tryz.lays146_ren : Go.Shelf.Ren := ⟨fun | 146 => 35 | 221 => 53 | 268 => 64 | 138 => 65 | 143 => 66 | 195 => 80 | 197 => 81 | 218 => 82 | 219 => 34 | 260 => 95 | 217 => 49 | 225 => 50 | 224 => 51 | 267 => 52 | 266 => 62 | 314 => 63 | n => n, fun | 9 => 9 | 31 => 40 | 3 => 3 | 4 => 4 | 0 => 0 | 105 => 106 | 21 => 21 | 5 => 5 | 46 => 79 | 119 => 133 | 139 => 136 | 138 => 135 | 146 => 86 | 51 => 71 | n => n, fun | 1 => 0 | 3 => 5 | 4 => 6 | n => n⟩
theorem Tryz.lays146 : Go.Proofs.Lays.n146 Tryz.prog Tryz.lays146_ren := {
  mixed := by kernel_rfl
  f138 := Tryz.func65.trans (congrArg some (by kernel_rfl))
  f143 := Tryz.func66.trans (congrArg some (by kernel_rfl))
  f146 := Tryz.func35.trans (congrArg some (by kernel_rfl))
  f195 := Tryz.func80.trans (congrArg some (by kernel_rfl))
  f197 := Tryz.func81.trans (congrArg some (by kernel_rfl))
  f217 := Tryz.func49.trans (congrArg some (by kernel_rfl))
  f218 := Tryz.func82.trans (congrArg some (by kernel_rfl))
  f219 := Tryz.func34.trans (congrArg some (by kernel_rfl))
  f221 := Tryz.func53.trans (congrArg some (by kernel_rfl))
  f224 := Tryz.func51.trans (congrArg some (by kernel_rfl))
  f225 := Tryz.func50.trans (congrArg some (by kernel_rfl))
  f260 := Tryz.func95.trans (congrArg some (by kernel_rfl))
  f266 := Tryz.func62.trans (congrArg some (by kernel_rfl))
  f267 := Tryz.func52.trans (congrArg some (by kernel_rfl))
  f268 := Tryz.func64.trans (congrArg some (by kernel_rfl))
  f314 := Tryz.func63.trans (congrArg some (by kernel_rfl))
  t0 := Tryz.underlying0
  a0 := Tryz.isAgg0
  z0 := Tryz.sizeOf0
  v0 := Tryz.zeroValue0
  t3 := Tryz.underlying3
  a3 := Tryz.isAgg3
  z3 := Tryz.sizeOf3
  v3 := Tryz.zeroValue3
  t4 := Tryz.underlying4
  a4 := Tryz.isAgg4
  z4 := Tryz.sizeOf4
  v4 := Tryz.zeroValue4
  t5 := Tryz.underlying5
  a5 := Tryz.isAgg5
  z5 := Tryz.sizeOf5
  v5 := Tryz.zeroValue5
  t9 := Tryz.underlying9
  a9 := Tryz.isAgg9
  z9 := Tryz.sizeOf9
  v9 := Tryz.zeroValue9
  t21 := Tryz.underlying21
  a21 := Tryz.isAgg21
  z21 := Tryz.sizeOf21
  v21 := Tryz.zeroValue21
  t31 := Tryz.underlying40
  a31 := Tryz.isAgg40
  z31 := Tryz.sizeOf40
  v31 := Tryz.zeroValue40
  t46 := Tryz.underlying79
  a46 := Tryz.isAgg79
  z46 := Tryz.sizeOf79
  v46 := Tryz.zeroValue79
  t51 := Tryz.underlying71
  a51 := Tryz.isAgg71
  z51 := Tryz.sizeOf71
  v51 := Tryz.zeroValue71
  t105 := Tryz.underlying106
  a105 := Tryz.isAgg106
  z105 := Tryz.sizeOf106
  v105 := Tryz.zeroValue106
  t119 := Tryz.underlying133
  a119 := Tryz.isAgg133
  z119 := Tryz.sizeOf133
  t138 := Tryz.underlying135
  a138 := Tryz.isAgg135
  z138 := Tryz.sizeOf135
  v138 := Tryz.zeroValue135
  t139 := Tryz.underlying136
  a139 := Tryz.isAgg136
  z139 := Tryz.sizeOf136
  v139 := Tryz.zeroValue136
  t146 := Tryz.underlying86
  a146 := Tryz.isAgg86
  z146 := Tryz.sizeOf86
  v146 := Tryz.zeroValue86
  g1 := by kernel_rfl
  g3 := by kernel_rfl
  g4 := by kernel_rfl }
open Go.RowKit Go.Lib in
theorem Tryz.strings_Split (s sep : ByteArray) (m : Int) (w : World) (hs : s.size < 4294967281) (hm : w.cell? ⟨0, 0, none⟩ = some (.int .i64 m)) (h1 : 1 ≤ sep.size) :
    Calls Tryz.prog 35 #[.string s, .string sep] w fun e w' =>
      e = .returned (.slice (some ⟨w.heap.size, 0, none⟩) (Lib.countB s sep + 1) (Lib.countB s sep + 1)) ∧ w' = w.alloc (.cells ((Lib.splitB sep 0 (Lib.countB s sep) s).map Value.string).toArray 9) := Any.strings_Split Tryz.lays146 (by kernel_rfl) s sep m w hs hm h1
end Go.Proofs


namespace Go.Proofs.YtbgpobiaaebbeaaGreatDoor
open Go Go.RowKit Go.Cv Go.Dv

theorem ok_strings_Split : OkFn Tryz.prog 35 (S_strings_Split R) :=
  okFn_row (e := .str) Tryz.func35 rfl (by decide) rfl (fun x hx g vals w hb hq hs hr => by
    obtain ⟨s, c, ⟨⟩⟩ := x
    have hx : r_strings_Split R s c = true := hx
    unfold r_strings_Split at hx
    simp only [Bool.and_eq_true, decide_eq_true_eq] at hx
    obtain ⟨h0, h1⟩ := hx
    obtain ⟨u, v, rfl, hu, hv⟩ := vals_two hs hr
    obtain rfl : u = .string s := hu
    obtain rfl : v = .string c := hv
    obtain ⟨m, hm⟩ := intAt_cell (GQ_maxlen hq)
    have hlen : (Lib.splitB c 0 (Lib.countB s c) s).length = Lib.countB s c + 1 := Lib.splitB_all c h1 0 (Lib.countB s c) s rfl
    refine (Tryz.strings_Split s c m w h0 hm h1).mono fun e w' ⟨he, hw⟩ => ⟨_, _, ?_, hw, ?_, fun i y hy mm => ?_⟩
    · refine he.trans ?_
      have e2 : (p_strings_Split R s c).length = Lib.countB s c + 1 := hlen
      simp only [e2]
    · show _ = (Lib.splitB c 0 (Lib.countB s c) s).length * 1
      simp
    · have hy : (Lib.splitB c 0 (Lib.countB s c) s)[i]? = some y := hy
      show ((Lib.splitB c 0 (Lib.countB s c) s).map Value.string).toArray[i * 1 + 0]? = some (.string y)
      simp [hy])

theorem vals_five {g : Gh} {vals : Array Value} {a b c d e : CV1} (hs : vals.size = 5) (h : ∀ (j : Nat) q u, [a, b, c, d, e][j]? = some q → vals[j]? = some u → rel1 g q u) :
    ∃ u v x y z, vals = #[u, v, x, y, z] ∧ rel1 g a u ∧ rel1 g b v ∧ rel1 g c x ∧ rel1 g d y ∧ rel1 g e z := by
  obtain ⟨l⟩ := vals
  match l, hs, h with
  | [u, v, x, y, z], _, h => exact ⟨u, v, x, y, z, rfl, h 0 _ _ rfl rfl, h 1 _ _ rfl rfl, h 2 _ _ rfl rfl, h 3 _ _ rfl rfl, h 4 _ _ rfl rfl⟩

theorem ok_strconv_toError : OkFn Tryz.prog 55 (S_strconv_toError R) :=
  okFn_lib Tryz.func55 rfl (by decide) rfl (fun _ => rfl) (fun _ _ => ⟨rfl, fun _ => rfl⟩) (fun x hx g vals w hb hq hs hr => by
    obtain ⟨fn, s, ba, bi, e, ⟨⟩⟩ := x
    have hx : r_strconv_toError R fn s ba bi e = true := hx
    unfold r_strconv_toError at hx
    rw [Bool.and_eq_true, decide_eq_true_eq] at hx
    obtain ⟨h0, h1⟩ := hx
    obtain ⟨u, v, x, y, z, rfl, hu, hv, hx, hy, hz⟩ := vals_five hs hr
    obtain rfl : u = .string fn := hu
    obtain rfl : v = .string s := hv
    obtain rfl : x = .int .i64 ba := hx
    obtain rfl : y = .int .i64 bi := hy
    obtain ⟨ev, e1, e2⟩ := errAt_cell (GQ_syntax hq)
    obtain ⟨ev', e3, e4⟩ := errAt_cell (GQ_range hq)
    unfold errOk at h1
    split at h1
    · rename_i t n
      rw [Bool.and_eq_true, Bool.or_eq_true, decide_eq_true_eq, decide_eq_true_eq] at h1
      obtain ⟨h2, h3⟩ := h1
      obtain rfl := Nat.eq_of_beq_eq_true h2
      obtain rfl : z = .iface 89 (.int .i64 n) := hz
      rcases h3 with rfl | rfl
      · exact (AnyPu.strconv_toError_syntax Tryz.laysPu_n17 fn s ba bi ev w h0 e1 e2).mono fun e w' ⟨N, he, _, _, hw⟩ => ⟨_, he, hw, fun g' => ⟨_, _, rfl⟩⟩
      · exact (AnyPu.strconv_toError_range Tryz.laysPu_n17 fn s ba bi ev' w h0 e3 e4).mono fun e w' ⟨N, he, _, _, hw⟩ => ⟨_, he, hw, fun g' => ⟨_, _, rfl⟩⟩
    · cases h1)
end Go.Proofs.YtbgpobiaaebbeaaGreatDoor
