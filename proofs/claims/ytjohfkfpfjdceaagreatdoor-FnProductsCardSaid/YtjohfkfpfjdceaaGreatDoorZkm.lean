/- Functions of the library met by their contracts: split texts, errors. -/
import Derived.Test.YtjohfkfpfjdceaaGreatDoorDw
import Derived.Test.YtjohfkfpfjdceaaGreatDoorWkm
import Derived.Test.YtjohfkfpfjdceaaGreatDoorLq
import Derived.Test.YtjohfkfpfjdceaaGreatDoorKr
import Derived.Test.YtjohfkfpfjdceaaGreatDoorKs
import Derived.Test.YtjohfkfpfjdceaaGreatDoorChecked

namespace Go.Proofs.YtjohfkfpfjdceaaGreatDoor
open Go Go.RowKit Go.Cv Go.Dv

theorem ok_strings_Split : OkFn Tryz.prog 102 (S_strings_Split R) :=
  okFn_row (e := .str) Tryz.func102 rfl (by decide) rfl (fun x hx g vals w hb hq hs hr => by
    obtain ⟨s, c, ⟨⟩⟩ := x
    have hx : r_strings_Split R s c = true := hx
    unfold r_strings_Split at hx
    simp only [Bool.and_eq_true, decide_eq_true_eq] at hx
    obtain ⟨h0, h1⟩ := hx
    obtain ⟨u, v, rfl, hu, hv⟩ := vals_two hs hr
    obtain rfl : u = .string s := hu
    obtain rfl : v = .string c := hv
    obtain ⟨m, hm⟩ := intAt_cell (GQ_maxlen hq)
    have hlen : (Lib.splitB c 0 (Lib.countB s c) s).length = Lib.countB s c + 1 := Lib.splitB_all c h1 0 (Lib.countB s c) s rfl
    refine (Tryz.strings_Split s c m w h0 hm h1).mono fun e w' ⟨he, hw⟩ => ⟨_, _, ?_, hw, ?_, fun i y hy mm => ?_⟩
    · refine he.trans ?_
      have e2 : (p_strings_Split R s c).length = Lib.countB s c + 1 := hlen
      simp only [e2]
    · show _ = (Lib.splitB c 0 (Lib.countB s c) s).length * 1
      simp
    · have hy : (Lib.splitB c 0 (Lib.countB s c) s)[i]? = some y := hy
      show ((Lib.splitB c 0 (Lib.countB s c) s).map Value.string).toArray[i * 1 + 0]? = some (.string y)
      simp [hy])

theorem vals_five {g : Gh} {vals : Array Value} {a b c d e : CV1} (hs : vals.size = 5) (h : ∀ (j : Nat) q u, [a, b, c, d, e][j]? = some q → vals[j]? = some u → rel1 g q u) :
    ∃ u v x y z, vals = #[u, v, x, y, z] ∧ rel1 g a u ∧ rel1 g b v ∧ rel1 g c x ∧ rel1 g d y ∧ rel1 g e z := by
  obtain ⟨l⟩ := vals
  match l, hs, h with
  | [u, v, x, y, z], _, h => exact ⟨u, v, x, y, z, rfl, h 0 _ _ rfl rfl, h 1 _ _ rfl rfl, h 2 _ _ rfl rfl, h 3 _ _ rfl rfl, h 4 _ _ rfl rfl⟩

theorem ok_strconv_toError : OkFn Tryz.prog 135 (S_strconv_toError R) :=
  okFn_lib Tryz.func135 rfl (by decide) rfl (fun _ => rfl) (fun _ _ => ⟨rfl, fun _ => rfl⟩) (fun x hx g vals w hb hq hs hr => by
    obtain ⟨fn, s, ba, bi, e, ⟨⟩⟩ := x
    have hx : r_strconv_toError R fn s ba bi e = true := hx
    unfold r_strconv_toError at hx
    rw [Bool.and_eq_true, decide_eq_true_eq] at hx
    obtain ⟨h0, h1⟩ := hx
    obtain ⟨u, v, x, y, z, rfl, hu, hv, hx, hy, hz⟩ := vals_five hs hr
    obtain rfl : u = .string fn := hu
    obtain rfl : v = .string s := hv
    obtain rfl : x = .int .i64 ba := hx
    obtain rfl : y = .int .i64 bi := hy
    obtain ⟨ev, e1, e2⟩ := errAt_cell (GQ_syntax hq)
    obtain ⟨ev', e3, e4⟩ := errAt_cell (GQ_range hq)
    unfold errOk at h1
    split at h1
    · rename_i t n
      rw [Bool.and_eq_true, Bool.or_eq_true, decide_eq_true_eq, decide_eq_true_eq] at h1
      obtain ⟨h2, h3⟩ := h1
      obtain rfl := Nat.eq_of_beq_eq_true h2
      obtain rfl : z = .iface 182 (.int .i64 n) := hz
      rcases h3 with rfl | rfl
      · exact (AnyPu.strconv_toError_syntax Tryz.laysPu_n17 fn s ba bi ev w h0 e1 e2).mono fun e w' ⟨N, he, _, _, hw⟩ => ⟨_, he, hw, fun g' => ⟨_, _, rfl⟩⟩
      · exact (AnyPu.strconv_toError_range Tryz.laysPu_n17 fn s ba bi ev' w h0 e3 e4).mono fun e w' ⟨N, he, _, _, hw⟩ => ⟨_, he, hw, fun g' => ⟨_, _, rfl⟩⟩
    · cases h1)
end Go.Proofs.YtjohfkfpfjdceaaGreatDoor
