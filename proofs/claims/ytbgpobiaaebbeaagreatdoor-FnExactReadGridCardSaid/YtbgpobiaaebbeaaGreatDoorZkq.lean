/- Functions of the library met by their contracts: texts that are cut, numbers in decimal. -/
import Derived.Test.YtbgpobiaaebbeaaGreatDoorZkm
import Derived.Test.YtbgpobiaaebbeaaGreatDoorWkq
import Derived.Test.YtbgpobiaaebbeaaGreatDoorKu
import Derived.Lib.AppendIntMem
import Derived.Lib.AtoiErrMem

namespace Go.Proofs.YtbgpobiaaebbeaaGreatDoor
open Go Go.RowKit Go.Cv Go.Dv

theorem ok_strings_Cut : OkFn Tryz.prog 10 (S_strings_Cut R) :=
  okFn_lib Tryz.func10 rfl (by decide) rfl (fun _ => rfl) (fun _ _ => ⟨rfl, fun _ => rfl⟩) (fun x hx g vals w hb hq hs hr => by
    obtain ⟨s, c, ⟨⟩⟩ := x
    have hx : r_strings_Cut R s c = true := hx
    unfold r_strings_Cut at hx
    have h0 := of_decide_eq_true hx
    obtain ⟨u, v, rfl, hu, hv⟩ := vals_two hs hr
    obtain rfl : u = .string s := hu
    obtain rfl : v = .string c := hv
    obtain ⟨m, hm⟩ := intAt_cell (GQ_maxlen hq)
    refine (Tryz.strings_Cut s c m w h0 hm).mono fun e w' ⟨he, n, hw⟩ => ⟨_, he, by subst hw; exact ⟨rfl, rfl, rfl, Nat.le_refl _, fun _ _ => rfl⟩, fun g' => ?_⟩
    refine ⟨_, rfl, rfl, fun j a b h1 h2 => ?_⟩
    match j, h1, h2 with
    | 0, h1, h2 => cases h1; cases h2; rfl
    | 1, h1, h2 => cases h1; cases h2; rfl
    | 2, h1, h2 => cases h1; cases h2; rfl
    | _ + 3, h1, _ => cases h1)

theorem ok_strconv_FormatInt_dec : OkFn Tryz.prog 56 (S_strconv_FormatInt_dec R) :=
  okFn_lib Tryz.func56 rfl (by decide) rfl (fun _ => rfl) (fun _ _ => ⟨rfl, fun _ => rfl⟩) (fun x hx g vals w hb hq hs hr => by
    obtain ⟨n, ⟨⟩, ⟨⟩⟩ := x
    have hx : r_strconv_FormatInt_dec R n = true := hx
    unfold r_strconv_FormatInt_dec at hx
    rw [Bool.and_eq_true, decide_eq_true_eq, decide_eq_true_eq] at hx
    obtain ⟨h0, h1⟩ := hx
    obtain ⟨u, v, rfl, hu, hv⟩ := vals_two hs hr
    obtain rfl : u = .int .i64 n := hu
    obtain rfl : v = .int .i64 10 := hv
    have htab : Lib.TabIs Tryz.prog w "internal/strconv.uint64pow10" .u64 Lib.pow10Tab := by
      obtain ⟨T, fr, h⟩ := GQ_pow hq
      have h : w.heap[4]? = some (.cells (Lib.pow10Tab.map (Value.int .u64)).toArray T fr) := h
      unfold Lib.TabIs World.var?
      rw [show Tryz.prog.globalNamed "internal/strconv.uint64pow10" = some 4 by kernel_rfl]
      simp only [Option.bind_some, h]
    exact (Tryz.strconv_FormatInt_10 n h0 h1 w htab).mono fun e w' ⟨he, k, os, hw⟩ => ⟨_, he, by subst hw; exact Lib.below_grow w.heap.size w (Nat.le_refl _) k os, fun g' => rfl⟩)

theorem vals_three {g : Gh} {vals : Array Value} {a b c : CV1} (hs : vals.size = 3) (h : ∀ (j : Nat) q u, [a, b, c][j]? = some q → vals[j]? = some u → rel1 g q u) :
    ∃ u v x, vals = #[u, v, x] ∧ rel1 g a u ∧ rel1 g b v ∧ rel1 g c x := by
  obtain ⟨l⟩ := vals
  match l, hs, h with
  | [u, v, x], _, h => exact ⟨u, v, x, rfl, h 0 _ _ rfl rfl, h 1 _ _ rfl rfl, h 2 _ _ rfl rfl⟩

theorem ok_strconv_ParseInt_dec : OkFn Tryz.prog 36 (S_strconv_ParseInt_dec R) :=
  okFn_lib Tryz.func36 rfl (by decide) rfl (fun _ => rfl) (fun _ _ => ⟨rfl, fun _ => rfl⟩) (fun x hx g vals w hb hq hs hr => by
    obtain ⟨s, ⟨⟩, ⟨⟩, ⟨⟩⟩ := x
    have hx : r_strconv_ParseInt_dec R s = true := hx
    unfold r_strconv_ParseInt_dec at hx
    have h0 := of_decide_eq_true hx
    obtain ⟨u, v, y, rfl, hu, hv, hy⟩ := vals_three hs hr
    obtain rfl : u = .string s := hu
    obtain rfl : v = .int .i64 10 := hv
    obtain rfl : y = .int .i64 64 := hy
    obtain ⟨ev, e1, e2⟩ := errAt_cell (GQ_syntax hq)
    obtain ⟨ev', e3, e4⟩ := errAt_cell (GQ_range hq)
    have two : ∀ (g' : Gh) (n : Int) (o : Ifc) (z : Value), relI o z → relV g' (retCV (encR (.cons (.one (.int .i64)) (.cons (.one .ifc) .nil)) (n, (o, ())) 0).1) (.tuple #[.int .i64 n, z]) := fun g' n o z hz => by
      refine ⟨_, rfl, rfl, fun j a b h1 h2 => ?_⟩
      match j, h1, h2 with
      | 0, h1, h2 => cases h1; cases h2; rfl
      | 1, h1, h2 => cases h1; cases h2; exact hz
      | _ + 2, h1, _ => cases h1
    show Calls Tryz.prog _ _ w (fun e w' => ∃ v, e = .returned v ∧ Below w.heap.size w w' ∧ ∀ g', relV g' (retCV (encR (.cons (.one (.int .i64)) (.cons (.one .ifc) .nil)) ((p_strconv_ParseInt_dec R s).1, ((p_strconv_ParseInt_dec R s).2, ())) 0).1) v)
    unfold p_strconv_ParseInt_dec
    cases hp : Lib.parseIntB 64 s.data.toList with
    | ok n =>
      refine (Tryz.strconv_ParseInt_10_at64_ok s (by omega) n hp w).mono fun e w' ⟨he, hw⟩ => ⟨_, he, ?_, fun g' => two g' n none _ rfl⟩
      rcases hw with rfl | ⟨t, rfl⟩
      · exact Below.refl _ _
      · exact Lib.bytesWorld_below w _ t
    | «syntax» =>
      exact (Tryz.strconv_ParseInt_10_at64_syntax s h0 hp ev w e1 e2).mono fun e w' ⟨N, he, _, _, hw⟩ => ⟨_, he, hw, fun g' => two g' 0 (some none) _ ⟨_, _, rfl⟩⟩
    | range =>
      exact (Tryz.strconv_ParseInt_10_at64_range s h0 hp ev' w e3 e4).mono fun e w' ⟨N, he, _, _, hw⟩ => ⟨_, he, hw, fun g' => two g' _ (some none) _ ⟨_, _, rfl⟩⟩)
end Go.Proofs.YtbgpobiaaebbeaaGreatDoor
