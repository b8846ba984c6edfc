/- What draws tracks: they are valid, and short as bytes. -/
import Derived.Test.YtgfplcpjnlignaaDoorLlq
import Derived.Test.YtgfplcpjnlignaaDoorZlj
import Derived.Test.YtgfplcpjnlignaaDoorWln

set_option linter.unusedSimpArgs false
set_option linter.unusedVariables false
namespace Go.Dv
open Go.Cv

theorem nenc_k {k : Nat} {d : Int} (h : zig d < 128 ^ (k + 1)) : (nenc (zig d)).length ≤ k + 1 := by
  have := (npre_len k (zig d) h).1
  unfold nenc
  rw [List.length_append, List.length_singleton]; omega
theorem zig_le {d : Int} {n : Nat} (h0 : -(n : Int) ≤ d) (h1 : d ≤ (n : Int)) : zig d ≤ 2 * n := by
  unfold zig; split <;> omega
theorem nenc2 {d : Int} (h0 : -2000 ≤ d) (h1 : d ≤ 2000) : (nenc (zig d)).length ≤ 2 := by
  have := zig_le (n := 2000) h0 h1
  exact nenc_k (k := 1) (by show _ < 16384; omega)
theorem nenc4 {d : Int} (h0 : -4000000 ≤ d) (h1 : d ≤ 4000000) : (nenc (zig d)).length ≤ 4 := by
  have := zig_le (n := 4000000) h0 h1
  exact nenc_k (k := 3) (by show _ < 268435456; omega)

theorem stp_app {l : List (Nat × Nat)} {p : Nat × Nat} {i : Nat} (h : i < l.length) : stp (l ++ [p]) i = stp l i := by
  unfold stp
  rw [List.getD_eq_getElem?_getD, List.getElem?_append_left h, ← List.getD_eq_getElem?_getD]
theorem stp_last (l : List (Nat × Nat)) (p : Nat × Nat) : stp (l ++ [p]) l.length = p_spec_StepsOf R p.1 p.2 := by
  unfold stp
  rw [List.getD_eq_getElem?_getD, List.getElem?_append_right (Nat.le_refl _), Nat.sub_self]; rfl
theorem pka_app {l : List (Nat × Nat)} {p : Nat × Nat} : ∀ {i : Nat}, i ≤ l.length → pka (l ++ [p]) i = pka l i ∧ pkb (l ++ [p]) i = pkb l i
  | 0, _ => ⟨rfl, rfl⟩
  | i + 1, h => by
    show (stp (l ++ [p]) i).1 = (stp l i).1 ∧ (stp (l ++ [p]) i).2.1 = (stp l i).2.1
    rw [stp_app (by omega)]; exact ⟨rfl, rfl⟩
theorem pk_app {l : List (Nat × Nat)} {p : Nat × Nat} : ∀ {i : Nat}, i ≤ l.length → pk (l ++ [p]) i = pk l i
  | 0, _ => rfl
  | i + 1, h => by
    show pk (l ++ [p]) i ++ nenc (zig ((stp (l ++ [p]) i).1 - pka (l ++ [p]) i)) ++ nenc (zig ((stp (l ++ [p]) i).2.1 - pkb (l ++ [p]) i)) = pk l i ++ nenc (zig ((stp l i).1 - pka l i)) ++ nenc (zig ((stp l i).2.1 - pkb l i))
    rw [stp_app (by omega), pk_app (by omega), (pka_app (by omega)).1, (pka_app (by omega)).2]

/-- a track's places so far, and where the next one lies -/
def Ks (pl : List (Nat × Nat)) (x y : Int) : Prop := Gps pl ∧ (pl = [] ∧ -2000000 ≤ x ∧ x ≤ 2000000 ∧ -4000000 ≤ y ∧ y ≤ 4000000 ∨
  (-2000 ≤ x - pka pl pl.length ∧ x - pka pl pl.length ≤ 2000 ∧ -2000 ≤ y - pkb pl pl.length ∧ y - pkb pl pl.length ≤ 2000) ∧ (pk pl pl.length).length ≤ 4 + 4 * pl.length)
def plc (x y : Int) : Nat × Nat := (R.bin .quo .f32 (R.ofi .f32 x) 1266679808, R.bin .quo .f32 (R.ofi .f32 y) 1266679808)
theorem ks_step {pl : List (Nat × Nat)} {x y x' y' : Int} (h : Ks pl x y) (h1 : -4194304 ≤ x) (h2 : x ≤ 4194304) (h3 : -8388608 ≤ y) (h4 : y < 8388608)
    (g1 : -2000 ≤ x' - x) (g2 : x' - x ≤ 2000) (g3 : -2000 ≤ y' - y) (g4 : y' - y ≤ 2000) : Ks (pl ++ [plc x y]) x' y' ∧ (pk (pl ++ [plc x y]) (pl ++ [plc x y]).length).length ≤ 4 + 4 * (pl.length + 1) := by
  have hg : Gp (plc x y) := ⟨x, y, h1, h2, h3, h4, rfl⟩
  have hs : stp (pl ++ [plc x y]) pl.length = (x, y, true) := by
    rw [stp_last, ← stepsOf_eq]
    exact (stepsOf_st (st_of (n := x) (by omega)) (st_of (n := y) (by omega)) h1 h2 h3 h4).1
  have hl : (pl ++ [plc x y]).length = pl.length + 1 := by rw [List.length_append]; rfl
  have e1 : pka (pl ++ [plc x y]) (pl.length + 1) = x := by show (stp (pl ++ [plc x y]) pl.length).1 = x; rw [hs]
  have e2 : pkb (pl ++ [plc x y]) (pl.length + 1) = y := by show (stp (pl ++ [plc x y]) pl.length).2.1 = y; rw [hs]
  have e3 : pk (pl ++ [plc x y]) (pl.length + 1) = pk pl pl.length ++ nenc (zig (x - pka pl pl.length)) ++ nenc (zig (y - pkb pl pl.length)) := by
    show pk (pl ++ [plc x y]) pl.length ++ nenc (zig ((stp (pl ++ [plc x y]) pl.length).1 - pka (pl ++ [plc x y]) pl.length)) ++ nenc (zig ((stp (pl ++ [plc x y]) pl.length).2.1 - pkb (pl ++ [plc x y]) pl.length)) = _
    rw [hs, pk_app (Nat.le_refl _), (pka_app (Nat.le_refl _)).1, (pka_app (Nat.le_refl _)).2]
  have hlen : (pk (pl ++ [plc x y]) (pl.length + 1)).length ≤ 4 + 4 * (pl.length + 1) := by
    rw [e3, List.length_append, List.length_append]
    rcases h.2 with ⟨rfl, a1, a2, a3, a4⟩ | ⟨⟨a1, a2, a3, a4⟩, a5⟩
    · have q1 := nenc4 (d := x - 0) (by omega) (by omega)
      have q2 := nenc4 (d := y - 0) (by omega) (by omega)
      show (0 + (nenc (zig (x - 0))).length) + (nenc (zig (y - 0))).length ≤ 4 + 4 * (0 + 1)
      omega
    · have q1 := nenc2 a1 a2
      have q2 := nenc2 a3 a4
      omega
  rw [hl]
  refine ⟨⟨fun p hp => ?_, .inr ⟨?_, ?_⟩⟩, hlen⟩
  · rcases List.mem_append.1 hp with hp | hp
    · exact h.1 p hp
    · rw [List.mem_singleton.1 hp]; exact hg
  · rw [hl, e1, e2]; exact ⟨g1, g2, g3, g4⟩
  · rw [hl]; exact hlen

theorem splace_st {n e : Int} (h1 : -4194304 ≤ n) (h2 : n ≤ 4194304) (h3 : -8388608 ≤ e) (h4 : e < 8388608) : p_spec_PlaceOfSteps R n e = ((plc n e).1, (plc n e).2, true) := by
  rw [← placeOfSteps_eq]; exact place_st h1 h2 h3 h4

theorem b10in_run {l : List Int} (hb : By l) (nm : ByteArray) (out : List (ByteArray × List (Nat × Nat))) (v9 v10 : Int) (v11 : Bool) (v12 : List ByteArray) (v13 : ByteArray) (v14 v15 v16 v17 v18 v19 : Int) :
    ∀ (k : Nat) (pl : List (Nat × Nat)) (x y n : Int) (r : List Int × Int × Int), Ks pl x y → At l n r → n + 4 * (k : Int) ≤ 1000000 → pl.length + k ≤ 5 →
      -(2000000 + 2000 * (5 - (k : Int))) ≤ x → x ≤ 2000000 + 2000 * (5 - (k : Int)) → -(4000000 + 2000 * (5 - (k : Int))) ≤ y → y ≤ 4000000 + 2000 * (5 - (k : Int)) →
      ∃ r' pl' x' y', W_spec_B10Tracks_1 R ((), r, (), nm, pl, x, y, (k : Int), out, v9, v10, v11, (), v12, v13, (), v14, v15, (), v16, v17, (), v18, v19, (), ()) =
        some ((), r', out, v9, (), nm, pl', x', y', 0, v10, v11, (), v12, v13, (), v14, v15, (), v16, v17, (), v18, v19, 0, false, (), ()) ∧ At l (n + 4 * k) r' ∧ pl'.length = pl.length + k ∧ Ks pl' x' y' := by
  intro k
  induction k with
  | zero =>
    intro pl x y n r hk h _ _ _ _ _ _
    refine ⟨r, pl, x, y, runW_out (x := ((), r, (), nm, pl, x, y, ((0 : Nat) : Int), out, v9, v10, v11, (), v12, v13, (), v14, v15, (), v16, v17, (), v18, v19, (), ())) ?_, h.mono (by omega), rfl, hk⟩
    show st_spec_B10Tracks_1 R r.1 r.2.1 r.2.2 nm pl x y ((0 : Nat) : Int) out v9 v10 v11 v12 v13 v14 v15 v16 v17 v18 v19 = _
    unfold st_spec_B10Tracks_1
    rw [df (show ¬ ((0 : Nat) : Int) > 0 by decide)]
    simp only [Nat.beq_refl]
    rfl
  | succ k ih =>
    intro pl x y n r hk h hn hpl hx1 hx2 hy1 hy2
    have a1 := pick_ok hb h (by omega) 4001
    have k1 : k1_spec_B10Tracks_1 R r.1 r.2.1 r.2.2 nm pl x y ((k + 1 : Nat) : Int) out v9 v10 v11 v12 v13 v14 v15 v16 v17 v18 v19 = p_spec_l00Src_pick R r.1 r.2.1 r.2.2 4001 := rfl
    have a2 := pick_ok hb a1.2.2 (by omega) 4001
    have k2 : k2_spec_B10Tracks_1 R r.1 r.2.1 r.2.2 nm pl x y ((k + 1 : Nat) : Int) out v9 v10 v11 v12 v13 v14 v15 v16 v17 v18 v19 = p_spec_l00Src_pick R (p_spec_l00Src_pick R r.1 r.2.1 r.2.2 4001).2.1 (p_spec_l00Src_pick R r.1 r.2.1 r.2.2 4001).2.2.1 (p_spec_l00Src_pick R r.1 r.2.1 r.2.2 4001).2.2.2 4001 := rfl
    have k0 : k0_spec_B10Tracks_1 R r.1 r.2.1 r.2.2 nm pl x y ((k + 1 : Nat) : Int) out v9 v10 v11 v12 v13 v14 v15 v16 v17 v18 v19 = ((plc x y).1, (plc x y).2, true) := by
      unfold k0_spec_B10Tracks_1
      exact splace_st (by omega) (by omega) (by omega) (by omega)
    generalize hP : p_spec_l00Src_pick R r.1 r.2.1 r.2.2 4001 = P at *
    generalize hQ : p_spec_l00Src_pick R P.2.1 P.2.2.1 P.2.2.2 4001 = Q at *
    obtain ⟨a11, ⟨a12, a13⟩, a14⟩ := a1
    obtain ⟨a21, ⟨a22, a23⟩, a24⟩ := a2
    have a13 := a13 (by decide)
    have a23 := a23 (by decide)
    have wx : IntKind.i64.wrap (x + IntKind.i64.wrap (P.1 - 2000)) = x + (P.1 - 2000) := by
      rw [wrap_small (i := P.1 - 2000) (by omega) (by omega), wrap_small (by omega) (by omega)]
    have wy : IntKind.i64.wrap (y + IntKind.i64.wrap (Q.1 - 2000)) = y + (Q.1 - 2000) := by
      rw [wrap_small (i := Q.1 - 2000) (by omega) (by omega), wrap_small (by omega) (by omega)]
    have wk : IntKind.i64.wrap (((k + 1 : Nat) : Int) - 1) = (k : Int) := by rw [wrap_small (by omega) (by omega)]; omega
    have hst : st_spec_B10Tracks_1 R r.1 r.2.1 r.2.2 nm pl x y ((k + 1 : Nat) : Int) out v9 v10 v11 v12 v13 v14 v15 v16 v17 v18 v19 =
        some (.inl ((), Q.2, (), nm, pl ++ [plc x y], x + (P.1 - 2000), y + (Q.1 - 2000), (k : Int), out, v9, v10, v11, (), v12, v13, (), v14, v15, (), v16, v17, (), v18, v19, (), ())) := by
      unfold st_spec_B10Tracks_1
      rw [k0, k1, k2, a11, a21, dt (show ((k + 1 : Nat) : Int) > 0 by omega), wx, wy, wk]
      rw [ble_of (show pl.length + [(((plc x y).1, (plc x y).2, true).fst, ((plc x y).1, (plc x y).2, true).snd.fst)].length ≤ 1073741824 by simp; omega)]
      simp only [Nat.beq_refl]
      rfl
    have hs := (ks_step (x' := x + (P.1 - 2000)) (y' := y + (Q.1 - 2000)) hk (by omega) (by omega) (by omega) (by omega) (by omega) (by omega) (by omega) (by omega)).1
    obtain ⟨r', pl', x', y', i1, i2, i3, i4⟩ := ih (pl ++ [plc x y]) (x + (P.1 - 2000)) (y + (Q.1 - 2000)) (n + 2 + 2) Q.2 hs a24 (by omega) (by rw [List.length_append, List.length_singleton]; omega) (by omega) (by omega) (by omega) (by omega)
    refine ⟨r', pl', x', y', (runW_on (x := ((), r, (), nm, pl, x, y, ((k + 1 : Nat) : Int), out, v9, v10, v11, (), v12, v13, (), v14, v15, (), v16, v17, (), v18, v19, (), ())) hst).trans i1, i2.mono (by omega), by rw [i3, List.length_append, List.length_singleton]; omega, i4⟩
end Go.Dv
