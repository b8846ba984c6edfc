/- The plain law of valid tracks: names, steps of places. -/
import Derived.Test.YtgfplcpjnlignaaDoorLha
import Derived.Test.YtgfplcpjnlignaaDoorZli
import Derived.Test.YtgfplcpjnlignaaDoorZke
import Derived.Test.YtgfplcpjnlignaaDoorYa
import Derived.Test.YtgfplcpjnlignaaDoorWkh
import Derived.Test.YtgfplcpjnlignaaDoorLg

set_option linter.unusedSimpArgs false
namespace Go.Dv
open Go.Cv
open Ieee

/-! ### names -/
def az : ByteArray := { data := #[97, 98, 99, 100, 101, 102, 103, 104, 105, 106, 107, 108, 109, 110, 111, 112, 113, 114, 115, 116, 117, 118, 119, 120, 121, 122] }
def isAz (b : UInt8) : Bool := decide (97 ≤ b.toNat) && decide (b.toNat ≤ 122)
theorem az_has (b : UInt8) : az.data.toList.contains b = isAz b := by
  have h : ∀ n : Fin 256, az.data.toList.contains (UInt8.ofNat n.1) = isAz (UInt8.ofNat n.1) := by decide +kernel
  have := h ⟨b.toNat, b.toNat_lt⟩
  simpa using this

theorem dropWhile_head {α : Type} (p : α → Bool) : ∀ (l : List α) (x : α) (r : List α), l.dropWhile p = x :: r → p x = false
  | [], _, _, h => by cases h
  | a :: l, x, r, h => by
    rw [List.dropWhile_cons] at h
    cases hp : p a
    · rw [hp] at h
      simp at h
      rw [← h.1]; exact hp
    · rw [hp] at h
      exact dropWhile_head p l x r (by simpa using h)
theorem dropWhile_nil {α : Type} (p : α → Bool) : ∀ (l : List α), l.dropWhile p = [] ↔ ∀ x ∈ l, p x = true
  | [] => by simp
  | a :: l => by
    rw [List.dropWhile_cons]
    have ih := dropWhile_nil p l
    cases hp : p a
    · simp [hp]
    · simp [hp, ih]
theorem trim_nil (l cs : List UInt8) : (Lib.trimS l cs = []) ↔ l.all (fun b => cs.contains b) = true := by
  unfold Lib.trimS Lib.trimLeftS Lib.trimRightS
  constructor
  · intro h
    have h1 : ∀ x ∈ (l.reverse.dropWhile (cs.contains ·)).reverse, cs.contains x = true := (dropWhile_nil _ _).1 h
    rw [List.all_eq_true]
    cases hd : l.reverse.dropWhile (cs.contains ·) with
    | nil =>
      intro x hx
      exact (dropWhile_nil _ _).1 hd x (by simpa using hx)
    | cons x r =>
      exfalso
      have h2 := dropWhile_head _ _ _ _ hd
      have h3 := h1 x (by rw [hd]; simp)
      rw [h3] at h2; cases h2
  · intro h
    rw [List.all_eq_true] at h
    have : l.reverse.dropWhile (cs.contains ·) = [] := (dropWhile_nil _ _).2 fun x hx => h x (by simpa using hx)
    rw [this]; rfl

theorem name_run (s : ByteArray) (h : s.size ≤ 1048576) : p_spec_l07Name R s = ((s.data.toList.all isAz) && (decide (1 ≤ s.size) && decide (s.size ≤ 8))) ∧ r_spec_l07Name R s = true := by
  have hsz : s.data.toList.length = s.size := rfl
  have hb : ∀ i, i < s.size → ∃ b, s.data.toList[i]? = some b ∧ p_byteAt s (i : Int) = (b.toNat : Int) := fun i hi => by
    have h1 : i < s.data.toList.length := hi
    refine ⟨s.data.toList[i], List.getElem?_eq_getElem h1, ?_⟩
    unfold p_byteAt
    simp [Array.getElem?_eq_getElem (show i < s.data.size from hi), hi]
  have hr := runW_scan (n := s.size) (step := fun x => st_spec_l07Name_0 R x.1 x.2.1 x.2.2.1) (test := fun i => ((s.data.toList[i]?).map isAz).getD true) (mk := fun i => (s, (i : Int), false, ())) (oT := .inr (s, false, ())) (oF := fun _ => .inl (false, ()))
    (fun i hi => by
      simp only [st_spec_l07Name_0]
      rw [wrap_succ (by omega)]
      have a1 : decide ((i : Int) < (s.size : Int)) = true := dt (by omega)
      have a2 : decide (0 ≤ (i : Int)) = true := dt (by omega)
      obtain ⟨b, e1, e2⟩ := hb i hi
      rw [a1, a2, e1, e2]
      unfold isAz
      by_cases c1 : 97 ≤ b.toNat
      · rw [df (show ¬ (b.toNat : Int) < 97 by omega)]
        by_cases c2 : b.toNat ≤ 122
        · rw [df (show ¬ (b.toNat : Int) > 122 by omega)]
          simp only [Option.map_some, Option.getD_some, dt c1, dt c2]
          rfl
        · rw [dt (show (b.toNat : Int) > 122 by omega)]
          simp only [Option.map_some, Option.getD_some, dt c1, df c2]
          rfl
      · rw [dt (show (b.toNat : Int) < 97 by omega)]
        simp only [Option.map_some, Option.getD_some, df c1]
        rfl)
    (by
      simp only [st_spec_l07Name_0]
      have a1 : decide ((s.size : Int) < (s.size : Int)) = false := df (by omega)
      rw [a1]; rfl)
  have hc : c0_spec_l07Name R s = runW (fun x => st_spec_l07Name_0 R x.1 x.2.1 x.2.2.1) (s, ((0 : Nat) : Int), false, ()) := rfl
  unfold p_spec_l07Name r_spec_l07Name
  rcases hr with ⟨hall, hr⟩ | ⟨j, hj, ht, hr⟩
  · rw [hc, hr]
    refine ⟨?_, rfl⟩
    have : (s.data.toList.all isAz) = true := all_iff.1 fun i hi => by
      have := hall i hi
      rw [List.getElem?_eq_getElem hi] at this
      exact this
    rw [this]
    show (bif decide ((s.size : Int) ≥ 1) then decide ((s.size : Int) ≤ 8) else false) = _
    by_cases c1 : 1 ≤ s.size
    · rw [dt c1, dt (show (s.size : Int) ≥ 1 by omega)]
      by_cases c2 : s.size ≤ 8
      · rw [dt c2, dt (show (s.size : Int) ≤ 8 by omega)]; rfl
      · rw [df c2, df (show ¬ (s.size : Int) ≤ 8 by omega)]; rfl
    · rw [df c1, df (show ¬ (s.size : Int) ≥ 1 by omega)]; rfl
  · rw [hc, hr]
    refine ⟨?_, rfl⟩
    have : (s.data.toList.all isAz) = false := by
      rw [← Bool.not_eq_true]
      intro hall
      have h1 := all_iff.2 hall j hj
      rw [List.getElem?_eq_getElem (show j < s.data.toList.length from hj)] at ht
      have ht : isAz s.data.toList[j] = false := ht
      rw [h1] at ht; cases ht
    rw [this]; rfl

theorem isName_eq (s : ByteArray) (h : s.size ≤ 1048576) : p_impl_IsName R s = ((s.data.toList.all isAz) && (decide (1 ≤ s.size) && decide (s.size ≤ 8))) ∧ r_impl_IsName R s = true := by
  have hr : r_strings_Trim R s az = true := by
    unfold r_strings_Trim
    rw [dt (show s.size ≤ 1073741824 by omega)]
    decide +kernel
  have ht : ((p_strings_Trim R s az).toList == (ByteArray.mk #[]).toList) = s.data.toList.all isAz := by
    have hl : (p_strings_Trim R s az).toList = Lib.trimS s.data.toList az.data.toList := by
      rw [Lib.toList_data]; rfl
    have hn : (ByteArray.mk #[]).toList = [] := by rw [Lib.toList_data]
    have he : (s.data.toList.all fun b => az.data.toList.contains b) = s.data.toList.all isAz := by
      have : (fun b => az.data.toList.contains b) = isAz := funext az_has
      rw [this]
    rw [hl, hn, ← he]
    cases hv : (s.data.toList.all fun b => az.data.toList.contains b)
    · have : ¬ Lib.trimS s.data.toList az.data.toList = [] := fun hx => by
        rw [(trim_nil _ _).1 hx] at hv; cases hv
      simpa using this
    · rw [(trim_nil _ _).2 hv]; rfl
  have hw : p_impl_within R (s.size : Int) 1 8 = (decide (1 ≤ s.size) && decide (s.size ≤ 8)) := by
    unfold p_impl_within
    by_cases c1 : 1 ≤ s.size
    · rw [dt c1, dt (show (1 : Int) ≤ (s.size : Int) by omega)]
      by_cases c2 : s.size ≤ 8
      · rw [dt c2, dt (show (s.size : Int) ≤ 8 by omega)]; rfl
      · rw [df c2, df (show ¬ (s.size : Int) ≤ 8 by omega)]; rfl
    · rw [df c1, df (show ¬ (1 : Int) ≤ (s.size : Int) by omega)]; rfl
  unfold p_impl_IsName r_impl_IsName
  have e : ({ data := #[97, 98, 99, 100, 101, 102, 103, 104, 105, 106, 107, 108, 109, 110, 111, 112, 113, 114, 115, 116, 117, 118, 119, 120, 121, 122] } : ByteArray) = az := rfl
  rw [e, hr, ht, hw]
  cases (decide (1 ≤ s.size) && decide (s.size ≤ 8)) <;> cases s.data.toList.all isAz <;> exact ⟨rfl, rfl⟩

/-! ### steps of places -/
theorem floor_read {z : Nat} {s : Bool} {m : Nat} {e : Int} (hr : FloatKind.f64.format.read z = .number s m e) {K : Nat} (hK : K ≤ 2 ^ 53) (h : mg m e ≤ mg K 0) : ∃ m2 e2, FloatKind.f64.format.read (R.floor z) = .number s m2 e2 ∧ mg m2 e2 ≤ mg K 0 := by
  have hn : isNan .f64 z = false := nm_not_nan ⟨_, _, _, hr⟩
  have hf : R.floor z = FloatKind.f64.format.nearest s (Toward.down.cut s (m <<< e.toNat) (-e).toNat) 0 := by
    show ffloor .down z = _
    unfold ffloor
    rw [hn, decode_eq, hr]
    rw [if_neg (by decide)]
    unfold FloatKind.encode Datum.integral
    simp only [Format.write]
  rw [hf]
  have hc : Toward.down.cut s (m <<< e.toNat) (-e).toNat ≤ K := cut_down_le _ _ _ _ ((units_le _ _ _).1 h)
  exact nearest_le FloatKind.f64.format (exp3 .f64) s _ 0 K 0 (by rw [B64]; omega) (by decide) (top_of (by rw [B64]; omega) (by show (0 : Int) + 1 ≤ 971; omega)) (mg_le.2 hc)

theorem bd_mg {a : Nat} {E : Int} (h : Bd a E) : ∃ s m e, FloatKind.f64.format.read a = .number s m e ∧ mg m e ≤ p2 E := by
  obtain ⟨⟨s, m, e, hr⟩, h1, h2⟩ := h
  refine ⟨s, m, e, hr, ?_⟩
  unfold fv at h1 h2
  rw [hr] at h1 h2
  cases s
  · rw [vd_false] at h1; exact h1
  · rw [vd_true] at h2; grind

theorem bd_16m : Bd 4715268809856909312 24 := ⟨⟨_, _, _, rfl⟩, by decide +kernel, by decide +kernel⟩
theorem step_ok {a : Nat} (h : Bk .f32 a (-1)) : r_spec_l02Step R a = true := by
  have h1 : Bd (R.bin .add .f64 (R.bin .mul .f64 (R.wid a) 4715268809856909312) 4602678819172646912) 24 :=
    bd_add (E := 23) (bd_mul (E := -1) (F := 24) (bk_wid h) bd_16m (by decide) (by decide)) (bd_mono bd_half (by decide)) (by decide) (by decide)
  obtain ⟨s, m, e, hr, hm⟩ := bd_mg h1
  have e24 : p2 24 = mg 16777216 0 := by decide +kernel
  rw [e24] at hm
  obtain ⟨m2, e2, h2, h3⟩ := floor_read hr (by decide) hm
  have e52 : mg 16777216 0 ≤ p2 52 := by decide +kernel
  have h4 := (toi_nm h2 (Rat.le_trans h3 e52)).1
  unfold r_spec_l02Step c0_spec_l02Step
  show (R.toiOk .f64 (R.floor _) .i64 && true) = true
  rw [h4]; rfl

theorem steps_ok {a b : Nat} (h : p_impl_ValidPlace R a b = true) : r_spec_l02Step R a = true ∧ r_spec_l02Step R b = true := by
  obtain ⟨h1, h2, h3, h4, h5, h6⟩ := place_in h
  have e := p2_m1
  exact ⟨step_ok ⟨h1, by rw [e]; grind, by rw [e]; grind⟩, step_ok ⟨h4, by rw [e]; grind, by rw [e]; grind⟩⟩

theorem isPlace_eq (a b : Nat) : p_spec_l02Is R a b = p_impl_ValidPlace R a b := by
  unfold p_spec_l02Is p_impl_ValidPlace p_impl_inside
  cases R.cmp .geq .f32 a 3196059648 <;> cases R.cmp .leq .f32 a 1048576000 <;> rfl
theorem stepsOf_eq (a b : Nat) : p_impl_StepsOf R a b = p_spec_StepsOf R a b := by
  unfold p_impl_StepsOf p_spec_StepsOf
  rw [isPlace_eq]; rfl
theorem placeOfSteps_eq (a b : Int) : p_impl_PlaceOfSteps R a b = p_spec_PlaceOfSteps R a b := rfl
theorem rstepsOf (a b : Nat) : r_impl_StepsOf R a b = true ∧ r_spec_StepsOf R a b = true := by
  unfold r_impl_StepsOf r_spec_StepsOf
  rw [isPlace_eq]
  cases h : p_impl_ValidPlace R a b
  · exact ⟨rfl, rfl⟩
  · obtain ⟨h1, h2⟩ := steps_ok h
    have h3 : r_impl_stepOf R a = true := h1
    have h4 : r_impl_stepOf R b = true := h2
    rw [h1, h2, h3, h4]
    refine ⟨rfl, ?_⟩
    cases (c0_spec_StepsOf R a b == 8388608) <;> rfl
theorem rbits (x : Nat) : r_impl_BitsOf R x = true := by
  unfold r_impl_BitsOf
  rw [cmp_neq]
  cases R.cmp .eql .f32 x x <;> rfl
theorem samePlace_ok (a b c d : Nat) : r_impl_SamePlace R a b c d = true ∧ r_spec_l02Same R c d a b = true ∧ p_impl_SamePlace R a b c d = p_spec_l02Same R c d a b := by
  have hs : ∀ x : Nat, r_spec_l01Bits R x = true := fun x => rbits x
  have hp : ∀ x : Nat, p_spec_l01Bits R x = p_impl_BitsOf R x := fun x => rfl
  unfold r_impl_SamePlace r_spec_l02Same p_impl_SamePlace p_spec_l02Same r_impl_SameNumber r_spec_l01Same p_impl_SameNumber p_spec_l01Same
  simp only [rbits, hs, hp]
  have hc : ∀ x y : Int, (x == y) = (y == x) := fun x y => by
    by_cases h : x = y
    · subst h; rfl
    · have h' : ¬ y = x := fun e => h e.symm
      rw [beq_eq_false_iff_ne.2 h, beq_eq_false_iff_ne.2 h']
  rw [hc (p_impl_BitsOf R c), hc (p_impl_BitsOf R d)]
  cases (p_impl_BitsOf R a == p_impl_BitsOf R c) <;> exact ⟨rfl, rfl, rfl⟩

theorem isPacked_ok (a b : Nat) : r_impl_isPacked R a b = true := by
  unfold r_impl_isPacked
  rw [(rstepsOf a b).1, (samePlace_ok _ _ _ _).1]
  cases (c0_impl_isPacked R a b).snd.snd <;> cases (c1_impl_isPacked R a b).snd.snd <;> rfl

theorem packed_run (l : List (Nat × Nat)) (h : l.length ≤ 1048576) (hv : ∀ i, i < l.length → p_impl_ValidPlace R (l.getD i (0, 0)).1 (l.getD i (0, 0)).2 = true) :
    ∃ t : Bool, c0_spec_l07Packed R l = some (bif t then .inr (false, ()) else .inl (false, ())) ∧ (t = true ↔ ∀ i, i < l.length → p_impl_isPacked R (l.getD i (0, 0)).1 (l.getD i (0, 0)).2 = true) := by
  have hr := runW_scan (n := l.length) (step := fun x => st_spec_l07Packed_0 R x.1 x.2.1 x.2.2.1 x.2.2.2.1) (test := fun i => p_impl_isPacked R (l.getD i (0, 0)).1 (l.getD i (0, 0)).2) (mk := fun i => (l, (l.length : Int), (i : Int), false, ())) (oT := .inr (false, ())) (oF := fun _ => .inl (false, ()))
    (fun i hi => by
      simp only [st_spec_l07Packed_0]
      rw [wrap_succ (by omega)]
      have a1 : decide ((i : Int) < (l.length : Int)) = true := dt (by omega)
      have a2 : decide (0 ≤ (i : Int)) = true := dt (by omega)
      have hg : l.getD ((i : Int)).toNat (0, 0) = l.getD i (0, 0) := rfl
      rw [a1, a2, hg]
      have hvi := hv i hi
      generalize l.getD i (0, 0) = p at hvi ⊢
      obtain ⟨a, b⟩ := p
      simp only at hvi ⊢
      have hone : (p_spec_StepsOf R a b).snd.snd = true := by
        unfold p_spec_StepsOf
        rw [isPlace_eq, hvi]
        cases (c0_spec_StepsOf R a b == 8388608) <;> rfl
      rw [(rstepsOf a b).2, (samePlace_ok _ _ _ _).2.1, ← (samePlace_ok _ _ _ _).2.2]
      unfold p_impl_isPacked c1_impl_isPacked c0_impl_isPacked
      rw [stepsOf_eq, placeOfSteps_eq, hone]
      cases (p_spec_PlaceOfSteps R (p_spec_StepsOf R a b).fst (p_spec_StepsOf R a b).snd.fst).snd.snd
      · rfl
      · cases p_impl_SamePlace R a b (p_spec_PlaceOfSteps R (p_spec_StepsOf R a b).fst (p_spec_StepsOf R a b).snd.fst).fst (p_spec_PlaceOfSteps R (p_spec_StepsOf R a b).fst (p_spec_StepsOf R a b).snd.fst).snd.fst <;> rfl)
    (by
      simp only [st_spec_l07Packed_0]
      have a1 : decide ((l.length : Int) < (l.length : Int)) = false := df (by omega)
      rw [a1]; rfl)
  have hc : c0_spec_l07Packed R l = runW (fun x => st_spec_l07Packed_0 R x.1 x.2.1 x.2.2.1 x.2.2.2.1) (l, (l.length : Int), ((0 : Nat) : Int), false, ()) := rfl
  rcases hr with ⟨hall, hr⟩ | ⟨j, hj, ht, hr⟩
  · exact ⟨true, by rw [hc, hr]; rfl, fun _ => hall, fun _ => rfl⟩
  · exact ⟨false, by rw [hc, hr]; rfl, (fun h => nomatch h), fun h => by rw [h j hj] at ht; cases ht⟩

theorem areAll_run (l : List (Nat × Nat)) (h : l.length ≤ 1048576) :
    ∃ t : Bool, p_impl_areAll_impl_Place R l = t ∧ r_impl_areAll_impl_Place R l = true ∧ (t = true ↔ ∀ i, i < l.length → p_impl_isPacked R (l.getD i (0, 0)).1 (l.getD i (0, 0)).2 = true) := by
  have hr := runW_scan (n := l.length) (step := fun x => st_slices_IndexFunc_impl_Place_impl_Place_k_0 R x.1 x.2.2.1 x.2.2.2.1 x.2.2.2.2.1) (test := fun i => p_impl_isPacked R (l.getD i (0, 0)).1 (l.getD i (0, 0)).2) (mk := fun i => (l, ((), ()), (l.length : Int), (i : Int), 0, ())) (oT := .inr (0, ())) (oF := fun i => .inl ((i : Int), ()))
    (fun i hi => by
      simp only [st_slices_IndexFunc_impl_Place_impl_Place_k_0]
      rw [wrap_succ (by omega)]
      have a1 : decide ((i : Int) < (l.length : Int)) = true := dt (by omega)
      have a2 : decide (0 ≤ (i : Int)) = true := dt (by omega)
      have hg : l.getD ((i : Int)).toNat (0, 0) = l.getD i (0, 0) := rfl
      rw [a1, a2, hg]
      unfold r_impl_areAll_impl_Place_1 p_impl_areAll_impl_Place_1
      rw [isPacked_ok]
      cases p_impl_isPacked R (l.getD i (0, 0)).1 (l.getD i (0, 0)).2 <;> rfl)
    (by
      simp only [st_slices_IndexFunc_impl_Place_impl_Place_k_0]
      have a1 : decide ((l.length : Int) < (l.length : Int)) = false := df (by omega)
      rw [a1]; rfl)
  have hc : c0_slices_IndexFunc_impl_Place_impl_Place_k R l = runW (fun x => st_slices_IndexFunc_impl_Place_impl_Place_k_0 R x.1 x.2.2.1 x.2.2.2.1 x.2.2.2.2.1) (l, ((), ()), (l.length : Int), ((0 : Nat) : Int), 0, ()) := rfl
  unfold p_impl_areAll_impl_Place r_impl_areAll_impl_Place p_slices_ContainsFunc_impl_Place_impl_Place_k r_slices_ContainsFunc_impl_Place_impl_Place_k c0_slices_ContainsFunc_impl_Place_impl_Place_k p_slices_IndexFunc_impl_Place_impl_Place_k r_slices_IndexFunc_impl_Place_impl_Place_k
  rcases hr with ⟨hall, hr⟩ | ⟨j, hj, ht, hr⟩
  · exact ⟨true, by rw [hc, hr]; rfl, by rw [hc, hr]; rfl, fun _ => hall, fun _ => rfl⟩
  · refine ⟨false, ?_, by rw [hc, hr]; rfl, (fun h => nomatch h), fun h => by rw [h j hj] at ht; cases ht⟩
    rw [hc, hr]
    show (!decide ((j : Int) ≥ 0)) = false
    rw [dt (show (j : Int) ≥ 0 by omega)]; rfl

theorem packed_eq (l : List (Nat × Nat)) (h : l.length ≤ 1048576) : p_impl_ArePacked R l = p_spec_l07Packed R l ∧ r_impl_ArePacked R l = true ∧ r_spec_l07Packed R l = true := by
  unfold p_impl_ArePacked p_spec_l07Packed r_impl_ArePacked r_spec_l07Packed
  rw [dt (show l.length < 4611686018427387904 by omega)]
  cases hv : ((l.all fun x => p_impl_ValidPlace R x.fst x.snd) && (decide (1 ≤ l.length) && decide (l.length ≤ 64)))
  · exact ⟨rfl, rfl, rfl⟩
  · have hv1 : (l.all fun x => p_impl_ValidPlace R x.fst x.snd) = true := by
      simp only [Bool.and_eq_true] at hv; exact hv.1
    have hvi : ∀ i, i < l.length → p_impl_ValidPlace R (l.getD i (0, 0)).1 (l.getD i (0, 0)).2 = true := fun i hi => by
      rw [getD_lt hi]; exact all_iff.2 hv1 i hi
    obtain ⟨t, h1, h2⟩ := packed_run l h hvi
    obtain ⟨u, h3, h4, h5⟩ := areAll_run l h
    have e : u = t := by
      cases u <;> cases t
      · rfl
      · exact absurd (h5.2 (h2.1 rfl)) (by decide)
      · exact absurd (h2.2 (h5.1 rfl)) (by decide)
      · rfl
    subst e
    rw [h1, h3, h4]
    cases u <;> exact ⟨rfl, rfl, rfl⟩

theorem validTrack_eq (s : ByteArray) (l : List (Nat × Nat)) (hs : s.size ≤ 1048576) (h : l.length ≤ 1048576) : p_impl_ValidTrack R s l = p_spec_ValidTrack R s l ∧ r_impl_ValidTrack R s l = true ∧ r_spec_ValidTrack R s l = true := by
  obtain ⟨n1, n2⟩ := name_run s hs
  obtain ⟨m1, m2⟩ := isName_eq s hs
  obtain ⟨p1, p2, p3⟩ := packed_eq l h
  unfold p_impl_ValidTrack p_spec_ValidTrack p_spec_l07Track r_impl_ValidTrack r_spec_ValidTrack r_spec_l07Track
  rw [n1, m1, n2, m2, p1, p2, p3]
  cases (s.data.toList.all isAz && (decide (1 ≤ s.size) && decide (s.size ≤ 8))) <;> exact ⟨rfl, rfl, rfl⟩

end Go.Dv
