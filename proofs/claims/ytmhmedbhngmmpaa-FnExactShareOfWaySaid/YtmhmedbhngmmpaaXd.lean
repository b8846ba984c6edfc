/- The contracts of truths about lists over this translation. -/
import Derived.Test.YtmhmedbhngmmpaaNc
import Derived.Test.YtmhmedbhngmmpaaXb
import Derived.Test.YtmhmedbhngmmpaaXr
import Derived.Test.YtmhmedbhngmmpaaXe
namespace Go.Proofs.Ytmhmedbhngmmpaa
open Go Go.Cv

theorem ok_spec_l01SineWide : OkFn Try.prog 108 (S_spec_l01SineWide R) := ok_spec_l01SineWide_of rr_spec_l01SineWide
theorem st3 {s : St} {a b c : Nat} {x y z : CV} (h1 : s.tm a = x) (h2 : s.tm b = y) (h3 : s.tm c = z) :
    s = ⟨upd (upd (upd s.tm (some a) x) (some b) y) (some c) z, s.hp, s.nx⟩ := by
  rw [upd_self s.tm a h1, upd_self s.tm b h2, upd_self s.tm c h3]

noncomputable def lbAreFinite (M : FOps) (n : Nat) : (Exit → St → Tr) → St → Tr := fun K s => cwp M Try.prog (envOf [(77, S_impl_IsFinite M)]) (n + 1) ((loopsOf (Try.f56.body.getD .skip)).getD 0 .skip) K s
noncomputable def lkAreFinite (M : FOps) (n : Nat) : Exit → St → Tr := blockK 0 (seqK (cwp M Try.prog (envOf [(77, S_impl_IsFinite M)]) (n + 1) ((afterLoop (Try.f56.body.getD .skip)).getD 0 .skip) (retK Try.prog Try.f56.results.toList)) (retK Try.prog Try.f56.results.toList))
theorem areFinite_loop (M : FOps) (n : Nat) (g : Nat → Nat) (hn : n < 2 ^ 62) (s : St) (h1 : s.tm 5 = .one (.s (.sl n 1 (fun j => .fl .f32 (g j))))) (h2 : s.tm 6 = exI n) (h3 : s.tm 7 = exI 0) :
    cloop (lbAreFinite M n) (n + 1) (lkAreFinite M n) s = some (exB ((List.range' 0 n).all fun j => p_impl_IsFinite M (g j))) := by
  refine loop_rule (N := n) (fun i => some (exB ((List.range' i (n - i)).all fun j => p_impl_IsFinite M (g j))))
    (fun i s => s.tm 5 = .one (.s (.sl n 1 (fun j => .fl .f32 (g j)))) ∧ s.tm 6 = exI n ∧ s.tm 7 = exI i) ?_ ?_ (n + 1) 0 s (by omega) (by omega) ⟨h1, h2, h3⟩
  · intro i hi s hs Kn hKn
    obtain ⟨h1, h2, h3⟩ := hs
    rw [st3 h1 h2 h3]
    unfold lbAreFinite
    rw [rd_impl_areFinite_0]
    rw [brT_true (by simp; omega), brT_true (by simp; omega), brT_true (by simp; omega)]
    have e1 : (i : Int).toNat * 1 + 0 = i := by simp
    have e2 : n - i = (n - (i + 1)) + 1 := by omega
    rw [e2, List.range'_succ, List.all_cons, e1]
    cases hp : p_impl_IsFinite M (g i)
    · exact Eq.trans (b := some (exB false)) (by kernel_rfl) rfl
    · refine Eq.trans (hKn _ ⟨rfl, rfl, ?_⟩) rfl
      show exI (IntKind.i64.wrap ((i : Int) + 1)) = _
      rw [wrapI64 hi hn]
  · intro s hs Kn
    obtain ⟨h1, h2, h3⟩ := hs
    rw [st3 h1 h2 h3]
    unfold lbAreFinite
    rw [rd_impl_areFinite_0]
    rw [brT_false (by simp)]
    rw [Nat.sub_self]
    exact Eq.trans (b := some (exB true)) (by kernel_rfl) rfl

theorem e_impl_areFinite (M : FOps) (n : Nat) (g : Nat → Nat) (hn : n < 2 ^ 62) :
    cwp M Try.prog (envOf [(77, S_impl_IsFinite M)]) (n + 1) (Try.f56.body.getD .skip) (retK Try.prog Try.f56.results.toList) (initSt [.s (.sl n 1 (fun j => .fl .f32 (g j)))]) = some (exB ((List.range' 0 n).all fun j => p_impl_IsFinite M (g j))) := by
  refine Eq.trans (b := cloop (lbAreFinite M n) (n + 1) (lkAreFinite M n) ⟨upd (upd (upd (upd (initSt [.s (.sl n 1 (fun j => .fl .f32 (g j)))]).tm (some 2) (exB false)) (some 5) (.one (.s (.sl n 1 (fun j => .fl .f32 (g j)))))) (some 6) (exI n)) (some 7) (exI 0), fun _ _ => none, 0⟩) (by kernel_rfl) (areFinite_loop M n g hn _ rfl rfl rfl)

theorem allF_get {n : Nat} {f : Nat → CS} (h : allF n f = true) : ∀ i, i < n → CS.fl .f32 (flOf (f i)) = f i ∧ Lift (f i) := by
  intro i hi
  unfold allF at h
  have := List.all_eq_true.1 h i (by simpa using hi)
  cases hf : f i with
  | fl k x => rw [hf] at this; cases k with
    | f32 => exact ⟨rfl, lift_fl _ _⟩
    | f64 => cases this
  | _ => rw [hf] at this; cases this

theorem ok_impl_areFinite : OkFn Try.prog 56 (S_impl_areFinite R) := by
  refine okFn_of_cwp (good_cons ok_impl_IsFinite good_nil) follows Try.func56 rfl (by decide) (by decide) ?_
  intro hp args cv deps h
  unfold S_impl_areFinite at h
  split at h
  · rename_i n f
    simp only [Option.some.injEq, Prod.mk.injEq, Bool.and_eq_true, decide_eq_true_eq] at h
    obtain ⟨⟨hn, ha⟩, rfl, rfl⟩ := h
    refine ⟨rfl, (fun d hd => nomatch hd), Nat.le_of_ble_eq_true rfl, [.s (.sl n 1 (fun j => .fl .f32 (flOf (f j))))], n + 1, ⟨view_sl (fun i hi => allF_get ha i (by omega)), trivial⟩, ?_⟩
    refine Eq.trans (e_impl_areFinite R n _ hn) ?_
    rw [finsB, List.range_eq_range']
  · cases h

theorem st4 {s : St} {a b c d : Nat} {x y z u : CV} (h1 : s.tm a = x) (h2 : s.tm b = y) (h3 : s.tm c = z) (h4 : s.tm d = u) :
    s = ⟨upd (upd (upd (upd s.tm (some a) x) (some b) y) (some c) z) (some d) u, s.hp, s.nx⟩ := by
  rw [upd_self s.tm a h1, upd_self s.tm b h2, upd_self s.tm c h3, upd_self s.tm d h4]

/-- the first one of a list that is told, or -1 -/
def findI (p : Nat → Bool) : Nat → Nat → Int
  | 0, _ => -1
  | k + 1, i => bif p i then i else findI p k (i + 1)
theorem findI_ge (p : Nat → Bool) : ∀ k i, decide (findI p k i ≥ 0) = (List.range' i k).any p := by
  intro k
  induction k with
  | zero => intro i; rfl
  | succ k ih =>
    intro i
    rw [List.range'_succ, List.any_cons, findI]
    cases hp : p i
    · rw [cond_false, ih]; rfl
    · rw [cond_true]; simp

/-- a place of a list is none -/
def badAt (M : FOps) (g : Nat → Nat) (j : Nat) : Bool := p_impl_areValid_1 M (g (j * 2)) (g (j * 2 + 1))
noncomputable def lbIndexFunc (M : FOps) (n : Nat) : (Exit → St → Tr) → St → Tr := fun K s => cwp M Try.prog (envOf [(88, S_impl_areValid_1 M)]) (n + 1) ((loopsOf (Try.f109.body.getD .skip)).getD 0 .skip) K s
noncomputable def lkIndexFunc (M : FOps) (n : Nat) : Exit → St → Tr := blockK 0 (seqK (cwp M Try.prog (envOf [(88, S_impl_areValid_1 M)]) (n + 1) ((afterLoop (Try.f109.body.getD .skip)).getD 0 .skip) (retK Try.prog Try.f109.results.toList)) (retK Try.prog Try.f109.results.toList))
theorem indexFunc_loop (M : FOps) (n : Nat) (g : Nat → Nat) (c : Nat → CS) (hn : n < 2 ^ 62) (s : St) (h0 : s.tm 0 = .one (.s (.sl n 2 (fun j => .fl .f32 (g j))))) (h1 : s.tm 1 = .one (.s (.fn (.func 88) 0 c))) (h2 : s.tm 7 = exI n) (h3 : s.tm 8 = exI 0) :
    cloop (lbIndexFunc M n) (n + 1) (lkIndexFunc M n) s = some (exI (findI (badAt M g) n 0)) := by
  refine loop_rule (N := n) (fun i => some (exI (findI (badAt M g) (n - i) i)))
    (fun i s => s.tm 0 = .one (.s (.sl n 2 (fun j => .fl .f32 (g j)))) ∧ s.tm 1 = .one (.s (.fn (.func 88) 0 c)) ∧ s.tm 7 = exI n ∧ s.tm 8 = exI i) ?_ ?_ (n + 1) 0 s (by omega) (by omega) ⟨h0, h1, h2, h3⟩
  · intro i hi s hs Kn hKn
    obtain ⟨h0, h1, h2, h3⟩ := hs
    rw [st4 h0 h1 h2 h3]
    unfold lbIndexFunc
    rw [rd_slices_IndexFunc_0]
    have e1 : (i : Int).toNat * 2 + 0 = i * 2 := by simp
    have e3 : (i : Int).toNat * 2 + 1 = i * 2 + 1 := by simp
    rw [brT_true (by simp; omega), brT_true (by simp; omega), brT_true (by simp; omega)]
    have e2 : n - i = (n - (i + 1)) + 1 := by omega
    rw [e2, findI, e1, e3]
    unfold badAt
    cases hp : p_impl_areValid_1 M (g (i * 2)) (g (i * 2 + 1))
    · refine Eq.trans (hKn _ ⟨rfl, rfl, rfl, ?_⟩) rfl
      show exI (IntKind.i64.wrap ((i : Int) + 1)) = _
      rw [wrapI64 hi hn]
    · exact Eq.trans (b := some (exI i)) (by kernel_rfl) rfl
  · intro s hs Kn
    obtain ⟨h0, h1, h2, h3⟩ := hs
    rw [st4 h0 h1 h2 h3]
    unfold lbIndexFunc
    rw [rd_slices_IndexFunc_0]
    rw [brT_false (by simp)]
    rw [Nat.sub_self]
    exact Eq.trans (b := some (exI (-1))) (by kernel_rfl) rfl

theorem e_slices_IndexFunc (M : FOps) (n : Nat) (g : Nat → Nat) (c : Nat → CS) (hn : n < 2 ^ 62) :
    cwp M Try.prog (envOf [(88, S_impl_areValid_1 M)]) (n + 1) (Try.f109.body.getD .skip) (retK Try.prog Try.f109.results.toList) (initSt [.s (.sl n 2 (fun j => .fl .f32 (g j))), .s (.fn (.func 88) 0 c)]) = some (exI (findI (badAt M g) n 0)) := by
  refine Eq.trans (b := cloop (lbIndexFunc M n) (n + 1) (lkIndexFunc M n) ⟨upd (upd (upd (upd (initSt [.s (.sl n 2 (fun j => .fl .f32 (g j))), .s (.fn (.func 88) 0 c)]).tm (some 4) (exI 0)) (some 6) (.one (.s (.sl n 2 (fun j => .fl .f32 (g j)))))) (some 7) (exI n)) (some 8) (exI 0), fun _ _ => none, 0⟩) (by kernel_rfl) (indexFunc_loop M n g c hn _ rfl rfl rfl rfl)

def S_slices_IndexFunc (M : FOps) : FSpec := fun _ args => match args with
  | [.s (.sl n 2 f), .s (.fn (.func k) 0 _)] => some (Nat.beq k 88 && (decide (n < 2 ^ 62) && allF (2 * n) f), exI (findI (badAt M (fun j => flOf (f j))) n 0), [])
  | _ => none

theorem ok_slices_IndexFunc : OkFn Try.prog 109 (S_slices_IndexFunc R) := by
  refine okFn_of_cwp (good_cons ok_impl_areValid_1 good_nil) follows Try.func109 rfl (by decide) (by decide) ?_
  intro hp args cv deps h
  unfold S_slices_IndexFunc at h
  split at h
  · rename_i n f k c
    simp only [Option.some.injEq, Prod.mk.injEq, Bool.and_eq_true, decide_eq_true_eq] at h
    obtain ⟨⟨hk, hn, ha⟩, rfl, rfl⟩ := h
    have hk := Nat.eq_of_beq_eq_true hk
    subst hk
    refine ⟨rfl, (fun d hd => nomatch hd), Nat.le_of_ble_eq_true rfl, [.s (.sl n 2 (fun j => .fl .f32 (flOf (f j)))), .s (.fn (.func 88) 0 c)], n + 1, ⟨view_sl (fun i hi => allF_get ha i (by omega)), ?_, trivial⟩, ?_⟩
    · exact .inl ⟨rfl, lift_fn (fun j hj => by omega)⟩
    · exact e_slices_IndexFunc R n _ c hn
  · cases h

def S_slices_ContainsFunc (M : FOps) : FSpec := fun _ args => match args with
  | [.s (.sl n 2 f), .s (.fn (.func k) 0 _)] => some (Nat.beq k 88 && (decide (n < 2 ^ 62) && allF (2 * n) f), exB (decide (findI (badAt M (fun j => flOf (f j))) n 0 ≥ 0)), [])
  | _ => none

set_option maxRecDepth 100000 in
theorem e_slices_ContainsFunc (M : FOps) (n : Nat) (f : Nat → CS) (k : Nat) (c : Nat → CS) (h : (Nat.beq k 88 && (decide (n < 2 ^ 62) && allF (2 * n) f)) = true) :
    cwp M Try.prog (envOf [(109, S_slices_IndexFunc M)]) 1 (Try.f87.body.getD .skip) (retK Try.prog Try.f87.results.toList) (initSt [.s (.sl n 2 f), .s (.fn (.func k) 0 c)]) = some (exB (decide (findI (badAt M (fun j => flOf (f j))) n 0 ≥ 0))) :=
  Eq.trans (b := brT (Nat.beq k 88 && (decide (n < 2 ^ 62) && allF (2 * n) f)) (some (exB (decide (findI (badAt M (fun j => flOf (f j))) n 0 ≥ 0)))) none) (by kernel_rfl) (brT_true h)

theorem ok_slices_ContainsFunc : OkFn Try.prog 87 (S_slices_ContainsFunc R) := by
  refine okFn_of_cwp (good_cons ok_slices_IndexFunc good_nil) follows Try.func87 rfl (by decide) (by decide) ?_
  intro hp args cv deps h
  unfold S_slices_ContainsFunc at h
  split at h
  · rename_i n f k c
    simp only [Option.some.injEq, Prod.mk.injEq] at h
    obtain ⟨hk, rfl, rfl⟩ := h
    have ha : allF (2 * n) f = true := by simp only [Bool.and_eq_true] at hk; exact hk.2.2
    exact ⟨rfl, (fun d hd => nomatch hd), Nat.le_of_ble_eq_true rfl, [.s (.sl n 2 f), .s (.fn (.func k) 0 c)], 1, ⟨.inl ⟨rfl, lift_sl (fun j hj => (allF_get ha j (by omega)).2)⟩, .inl ⟨rfl, lift_fn (fun j hj => by omega)⟩, trivial⟩, e_slices_ContainsFunc R n f k c hk⟩
  · cases h

theorem valids_of (M : FOps) (n : Nat) (f : Nat → CS) : (!decide (findI (badAt M (fun j => flOf (f j))) n 0 ≥ 0)) = validsB M n f := by
  rw [findI_ge, validsB, List.range_eq_range']
  generalize List.range' 0 n = l
  induction l with
  | nil => rfl
  | cons x xs ih =>
    rw [List.any_cons, List.all_cons, ← ih, Bool.not_or]
    have : (!badAt M (fun j => flOf (f j)) x) = p_impl_ValidPlace M (flOf (f (2 * x))) (flOf (f (2 * x + 1))) := by
      unfold badAt p_impl_areValid_1
      rw [Bool.not_not, Nat.mul_comm]
    rw [this]

set_option maxRecDepth 100000 in
theorem e_impl_areValid (M : FOps) (n : Nat) (f : Nat → CS) (h : (decide (n < 2 ^ 62) && allF (2 * n) f) = true) :
    cwp M Try.prog (envOf [(87, S_slices_ContainsFunc M)]) 1 (Try.f46.body.getD .skip) (retK Try.prog Try.f46.results.toList) (initSt [.s (.sl n 2 f)]) = some (exB (!decide (findI (badAt M (fun j => flOf (f j))) n 0 ≥ 0))) :=
  Eq.trans (b := brT (decide (n < 2 ^ 62) && allF (2 * n) f) (some (exB (!decide (findI (badAt M (fun j => flOf (f j))) n 0 ≥ 0)))) none) (by kernel_rfl) (brT_true h)

theorem ok_impl_areValid : OkFn Try.prog 46 (S_impl_areValid R) := by
  refine okFn_of_cwp (good_cons ok_slices_ContainsFunc good_nil) follows Try.func46 rfl (by decide) (by decide) ?_
  intro hp args cv deps h
  unfold S_impl_areValid at h
  split at h
  · rename_i n f
    simp only [Option.some.injEq, Prod.mk.injEq] at h
    obtain ⟨hk, rfl, rfl⟩ := h
    have ha : allF (2 * n) f = true := by simp only [Bool.and_eq_true] at hk; exact hk.2
    refine ⟨rfl, (fun d hd => nomatch hd), Nat.le_of_ble_eq_true rfl, [.s (.sl n 2 f)], 1, ⟨.inl ⟨rfl, lift_sl (fun j hj => (allF_get ha j (by omega)).2)⟩, trivial⟩, ?_⟩
    rw [← valids_of]
    exact e_impl_areValid R n f hk
  · cases h

theorem ok_impl_AngleTurns : OkFn Try.prog 70 (S_impl_AngleTurns R) := by
  refine okFn_of_cwp (good_cons ok_impl_areFinite (good_cons ok_math_NaN (good_cons ok_Abs (good_cons ok_math_Sqrt good_nil)))) follows Try.func70 rfl (by decide) (by decide) ?_
  intro hp args cv deps h
  unfold S_impl_AngleTurns at h
  split at h
  · cases h
    exact ⟨rfl, (fun d hd => nomatch hd), Nat.le_of_ble_eq_true rfl, _, 20, view_plain rfl, e_impl_AngleTurns R _ _ (rr_impl_AngleTurns _ _)⟩
  · cases h
end Go.Proofs.Ytmhmedbhngmmpaa
