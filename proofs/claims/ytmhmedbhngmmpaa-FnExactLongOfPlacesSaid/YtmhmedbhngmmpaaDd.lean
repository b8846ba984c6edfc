/- The model's operations do what 'cop' says (part 1): numbers, loads, stores, structs. -/
import Derived.Test.YtmhmedbhngmmpaaDc
namespace Go.Dv
open Go.RowKit Go.Cv

section
variable {P : Program} {α : Type}

theorem wp_of_run {o : Oper} {a : Act} {w w' : World} {v : Value} {K : Act → World → Prop} {Q : Exit → Act → World → Prop}
    (h : (execOp a.eval o).run P w = .ok (.value v) w') (hk : K (a.put o.dst v) w') : o.wp P a w K Q := by
  unfold Oper.wp; rw [h]; exact hk

theorem wp_of_skip {o : Oper} {a : Act} {w w' : World} {K : Act → World → Prop} {Q : Exit → Act → World → Prop}
    (h : (execOp a.eval o).run P w = .ok .skip w') (hk : K (a.put o.dst undef) w') : o.wp P a w K Q := by
  unfold Oper.wp; rw [h]; exact hk

/-- an operation that only computes -/
theorem val_of_run {o : Oper} {s : St} {cv : CV}
    (h : ∀ g w (a : Act), (∀ x ∈ o.op.operands.toList, relV g (s.ev x) (a.eval x)) → ∃ v n, (execOp a.eval o).run P w = .ok (.value v) (w.drewN n) ∧ relV g cv v) :
    EffOk P o s (.val cv []) := by
  refine ⟨(fun _ h => by cases h), fun X g w0 w a K Q hx _ hw _ hk => ?_⟩
  obtain ⟨v, n, hr, hv⟩ := h g w a hx
  exact wp_of_run hr (hk v g _ (After.drewN hw n) hv)

theorem cbin_sound {op : BinOp} {T : TypeId} {x y : CV} {K : Eff → Tr α} {rv : α} (h : cbin R P op T x y K = some rv) :
    ∃ cv, K (.val cv []) = some rv ∧ ∀ g (w : World) xo yo u v, relV g x u → relV g y v → ∃ r n, (eqGuard op T xo yo u v) = pure () ∧ (binOp op T u v).run P w = .ok r (w.drewN n) ∧ relV g cv r := by
  unfold cbin at h
  split at h
  · rename_i k a k' b
    have hbr := brT_req h; clear h; obtain ⟨hk, h⟩ := hbr
    obtain rfl := eqK_spec hk
    split at h
    · rename_i ha
      refine ⟨_, h, fun g w xo yo u v hu hv => ?_⟩
      obtain ⟨m, rfl, rfl, hm⟩ := hu
      obtain ⟨m', rfl, rfl, hm'⟩ := hv
      obtain ⟨r, n, hr, hc, hl⟩ := run_float_bin (P := P) w ha T k m m'
      exact ⟨_, n, eqGuard_at_float .., hr, r, rfl, hc, hl⟩
    · split at h
      · rename_i hcm
        refine ⟨_, h, fun g w xo yo u v hu hv => ?_⟩
        obtain ⟨m, rfl, rfl, hm⟩ := hu
        obtain ⟨m', rfl, rfl, hm'⟩ := hv
        have : ∃ t, fcmp op k (cn k m) (cn k m') = some t := by cases op <;> first | (cases hcm; done) | exact ⟨_, rfl⟩
        obtain ⟨t, ht⟩ := this
        refine ⟨_, 0, eqGuard_at_float .., run_float_cmp w T k m m' ht, ?_⟩
        show _ = Value.bool ((fcmp op k (cn k m) (cn k m')).getD false)
        rw [ht]; rfl
      · cases h
  · rename_i k a k' b
    have fin : ∀ t, K (.val (ex t) []) = some rv → (∀ w : World, (binOp op T (.int k a) (.int k' b)).run P w = .ok t w) → ∃ cv, K (.val cv []) = some rv ∧ ∀ g (w : World) xo yo u v, relV g (.one (.s (.v (.int k a)))) u → relV g (.one (.s (.v (.int k' b)))) v → ∃ r n, (eqGuard op T xo yo u v) = pure () ∧ (binOp op T u v).run P w = .ok r (w.drewN n) ∧ relV g cv r := fun t h1 h2 => by
      refine ⟨_, h1, fun g w xo yo u v hu hv => ?_⟩
      obtain rfl : u = _ := hu
      obtain rfl : v = _ := hv
      exact ⟨t, 0, eqGuard_at_int .., h2 w, rfl⟩
    split at h
    · rename_i hsh
      cases op <;> first | (cases hsh; done) | skip
      · have hbr := brT_req h; clear h; obtain ⟨hk, h⟩ := hbr
        simp only [Bool.and_eq_true, decide_eq_true_eq] at hk
        refine fin _ h fun w => ?_
        rw [binOp_shl, shift_shl k k' a b hk.1 hk.2]; rfl
      · have hbr := brT_req h; clear h; obtain ⟨hk, h⟩ := hbr
        simp only [Bool.and_eq_true, decide_eq_true_eq] at hk
        refine fin _ h fun w => ?_
        rw [binOp_shr, shift_shr k k' a b hk.1 hk.2]; rfl
    · have hbr := brT_req h; clear h; obtain ⟨hk, h⟩ := hbr
      obtain rfl := eqI_spec hk
      cases op <;> simp only [intBin] at h <;> first
        | (cases h; done)
        | (refine fin _ h fun w => ?_; rw [binOp_and]; rfl)
        | (refine fin _ h fun w => ?_; rw [binOp_or]; rfl)
        | (refine fin _ h fun w => ?_; rw [binOp_xor]; rfl)
        | (refine fin _ h fun w => ?_; rw [binOp_andNot]; rfl)
        | (refine fin _ h fun w => ?_; simp [binOp, Op.intArith, Op.intCmp]; done)
        | skip
      · cases hb : (b == 0)
        · rw [hb] at h
          have hb' : b ≠ 0 := by simpa using hb
          exact fin _ h fun w => by simp [binOp, Op.intDiv, hb']
        · rw [hb] at h; cases h
      · cases hb : (b == 0)
        · rw [hb] at h
          have hb' : b ≠ 0 := by simpa using hb
          exact fin _ h fun w => by simp [binOp, Op.intDiv, hb']
        · rw [hb] at h; cases h
  · rename_i a b
    have hbr := brT_req h; clear h; obtain ⟨hT, h⟩ := hbr
    have hT' : P.underlying T = some .bool := by
      unfold tyBool at hT
      split at hT
      · assumption
      · cases hT
    have fin : ∀ t, K (.val (ex t) []) = some rv → (∀ w : World, (binOp op T (.bool a) (.bool b)).run P w = .ok t w) → ∃ cv, K (.val cv []) = some rv ∧ ∀ g (w : World) xo yo u v, relV g (.one (.s (.v (.bool a)))) u → relV g (.one (.s (.v (.bool b)))) v → ∃ r n, (eqGuard op T xo yo u v) = pure () ∧ (binOp op T u v).run P w = .ok r (w.drewN n) ∧ relV g cv r := fun t h1 h2 => by
      refine ⟨_, h1, fun g w xo yo u v hu hv => ?_⟩
      obtain rfl : u = _ := hu
      obtain rfl : v = _ := hv
      exact ⟨t, 0, eqGuard_at_bool .., h2 w, rfl⟩
    cases op <;> simp only [boolBin] at h <;> first
      | (cases h; done)
      | exact fin _ h fun w => by simp only [binOp, Sem.run_bind, run_equal_bool w T a b hT', Result.andThen_ok]; rfl
  · rename_i a b
    have hbr := brT_req h; clear h; obtain ⟨hT, h⟩ := hbr
    have fin : ∀ t, K (.val (ex t) []) = some rv → (∀ w : World, (binOp op T (.string a) (.string b)).run P w = .ok t w) → ∃ cv, K (.val cv []) = some rv ∧ ∀ g (w : World) xo yo u v, relV g (.one (.s (.v (.string a)))) u → relV g (.one (.s (.v (.string b)))) v → ∃ r n, (eqGuard op T xo yo u v) = pure () ∧ (binOp op T u v).run P w = .ok r (w.drewN n) ∧ relV g cv r := fun t h1 h2 => by
      refine ⟨_, h1, fun g w xo yo u v hu hv => ?_⟩
      obtain rfl : u = _ := hu
      obtain rfl : v = _ := hv
      exact ⟨t, 0, eqGuard_at_string .., h2 w, rfl⟩
    cases op <;> simp only [strBin] at h <;> first
      | (cases h; done)
      | exact fin _ h fun w => by simp [binOp, Op.stringOp]; done
      | (have hbr := brT_req h; clear h; obtain ⟨hl, h⟩ := hbr
         have hl := Nat.le_of_ble_eq_true hl
         refine fin _ h fun w => ?_
         have : ¬ (9223372036854775807 < (a.size : Int) + (b.size : Int)) := by omega
         simp [binOp, Op.stringOp, this])
  · rename_i k a b k' c d
    have hbr := brT_req h; clear h; obtain ⟨hT, h⟩ := hbr
    rw [Bool.and_eq_true] at hT
    obtain ⟨hk, hT⟩ := hT
    obtain rfl := eqK_spec hk
    have ar : ∀ (p : BinOp), arith p = true → ∀ (x y : Nat) (w : World), ∃ r n, (Op.Complex.arith p k x y).run P w = .ok r (w.drewN n) ∧ cn k r = fbin p k (cn k x) (cn k y) ∧ r < lim k := fun p hp x y w => by
      obtain ⟨r, n, h1, h2, h3⟩ := run_float_bin (P := P) w hp T k x y
      refine ⟨r, n, ?_, h2, h3⟩
      have h4 : (Op.floatArith p k x y).run P w = .ok (.float k r) (w.drewN n) := by
        cases p <;> first | (cases hp; done) | simpa [binOp] using h1
      simp [Op.Complex.arith, h4]
    have cm : ∀ (x y : Nat) (w : World), (Op.Complex.cmp .eql k x y).run P w = .ok (feq k (cn k x) (cn k y)) w := fun x y w => by
      have h1 := run_float_cmp (P := P) w T k x y (op := .eql) (b := feq k (cn k x) (cn k y)) rfl
      have h4 : (Op.floatCmp .eql k x y).run P w = .ok (.bool (feq k (cn k x) (cn k y))) w := by simpa [binOp] using h1
      simp [Op.Complex.cmp, h4, asBool]
    have two : ∀ p, arith p = true → (p = .add ∨ p = .sub) → op = p → K (.val (sc (.cx k (R.bin p k a c) (R.bin p k b d))) []) = some rv → ∃ cv, K (.val cv []) = some rv ∧ ∀ g (w : World) xo yo u v, relV g (.one (.s (.cx k a b))) u → relV g (.one (.s (.cx k c d))) v → ∃ r n, (eqGuard op T xo yo u v) = pure () ∧ (binOp op T u v).run P w = .ok r (w.drewN n) ∧ relV g cv r := fun p hp hpp he hK => by
      refine ⟨_, hK, fun g w xo yo u v hu hv => ?_⟩
      obtain ⟨a', b', rfl, rfl, rfl, h1, h2⟩ := hu
      obtain ⟨c', d', rfl, rfl, rfl, h3, h4⟩ := hv
      obtain ⟨r, n, e1, e2, e3⟩ := ar p hp a' c' w
      obtain ⟨r', n', e4, e5, e6⟩ := ar p hp b' d' (w.drewN n)
      refine ⟨.complex k r r', n + n', eqGuard_at_complex .., ?_, r, r', rfl, e2, e5, e3, e6⟩
      subst he
      have ew : (w.drewN n).drewN n' = w.drewN (n + n') := by simp [World.drewN, Nat.add_assoc]
      rw [← ew]
      rcases hpp with rfl | rfl <;> simp [binOp, Op.complexOp, e1, e4]
    have eqs : ∀ t, K (.val (exB t) []) = some rv → (∀ (a' b' c' d' : Nat) (w : World), cn k a' = a → cn k b' = b → cn k c' = c → cn k d' = d → (binOp op T (.complex k a' b') (.complex k c' d')).run P w = .ok (.bool t) w) → ∃ cv, K (.val cv []) = some rv ∧ ∀ g (w : World) xo yo u v, relV g (.one (.s (.cx k a b))) u → relV g (.one (.s (.cx k c d))) v → ∃ r n, (eqGuard op T xo yo u v) = pure () ∧ (binOp op T u v).run P w = .ok r (w.drewN n) ∧ relV g cv r := fun t hK hr => by
      refine ⟨_, hK, fun g w xo yo u v hu hv => ?_⟩
      obtain ⟨a', b', rfl, h1, h2, _, _⟩ := hu
      obtain ⟨c', d', rfl, h3, h4, _, _⟩ := hv
      exact ⟨_, 0, eqGuard_at_complex .., hr a' b' c' d' w h1 h2 h3 h4, rfl⟩
    cases op <;> simp only [cxBin] at h <;> first
      | (cases h; done)
      | exact two _ rfl (.inl rfl) rfl h
      | exact two _ rfl (.inr rfl) rfl h
      | exact eqs _ h fun a' b' c' d' w h1 h2 h3 h4 => by
          subst h1 h2 h3 h4
          simp [binOp, Op.complexOp, cm, R, fcmp]
  · cases h

end
end Go.Dv
