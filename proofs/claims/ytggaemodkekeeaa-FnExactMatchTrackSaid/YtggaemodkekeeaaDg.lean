/- Dd, De, Df, Dg: merged by merge.py. -/
import Derived.Test.YtggaemodkekeeaaDc
import Derived.Laws.IdiomStrings
import Derived.Deep.AppendSrc
import Derived.Laws.MakeOwn

/- The model's operations do what 'cop' says (part 1): numbers, loads, stores, structs. -/
namespace Go.Dv
open Go.RowKit Go.Cv

section
variable {P : Program} {α : Type}

theorem wp_of_run {o : Oper} {a : Act} {w w' : World} {v : Value} {K : Act → World → Prop} {Q : Exit → Act → World → Prop}
    (h : (execOp a.eval o).run P w = .ok (.value v) w') (hk : K (a.put o.dst v) w') : o.wp P a w K Q := by
  unfold Oper.wp; rw [h]; exact hk

theorem wp_of_skip {o : Oper} {a : Act} {w w' : World} {K : Act → World → Prop} {Q : Exit → Act → World → Prop}
    (h : (execOp a.eval o).run P w = .ok .skip w') (hk : K (a.put o.dst undef) w') : o.wp P a w K Q := by
  unfold Oper.wp; rw [h]; exact hk

/-- an operation that only computes -/
theorem val_of_run {o : Oper} {s : St} {cv : CV}
    (h : ∀ g w (a : Act), (∀ x ∈ o.op.operands.toList, relV g (s.ev x) (a.eval x)) → ∃ v n, (execOp a.eval o).run P w = .ok (.value v) (w.drewN n) ∧ relV g cv v) :
    EffOk P o s (.val cv []) := by
  refine ⟨(fun _ h => by cases h), fun X g w0 w a K Q hx _ hw _ hk => ?_⟩
  obtain ⟨v, n, hr, hv⟩ := h g w a hx
  exact wp_of_run hr (hk v g _ (After.drewN hw n) hv)

theorem cbin_sound {op : BinOp} {T : TypeId} {x y : CV} {K : Eff → Tr α} {rv : α} (h : cbin R P op T x y K = some rv) :
    ∃ cv, K (.val cv []) = some rv ∧ ∀ g (w : World) xo yo u v, relV g x u → relV g y v → ∃ r n, (eqGuard op T xo yo u v) = pure () ∧ (binOp op T u v).run P w = .ok r (w.drewN n) ∧ relV g cv r := by
  unfold cbin at h
  split at h
  · rename_i k a k' b
    have hbr := brT_req h; clear h; obtain ⟨hk, h⟩ := hbr
    obtain rfl := eqK_spec hk
    split at h
    · rename_i ha
      refine ⟨_, h, fun g w xo yo u v hu hv => ?_⟩
      obtain ⟨m, rfl, rfl, hm⟩ := hu
      obtain ⟨m', rfl, rfl, hm'⟩ := hv
      obtain ⟨r, n, hr, hc, hl⟩ := run_float_bin (P := P) w ha T k m m'
      exact ⟨_, n, eqGuard_at_float .., hr, r, rfl, hc, hl⟩
    · split at h
      · rename_i hcm
        refine ⟨_, h, fun g w xo yo u v hu hv => ?_⟩
        obtain ⟨m, rfl, rfl, hm⟩ := hu
        obtain ⟨m', rfl, rfl, hm'⟩ := hv
        have : ∃ t, fcmp op k (cn k m) (cn k m') = some t := by cases op <;> first | (cases hcm; done) | exact ⟨_, rfl⟩
        obtain ⟨t, ht⟩ := this
        refine ⟨_, 0, eqGuard_at_float .., run_float_cmp w T k m m' ht, ?_⟩
        show _ = Value.bool ((fcmp op k (cn k m) (cn k m')).getD false)
        rw [ht]; rfl
      · cases h
  · rename_i k a k' b
    have fin : ∀ t, K (.val (ex t) []) = some rv → (∀ w : World, (binOp op T (.int k a) (.int k' b)).run P w = .ok t w) → ∃ cv, K (.val cv []) = some rv ∧ ∀ g (w : World) xo yo u v, relV g (.one (.s (.v (.int k a)))) u → relV g (.one (.s (.v (.int k' b)))) v → ∃ r n, (eqGuard op T xo yo u v) = pure () ∧ (binOp op T u v).run P w = .ok r (w.drewN n) ∧ relV g cv r := fun t h1 h2 => by
      refine ⟨_, h1, fun g w xo yo u v hu hv => ?_⟩
      obtain rfl : u = _ := hu
      obtain rfl : v = _ := hv
      exact ⟨t, 0, eqGuard_at_int .., h2 w, rfl⟩
    split at h
    · rename_i hsh
      cases op <;> first | (cases hsh; done) | skip
      · have hbr := brT_req h; clear h; obtain ⟨hk, h⟩ := hbr
        simp only [Bool.and_eq_true, decide_eq_true_eq] at hk
        refine fin _ h fun w => ?_
        rw [binOp_shl, shift_shl k k' a b hk.1 hk.2]; rfl
      · have hbr := brT_req h; clear h; obtain ⟨hk, h⟩ := hbr
        simp only [Bool.and_eq_true, decide_eq_true_eq] at hk
        refine fin _ h fun w => ?_
        rw [binOp_shr, shift_shr k k' a b hk.1 hk.2]; rfl
    · have hbr := brT_req h; clear h; obtain ⟨hk, h⟩ := hbr
      obtain rfl := eqI_spec hk
      cases op <;> simp only [intBin] at h <;> first
        | (cases h; done)
        | (refine fin _ h fun w => ?_; rw [binOp_and]; rfl)
        | (refine fin _ h fun w => ?_; rw [binOp_or]; rfl)
        | (refine fin _ h fun w => ?_; rw [binOp_xor]; rfl)
        | (refine fin _ h fun w => ?_; rw [binOp_andNot]; rfl)
        | (refine fin _ h fun w => ?_; simp [binOp, Op.intArith, Op.intCmp]; done)
        | skip
      · cases hb : (b == 0)
        · rw [hb] at h
          have hb' : b ≠ 0 := by simpa using hb
          exact fin _ h fun w => by simp [binOp, Op.intDiv, hb']
        · rw [hb] at h; cases h
      · cases hb : (b == 0)
        · rw [hb] at h
          have hb' : b ≠ 0 := by simpa using hb
          exact fin _ h fun w => by simp [binOp, Op.intDiv, hb']
        · rw [hb] at h; cases h
  · rename_i a b
    have hbr := brT_req h; clear h; obtain ⟨hT, h⟩ := hbr
    have hT' : P.underlying T = some .bool := by
      unfold tyBool at hT
      split at hT
      · assumption
      · cases hT
    have fin : ∀ t, K (.val (ex t) []) = some rv → (∀ w : World, (binOp op T (.bool a) (.bool b)).run P w = .ok t w) → ∃ cv, K (.val cv []) = some rv ∧ ∀ g (w : World) xo yo u v, relV g (.one (.s (.v (.bool a)))) u → relV g (.one (.s (.v (.bool b)))) v → ∃ r n, (eqGuard op T xo yo u v) = pure () ∧ (binOp op T u v).run P w = .ok r (w.drewN n) ∧ relV g cv r := fun t h1 h2 => by
      refine ⟨_, h1, fun g w xo yo u v hu hv => ?_⟩
      obtain rfl : u = _ := hu
      obtain rfl : v = _ := hv
      exact ⟨t, 0, eqGuard_at_bool .., h2 w, rfl⟩
    cases op <;> simp only [boolBin] at h <;> first
      | (cases h; done)
      | exact fin _ h fun w => by simp only [binOp, Sem.run_bind, run_equal_bool w T a b hT', Result.andThen_ok]; rfl
  · rename_i a b
    have hbr := brT_req h; clear h; obtain ⟨hT, h⟩ := hbr
    have fin : ∀ t, K (.val (ex t) []) = some rv → (∀ w : World, (binOp op T (.string a) (.string b)).run P w = .ok t w) → ∃ cv, K (.val cv []) = some rv ∧ ∀ g (w : World) xo yo u v, relV g (.one (.s (.v (.string a)))) u → relV g (.one (.s (.v (.string b)))) v → ∃ r n, (eqGuard op T xo yo u v) = pure () ∧ (binOp op T u v).run P w = .ok r (w.drewN n) ∧ relV g cv r := fun t h1 h2 => by
      refine ⟨_, h1, fun g w xo yo u v hu hv => ?_⟩
      obtain rfl : u = _ := hu
      obtain rfl : v = _ := hv
      exact ⟨t, 0, eqGuard_at_string .., h2 w, rfl⟩
    cases op <;> simp only [strBin] at h <;> first
      | (cases h; done)
      | exact fin _ h fun w => by simp [binOp, Op.stringOp]; done
      | (have hbr := brT_req h; clear h; obtain ⟨hl, h⟩ := hbr
         have hl := Nat.le_of_ble_eq_true hl
         refine fin _ h fun w => ?_
         have : ¬ (9223372036854775807 < (a.size : Int) + (b.size : Int)) := by omega
         simp [binOp, Op.stringOp, this])
  · rename_i k a b k' c d
    have hbr := brT_req h; clear h; obtain ⟨hT, h⟩ := hbr
    rw [Bool.and_eq_true] at hT
    obtain ⟨hk, hT⟩ := hT
    obtain rfl := eqK_spec hk
    have ar : ∀ (p : BinOp), arith p = true → ∀ (x y : Nat) (w : World), ∃ r n, (Op.Complex.arith p k x y).run P w = .ok r (w.drewN n) ∧ cn k r = fbin p k (cn k x) (cn k y) ∧ r < lim k := fun p hp x y w => by
      obtain ⟨r, n, h1, h2, h3⟩ := run_float_bin (P := P) w hp T k x y
      refine ⟨r, n, ?_, h2, h3⟩
      have h4 : (Op.floatArith p k x y).run P w = .ok (.float k r) (w.drewN n) := by
        cases p <;> first | (cases hp; done) | simpa [binOp] using h1
      simp [Op.Complex.arith, h4]
    have cm : ∀ (x y : Nat) (w : World), (Op.Complex.cmp .eql k x y).run P w = .ok (feq k (cn k x) (cn k y)) w := fun x y w => by
      have h1 := run_float_cmp (P := P) w T k x y (op := .eql) (b := feq k (cn k x) (cn k y)) rfl
      have h4 : (Op.floatCmp .eql k x y).run P w = .ok (.bool (feq k (cn k x) (cn k y))) w := by simpa [binOp] using h1
      simp [Op.Complex.cmp, h4, asBool]
    have two : ∀ p, arith p = true → (p = .add ∨ p = .sub) → op = p → K (.val (sc (.cx k (R.bin p k a c) (R.bin p k b d))) []) = some rv → ∃ cv, K (.val cv []) = some rv ∧ ∀ g (w : World) xo yo u v, relV g (.one (.s (.cx k a b))) u → relV g (.one (.s (.cx k c d))) v → ∃ r n, (eqGuard op T xo yo u v) = pure () ∧ (binOp op T u v).run P w = .ok r (w.drewN n) ∧ relV g cv r := fun p hp hpp he hK => by
      refine ⟨_, hK, fun g w xo yo u v hu hv => ?_⟩
      obtain ⟨a', b', rfl, rfl, rfl, h1, h2⟩ := hu
      obtain ⟨c', d', rfl, rfl, rfl, h3, h4⟩ := hv
      obtain ⟨r, n, e1, e2, e3⟩ := ar p hp a' c' w
      obtain ⟨r', n', e4, e5, e6⟩ := ar p hp b' d' (w.drewN n)
      refine ⟨.complex k r r', n + n', eqGuard_at_complex .., ?_, r, r', rfl, e2, e5, e3, e6⟩
      subst he
      have ew : (w.drewN n).drewN n' = w.drewN (n + n') := by simp [World.drewN, Nat.add_assoc]
      rw [← ew]
      rcases hpp with rfl | rfl <;> simp [binOp, Op.complexOp, e1, e4]
    have eqs : ∀ t, K (.val (exB t) []) = some rv → (∀ (a' b' c' d' : Nat) (w : World), cn k a' = a → cn k b' = b → cn k c' = c → cn k d' = d → (binOp op T (.complex k a' b') (.complex k c' d')).run P w = .ok (.bool t) w) → ∃ cv, K (.val cv []) = some rv ∧ ∀ g (w : World) xo yo u v, relV g (.one (.s (.cx k a b))) u → relV g (.one (.s (.cx k c d))) v → ∃ r n, (eqGuard op T xo yo u v) = pure () ∧ (binOp op T u v).run P w = .ok r (w.drewN n) ∧ relV g cv r := fun t hK hr => by
      refine ⟨_, hK, fun g w xo yo u v hu hv => ?_⟩
      obtain ⟨a', b', rfl, h1, h2, _, _⟩ := hu
      obtain ⟨c', d', rfl, h3, h4, _, _⟩ := hv
      exact ⟨_, 0, eqGuard_at_complex .., hr a' b' c' d' w h1 h2 h3 h4, rfl⟩
    cases op <;> simp only [cxBin] at h <;> first
      | (cases h; done)
      | exact two _ rfl (.inl rfl) rfl h
      | exact two _ rfl (.inr rfl) rfl h
      | exact eqs _ h fun a' b' c' d' w h1 h2 h3 h4 => by
          subst h1 h2 h3 h4
          simp [binOp, Op.complexOp, cm, R, fcmp]
  · cases h

end
end Go.Dv

/- The model's operations do what 'cop' says (part 2): conversions, loads, stores, structs. -/
namespace Go.Dv
open Go.RowKit Go.Cv

section
variable {P : Program} {α : Type}

theorem cun_sound {op : UnOp} {x : CV} {K : Eff → Tr α} {rv : α} (h : cun R op x K = some rv) :
    ∃ cv, K (.val cv []) = some rv ∧ ∀ g (w : World) u, relV g x u → ∃ r, (Op.unary op u).run P w = .ok r w ∧ relV g cv r := by
  unfold cun at h
  split at h
  · refine ⟨_, h, fun g w u hu => ?_⟩
    obtain rfl : u = _ := hu
    exact ⟨_, rfl, rfl⟩
  · refine ⟨_, h, fun g w u hu => ?_⟩
    obtain ⟨m, rfl, rfl, hm⟩ := hu
    obtain ⟨r, hr, hc, hl⟩ := run_float_neg (P := P) w _ m hm
    exact ⟨_, hr, r, rfl, hc, hl⟩
  · refine ⟨_, h, fun g w u hu => ?_⟩
    obtain rfl : u = _ := hu
    exact ⟨_, rfl, rfl⟩
  · cases h

theorem tyFloat_spec {T : TypeId} {k : FloatKind} (h : tyFloat P T = some k) : P.underlying T = some (.float k) := by
  unfold tyFloat at h; split at h
  · cases h; assumption
  · cases h
theorem tyInt_spec {T : TypeId} {k : IntKind} (h : tyInt P T = some k) : P.underlying T = some (.int k) := by
  unfold tyInt at h; split at h
  · cases h; assumption
  · cases h

/-- a float32 is a float64 -/
theorem fwid_some (n : Nat) : fconv .f32 n .f64 = some (fwid n) := by
  have key : (fconv .f32 n .f64).isSome = true := by
    unfold fconv
    rw [if_neg (by decide)]
    cases hn : isNan .f32 n
    · simp only [Bool.false_eq_true, if_false]
      unfold floatToFloatBits
      rw [if_neg (by decide)]
      exact wid_ok n hn
    · simp
  obtain ⟨r, hr⟩ := Option.isSome_iff_exists.1 key
  unfold fwid; rw [hr]; rfl

theorem tyCx_spec' {T : TypeId} {k : FloatKind} (h : tyCx P T = some k) : P.underlying T = some (.complex k) := by
  unfold tyCx at h; split at h
  · cases h; assumption
  · cases h

theorem run_f2f (w : World) (s k : FloatKind) (x c : Nat) (hx : x < lim s) (h : fconv s (cn s x) k = some c) : ∃ r n, (Conv.floatToFloat s x k).run P w = .ok (.float k r) (w.drewN n) ∧ cn k r = c ∧ r < lim k := by
  rw [fconv_cn] at h
  unfold fconv at h
  by_cases e : s = k
  · subst e
    rw [if_pos rfl] at h; cases h
    exact ⟨x, 0, run_floatToFloat w (by simp [floatToFloatBits]), rfl, hx⟩
  · rw [if_neg e] at h
    cases hn : isNan s x
    · rw [hn] at h
      simp only [Bool.false_eq_true, if_false] at h
      have h' := h
      refine ⟨c, 0, run_floatToFloat w h, ?_, ?_⟩
      · refine cn_of_not ?_
        unfold floatToFloatBits at h'
        rw [if_neg e] at h'
        split at h'
        · cases h'
        · cases h'; exact write_not_nan _ _ rfl
        · split at h'
          · cases h'
          · cases h'; exact write_not_nan _ _ rfl
      · unfold floatToFloatBits at h'
        rw [if_neg e] at h'
        split at h'
        · cases h'
        · cases h'; exact k.format.write_lt _
        · split at h'
          · cases h'
          · cases h'; exact k.format.write_lt _
    · rw [hn] at h; cases h
      obtain ⟨sg, t, hr⟩ := nan_read hn
      obtain ⟨hn', hl⟩ := nan_conv k x (w.tape w.drawn (.nanConv k x))
      refine ⟨_, 1, ?_, cn_of_nan hn', hl⟩
      have hdec : s.decode x = .nan sg t := hr
      simp [Conv.floatToFloat, e, hdec, forced_conv] <;> rfl

theorem run_cx_conv (w : World) (src dst : TypeId) (s k : FloatKind) (x y c d : Nat) (hx : x < lim s) (hy : y < lim s) (hs : (P.underlying src).isSome = true) (hd : P.underlying dst = some (.complex k)) (h1 : fconv s (cn s x) k = some c) (h2 : fconv s (cn s y) k = some d) :
    ∃ r r' n, (convert src dst (.complex s x y)).run P w = .ok (.complex k r r') (w.drewN n) ∧ cn k r = c ∧ cn k r' = d ∧ r < lim k ∧ r' < lim k := by
  obtain ⟨r, n, e1, e2, e3⟩ := run_f2f (P := P) w s k x c hx h1
  obtain ⟨r', n', e4, e5, e6⟩ := run_f2f (P := P) (w.drewN n) s k y d hy h2
  refine ⟨r, r', n + n', ?_, e2, e5, e3, e6⟩
  have ew : (w.drewN n).drewN n' = w.drewN (n + n') := by simp [World.drewN, Nat.add_assoc]
  rw [← ew]
  obtain ⟨u, hs'⟩ := Option.isSome_iff_exists.1 hs
  cases u <;> simp [convert, run_underlying hs', run_underlying hd, Conv.complexToComplex, e1, e4]

theorem cconv_sound {src dst : TypeId} {x : CV} {K : Eff → Tr α} {rv : α} (h : cconv R P src dst x K = some rv) :
    ∃ cv, K (.val cv []) = some rv ∧ ∀ g (w : World) u, relV g x u → ∃ r n, (convert src dst u).run P w = .ok r (w.drewN n) ∧ relV g cv r := by
  unfold cconv at h
  have hbr := brT_req h; clear h; obtain ⟨hs, h⟩ := hbr
  split at h
  · rename_i s a
    split at h
    · rename_i k hd
      have fin : ∀ c, K (.val (fl k c) []) = some rv → (∀ m, m < lim s → cn s m = a → fconv s (cn s m) k = some c) → ∃ cv, K (.val cv []) = some rv ∧ ∀ g (w : World) u, relV g (.one (.s (.fl s a))) u → ∃ r n, (convert src dst u).run P w = .ok r (w.drewN n) ∧ relV g cv r := fun c h1 h2 => by
        refine ⟨_, h1, fun g w u hu => ?_⟩
        obtain ⟨m, rfl, he, hm⟩ := hu
        obtain ⟨r, n, hr, h3, h4⟩ := run_float_conv (P := P) w src dst s k m c hm hs (tyFloat_spec hd) (h2 m hm he)
        exact ⟨_, n, hr, r, rfl, h3, h4⟩
      split at h
      · exact fin _ h fun m hm he => by rw [he]; exact fwid_some a
      · obtain ⟨hc, h⟩ := brT_req h
        obtain ⟨c, hc⟩ := Option.isSome_iff_exists.1 (show (fconv .f64 a .f32).isSome = true from hc)
        exact fin _ h fun m hm he => by rw [he]; show _ = some ((fconv .f64 a .f32).getD 0); rw [hc]; rfl
      · exact fin _ h fun m hm he => by rw [he]; unfold fconv; rw [if_pos rfl, ← he, cn_idem]
      · exact fin _ h fun m hm he => by rw [he]; unfold fconv; rw [if_pos rfl, ← he, cn_idem]
    · split at h
      · rename_i k hd
        obtain ⟨hc, h⟩ := brT_req h
        obtain ⟨c, hc⟩ := Option.isSome_iff_exists.1 (show (ftoi s a k).isSome = true from hc)
        refine ⟨_, h, fun g w u hu => ?_⟩
        obtain ⟨m, rfl, he, hm⟩ := hu
        obtain ⟨r, n, hr, h1⟩ := run_float_int (P := P) w src dst _ k m hs (tyInt_spec hd)
        refine ⟨_, n, hr, ?_⟩
        rw [h1 c (by rw [he]; exact hc)]
        show _ = Value.int k ((ftoi s a k).getD 0)
        rw [hc]; rfl
      · cases h
  · rename_i q n
    split at h
    · rename_i k hd
      refine ⟨_, h, fun g w u hu => ?_⟩
      obtain rfl : u = _ := hu
      exact ⟨_, 0, run_convert_int_float w src dst q k n hs (tyFloat_spec hd), _, rfl, rfl, (k.format.write_lt (.number (decide (n < 0)) n.natAbs 0) : floatOfInt k n < 2 ^ k.format.width)⟩
    · split at h
      · rename_i k hd
        refine ⟨_, h, fun g w u hu => ?_⟩
        obtain rfl : u = _ := hu
        refine ⟨_, 0, ?_, rfl⟩
        obtain ⟨d, hs'⟩ := Option.isSome_iff_exists.1 hs
        simp [convert, run_underlying hs', run_underlying (tyInt_spec hd), Conv.intToInt]; rfl
      · cases h
  · rename_i s a b
    split at h
    · rename_i k hd
      have fin : ∀ c d, K (.val (sc (.cx k c d)) []) = some rv → (∀ m, m < lim s → cn s m = a → fconv s (cn s m) k = some c) → (∀ m, m < lim s → cn s m = b → fconv s (cn s m) k = some d) → ∃ cv, K (.val cv []) = some rv ∧ ∀ g (w : World) u, relV g (.one (.s (.cx s a b))) u → ∃ r n, (convert src dst u).run P w = .ok r (w.drewN n) ∧ relV g cv r := fun c d h1 h2 h2' => by
        refine ⟨_, h1, fun g w u hu => ?_⟩
        obtain ⟨m, m', rfl, he, he', hm, hm'⟩ := hu
        obtain ⟨r, r', n, hr, h3, h4, h5, h6⟩ := run_cx_conv (P := P) w src dst s k m m' c d hm hm' hs (tyCx_spec' hd) (h2 m hm he) (h2' m' hm' he')
        exact ⟨_, n, hr, r, r', rfl, h3, h4, h5, h6⟩
      split at h
      · exact fin _ _ h (fun m hm he => by rw [he]; exact fwid_some a) (fun m hm he => by rw [he]; exact fwid_some b)
      · obtain ⟨hc, h⟩ := brT_req h
        rw [Bool.and_eq_true] at hc
        obtain ⟨c, hc1⟩ := Option.isSome_iff_exists.1 (show (fconv .f64 a .f32).isSome = true from hc.1)
        obtain ⟨d, hc2⟩ := Option.isSome_iff_exists.1 (show (fconv .f64 b .f32).isSome = true from hc.2)
        exact fin _ _ h (fun m hm he => by rw [he]; show _ = some ((fconv .f64 a .f32).getD 0); rw [hc1]; rfl) (fun m hm he => by rw [he]; show _ = some ((fconv .f64 b .f32).getD 0); rw [hc2]; rfl)
      · exact fin _ _ h (fun m hm he => by rw [he]; unfold fconv; rw [if_pos rfl, ← he, cn_idem]) (fun m hm he => by rw [he]; unfold fconv; rw [if_pos rfl, ← he, cn_idem])
      · exact fin _ _ h (fun m hm he => by rw [he]; unfold fconv; rw [if_pos rfl, ← he, cn_idem]) (fun m hm he => by rw [he]; unfold fconv; rw [if_pos rfl, ← he, cn_idem])
    · cases h
  · cases h

theorem tyShape_spec {T : TypeId} {ag : Bool} {n : Nat} (h : tyShape P T = some (ag, n)) :
    ∃ d i, P.underlying T = some d ∧ P.info? T = some i ∧ i.size = n ∧ (∀ w : World, (isAgg T).run P w = .ok ag w) := by
  unfold tyShape at h
  split at h
  · rename_i fs i h1 h2; cases h
    exact ⟨_, i, h1, h2, rfl, fun w => by simp [isAgg, run_underlying h1]⟩
  · rename_i k e i h1 h2; cases h
    exact ⟨_, i, h1, h2, rfl, fun w => by simp [isAgg, run_underlying h1]⟩
  · rename_i d i h3 h4 h1 h2; cases h
    refine ⟨d, i, h1, h2, rfl, fun w => ?_⟩
    cases d <;> first | exact (h3 _ rfl).elim | exact (h4 _ _ rfl).elim | simp [isAgg, run_underlying h1]
  · cases h

theorem readFrom_length {hp : Hp} {id : Nat} : ∀ {n off : Nat} {cs : List CS}, readFrom hp id off n = some cs → cs.length = n
  | 0, off, cs, h => by simp only [readFrom] at h; cases h; rfl
  | n + 1, off, cs, h => by
    simp only [readFrom] at h
    split at h
    · split at h
      · rename_i c _ cs' h'; cases h; simp [readFrom_length h']
      · cases h
    · cases h

theorem readFrom_get {hp : Hp} {id : Nat} : ∀ {n off : Nat} {cs : List CS}, readFrom hp id off n = some cs → ∀ j c, cs[j]? = some c → hp id (off + j) = some c
  | 0, off, cs, h => by simp only [readFrom] at h; cases h; intro j c hj; simp at hj
  | n + 1, off, cs, h => by
    simp only [readFrom] at h
    split at h
    · rename_i c0 h0
      split at h
      · rename_i cs' h'; cases h
        intro j c hj
        cases j with
        | zero => simp at hj; subst hj; exact h0
        | succ j => simp at hj; have := readFrom_get h' j c hj; rw [← this]; congr 1; omega
      · cases h
    · cases h

theorem mem_depsOf {id : Nat} : ∀ {cs : List CS} {off : Nat} {d : Dep}, d ∈ depsOf id off cs → ∃ j c, cs[j]? = some c ∧ d = (id, off + j, c)
  | [], off, d, h => by cases h
  | c :: cs, off, d, h => by
    simp only [depsOf, List.mem_cons] at h
    rcases h with rfl | h
    · exact ⟨0, c, rfl, rfl⟩
    · obtain ⟨j, c', hj, rfl⟩ := mem_depsOf h
      exact ⟨j + 1, c', by simpa using hj, by congr 2; omega⟩

theorem depsOf_mem {id : Nat} : ∀ {cs : List CS} {off : Nat} (j : Nat) (c : CS), cs[j]? = some c → (id, off + j, c) ∈ depsOf id off cs
  | [], off, j, c, h => by simp at h
  | c0 :: cs, off, j, c, h => by
    cases j with
    | zero => simp at h; subst h; simp [depsOf]
    | succ j =>
      simp only [depsOf, List.mem_cons]
      right
      have := depsOf_mem (id := id) (off := off + 1) j c (by simpa using h)
      have e : off + (j + 1) = off + 1 + j := by omega
      rw [e]; exact this

theorem run_load_at (w : World) {T : TypeId} {ag : Bool} {cs : List CS} {v : CV} {g : Gh} {b off : Nat} {arr : Array Value}
    (hs : tyShape P T = some (ag, cs.length)) (hv : mkVal ag cs = some v) (hb : 0 < cs.length → ∀ o, w.cell? ⟨b, o, none⟩ = arr[o]?)
    (hc : ∀ (j : Nat) c, cs[j]? = some c → ∃ u, arr[off + j]? = some u ∧ rel g c u) :
    ∃ r, (Instr.loadAt T (.pointer (some ⟨b, off, none⟩))).run P w = .ok r w ∧ relV g v r := by
  obtain ⟨d, i, hd, hi, hn, hag⟩ := tyShape_spec hs
  have hadd : ∀ j, (⟨b, off, none⟩ : Addr).add j = ⟨b, off + j, none⟩ := fun j => by unfold Addr.add; split <;> simp_all
  have hlen : ∀ j, j < cs.length → off + j < arr.size := fun j hj => by
    obtain ⟨u, hu, _⟩ := hc j cs[j] (by simp [hj])
    rcases Nat.lt_or_ge (off + j) arr.size with h | h
    · exact h
    · rw [Array.getElem?_eq_none h] at hu; cases hu
  cases ag with
  | true =>
    cases hv
    have hus : ((arr.toList.drop off).take cs.length).length = cs.length := by
      simp
      rcases Nat.eq_zero_or_pos cs.length with h0 | h0
      · omega
      · have := hlen (cs.length - 1) (by omega); omega
    have hget : ∀ (j : Nat) u, ((arr.toList.drop off).take cs.length)[j]? = some u → arr[off + j]? = some u ∧ j < cs.length := fun j u h => by
      rw [List.getElem?_take] at h
      split at h
      · simp at h; exact ⟨by simpa using h, by assumption⟩
      · cases h
    refine ⟨.agg ((arr.toList.drop off).take cs.length).toArray, ?_, _, rfl, by simpa using hus, fun j c u h1 h2 => ?_⟩
    · have hl := run_loadCells_list (P := P) w ⟨b, off, none⟩ ((arr.toList.drop off).take cs.length) (fun j v hj => by
        obtain ⟨h1, h2⟩ := hget j v hj
        rw [hadd, hb (by omega), h1])
      rw [hus] at hl
      simp [Instr.loadAt, Instr.sureAddr, loadVar, hag, sizeOf, typeInfo, hi, hn, hl]
    · have h2' : ((arr.toList.drop off).take cs.length)[j]? = some u := by simpa using h2
      obtain ⟨u', hu', hr⟩ := hc j c h1
      obtain ⟨h3, _⟩ := hget j u h2'
      rw [h3] at hu'; cases hu'; exact hr
  | false =>
    unfold mkVal at hv
    simp only at hv
    split at hv
    · rename_i c; cases hv
      obtain ⟨u, hu, hr⟩ := hc 0 c rfl
      refine ⟨u, ?_, hr⟩
      have hcell : w.cell? ⟨b, off, none⟩ = some u := by rw [hb (by simp)]; simpa using hu
      simp [Instr.loadAt, Instr.sureAddr, loadVar, hag, hcell]
    · cases hv

theorem plainCell {g : Gh} {w : World} {id off : Nat} {c : CS} (hp : plain c = true) (h : CellRel g w id off c) : ∃ b arr T u, g.β id = some b ∧ RowAt w b arr T ∧ arr[off]? = some u ∧ rel g c u := by
  rcases h with ⟨e, l, rfl, _⟩ | h
  · cases hp
  · exact h

theorem cellPlace {g : Gh} {w : World} {id off : Nat} {c : CS} (hp : cellish c = true) (h : CellRel g w id off c) : ∃ b arr T u, g.β id = some b ∧ RowAt w b arr T ∧ arr[off]? = some u ∧ rel g c u := by
  rcases h with ⟨e, l, rfl, _⟩ | h
  · cases hp
  · exact h

theorem load_sound {o : Oper} {s : St} {T : TypeId} {x : Operand} {ag : Bool} {cs : List CS} {v : CV} {id off : Nat} (ho : o.op = .load T x)
    (hs : tyShape P T = some (ag, cs.length)) (hx : s.ev x = .one (.s (.ptr id off))) (hr : readFrom s.hp id off cs.length = some cs) (hpl : cs.all plain = true) (hv : mkVal ag cs = some v) :
    EffOk P o s (.val v (depsOf id off cs)) := by
  refine ⟨fun d hd => ?_, fun X g w0 w a K Q hops hdeps hw _ hk => ?_⟩
  · obtain ⟨j, c, hj, rfl⟩ := mem_depsOf hd
    exact readFrom_get hr j c hj
  · have hxa := hops x (by rw [ho]; simp [Op.operands])
    rw [hx] at hxa
    obtain ⟨b, hb, hxe⟩ := hxa
    have hcell : ∀ (j : Nat) c, cs[j]? = some c → ∃ arr T u, RowAt w b arr T ∧ arr[off + j]? = some u ∧ rel g c u := fun j c hj => by
      obtain ⟨b', arr, T, u, h1, h2, h3, h4⟩ := plainCell (List.all_eq_true.1 hpl c (List.mem_of_getElem? hj)) (hdeps _ (depsOf_mem (id := id) (off := off) j c hj))
      rw [hb] at h1; cases h1
      exact ⟨arr, T, u, h2, h3, h4⟩
    have hex : ∃ arr T', (0 < cs.length → RowAt w b arr T') ∧ ∀ (j : Nat) c, cs[j]? = some c → ∃ u, arr[off + j]? = some u ∧ rel g c u := by
      cases cs with
      | nil => exact ⟨#[], 0, by simp, fun j c hj => by simp at hj⟩
      | cons c0 cs' =>
        obtain ⟨arr, T', u, h2, h3, h4⟩ := hcell 0 c0 rfl
        refine ⟨arr, T', fun _ => h2, fun j c hj => ?_⟩
        obtain ⟨arr', T'', u', h2', h3', h4'⟩ := hcell j c hj
        obtain ⟨rfl, rfl⟩ := h2.inj h2'
        exact ⟨u', h3', h4'⟩
    obtain ⟨arr, T', hb', hcc⟩ := hex
    obtain ⟨r, hrun, hrel⟩ := run_load_at (P := P) w hs hv (fun h0 o => (hb' h0).cell) hcc
    refine wp_of_run (w' := w) ?_ (hk r g w (After.refl hw) hrel)
    simp [execOp, ho, hxe, hrun]

theorem load_ip_sound {o : Oper} {s : St} {T : TypeId} {x : Operand} {ag : Bool} {n m : Nat} {f : Nat → CS} {v : CV} (ho : o.op = .load T x)
    (hs : tyShape P T = some (ag, n)) (hx : s.ev x = .one (.s (.ip m f))) (hm : n ≤ m) (hv : mkVal ag ((List.range n).map f) = some v) :
    EffOk P o s (.val v []) := by
  refine ⟨(fun _ h => by cases h), fun X g w0 w a K Q hops hdeps hw _ hk => ?_⟩
  have hxa := hops x (by rw [ho]; simp [Op.operands])
  rw [hx] at hxa
  obtain ⟨b, off, hxe, hc⟩ := hxa
  have hget : ∀ (j : Nat) c, ((List.range n).map f)[j]? = some c → c = f j ∧ j < n := fun j c hj => by
    rw [List.getElem?_map] at hj
    rcases Nat.lt_or_ge j n with h | h
    · rw [List.getElem?_range h] at hj; simp at hj; exact ⟨hj.symm, h⟩
    · rw [List.getElem?_eq_none (by simpa using h)] at hj; simp at hj
  have hex : ∃ arr T' fr, (0 < ((List.range n).map f).length → w.heap[b]? = some (.cells arr T' fr)) ∧ ∀ (j : Nat) c, ((List.range n).map f)[j]? = some c → ∃ u, arr[off + j]? = some u ∧ rel g c u := by
    rcases Nat.eq_zero_or_pos n with h0 | h0
    · subst h0; exact ⟨#[], 0, (0, 0), by simp, fun j c hj => by simp at hj⟩
    · obtain ⟨u, ⟨arr, T', fr, h1, h2⟩, h3⟩ := hc 0 (by omega)
      refine ⟨arr, T', fr, fun _ => hw.bi _ _ h1, fun j c hj => ?_⟩
      obtain ⟨rfl, hj'⟩ := hget j c hj
      obtain ⟨u', ⟨arr', T'', fr', h1', h2'⟩, h3'⟩ := hc j (by omega)
      rw [h1] at h1'; cases h1'
      exact ⟨u', h2', h3'⟩
  obtain ⟨arr, T', fr, hb', hcc⟩ := hex
  obtain ⟨r, hrun, hrel⟩ := run_load_at (P := P) (b := b) (off := off) w (by simpa using hs) hv (fun h0 o => by simp [World.cell?, hb' h0]) hcc
  refine wp_of_run (w' := w) ?_ (hk r g w (After.refl hw) hrel)
  simp [execOp, ho, hxe, hrun]

/-- an element of an array of the call's own, cell by cell -/
theorem ArrRel.elem {g : Gh} {w : World} {id : Nat} {e : Sh} {l : List e.Ty} (h : ArrRel g w id e l) {i : Nat} (hi : i < l.length) : ∃ b arr T, g.β id = some b ∧ RowAt w b arr T ∧ i * e.size + e.size ≤ arr.size ∧
    ∀ j c, (cells false e (l.getD i e.dflt))[j]? = some c → ∃ u, arr[i * e.size + j]? = some u ∧ rel g c u := by
  rcases h with ⟨h1, _⟩ | ⟨b, arr, T, h1, h2, h3, h4, h5⟩
  · subst h1; simp at hi
  · refine ⟨b, arr, T, h1, h2, ?_, ?_⟩
    · rw [h3]
      have : (i + 1) * e.size ≤ g.cp id * e.size := Nat.mul_le_mul_right _ (by omega)
      rw [Nat.add_mul] at this; omega
    · intro j c hj
      have h6 := h5 i l[i] (by simp [hi])
      have e1 : l.getD i e.dflt = l[i] := by simp [List.getD, hi]
      rw [e1] at hj
      exact (relT_cells (g := g) (bw := false) e l[i] _).1 h6 j c hj

theorem load_pe_sound {o : Oper} {s : St} {T : TypeId} {x : Operand} {ag : Bool} {n id i k : Nat} {e : Sh} {l : List e.Ty} {v : CV} (ho : o.op = .load T x)
    (hs : tyShape P T = some (ag, n)) (hx : s.ev x = .one (.s (.pe id e.size i k))) (hh : s.hp id 0 = some (.arr e l)) (hi : i < l.length) (hk : k + n ≤ e.size) (hv : mkVal ag (((cells false e (l.getD i e.dflt)).drop k).take n) = some v) :
    EffOk P o s (.val v [(id, 0, .arr e l)]) := by
  refine ⟨fun d hd => by simp at hd; subst hd; exact hh, fun X g w0 w a K Q hops hdeps hw _ hkk => ?_⟩
  have hxa := hops x (by rw [ho]; simp [Op.operands])
  rw [hx] at hxa
  obtain ⟨b, hb, hxe⟩ := hxa
  have hd := hdeps _ (List.mem_singleton.2 rfl)
  rcases hd with ⟨e', l', h1, _, h3⟩ | ⟨_, _, _, _, _, _, _, h⟩
  · cases h1
    obtain ⟨b', arr, T', h4, h5, h6, h7⟩ := h3.elem hi
    rw [hb] at h4; cases h4
    have hcl := cells_length false e (l.getD i e.dflt)
    have hlen : (((cells false e (l.getD i e.dflt)).drop k).take n).length = n := by rw [List.length_take, List.length_drop, hcl]; omega
    obtain ⟨r, hrun, hrel⟩ := run_load_at (P := P) (off := i * e.size + k) w (by rw [hlen]; exact hs) hv (fun _ _ => h5.cell) (g := g) (fun j c hj => by
      rw [List.getElem?_take] at hj
      split at hj
      · rw [List.getElem?_drop] at hj
        obtain ⟨u, h8, h9⟩ := h7 _ c hj
        exact ⟨u, by rw [← h8]; congr 1; omega, h9⟩
      · cases hj)
    refine wp_of_run (w' := w) ?_ (hkk r g w (After.refl hw) hrel)
    simp [execOp, ho, hxe, hrun]
  · exact h.elim

theorem zeroCells_spec {T : TypeId} {cs : List CS} (h : zeroCells P T = some cs) : ∃ i z, P.info? T = some i ∧ i.zero = some z ∧ cs = z.cells.toList.map ofCell := by
  unfold zeroCells at h
  split at h
  · rename_i i hi
    split at h
    · rename_i z hz; cases h; exact ⟨i, z, hi, hz, rfl⟩
    · cases h
  · cases h

theorem ofCell_notArr (x : Value) : notArr (some (ofCell x)) = true := by
  cases x with
  | float k n =>
    show notArr (some (bif Nat.blt n (lim k) && !isNan k n then .fl k n else .v (.float k n))) = true
    cases (Nat.blt n (lim k) && !isNan k n) <;> rfl
  | complex k a b =>
    show notArr (some (bif (Nat.blt a (lim k) && !isNan k a) && (Nat.blt b (lim k) && !isNan k b) then .cx k a b else .v (.complex k a b))) = true
    cases ((Nat.blt a (lim k) && !isNan k a) && (Nat.blt b (lim k) && !isNan k b)) <;> rfl
  | func f fi ca =>
    show notArr (some (if fi.size = 0 then .fn f ca.size (fun j => .v (ca.getD j undef)) else .v (.func f fi ca))) = true
    by_cases h : fi.size = 0
    · rw [if_pos h]; rfl
    · rw [if_neg h]; rfl
  | _ => rfl
theorem ofCell_arr (x : Value) : ∀ e l, ofCell x ≠ .arr e l := by
  intro e l h
  have := ofCell_notArr x
  rw [h] at this; cases this

theorem alloc_sound {o : Oper} {s : St} {T : TypeId} {cs : List CS} (ho : o.op = .alloc T) (hz : zeroCells P T = some cs) : EffOk P o s (.new cs) := by
  obtain ⟨i, z, hi, hz2, rfl⟩ := zeroCells_spec hz
  refine ⟨fun c hc e l => ?_, ?_⟩
  · simp at hc
    obtain ⟨x, _, rfl⟩ := hc
    exact ofCell_arr x e l
  intro g w a K Q hops hk
  refine wp_of_run (w' := w.alloc (.cells z.cells T)) (v := .pointer (some ⟨w.heap.size, 0, none⟩)) ?_ (hk z.cells T (by simp) fun j c u h1 h2 => ?_)
  · simp [execOp, ho, Instr.alloc, zeroValue, typeInfo, hi, hz2, newVar, newRow]
  · simp at h1
    obtain ⟨x, hx, rfl⟩ := h1
    rw [hx] at h2; cases h2
    exact rel_ofCell g _

theorem box_sound {o : Oper} {s : St} {T : TypeId} {x : Operand} {cs : List CS} (ho : o.op = .box T x) (hc : cellsOf (s.ev x) = some cs) (hp : cs.all plain = true) : EffOk P o s (.new cs) := by
  refine ⟨fun c hc e l he => ?_, ?_⟩
  · have := List.all_eq_true.1 hp c hc; rw [he] at this; cases this
  intro g w a K Q hops hk
  have hxa := hops x (by rw [ho]; simp [Op.operands])
  obtain ⟨h1, h2⟩ := cells_rel hc hp hxa
  refine wp_of_run (w' := w.alloc (.cells (a.eval x).cells T)) (v := .pointer (some ⟨w.heap.size, 0, none⟩)) ?_ (hk _ T h1 fun j c u h3 h4 => (h2 j c u h3 h4).1)
  simp [execOp, ho, Instr.box, newVar, newRow]

/-- what is stored, and how the model stores it -/
theorem run_store_at {o : Oper} {T : TypeId} {ad x : Operand} {ag : Bool} {n : Nat} {cs : List CS} {xv : CV} (ho : o.op = .store T ad x) (hs : tyShape P T = some (ag, n))
    (hc : cellsOf xv = some cs) (hn : cs.length = n) (hp : cs.all plain = true) {g : Gh} {w : World} {a : Act} {b off : Nat} {arr : Array Value} {T' : TypeId} (hxa : relV g xv (a.eval x))
    (he : a.eval ad = .pointer (some ⟨b, off, none⟩)) (hh : RowAt w b arr T') (hl : off + cs.length ≤ arr.size) :
    ∃ us : List Value, us.length = cs.length ∧ (∀ (j : Nat) c u, cs[j]? = some c → us[j]? = some u → rel g c u) ∧
      (execOp a.eval o).run P w = .ok .skip (w.setRow b (arr.toList.take off ++ us ++ arr.toList.drop (off + us.length)).toArray) := by
  obtain ⟨h1, h2⟩ := cells_rel hc hp hxa
  obtain ⟨d, i, hd, hi, hsz, hag⟩ := tyShape_spec hs
  have hone : ∀ v ∈ (a.eval x).cells.toList, v.oneCell' = true := fun v hv => by
    obtain ⟨j, hj⟩ := List.getElem?_of_mem hv
    have hj' : (a.eval x).cells[j]? = some v := by simpa using hj
    have hjl : j < cs.length := by
      rw [← h1]
      rcases Nat.lt_or_ge j (a.eval x).cells.size with h | h
      · exact h
      · rw [Array.getElem?_eq_none h] at hj'; cases hj'
    obtain ⟨h3, h4⟩ := h2 j cs[j] v (by simp [hjl]) hj'
    have h5 := plain_cells h4 h3
    cases v <;> first | rfl | exact (h5.2.1 _ rfl).elim | exact (h5.2.2 _ rfl).elim
  have hrun := run_storeCells_row (P := P) b off T' (a.eval x).cells.toList 0 arr w hh (by simpa [h1] using hl) hone
  refine ⟨(a.eval x).cells.toList, by simpa using h1, fun j c u h3 h4 => (h2 j c u h3 (by simpa using h4)).1, ?_⟩
  have hsz' : (a.eval x).cells.size = i.size := by rw [h1, hsz, hn]
  simp only [Nat.add_zero] at hrun
  simp [execOp, ho, he, Instr.storeAt, Instr.sureAddr, storeVar, sizeOf, typeInfo, hi, hsz', hrun]

theorem store_sound {o : Oper} {s : St} {T : TypeId} {ad x : Operand} {ag : Bool} {n id off : Nat} {cs cs' : List CS} (ho : o.op = .store T ad x) (hs : tyShape P T = some (ag, n))
    (ha : s.ev ad = .one (.s (.ptr id off))) (hc : cellsOf (s.ev x) = some cs) (h0 : 0 < n) (hn : cs.length = n) (hp : cs.all plain = true) (hr : readFrom s.hp id off n = some cs') (hp' : cs'.all cellish = true) (hna : ∀ e l, s.hp id 0 ≠ some (.arr e l)) :
    EffOk P o s (.put id off cs) := by
  refine ⟨⟨by omega, fun j hj => ?_, hna, fun c hc => List.all_eq_true.1 hp c hc⟩, ?_⟩
  · have hl := readFrom_length hr
    have hlt : j < cs'.length := by omega
    exact ⟨cs'[j], readFrom_get hr j cs'[j] (by simp [hlt]), List.all_eq_true.1 hp' _ (List.getElem_mem hlt)⟩
  · intro g w a K Q b arr T' hops hb hh hl hk
    have hxa := hops x (by rw [ho]; simp [Op.operands])
    have hadr := hops ad (by rw [ho]; simp [Op.operands])
    rw [ha] at hadr
    obtain ⟨b', hb', he⟩ := hadr
    rw [hb] at hb'; cases hb'
    obtain ⟨us, h1, h2, h3⟩ := run_store_at ho hs hc hn hp hxa he hh hl
    exact wp_of_skip h3 (hk us h1 h2)

theorem over_length {cells : List CS} {off : Nat} {cs : List CS} (h : off + cs.length ≤ cells.length) : (over cells off cs).length = cells.length := by
  simp [over]; omega

theorem over_get {cells : List CS} {off : Nat} {cs : List CS} (h : off + cs.length ≤ cells.length) (j : Nat) :
    (over cells off cs)[j]? = if off ≤ j ∧ j < off + cs.length then cs[j - off]? else cells[j]? := by
  unfold over
  rw [List.append_assoc]
  rcases Nat.lt_or_ge j off with h1 | h1
  · rw [if_neg (by omega), List.getElem?_append_left (by simp; omega), List.getElem?_take_of_lt h1]
  · rw [List.getElem?_append_right (by simp; omega)]
    have e : (cells.take off).length = off := by simp; omega
    rw [e]
    rcases Nat.lt_or_ge j (off + cs.length) with h2 | h2
    · rw [if_pos ⟨h1, h2⟩, List.getElem?_append_left (by omega)]
    · rw [if_neg (by omega), List.getElem?_append_right (by omega), List.getElem?_drop]
      congr 1; omega

/-- the fold by which 'Instr.fill' lays a part's cells -/
theorem fill_fold (off : Nat) : ∀ (vs : List Value) (k : Nat) (cells : Array Value), off + k + vs.length ≤ cells.size →
    ((vs.zipIdx k).foldl (fun cs (c, j) => cs.setIfInBounds (off + j) c) cells).size = cells.size ∧
    ∀ j, ((vs.zipIdx k).foldl (fun cs (c, j) => cs.setIfInBounds (off + j) c) cells)[j]? = if off + k ≤ j ∧ j < off + k + vs.length then vs[j - (off + k)]? else cells[j]?
  | [], k, cells, h => by simp; intro j h1 h2; omega
  | v :: vs, k, cells, h => by
    simp only [List.zipIdx_cons, List.foldl_cons]
    have ih := fill_fold off vs (k + 1) (cells.setIfInBounds (off + k) v) (by simp at h ⊢; omega)
    refine ⟨by rw [ih.1]; simp, fun j => ?_⟩
    rw [ih.2]
    simp only [List.length_cons] at h ⊢
    by_cases h1 : off + (k + 1) ≤ j ∧ j < off + (k + 1) + vs.length
    · rw [if_pos h1, if_pos (by omega)]
      have e : j - (off + k) = (j - (off + (k + 1))) + 1 := by omega
      rw [e]; simp
    · rw [if_neg h1]
      by_cases h2 : off + k = j
      · subst h2
        rw [if_pos (by omega), Array.getElem?_setIfInBounds_self]
        simp; omega
      · rw [Array.getElem?_setIfInBounds_ne h2, if_neg (by omega)]

/-- cells of a struct, one by one -/
def CellsRel (g : Gh) (cs : List CS) (arr : Array Value) : Prop := arr.size = cs.length ∧ ∀ (j : Nat) c u, cs[j]? = some c → arr[j]? = some u → rel g c u

theorem fill_sound {g : Gh} {places : List (Nat × Nat)} : ∀ {ps : List (Nat × List CS)} {vs : List (Nat × Value)} {cells cs : List CS} {arr : Array Value}, fillC places cells ps = some cs → CellsRel g cells arr →
    ps.length = vs.length → (∀ (j : Nat) p v, ps[j]? = some p → vs[j]? = some v → p.1 = v.1 ∧ CellsRel g p.2 v.2.cells) →
    ∃ arr', Instr.fill (places.toArray[·]?) arr vs = some arr' ∧ CellsRel g cs arr'
  | [], [], cells, cs, arr, h, hc, _, _ => by
    simp only [fillC] at h; cases h
    exact ⟨arr, rfl, hc⟩
  | [], _ :: _, _, _, _, _, _, hl, _ => by simp at hl
  | _ :: _, [], _, _, _, _, _, hl, _ => by simp at hl
  | (i, p) :: ps, (i', v) :: vs, cells, cs, arr, h, hc, hl, hr => by
    simp only [fillC] at h
    obtain ⟨rfl, hp⟩ := hr 0 (i, p) (i', v) rfl rfl
    split at h
    · rename_i off size hpl
      by_cases hsz : p.length = size ∧ off + p.length ≤ cells.length
      · rw [if_pos hsz] at h
        obtain ⟨hs1, hs2⟩ := hsz
        have hff := fill_fold off v.cells.toList 0 arr (by simp only [Array.length_toList]; have := hp.1; have := hc.1; simp only at *; omega)
        obtain ⟨arr', h1, h2⟩ := fill_sound (ps := ps) (vs := vs) (arr := ((v.cells.toList.zipIdx 0).foldl (fun cs (c, j) => cs.setIfInBounds (off + j) c) arr)) h (by
          refine ⟨by rw [hff.1, over_length hs2]; exact hc.1, fun j c u h3 h4 => ?_⟩
          rw [over_get hs2] at h3
          rw [hff.2] at h4
          simp only [Nat.add_zero, Array.length_toList] at h4
          have e : v.cells.size = p.length := hp.1
          rw [e] at h4
          by_cases hj : off ≤ j ∧ j < off + p.length
          · rw [if_pos hj] at h3 h4
            exact hp.2 _ c u h3 (by simpa using h4)
          · rw [if_neg hj] at h3 h4
            exact hc.2 _ c u h3 h4) (by simpa using hl) (fun j p v h3 h4 => hr (j + 1) p v (by simpa using h3) (by simpa using h4))
        refine ⟨arr', ?_, h2⟩
        have hpl' : places.toArray[i]? = some (off, size) := by simpa using hpl
        simp only [Instr.fill, hpl']
        have e : v.cells.size = p.length := hp.1
        rw [if_neg (by simp only [e, hs1]; have := hc.1; simp; omega)]
        rw [← h1]
        congr 1
        rw [← Array.foldl_toList, Array.toList_zipIdx]
      · rw [if_neg hsz] at h; cases h
    · cases h

theorem partsOf_rel {g : Gh} {ev : Operand → CV} {a : Act} : ∀ {parts : List (Nat × Operand)} {ps : List (Nat × List CS)}, partsOf ev parts = some ps → (∀ x ∈ parts, relV g (ev x.2) (a.eval x.2)) →
    ps.length = (parts.map fun (i, x) => (i, a.eval x)).length ∧ ∀ (j : Nat) p v, ps[j]? = some p → (parts.map fun (i, x) => (i, a.eval x))[j]? = some v → p.1 = v.1 ∧ CellsRel g p.2 v.2.cells
  | [], ps, h, _ => by simp only [partsOf] at h; cases h; exact ⟨rfl, fun j p v h => by simp at h⟩
  | (i, x) :: rest, ps, h, hr => by
    simp only [partsOf] at h
    split at h
    · rename_i cs hcs
      by_cases hp : cs.all plain = true
      · rw [if_pos hp] at h
        split at h
        · rename_i ps' hps'; cases h
          obtain ⟨h1, h2⟩ := partsOf_rel hps' (fun x hx => hr x (by simp [hx]))
          refine ⟨by simpa using h1, fun j p v h3 h4 => ?_⟩
          cases j with
          | zero =>
            simp at h3 h4; subst h3 h4
            obtain ⟨h5, h6⟩ := cells_rel hcs hp (hr (i, x) (by simp))
            exact ⟨rfl, h5, fun j c u h7 h8 => (h6 j c u h7 h8).1⟩
          | succ j => exact h2 j p v (by simpa using h3) (by simpa using h4)
        · cases h
      · rw [if_neg hp] at h; cases h
    · cases h

theorem fill_ext {f f' : Nat → Option (Nat × Nat)} (hf : ∀ i p, f i = some p → f' i = some p) : ∀ {parts : List (Nat × Value)} {cells r : Array Value}, Instr.fill f cells parts = some r → Instr.fill f' cells parts = some r
  | [], cells, r, h => h
  | (i, v) :: rest, cells, r, h => by
    simp only [Instr.fill] at h ⊢
    cases hi : f i with
    | none => rw [hi] at h; cases h
    | some p =>
      rw [hi] at h
      rw [hf i p hi]
      simp only at h ⊢
      split at h
      · cases h
      · rename_i hc
        rw [if_neg hc]
        exact fill_ext hf h

theorem build_sound {o : Oper} {s : St} {T : TypeId} {parts : Array (Nat × Operand)} {places : List (Nat × Nat)} {z cs : List CS} {ps : List (Nat × List CS)} (ho : o.op = .build T parts)
    (hpl : placesOf P T = some places) (hz : zeroCells P T = some z) (hps : partsOf s.ev parts.toList = some ps) (hf : fillC places z ps = some cs) : EffOk P o s (.val (.one (.agg cs)) []) := by
  refine val_of_run fun g w a hops => ?_
  have hx : ∀ x ∈ parts.toList, relV g (s.ev x.2) (a.eval x.2) := fun x hx => hops x.2 (by
    rw [ho]; simp only [Op.operands]; exact List.mem_map_of_mem hx)
  obtain ⟨h1, h2⟩ := partsOf_rel hps hx
  obtain ⟨i, z', hi, hz', rfl⟩ := zeroCells_spec hz
  obtain ⟨arr', h3, h4⟩ := fill_sound (g := g) (arr := z'.cells) hf ⟨by simp, fun j c u h5 h6 => by
    simp at h5
    obtain ⟨x, hx, rfl⟩ := h5
    rw [hx] at h6; cases h6; exact rel_ofCell g _⟩ h1 h2
  unfold placesOf at hpl
  split at hpl
  · rename_i fields hu
    refine ⟨.agg arr', 0, ?_, arr', rfl, h4.1, h4.2⟩
    have hb : P.built T (parts.map fun (i, x) => (i, a.eval x)).toList = some arr' := by
      unfold Program.built
      simp only [hi, hu, hz', hpl]
      simpa using h3
    simp only [execOp, ho, Sem.run_bind, run_build w T _ arr' hb, Result.andThen_ok, Sem.run_pure]
    rfl
  · rename_i n e hu
    split at hpl
    · rename_i ie hie
      cases hb16 : Nat.ble n 16
      · rw [hb16] at hpl; cases hpl
      rw [hb16] at hpl
      cases hpl
      refine ⟨.agg arr', 0, ?_, arr', rfl, h4.1, h4.2⟩
      have h3' := fill_ext (f' := fun i => some (i * ie.size, ie.size)) (fun i p hp => by
        simp only [List.getElem?_toArray, List.getElem?_map] at hp
        rcases Nat.lt_or_ge i n with hi2 | hi2
        · rw [List.getElem?_range hi2] at hp; exact hp
        · rw [List.getElem?_eq_none (by simpa using hi2)] at hp; cases hp) h3
      have hb : P.built T (parts.map fun (i, x) => (i, a.eval x)).toList = some arr' := by
        unfold Program.built
        simp only [hi, hu, hz', hie]
        simpa using h3'
      simp only [execOp, ho, Sem.run_bind, run_build w T _ arr' hb, Result.andThen_ok, Sem.run_pure]
      rfl
    · cases hpl
  · cases hpl

theorem fieldOff_spec {T f k : Nat} (h : fieldOff P T f = some k) : ∃ fields fd i, P.underlying T = some (.struct fields) ∧ fields[f]? = some fd ∧ P.info? fd.type = some i ∧ i.size ≠ 0 ∧ fd.offset = k := by
  unfold fieldOff at h
  split at h
  · rename_i fields hu
    split at h
    · rename_i fd hf
      split at h
      · rename_i i hi
        by_cases h0 : i.size = 0
        · rw [if_pos h0] at h; cases h
        · rw [if_neg h0] at h; cases h; exact ⟨_, _, _, hu, hf, hi, h0, rfl⟩
      · cases h
    · cases h
  · cases h

theorem run_fieldAt (w : World) {T f k : Nat} (h : fieldOff P T f = some k) (b off : Nat) : (Instr.fieldAt T (.pointer (some ⟨b, off, none⟩)) f).run P w = .ok (.pointer (some ⟨b, off + k, none⟩)) w := by
  obtain ⟨fields, fd, i, h1, h2, h3, h4, h5⟩ := fieldOff_spec h
  have hadd : (⟨b, off, none⟩ : Addr).add k = ⟨b, off + k, none⟩ := by unfold Addr.add; split <;> simp_all
  simp [Instr.fieldAt, run_underlying h1, h2, Instr.sureAddr, fieldPlace, sizeOf, typeInfo, h3, h4, h5, hadd]

theorem tyElem_spec {T sz : Nat} (h : tyElem P T = some sz) : ∃ e i, P.underlying T = some (.slice e) ∧ P.info? e = some i ∧ i.size = sz := by
  unfold tyElem at h
  split at h
  · rename_i e he
    split at h
    · rename_i i hi; cases h; exact ⟨e, i, he, hi, rfl⟩
    · cases h
  · cases h

theorem fieldPart_spec {T f off : Nat} {ag : Bool} {n : Nat} (h : fieldPart P T f = some (off, ag, n)) : ∃ fields fd, P.underlying T = some (.struct fields) ∧ fields[f]? = some fd ∧ tyShape P fd.type = some (ag, n) ∧ fd.offset = off := by
  unfold fieldPart at h
  split at h
  · rename_i fields hu
    split at h
    · rename_i fd hf
      split at h
      · rename_i ag' n' hs; cases h; exact ⟨_, _, hu, hf, hs, rfl⟩
      · cases h
    · cases h
  · cases h

end
end Go.Dv

/- The model's operations do what 'cop' says (part 3): arrays of the call's own. -/
namespace Go.Dv
open Go.RowKit Go.Cv

section
variable {P : Program} {α : Type}

theorem castLs_spec {e' e : Sh} {l : List e'.Ty} {x : List e.Ty} (h : castLs e' e l = some x) : ∃ he : e' = e, x = he ▸ l := by
  unfold castLs at h
  split at h
  · rename_i he; cases h; exact ⟨he, rfl⟩
  · cases h

theorem decD_sound {g : Gh} {bw : Bool} (hsub : ∀ k o, g.im k = some o → g.bi k = some o) : ∀ (s : Sh) (f : Nat → CS) (x : s.Ty) (A : Nat → Value → Prop), decD bw s f = some x → (∀ j, j < s.size → ∃ u, A j u ∧ rel g (f j) u) → relT (g.mem bw) s x A := by
  intro s
  induction s with
  | fl k =>
    intro f x A h hf
    obtain ⟨u, h1, h2⟩ := hf 0 (by simp [Sh.size])
    simp only [decD] at h
    split at h
    · rename_i k' n hc
      cases hk : eqK k' k
      · rw [hk] at h; cases h
      · rw [hk] at h; cases h
        obtain rfl := eqK_spec hk
        rw [hc] at h2
        obtain ⟨m, rfl, h3, h4⟩ := h2
        exact ⟨m, h1, h3, h4⟩
    · cases h
  | int k =>
    intro f x A h hf
    obtain ⟨u, h1, h2⟩ := hf 0 (by simp [Sh.size])
    simp only [decD] at h
    split at h
    · rename_i k' n hc
      cases hk : eqI k' k
      · rw [hk] at h; cases h
      · rw [hk] at h; cases h
        obtain rfl := eqI_spec hk
        rw [hc] at h2
        obtain rfl : u = _ := h2
        exact h1
    · cases h
  | bool =>
    intro f x A h hf
    obtain ⟨u, h1, h2⟩ := hf 0 (by simp [Sh.size])
    simp only [decD] at h
    split at h
    · rename_i b hc
      cases h
      rw [hc] at h2
      obtain rfl : u = _ := h2
      exact h1
    · cases h
  | str =>
    intro f x A h hf
    obtain ⟨u, h1, h2⟩ := hf 0 (by simp [Sh.size])
    simp only [decD] at h
    split at h
    · rename_i b hc
      cases h
      rw [hc] at h2
      obtain rfl : u = _ := h2
      exact h1
    · cases h
  | ifc =>
    intro f x A h hf
    obtain ⟨u, h1, h2⟩ := hf 0 (by simp [Sh.size])
    exact ⟨u, h1, ifD_rel h h2⟩
  | cx k =>
    intro f x A h hf
    obtain ⟨u, h1, h2⟩ := hf 0 (by simp [Sh.size])
    simp only [decD] at h
    split at h
    · rename_i k' a b hc
      cases hk : eqK k' k
      · rw [hk] at h; cases h
      · rw [hk] at h; cases h
        obtain rfl := eqK_spec hk
        rw [hc] at h2
        obtain ⟨c, d, rfl, h3⟩ := h2
        exact ⟨c, d, h1, h3⟩
    · cases h
  | ls e _ =>
    intro f x A h hf
    obtain ⟨u, h1, h2⟩ := hf 0 (by simp [Sh.size])
    simp only [decD] at h
    split at h
    · rename_i bw' e' l hc
      rw [hc] at h2
      have h3 : (bw || !bw') = true := by
        cases hb : (bw || !bw')
        · rw [hb] at h; cases h
        · rfl
      rw [h3] at h
      simp only [cond_true] at h
      obtain ⟨rfl, h6⟩ := castLs_spec h
      have h6 : x = l := h6
      subst h6
      have h4 : relL (g.mem bw) e' x u := by
        refine relL_mono ?_ h2
        cases bw <;> cases bw' <;> first | (cases h3; done) | exact fun _ _ h => h | exact hsub
      obtain ⟨a, cap, rfl, h5⟩ := h4
      exact ⟨a, cap, h1, h5⟩
    · rename_i hc
      cases h
      rw [hc] at h2
      obtain rfl : u = _ := h2
      exact ⟨none, 0, h1, Nat.le_refl _, fun _ => rfl, fun h => by simp at h⟩
    · cases h
  | pair a b iha ihb =>
    intro f x A h hf
    simp only [decD] at h
    split at h
    · rename_i x1 x2 h1 h2
      cases h
      refine ⟨iha f x1 A h1 fun j hj => hf j (by simp [Sh.size]; omega), ihb _ x2 _ h2 fun j hj => hf (a.size + j) (by simp [Sh.size]; omega)⟩
    · cases h

theorem withArr_id (hp : Hp) (id : Nat) (c : CS) (o : Nat) : withArr hp id c id o = if o = 0 then some c else none := by
  cases o with
  | zero => simp [withArr]
  | succ o => have h : Nat.beq (o + 1) 0 = false := rfl
              simp [withArr, h]
theorem withArr_ne (hp : Hp) {id i : Nat} (c : CS) (o : Nat) (h : i ≠ id) : withArr hp id c i o = hp i o := by
  have : Nat.beq i id = false := by cases hb : Nat.beq i id; rfl; exact absurd (Nat.eq_of_beq_eq_true hb) h
  simp [withArr, this]

theorem Keep.setRow {X : Nat → Prop} {w0 w : World} (h : Keep X w0 w) {b : Nat} (hb : w0.heap.size ≤ b ∨ X b) (arr : Array Value) : Keep X w0 (w.setRow b arr) := by
  refine ⟨h.os, h.tape, h.output, by have := h.size; simpa using this, fun k hk hx => ?_⟩
  rw [setRow_other _ _ _ _ (fun e => by subst e; rcases hb with hb | hb; omega; exact hx hb)]
  exact h.block k hk hx

theorem WOk.setRow {X : Fr} {w0 : World} {g : Gh} {w : World} (hok : WOk X w0 g w) {id b : Nat} {arr : Array Value} {T : TypeId} (hb : g.β id = some b)
    (hh : RowAt w b arr T) (arr' : Array Value) : WOk X w0 g (w.setRow b arr') := by
  obtain ⟨h1, h2, h3⟩ := hok.fresh _ _ hb
  refine ⟨hok.keep.setRow (h1.imp_right And.left) _, hok.im, fun k o ho => ?_, hok.inj, fun i c hc => ?_, trivial, hok.base, hok.imf, hok.pin⟩
  · have hne : k ≠ b := fun e1 => by subst e1; rw [h3] at ho; cases ho
    rw [setRow_other _ _ _ _ hne]; exact hok.bi k o ho
  · obtain ⟨h4, h5, h6⟩ := hok.fresh _ _ hc
    exact ⟨h4, by simpa using h5, h6⟩

/-- the state behind a change of one array's content, in its place -/
theorem Sim.arrSet {X : Fr} {w0 : World} {n : Nat} {s : St} {g : Gh} {a : Act} {w : World} (h : Sim X w0 n s g a w) {id b : Nat} {arr : Array Value} {T : TypeId} {e : Sh} {l : List e.Ty} (hb : g.β id = some b)
    (hh : RowAt w b arr T) (arr' : Array Value) (hr : ArrRel g (w.setRow b arr') id e l) :
    Sim X w0 n { s with hp := withArr s.hp id (.arr e l) } g a (w.setRow b arr') := by
  have hok := h.ok
  refine ⟨h.tm, h.len, h.df, hok.setRow hb hh arr', fun i o c hc => ?_, h.nx, fun i o c hc => ?_, h.lo, h.ln⟩
  · have hc : withArr s.hp id (.arr e l) i o = some c := hc
    by_cases e1 : i = id
    · subst e1
      rw [withArr_id] at hc
      split at hc
      · rename_i e2; cases hc; exact .inl ⟨e, l, rfl, e2, hr⟩
      · cases hc
    · rw [withArr_ne _ _ _ e1] at hc
      refine (h.cells _ _ _ hc).keep (Gh.le_refl g) rfl (fun b' hb' => setRow_other _ _ _ _ fun e2 => ?_)
      subst e2
      exact e1 (hok.inj _ _ _ hb' hb)
  · have hc : withArr s.hp id (.arr e l) i o = some c := hc
    by_cases e1 : i = id
    · subst e1; exact h.nx _ _ hb
    · rw [withArr_ne _ _ _ e1] at hc; exact h.hx _ _ _ hc

theorem tm_put {g : Gh} {f : Nat → CV} {a : Act} {n : Nat} {d : Option Nat} {cv : CV} {v : Value} (h : ∀ t, relV g (f t) (a.tmps.getD t undef)) (hl : a.tmps.size = n)
    (hd : ∀ x, d = some x → x < n) (hv : relV g cv v) : ∀ t, relV g (upd f d cv t) ((a.put d v).tmps.getD t undef) := by
  intro t
  cases d with
  | none => exact h t
  | some d =>
    have hdn := hd d rfl
    by_cases e : t = d
    · subst e
      rw [upd_same]
      have : (a.put (some t) v).tmps.getD t undef = v := by simp [Act.put, hl, hdn]
      rw [this]; exact hv
    · rw [upd_ne _ _ e]
      have : (a.put (some d) v).tmps.getD t undef = a.tmps.getD t undef := by
        have hne : d ≠ t := fun h => e h.symm
        simp [Act.put, Array.getElem?_setIfInBounds_ne hne]
      rw [this]; exact h t

theorem put_size (a : Act) (d : Option Nat) (v : Value) : (a.put d v).tmps.size = a.tmps.size := by cases d <;> simp [Act.put]
theorem put_defers' (a : Act) (d : Option Nat) (v : Value) : (a.put d v).defers = a.defers := by cases d <;> simp [Act.put]

theorem Sim.ev {X : Fr} {w0 : World} {n : Nat} {s : St} {g : Gh} {a : Act} {w : World} (h : Sim X w0 n s g a w) (x : Operand) : relV g (s.ev x) (a.eval x) := by
  cases x with
  | tmp t => exact h.tm t
  | const v => exact relV_ofValue g v
  | global b => trivial
  | func f => exact ⟨#[], rfl, rfl, fun j u hu => by simp at hu⟩

theorem Sim.after {X : Fr} {w0 : World} {n : Nat} {s : St} {g g' : Gh} {a : Act} {w w' : World} (h : Sim X w0 n s g a w) (haf : After X w0 g w g' w') : Sim X w0 n s g' a w' :=
  ⟨fun t => relV_mono haf.le _ _ (h.tm t), h.len, h.df, haf.ok, fun id off c hc => (h.cells id off c hc).after haf h.ok, fun i b hb => h.nx i b (by rw [← haf.β]; exact hb), h.hx, h.lo, h.ln⟩

theorem Sim.put {X : Fr} {w0 : World} {n : Nat} {s : St} {g : Gh} {a : Act} {w : World} (h : Sim X w0 n s g a w) {d : Option Nat} {cv : CV} {v : Value} (hd : ∀ x, d = some x → x < n) (hv : relV g cv v) :
    Sim X w0 n (s.put d cv) g (a.put d v) w :=
  ⟨tm_put h.tm h.len hd hv, by rw [put_size]; exact h.len, by rw [put_defers']; exact h.df, h.ok, h.cells, h.nx, h.hx, h.lo, h.ln⟩

/-- where an element's cells lie -/
theorem cell_div {i j sz a b : Nat} (ha : a < sz) (hb : b < sz) (h : i * sz + a = j * sz + b) : i = j ∧ a = b := by
  have h0 : 0 < sz := by omega
  have h1 : (i * sz + a) / sz = i := by rw [Nat.mul_comm, Nat.mul_add_div h0, Nat.div_eq_of_lt ha, Nat.add_zero]
  have h2 : (j * sz + b) / sz = j := by rw [Nat.mul_comm, Nat.mul_add_div h0, Nat.div_eq_of_lt hb, Nat.add_zero]
  have h3 : i = j := by rw [← h1, ← h2, h]
  subst h3
  exact ⟨rfl, by omega⟩

theorem relT_lt {m : Nat → Option Obj} : ∀ (s : Sh) (x : s.Ty) {A A' : Nat → Value → Prop}, (∀ k u, k < s.size → A k u → A' k u) → relT m s x A → relT m s x A'
  | .fl _, _, _, _, hA, ⟨d, h1, h2⟩ => ⟨d, hA _ _ Nat.one_pos h1, h2⟩
  | .int _, _, _, _, hA, h1 => hA _ _ Nat.one_pos h1
  | .bool, _, _, _, hA, h1 => hA _ _ Nat.one_pos h1
  | .str, _, _, _, hA, h1 => hA _ _ Nat.one_pos h1
  | .cx _, _, _, _, hA, ⟨c, d, h1, h2⟩ => ⟨c, d, hA _ _ Nat.one_pos h1, h2⟩
  | .ifc, _, _, _, hA, ⟨u, h1, h2⟩ => ⟨u, hA _ _ Nat.one_pos h1, h2⟩
  | .ls _, _, _, _, hA, ⟨a, cap, h1, h2⟩ => ⟨a, cap, hA _ _ Nat.one_pos h1, h2⟩
  | .pair a b, x, _, _, hA, ⟨h1, h2⟩ => ⟨relT_lt a x.1 (fun k u hk => hA k u (by simp [Sh.size]; omega)) h1, relT_lt b x.2 (fun k u hk => hA _ u (by simp [Sh.size]; omega)) h2⟩

theorem splice_get (arr : Array Value) (off : Nat) (us : List Value) (h : off + us.length ≤ arr.size) (j : Nat) :
    (arr.toList.take off ++ us ++ arr.toList.drop (off + us.length)).toArray[j]? = if off ≤ j ∧ j < off + us.length then us[j - off]? else arr[j]? := by
  simp only [List.getElem?_toArray]
  rw [List.append_assoc]
  rcases Nat.lt_or_ge j off with h1 | h1
  · rw [if_neg (by omega), List.getElem?_append_left (by simp; omega), List.getElem?_take_of_lt h1]; simp
  · rw [List.getElem?_append_right (by simp; omega)]
    have e : (arr.toList.take off).length = off := by simp; omega
    rw [e]
    rcases Nat.lt_or_ge j (off + us.length) with h2 | h2
    · rw [if_pos ⟨h1, h2⟩, List.getElem?_append_left (by omega)]
    · rw [if_neg (by omega), List.getElem?_append_right (by omega), List.getElem?_drop]
      simp
      congr 1; omega

theorem splice_size (arr : Array Value) (off : Nat) (us : List Value) (h : off + us.length ≤ arr.size) : (arr.toList.take off ++ us ++ arr.toList.drop (off + us.length)).toArray.size = arr.size := by
  simp; omega

/-- a store into an element -/
theorem store_pe_sound {o : Oper} {s : St} {T : TypeId} {ad x : Operand} {ag : Bool} {n id i k : Nat} {e : Sh} {l : List e.Ty} {cs : List CS} {y : e.Ty} (ho : o.op = .store T ad x) (hs : tyShape P T = some (ag, n))
    (ha : s.ev ad = .one (.s (.pe id e.size i k))) (hh : s.hp id 0 = some (.arr e l)) (hc : cellsOf (s.ev x) = some cs) (hi : i < l.length) (hk : k + cs.length ≤ e.size) (hn : cs.length = n) (hp : cs.all plain = true)
    (hy : decD false e (fun j => (over (cells false e (l.getD i e.dflt)) k cs).getD j .any) = some y) :
    EffOk P o s (.gen { tm := upd s.tm o.dst (ex undef), hp := withArr s.hp id (.arr e (l.set i y)), nx := s.nx, lo := s.lo }) := by
  intro X w0 m g a w K Q hsim hd hkk
  have hxa := hsim.ev x
  have hada := hsim.ev ad
  rw [ha] at hada
  obtain ⟨b, hb, hae⟩ := hada
  rcases hsim.cells _ _ _ hh with ⟨e', l', h1, _, har⟩ | ⟨_, _, _, _, _, _, _, h⟩
  · cases h1
    have har0 := har
    obtain ⟨b', arr, T', h4, h5, h6, h7⟩ := har.elem hi
    rw [hb] at h4; cases h4
    rcases har0 with ⟨e1, _⟩ | ⟨b', arr', T'', h8, h9, h10, h11, h12⟩
    · subst e1; simp at hi
    rw [hb] at h8; cases h8
    obtain ⟨rfl, rfl⟩ := h5.inj h9
    have hoff : i * e.size + k + cs.length ≤ arr.size := by omega
    obtain ⟨us, hu1, hu2, hu3⟩ := run_store_at ho hs hc hn hp hxa hae h5 hoff
    refine wp_of_skip hu3 (hkk g _ _ ?_)
    have hs2 := hsim.put (d := o.dst) (cv := ex undef) (v := undef) hd rfl
    refine hs2.arrSet hb h5 _ (.inr ⟨b, _, T', hb, h5.set (splice_size _ _ _ (by omega)), by rw [splice_size _ _ _ (by omega)]; exact h10, by simpa using h11, fun i' x' hx' => ?_⟩)
    rw [List.getElem?_set] at hx'
    by_cases e1 : i = i'
    · subst e1
      rw [if_pos rfl, if_pos hi] at hx'
      cases hx'
      refine decD_sound hsim.ok.im (bw := false) e _ y _ hy fun j hj => ?_
      have hcl := cells_length false e (l.getD i e.dflt)
      have hov : (over (cells false e (l.getD i e.dflt)) k cs).length = e.size := by rw [over_length (by omega)]; exact hcl
      have hg := over_get (cells := cells false e (l.getD i e.dflt)) (off := k) (cs := cs) (by omega) j
      by_cases hjk : k ≤ j ∧ j < k + cs.length
      · rw [if_pos hjk] at hg
        have h13 : j - k < cs.length := by omega
        have h14 : (over (cells false e (l.getD i e.dflt)) k cs).getD j .any = cs[j - k] := by rw [List.getD_eq_getElem?_getD, hg]; simp [h13]
        refine ⟨us[j - k], ?_, ?_⟩
        · show _ = some _
          rw [splice_get _ _ _ (by omega), if_pos (by omega)]
          have e2 : i * e.size + j - (i * e.size + k) = j - k := by omega
          rw [e2]; simp [hu1, h13]
        · show rel g ((over (cells false e (l.getD i e.dflt)) k cs).getD j .any) _
          rw [h14]
          exact hu2 (j - k) _ _ (by simp [h13]) (by simp [hu1, h13])
      · rw [if_neg hjk] at hg
        have h13 : j < (cells false e (l.getD i e.dflt)).length := by omega
        obtain ⟨u, h14, h15⟩ := h7 j (cells false e (l.getD i e.dflt))[j] (List.getElem?_eq_getElem h13)
        refine ⟨u, ?_, ?_⟩
        · show _ = some _
          rw [splice_get _ _ _ (by omega), if_neg (by omega)]
          exact h14
        · show rel g ((over (cells false e (l.getD i e.dflt)) k cs).getD j .any) _
          rw [List.getD_eq_getElem?_getD, hg, List.getElem?_eq_getElem h13]
          exact h15
    · rw [if_neg e1] at hx'
      refine relT_lt e x' (fun j u hj h13 => ?_) (h12 i' x' hx')
      show _ = some _
      rw [splice_get _ _ _ (by omega), if_neg (fun h14 => ?_)]
      · exact h13
      · have h15 := cell_div (i := i) (j := i') (sz := e.size) (a := (i' * e.size + j) - i * e.size) (b := j) (by omega) hj (by omega)
        exact e1 h15.1
  · exact h.elim
end
end Go.Dv

/- The model's operations do what 'cop' says (part 4): new arrays; append. -/
namespace Go.Dv
open Go.RowKit Go.Cv

section
variable {P : Program} {α : Type}

/-- a new block gets the next name -/
def Gh.bind (g : Gh) (i b c : Nat) : Gh := { β := fun j => if j = i then some b else g.β j, cp := fun j => if j = i then c else g.cp j, im := g.im, bi := g.bi }

theorem Gh.bind_ne (g : Gh) {i j b c : Nat} (h : j ≠ i) : (g.bind i b c).β j = g.β j := by simp [Gh.bind, h]
theorem Gh.bind_same (g : Gh) (i b c : Nat) : (g.bind i b c).β i = some b ∧ (g.bind i b c).cp i = c := by simp [Gh.bind]

theorem Gh.le_bind {g : Gh} {i b c : Nat} (h : g.β i = none) : g.le (g.bind i b c) := by
  refine ⟨fun j d hd => ?_, fun _ _ h => h, fun _ _ h => h⟩
  have e : j ≠ i := fun e => by subst e; rw [h] at hd; cases hd
  exact ⟨by rw [Gh.bind_ne g e]; exact hd, by simp [Gh.bind, e]⟩

theorem heap_alloc_same (w : World) (o : Obj) : (w.alloc o).heap[w.heap.size]? = some o := by
  show (w.heap.push _)[w.heap.size]? = _
  simp

/-- a new block, under a name that is free (or is given up) -/
theorem WOk.alloc {X : Fr} {w0 : World} {g : Gh} {w : World} (h : WOk X w0 g w) (i c : Nat) (hi : X.n ≤ i) (arr : Array Value) (T : TypeId) (fr : Nat × Nat := (0, 0)) : WOk X w0 (g.bind i w.heap.size c) (w.alloc (.cells arr T fr)) := by
  have hle : w0.heap.size ≤ w.heap.size := h.keep.size
  have hbn : ∀ k o, g.bi k = some o → k < w.heap.size := fun k o ho => lt_of_block (h.bi k o ho)
  have key : ∀ j b, (if j = i then some w.heap.size else g.β j) = some b → (j = i ∧ b = w.heap.size) ∨ (j ≠ i ∧ g.β j = some b ∧ b < w.heap.size) := fun j b hj => by
    by_cases e : j = i
    · rw [if_pos e] at hj; cases hj; exact .inl ⟨e, rfl⟩
    · rw [if_neg e] at hj; exact .inr ⟨e, hj, (h.fresh _ _ hj).2.1⟩
  refine ⟨h.keep.alloc _, h.im, fun k o ho => ?_, fun j k b hj hk => ?_, fun j b hj => ?_, trivial, h.base, h.imf, fun j hj => by simp [Gh.bind, show j ≠ i by omega, h.pin j hj]⟩
  · rw [Below.heap_alloc _ _ _ (hbn k o ho)]; exact h.bi k o ho
  · rcases key j b hj with ⟨e1, e2⟩ | ⟨_, e1, e2⟩ <;> rcases key k b hk with ⟨e3, e4⟩ | ⟨_, e3, e4⟩
    · rw [e1, e3]
    · omega
    · omega
    · exact h.inj _ _ _ e1 e3
  · rcases key j b hj with ⟨e1, e2⟩ | ⟨_, e1, e2⟩
    · subst e2
      refine ⟨.inl hle, by simp, ?_⟩
      show g.bi w.heap.size = none
      cases ho : g.bi w.heap.size with
      | none => rfl
      | some o => have := hbn _ _ ho; omega
    · obtain ⟨h1, h2, h3⟩ := h.fresh _ _ e1
      exact ⟨h1, by simp; omega, h3⟩

theorem free_nx {X : Fr} {w0 : World} {n : Nat} {s : St} {g : Gh} {a : Act} {w : World} (h : Sim X w0 n s g a w) : ∀ i, s.nx ≤ i → g.β i = none := fun i hi => by
  cases hb : g.β i with
  | none => rfl
  | some b => have := h.nx _ _ hb; omega

/-- the state behind a new array -/
theorem Sim.bornV {X : Fr} {w0 : World} {n : Nat} {s : St} {g : Gh} {a : Act} {w : World} (h : Sim X w0 n s g a w) {d : Option Nat} (hd : ∀ x, d = some x → x < n) {e : Sh} {l : List e.Ty} {arr : Array Value} {T : TypeId} {c : Nat} {fr : Nat × Nat} (hfr : FrOk arr.size fr)
    (hsz : arr.size = c * e.size) (hl : l.length ≤ c) (hr : ∀ i x, l[i]? = some x → relT g.im e x (fun k u => arr[i * e.size + k]? = some u))
    {cv : CV} {v : Value} (hv : relV (g.bind s.nx w.heap.size c) cv v) : Sim X w0 n { tm := upd s.tm d cv, hp := withArr s.hp s.nx (.arr e l), nx := s.nx + 1, lo := s.lo } (g.bind s.nx w.heap.size c) (a.put d v) (w.alloc (.cells arr T fr)) := by
  have hi := free_nx h s.nx (Nat.le_refl _)
  have hle := Gh.le_bind (b := w.heap.size) (c := c) hi
  obtain ⟨hb1, hb2⟩ := Gh.bind_same g s.nx w.heap.size c
  refine ⟨tm_put (fun t => relV_mono hle _ _ (h.tm t)) h.len hd ?_, by rw [put_size]; exact h.len, by rw [put_defers']; exact h.df, h.ok.alloc _ _ h.ln arr T fr, fun i o cc hc => ?_, fun i b hb => ?_, fun i o cc hc => ?_, h.lo, by show X.n ≤ s.nx + 1; have := h.ln; omega⟩
  · exact hv
  · have hc : withArr s.hp s.nx (.arr e l) i o = some cc := hc
    by_cases e1 : i = s.nx
    · subst e1
      rw [withArr_id] at hc
      split at hc
      · rename_i e2; cases hc
        exact .inl ⟨e, l, rfl, e2, .inr ⟨_, arr, T, hb1, ⟨fr, heap_alloc_same _ _, hfr⟩, by rw [hb2]; exact hsz, by rw [hb2]; exact hl, hr⟩⟩
      · cases hc
    · rw [withArr_ne _ _ _ e1] at hc
      exact (h.cells _ _ _ hc).keep hle (Gh.bind_ne g e1) (fun b hb => Below.heap_alloc _ _ _ (h.ok.fresh _ _ hb).2.1)
  · show i < s.nx + 1
    by_cases e1 : i = s.nx
    · omega
    · rw [Gh.bind_ne g e1] at hb; have := h.nx _ _ hb; omega
  · have hc : withArr s.hp s.nx (.arr e l) i o = some cc := hc
    show i < s.nx + 1
    by_cases e1 : i = s.nx
    · omega
    · rw [withArr_ne _ _ _ e1] at hc; have := h.hx _ _ _ hc; omega

theorem Sim.bornF {X : Fr} {w0 : World} {n : Nat} {s : St} {g : Gh} {a : Act} {w : World} (h : Sim X w0 n s g a w) {d : Option Nat} (hd : ∀ x, d = some x → x < n) {e : Sh} {l : List e.Ty} {arr : Array Value} {T : TypeId} {c : Nat} {fr : Nat × Nat} (hfr : FrOk arr.size fr)
    (hsz : arr.size = c * e.size) (hl : l.length ≤ c) (hr : ∀ i x, l[i]? = some x → relT g.im e x (fun k u => arr[i * e.size + k]? = some u)) :
    Sim X w0 n (bornSt s d e l) (g.bind s.nx w.heap.size c) (a.put d (.slice (some ⟨w.heap.size, 0, none⟩) l.length c)) (w.alloc (.cells arr T fr)) := by
  obtain ⟨hb1, hb2⟩ := Gh.bind_same g s.nx w.heap.size c
  exact h.bornV hd hfr hsz hl hr (.inr ⟨w.heap.size, hb1, by rw [hb2], by rw [hb2]; exact hl⟩)

theorem Sim.born {X : Fr} {w0 : World} {n : Nat} {s : St} {g : Gh} {a : Act} {w : World} (h : Sim X w0 n s g a w) {d : Option Nat} (hd : ∀ x, d = some x → x < n) {e : Sh} {l : List e.Ty} {arr : Array Value} {T : TypeId} {c : Nat}
    (hsz : arr.size = c * e.size) (hl : l.length ≤ c) (hr : ∀ i x, l[i]? = some x → relT g.im e x (fun k u => arr[i * e.size + k]? = some u)) :
    Sim X w0 n (bornSt s d e l) (g.bind s.nx w.heap.size c) (a.put d (.slice (some ⟨w.heap.size, 0, none⟩) l.length c)) (w.alloc (.cells arr T)) := h.bornF hd (.inl rfl) hsz hl hr

theorem Sim.drewN {X : Fr} {w0 : World} {n : Nat} {s : St} {g : Gh} {a : Act} {w : World} (h : Sim X w0 n s g a w) (m : Nat) : Sim X w0 n s g a (w.drewN m) := h.after (After.drewN h.ok m)

/-! ### zeros -/

theorem eqZs_append : ∀ {zs as bs : List Value}, eqZs zs (as ++ bs) = true → ∃ z1 z2, zs = z1 ++ z2 ∧ eqZs z1 as = true ∧ eqZs z2 bs = true ∧ z1.length = as.length
  | zs, [], bs, h => ⟨[], zs, rfl, rfl, h, rfl⟩
  | [], a :: as, bs, h => by cases h
  | z :: zs, a :: as, bs, h => by
    simp only [List.cons_append, eqZs, Bool.and_eq_true] at h
    obtain ⟨z1, z2, e1, h1, h2, h3⟩ := eqZs_append h.2
    exact ⟨z :: z1, z2, by rw [e1]; rfl, by simp only [eqZs, Bool.and_eq_true]; exact ⟨h.1, h1⟩, h2, by simp [h3]⟩

theorem eqZs_one {zs : List Value} {a : Value} (h : eqZs zs [a] = true) : ∃ z, zs = [z] ∧ eqZ z a = true := by
  match zs, h with
  | [z], h => simp only [eqZs, Bool.and_eq_true] at h; exact ⟨z, rfl, h.1⟩
  | _ :: _ :: _, h => simp only [eqZs, Bool.and_eq_true] at h; cases h.2

theorem zeroV_length : ∀ e : Sh, (zeroV e).length = e.size
  | .fl _ | .int _ | .bool | .str | .cx _ | .ifc | .ls _ => rfl
  | .pair a b => by simp [zeroV, Sh.size, zeroV_length a, zeroV_length b]

theorem cn0 (k : FloatKind) : cn k 0 = 0 := by cases k <;> decide
theorem lim0 (k : FloatKind) : 0 < lim k := by cases k <;> decide

theorem zero_rel {m : Nat → Option Obj} : ∀ (e : Sh) (zs : List Value), eqZs zs (zeroV e) = true → relT m e e.dflt (fun k u => zs[k]? = some u)
  | .fl k, zs, h => by
    obtain ⟨z, hz, h'⟩ := eqZs_one h
    subst hz
    clear h
    have h := h'
    clear h'
    unfold eqZ at h
    split at h
    · rename_i h1; cases h1
      simp only [Bool.and_eq_true] at h
      obtain ⟨h1, h2, h3⟩ := h
      obtain rfl := eqK_spec h1
      obtain rfl := Nat.eq_of_beq_eq_true h2
      exact ⟨0, rfl, cn0 _, lim0 _⟩
    all_goals first | (rename_i h1; cases h1; done) | cases h
  | .int k, zs, h => by
    obtain ⟨z, hz, h'⟩ := eqZs_one h
    subst hz
    clear h
    have h := h'
    clear h'
    unfold eqZ at h
    split at h
    any_goals first | (rename_i h1; cases h1; done) | (cases h; done)
    rename_i h1; cases h1
    simp only [Bool.and_eq_true, decide_eq_true_eq] at h
    obtain ⟨h1, h2, h3⟩ := h
    obtain rfl := eqI_spec h1
    subst h2
    rfl
  | .bool, zs, h => by
    obtain ⟨z, hz, h'⟩ := eqZs_one h
    subst hz
    clear h
    have h := h'
    clear h'
    unfold eqZ at h
    split at h
    any_goals first | (rename_i h1; cases h1; done) | (cases h; done)
    rename_i a b h1; cases h1
    simp at h
    subst h
    rfl
  | .str, zs, h => by
    obtain ⟨z, hz, h'⟩ := eqZs_one h
    subst hz
    clear h
    have h := h'
    clear h'
    unfold eqZ at h
    split at h
    any_goals first | (rename_i h1; cases h1; done) | (cases h; done)
    rename_i a b h1; cases h1
    simp only [Bool.and_eq_true] at h
    have h2 := Nat.eq_of_beq_eq_true h.1
    have : a = ByteArray.mk #[] := by
      cases a with
      | mk d =>
        have : d.size = 0 := h2
        rw [Array.eq_empty_of_size_eq_zero this]
    subst this
    rfl
  | .cx k, zs, h => by
    obtain ⟨z, hz, h'⟩ := eqZs_one h
    subst hz
    clear h
    have h := h'
    clear h'
    unfold eqZ at h
    split at h
    any_goals first | (rename_i h1; cases h1; done) | (cases h; done)
    rename_i h1; cases h1
    simp only [Bool.and_eq_true] at h
    obtain ⟨h1, ⟨h2, h3⟩, h4⟩ := h
    obtain rfl := eqK_spec h1
    obtain rfl := Nat.eq_of_beq_eq_true h2
    obtain rfl := Nat.eq_of_beq_eq_true h3
    exact ⟨0, 0, rfl, cn0 _, cn0 _, lim0 _, lim0 _⟩
  | .ifc, zs, h => by
    obtain ⟨z, hz, h'⟩ := eqZs_one h
    subst hz
    clear h
    have h := h'
    clear h'
    unfold eqZ at h
    split at h
    any_goals first | (rename_i h1; cases h1; done) | (cases h; done)
    exact ⟨.nilIface, rfl, rfl⟩
  | .ls e, zs, h => by
    obtain ⟨z, hz, h'⟩ := eqZs_one h
    subst hz
    clear h
    have h := h'
    clear h'
    unfold eqZ at h
    split at h
    any_goals first | (rename_i h1; cases h1; done) | (cases h; done)
    exact ⟨none, 0, rfl, Nat.le_refl _, fun _ => rfl, fun h => by simp [Sh.dflt] at h⟩
  | .pair a b, zs, h => by
    obtain ⟨z1, z2, rfl, h1, h2, h3⟩ := eqZs_append h
    rw [zeroV_length] at h3
    refine ⟨relT_lt a _ (fun k u hk hz => ?_) (zero_rel a z1 h1), relT_mono (fun _ _ h => h) b _ (fun k u hz => ?_) (zero_rel b z2 h2)⟩
    · show (z1 ++ z2)[k]? = some u
      rw [List.getElem?_append_left (by omega)]; exact hz
    · show (z1 ++ z2)[a.size + k]? = some u
      rw [List.getElem?_append_right (by omega), h3]
      have : a.size + k - a.size = k := by omega
      rw [this]; exact hz

theorem elemOk_spec {T : TypeId} {e : Sh} (h : elemOk P T e = true) : ∃ E i z, P.underlying T = some (.slice E) ∧ P.info? E = some i ∧ i.zero = some z ∧ i.size = e.size ∧ eqZs z.cells.toList (zeroV e) = true ∧ i.bytes ≤ 4096 := by
  unfold elemOk at h
  split at h
  · rename_i E hE
    split at h
    · rename_i i hi
      split at h
      · rename_i z hz
        simp only [Bool.and_eq_true] at h
        exact ⟨E, i, z, hE, hi, hz, Nat.eq_of_beq_eq_true h.1, h.2.1, Nat.le_of_ble_eq_true h.2.2⟩
      · cases h
    · cases h
  · cases h

theorem eqZs_length : ∀ {as bs : List Value}, eqZs as bs = true → as.length = bs.length
  | [], [], _ => rfl
  | [], _ :: _, h => by cases h
  | _ :: _, [], h => by cases h
  | a :: as, b :: bs, h => by
    simp only [eqZs, Bool.and_eq_true] at h
    simp [eqZs_length h.2]

theorem made_rel {m : Nat → Option Obj} {e : Sh} {z : Value} (hz : eqZs z.cells.toList (zeroV e) = true) {c i : Nat} (hi : i < c) : relT m e e.dflt (fun k u => (madeCells z.cells (c * e.size))[i * e.size + k]? = some u) := by
  have hzl : z.cells.size = e.size := by have := eqZs_length hz; rw [zeroV_length] at this; simpa using this
  refine relT_lt e _ (fun k u hk hu => ?_) (zero_rel e _ hz)
  have hlt : i * e.size + k < c * e.size := by
    have : (i + 1) * e.size ≤ c * e.size := Nat.mul_le_mul_right _ hi
    rw [Nat.add_mul] at this; omega
  have hmod : (i * e.size + k) % z.cells.size = k := by rw [hzl, Nat.mul_comm, Nat.mul_add_mod, Nat.mod_eq_of_lt hk]
  have hk' : k < z.cells.size := by omega
  show _ = some u
  simp only [madeCells, Array.getElem?_map, Array.getElem?_range, hlt]
  simp [hmod, hk'] at hu ⊢
  exact hu

theorem makeSlice_sound {o : Oper} {s : St} {T : TypeId} {len cap : Operand} {e : Sh} {n c : Int} (ho : o.op = .makeSlice T len cap) (he : elemOk P T e = true) (hl : idxOf (s.ev len) = some n) (hc : idxOf (s.ev cap) = some c)
    (h0 : 0 ≤ n) (h1 : n ≤ c) (h2 : c ≤ (mostLen : Int)) : EffOk P o s (.gen (bornSt s o.dst e (List.replicate n.toNat e.dflt))) := by
  obtain ⟨E, i, z, hE, hi, hz, hsz, hzz, hby⟩ := elemOk_spec he
  have idx : ∀ {cv : CV} {m : Int} {g : Gh} {y : Value}, idxOf cv = some m → relV g cv y → ∃ k, y = .int k m := fun {cv m g y} h hr => by
    unfold idxOf at h
    split at h
    · cases h; exact ⟨_, hr⟩
    · cases h
  intro X w0 m g a w K Q hsim hd hk
  obtain ⟨kl, el⟩ := idx hl (hsim.ev len)
  obtain ⟨kc, ec⟩ := idx hc (hsim.ev cap)
  have hcn : (i.bytes : Int) * c ≤ 281474976710656 := by
    have h3 : (i.bytes : Int) ≤ 4096 := by omega
    have h4 : c ≤ 1073741824 := by unfold mostLen at h2; omega
    have h5 : (i.bytes : Int) * c ≤ 4096 * c := Int.mul_le_mul_of_nonneg_right h3 (by omega)
    omega
  have h63 : c ≤ 9223372036854775807 := by unfold mostLen at h2; omega
  have hrun := run_make (P := P) w T E i z hE hi hz kl kc n c h0 h1 hcn h63
  refine wp_of_run (w' := w.alloc (.cells (madeCells z.cells (c.toNat * i.size)) E)) (v := .slice (some ⟨w.heap.size, 0, none⟩) n.toNat c.toNat) ?_ ?_
  · simp [execOp, ho, el, ec, hrun]
  · have hb := hsim.born (d := o.dst) hd (e := e) (l := List.replicate n.toNat e.dflt) (arr := madeCells z.cells (c.toNat * i.size)) (T := E) (c := c.toNat) (by rw [size_madeCells, hsz]) (by simp; omega) (fun j x hx => by
      rw [List.getElem?_replicate] at hx
      split at hx
      · cases hx
        rw [hsz]
        exact made_rel hzz (by omega)
      · cases hx)
    have e1 : (List.replicate n.toNat e.dflt).length = n.toNat := List.length_replicate ..
    rw [e1] at hb
    exact hk _ _ _ hb
theorem makeSlice_mk {o : Oper} {s : St} {T : TypeId} {len cap : Operand} {e : Sh} {n c : Int} (ho : o.op = .makeSlice T len cap) (he : elemOk P T e = true) (hl : idxOf (s.ev len) = some n) (hc : idxOf (s.ev cap) = some c)
    (h0 : 0 ≤ n) (h1 : n ≤ c) (h2 : c ≤ (mostLen : Int)) : EffOk P o s (.mk e (List.replicate n.toNat e.dflt)) := by
  obtain ⟨E, i, z, hE, hi, hz, hsz, hzz, hby⟩ := elemOk_spec he
  have idx : ∀ {cv : CV} {m : Int} {g : Gh} {y : Value}, idxOf cv = some m → relV g cv y → ∃ k, y = .int k m := fun {cv m g y} h hr => by
    unfold idxOf at h
    split at h
    · cases h; exact ⟨_, hr⟩
    · cases h
  intro g w a K Q hops hk
  obtain ⟨kl, el⟩ := idx hl (hops len (by rw [ho]; simp [Op.operands]))
  obtain ⟨kc, ec⟩ := idx hc (hops cap (by rw [ho]; simp [Op.operands]))
  have hcn : (i.bytes : Int) * c ≤ 281474976710656 := by
    have h3 : (i.bytes : Int) ≤ 4096 := by omega
    have h4 : c ≤ 1073741824 := by unfold mostLen at h2; omega
    have h5 : (i.bytes : Int) * c ≤ 4096 * c := Int.mul_le_mul_of_nonneg_right h3 (by omega)
    omega
  have h63 : c ≤ 9223372036854775807 := by unfold mostLen at h2; omega
  have hrun := run_make (P := P) w T E i z hE hi hz kl kc n c h0 h1 hcn h63
  refine wp_of_run (w' := w.alloc (.cells (madeCells z.cells (c.toNat * i.size)) E)) (v := .slice (some ⟨w.heap.size, 0, none⟩) n.toNat c.toNat) ?_ ?_
  · simp [execOp, ho, el, ec, hrun]
  · have hb := hk (madeCells z.cells (c.toNat * i.size)) E c.toNat (by rw [size_madeCells, hsz]) (by simp; omega) (fun j x hx => by
      rw [List.getElem?_replicate] at hx
      split at hx
      · cases hx
        rw [hsz]
        exact made_rel hzz (by omega)
      · cases hx)
    have e1 : (List.replicate n.toNat e.dflt).length = n.toNat := List.length_replicate ..
    rw [e1] at hb
    exact hb
end
end Go.Dv
