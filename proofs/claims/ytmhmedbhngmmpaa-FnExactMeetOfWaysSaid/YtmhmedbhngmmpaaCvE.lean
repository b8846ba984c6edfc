/- The model's operation does what 'cop' says. -/
import Derived.Test.YtmhmedbhngmmpaaCvD
namespace Go.Cv
open Go.RowKit

section
variable {P : Program}

theorem wp_of_run {o : Oper} {a : Act} {w w' : World} {v : Value} {K : Act → World → Prop} {Q : Exit → Act → World → Prop}
    (h : (execOp a.eval o).run P w = .ok (.value v) w') (hk : K (a.put o.dst v) w') : o.wp P a w K Q := by
  unfold Oper.wp; rw [h]; exact hk

theorem wp_of_skip {o : Oper} {a : Act} {w w' : World} {K : Act → World → Prop} {Q : Exit → Act → World → Prop}
    (h : (execOp a.eval o).run P w = .ok .skip w') (hk : K (a.put o.dst undef) w') : o.wp P a w K Q := by
  unfold Oper.wp; rw [h]; exact hk

/-- an operation that only computes -/
theorem val_of_run {o : Oper} {s : St} {cv : CV}
    (h : ∀ g w (a : Act), (∀ x ∈ o.op.operands.toList, relV g (s.ev x) (a.eval x)) → ∃ v n, (execOp a.eval o).run P w = .ok (.value v) (w.drewN n) ∧ relV g cv v) :
    EffOk P o s (.val cv []) := by
  refine ⟨(fun _ h => by cases h), fun g w0 w a K Q hx _ hw hk => ?_⟩
  obtain ⟨v, n, hr, hv⟩ := h g w a hx
  exact wp_of_run hr (hk v g _ (After.drewN hw n) hv)

theorem relV_s {g : Gh} {c : CS} {y : Value} (h : relV g (.one (.s c)) y) : rel g c y := h

theorem cbin_sound {op : BinOp} {T : TypeId} {x y : CV} {K : Eff → Tr} {rv : CV} (h : cbin R P op T x y K = some rv) :
    ∃ cv, K (.val cv []) = some rv ∧ ∀ g (w : World) xo yo u v, relV g x u → relV g y v → ∃ r n, (eqGuard op T xo yo u v) = pure () ∧ (binOp op T u v).run P w = .ok r (w.drewN n) ∧ relV g cv r := by
  unfold cbin at h
  split at h
  · rename_i k a k' b
    have hbr := brT_req h; clear h; obtain ⟨hk, h⟩ := hbr
    obtain rfl := eqK_spec hk
    split at h
    · rename_i ha
      refine ⟨_, h, fun g w xo yo u v hu hv => ?_⟩
      obtain ⟨m, rfl, rfl, hm⟩ := hu
      obtain ⟨m', rfl, rfl, hm'⟩ := hv
      obtain ⟨r, n, hr, hc, hl⟩ := run_float_bin (P := P) w ha T k m m'
      exact ⟨_, n, eqGuard_at_float .., hr, r, rfl, hc, hl⟩
    · split at h
      · rename_i hcm
        refine ⟨_, h, fun g w xo yo u v hu hv => ?_⟩
        obtain ⟨m, rfl, rfl, hm⟩ := hu
        obtain ⟨m', rfl, rfl, hm'⟩ := hv
        have : ∃ t, fcmp op k (cn k m) (cn k m') = some t := by cases op <;> first | (cases hcm; done) | exact ⟨_, rfl⟩
        obtain ⟨t, ht⟩ := this
        refine ⟨_, 0, eqGuard_at_float .., run_float_cmp w T k m m' ht, ?_⟩
        show _ = Value.bool ((fcmp op k (cn k m) (cn k m')).getD false)
        rw [ht]; rfl
      · cases h
  · rename_i k a k' b
    have fin : ∀ t, K (.val (ex t) []) = some rv → (∀ w : World, (binOp op T (.int k a) (.int k' b)).run P w = .ok t w) → ∃ cv, K (.val cv []) = some rv ∧ ∀ g (w : World) xo yo u v, relV g (.one (.s (.v (.int k a)))) u → relV g (.one (.s (.v (.int k' b)))) v → ∃ r n, (eqGuard op T xo yo u v) = pure () ∧ (binOp op T u v).run P w = .ok r (w.drewN n) ∧ relV g cv r := fun t h1 h2 => by
      refine ⟨_, h1, fun g w xo yo u v hu hv => ?_⟩
      obtain rfl : u = _ := hu
      obtain rfl : v = _ := hv
      exact ⟨t, 0, eqGuard_at_int .., h2 w, rfl⟩
    split at h
    · rename_i hsh
      cases op <;> first | (cases hsh; done) | skip
      · have hbr := brT_req h; clear h; obtain ⟨hk, h⟩ := hbr
        simp only [Bool.and_eq_true, decide_eq_true_eq] at hk
        refine fin _ h fun w => ?_
        rw [binOp_shl, shift_shl k k' a b hk.1 hk.2]; rfl
      · have hbr := brT_req h; clear h; obtain ⟨hk, h⟩ := hbr
        simp only [Bool.and_eq_true, decide_eq_true_eq] at hk
        refine fin _ h fun w => ?_
        rw [binOp_shr, shift_shr k k' a b hk.1 hk.2]; rfl
    · have hbr := brT_req h; clear h; obtain ⟨hk, h⟩ := hbr
      obtain rfl := eqI_spec hk
      cases op <;> simp only [intBin] at h <;> first
        | (cases h; done)
        | (refine fin _ h fun w => ?_; rw [binOp_and]; rfl)
        | (refine fin _ h fun w => ?_; rw [binOp_or]; rfl)
        | (refine fin _ h fun w => ?_; rw [binOp_xor]; rfl)
        | (refine fin _ h fun w => ?_; rw [binOp_andNot]; rfl)
        | (refine fin _ h fun w => ?_; simp [binOp, Op.intArith, Op.intCmp]; done)
        | skip
      · cases hb : (b == 0)
        · rw [hb] at h
          have hb' : b ≠ 0 := by simpa using hb
          exact fin _ h fun w => by simp [binOp, Op.intDiv, hb']
        · rw [hb] at h; cases h
      · cases hb : (b == 0)
        · rw [hb] at h
          have hb' : b ≠ 0 := by simpa using hb
          exact fin _ h fun w => by simp [binOp, Op.intDiv, hb']
        · rw [hb] at h; cases h
  · rename_i a b
    have hbr := brT_req h; clear h; obtain ⟨hT, h⟩ := hbr
    have hT' : P.underlying T = some .bool := by
      unfold tyBool at hT
      split at hT
      · assumption
      · cases hT
    have fin : ∀ t, K (.val (ex t) []) = some rv → (∀ w : World, (binOp op T (.bool a) (.bool b)).run P w = .ok t w) → ∃ cv, K (.val cv []) = some rv ∧ ∀ g (w : World) xo yo u v, relV g (.one (.s (.v (.bool a)))) u → relV g (.one (.s (.v (.bool b)))) v → ∃ r n, (eqGuard op T xo yo u v) = pure () ∧ (binOp op T u v).run P w = .ok r (w.drewN n) ∧ relV g cv r := fun t h1 h2 => by
      refine ⟨_, h1, fun g w xo yo u v hu hv => ?_⟩
      obtain rfl : u = _ := hu
      obtain rfl : v = _ := hv
      exact ⟨t, 0, eqGuard_at_bool .., h2 w, rfl⟩
    cases op <;> simp only [boolBin] at h <;> first
      | (cases h; done)
      | exact fin _ h fun w => by simp only [binOp, Sem.run_bind, run_equal_bool w T a b hT', Result.andThen_ok]; rfl
  · cases h

theorem cun_sound {op : UnOp} {x : CV} {K : Eff → Tr} {rv : CV} (h : cun R op x K = some rv) :
    ∃ cv, K (.val cv []) = some rv ∧ ∀ g (w : World) u, relV g x u → ∃ r, (Op.unary op u).run P w = .ok r w ∧ relV g cv r := by
  unfold cun at h
  split at h
  · refine ⟨_, h, fun g w u hu => ?_⟩
    obtain rfl : u = _ := hu
    exact ⟨_, rfl, rfl⟩
  · refine ⟨_, h, fun g w u hu => ?_⟩
    obtain ⟨m, rfl, rfl, hm⟩ := hu
    obtain ⟨r, hr, hc, hl⟩ := run_float_neg (P := P) w _ m hm
    exact ⟨_, hr, r, rfl, hc, hl⟩
  · refine ⟨_, h, fun g w u hu => ?_⟩
    obtain rfl : u = _ := hu
    exact ⟨_, rfl, rfl⟩
  · cases h

theorem tyFloat_spec {T : TypeId} {k : FloatKind} (h : tyFloat P T = some k) : P.underlying T = some (.float k) := by
  unfold tyFloat at h; split at h
  · cases h; assumption
  · cases h
theorem tyInt_spec {T : TypeId} {k : IntKind} (h : tyInt P T = some k) : P.underlying T = some (.int k) := by
  unfold tyInt at h; split at h
  · cases h; assumption
  · cases h

/-- a float32 is a float64 -/
theorem fwid_some (n : Nat) : fconv .f32 n .f64 = some (fwid n) := by
  have key : (fconv .f32 n .f64).isSome = true := by
    unfold fconv
    rw [if_neg (by decide)]
    cases hn : isNan .f32 n
    · simp only [Bool.false_eq_true, if_false]
      unfold floatToFloatBits
      rw [if_neg (by decide)]
      exact wid_ok n hn
    · simp
  obtain ⟨r, hr⟩ := Option.isSome_iff_exists.1 key
  unfold fwid; rw [hr]; rfl

theorem cconv_sound {src dst : TypeId} {x : CV} {K : Eff → Tr} {rv : CV} (h : cconv R P src dst x K = some rv) :
    ∃ cv, K (.val cv []) = some rv ∧ ∀ g (w : World) u, relV g x u → ∃ r n, (convert src dst u).run P w = .ok r (w.drewN n) ∧ relV g cv r := by
  unfold cconv at h
  have hbr := brT_req h; clear h; obtain ⟨hs, h⟩ := hbr
  split at h
  · rename_i s a
    split at h
    · rename_i k hd
      have fin : ∀ c, K (.val (fl k c) []) = some rv → (∀ m, m < lim s → cn s m = a → fconv s (cn s m) k = some c) → ∃ cv, K (.val cv []) = some rv ∧ ∀ g (w : World) u, relV g (.one (.s (.fl s a))) u → ∃ r n, (convert src dst u).run P w = .ok r (w.drewN n) ∧ relV g cv r := fun c h1 h2 => by
        refine ⟨_, h1, fun g w u hu => ?_⟩
        obtain ⟨m, rfl, he, hm⟩ := hu
        obtain ⟨r, n, hr, h3, h4⟩ := run_float_conv (P := P) w src dst s k m c hm hs (tyFloat_spec hd) (h2 m hm he)
        exact ⟨_, n, hr, r, rfl, h3, h4⟩
      split at h
      · exact fin _ h fun m hm he => by rw [he]; exact fwid_some a
      · obtain ⟨hc, h⟩ := brT_req h
        obtain ⟨c, hc⟩ := Option.isSome_iff_exists.1 (show (fconv .f64 a .f32).isSome = true from hc)
        exact fin _ h fun m hm he => by rw [he]; show _ = some ((fconv .f64 a .f32).getD 0); rw [hc]; rfl
      · exact fin _ h fun m hm he => by rw [he]; unfold fconv; rw [if_pos rfl, ← he, cn_idem]
      · exact fin _ h fun m hm he => by rw [he]; unfold fconv; rw [if_pos rfl, ← he, cn_idem]
    · split at h
      · rename_i k hd
        obtain ⟨hc, h⟩ := brT_req h
        obtain ⟨c, hc⟩ := Option.isSome_iff_exists.1 (show (ftoi s a k).isSome = true from hc)
        refine ⟨_, h, fun g w u hu => ?_⟩
        obtain ⟨m, rfl, he, hm⟩ := hu
        obtain ⟨r, n, hr, h1⟩ := run_float_int (P := P) w src dst _ k m hs (tyInt_spec hd)
        refine ⟨_, n, hr, ?_⟩
        rw [h1 c (by rw [he]; exact hc)]
        show _ = Value.int k ((ftoi s a k).getD 0)
        rw [hc]; rfl
      · cases h
  · rename_i q n
    split at h
    · rename_i k hd
      refine ⟨_, h, fun g w u hu => ?_⟩
      obtain rfl : u = _ := hu
      exact ⟨_, 0, run_convert_int_float w src dst q k n hs (tyFloat_spec hd), _, rfl, rfl, (k.format.write_lt (.number (decide (n < 0)) n.natAbs 0) : floatOfInt k n < 2 ^ k.format.width)⟩
    · split at h
      · rename_i k hd
        refine ⟨_, h, fun g w u hu => ?_⟩
        obtain rfl : u = _ := hu
        refine ⟨_, 0, ?_, rfl⟩
        obtain ⟨d, hs'⟩ := Option.isSome_iff_exists.1 hs
        simp [convert, run_underlying hs', run_underlying (tyInt_spec hd), Conv.intToInt]; rfl
      · cases h
  · cases h

theorem cbuiltin_sound {b : Builtin} {argTypes : Array TypeId} {type : TypeId} {consts : Array Bool} {args : List CV} {K : Eff → Tr} {rv : CV} (h : cbuiltin P b argTypes args K = some rv) :
    ∃ cv, K (.val cv []) = some rv ∧ ∀ g (w : World) (us : Array Value), us.size = args.length → (∀ (j : Nat) c u, args[j]? = some c → us[j]? = some u → relV g c u) →
      ∃ r, (builtin b argTypes type consts us).run P w = .ok (.value r) w ∧ relV g cv r := by
  have two : ∀ (us : Array Value), us.size = 2 → ∃ u v, us = #[u, v] := fun us h => ⟨us[0], us[1], by
    apply Array.ext (by simp [h]); intro i h1 h2
    match i, h2 with
    | 0, _ => rfl
    | 1, _ => rfl⟩
  have one : ∀ (us : Array Value), us.size = 1 → ∃ u, us = #[u] := fun us h => ⟨us[0], by
    apply Array.ext (by simp [h]); intro i h1 h2
    match i, h2 with
    | 0, _ => rfl⟩
  unfold cbuiltin at h
  split at h
  · have hbr := brT_req h; clear h; obtain ⟨hT, h⟩ := hbr
    refine ⟨_, h, fun g w us hn hr => ?_⟩
    obtain ⟨u, rfl⟩ := one us hn
    obtain ⟨a, cap, rfl, _⟩ := hr 0 _ u rfl rfl
    split at hT
    · rename_i T hT'
      unfold tySlice at hT
      split at hT
      · rename_i e he
        refine ⟨_, ?_, rfl⟩
        simp [builtin, Builtin.len_, hT', run_underlying he, goInt]
      · cases hT
    · cases hT
  · have hbr := brT_req h; clear h; obtain ⟨hT, h⟩ := hbr
    refine ⟨_, h, fun g w us hn hr => ?_⟩
    obtain ⟨u, rfl⟩ := one us hn
    obtain rfl : u = _ := hr 0 _ u rfl rfl
    split at hT
    · rename_i T hT'
      unfold tyString at hT
      split at hT
      · rename_i he
        refine ⟨_, ?_, rfl⟩
        simp [builtin, Builtin.len_, hT', run_underlying he, goInt]
      · cases hT
    · cases hT
  · refine ⟨_, h, fun g w us hn hr => ?_⟩
    obtain ⟨u, rfl⟩ := one us hn
    obtain ⟨c, d, rfl, rfl, rfl, h1, h2⟩ := hr 0 _ u rfl rfl
    exact ⟨_, rfl, c, rfl, rfl, h1⟩
  · refine ⟨_, h, fun g w us hn hr => ?_⟩
    obtain ⟨u, rfl⟩ := one us hn
    obtain ⟨c, d, rfl, rfl, rfl, h1, h2⟩ := hr 0 _ u rfl rfl
    exact ⟨_, rfl, d, rfl, rfl, h2⟩
  · rename_i k a k' b
    have hbr := brT_req h; clear h; obtain ⟨hk, h⟩ := hbr
    obtain rfl := eqK_spec hk
    refine ⟨_, h, fun g w us hn hr => ?_⟩
    obtain ⟨u, v, rfl⟩ := two us hn
    obtain ⟨m, rfl, rfl, h1⟩ := hr 0 _ u rfl rfl
    obtain ⟨m', rfl, rfl, h1'⟩ := hr 1 _ v rfl rfl
    refine ⟨_, ?_, m, m', rfl, rfl, rfl, h1, h1'⟩
    simp only [builtin, Sem.run_bind, run_complex, Result.andThen_ok, Sem.run_pure]
  · cases h


theorem mem_ops {o : Oper} {s : St} {g : Gh} {a : Act} {x : Operand} (h : ∀ x ∈ o.op.operands.toList, relV g (s.ev x) (a.eval x)) (hx : x ∈ o.op.operands.toList) : relV g (s.ev x) (a.eval x) := h x hx

theorem tyShape_spec {T : TypeId} {ag : Bool} {n : Nat} (h : tyShape P T = some (ag, n)) :
    ∃ d i, P.underlying T = some d ∧ P.info? T = some i ∧ i.size = n ∧ (∀ w : World, (isAgg T).run P w = .ok ag w) := by
  unfold tyShape at h
  split at h
  · rename_i fs i h1 h2; cases h
    exact ⟨_, i, h1, h2, rfl, fun w => by simp [isAgg, run_underlying h1]⟩
  · rename_i k e i h1 h2; cases h
    exact ⟨_, i, h1, h2, rfl, fun w => by simp [isAgg, run_underlying h1]⟩
  · rename_i d i h3 h4 h1 h2; cases h
    refine ⟨d, i, h1, h2, rfl, fun w => ?_⟩
    cases d <;> first | exact (h3 _ rfl).elim | exact (h4 _ _ rfl).elim | simp [isAgg, run_underlying h1]
  · cases h

theorem readFrom_length {hp : Hp} {id : Nat} : ∀ {n off : Nat} {cs : List CS}, readFrom hp id off n = some cs → cs.length = n
  | 0, off, cs, h => by simp only [readFrom] at h; cases h; rfl
  | n + 1, off, cs, h => by
    simp only [readFrom] at h
    split at h
    · split at h
      · rename_i c _ cs' h'; cases h; simp [readFrom_length h']
      · cases h
    · cases h

theorem readFrom_get {hp : Hp} {id : Nat} : ∀ {n off : Nat} {cs : List CS}, readFrom hp id off n = some cs → ∀ j c, cs[j]? = some c → hp id (off + j) = some c
  | 0, off, cs, h => by simp only [readFrom] at h; cases h; intro j c hj; simp at hj
  | n + 1, off, cs, h => by
    simp only [readFrom] at h
    split at h
    · rename_i c0 h0
      split at h
      · rename_i cs' h'; cases h
        intro j c hj
        cases j with
        | zero => simp at hj; subst hj; exact h0
        | succ j => simp at hj; have := readFrom_get h' j c hj; rw [← this]; congr 1; omega
      · cases h
    · cases h

theorem mem_depsOf {id : Nat} : ∀ {cs : List CS} {off : Nat} {d : Nat × Nat × CS}, d ∈ depsOf id off cs → ∃ j c, cs[j]? = some c ∧ d = (id, off + j, c)
  | [], off, d, h => by cases h
  | c :: cs, off, d, h => by
    simp only [depsOf, List.mem_cons] at h
    rcases h with rfl | h
    · exact ⟨0, c, rfl, rfl⟩
    · obtain ⟨j, c', hj, rfl⟩ := mem_depsOf h
      exact ⟨j + 1, c', by simpa using hj, by congr 2; omega⟩

theorem depsOf_mem {id : Nat} : ∀ {cs : List CS} {off : Nat} (j : Nat) (c : CS), cs[j]? = some c → (id, off + j, c) ∈ depsOf id off cs
  | [], off, j, c, h => by simp at h
  | c0 :: cs, off, j, c, h => by
    cases j with
    | zero => simp at h; subst h; simp [depsOf]
    | succ j =>
      simp only [depsOf, List.mem_cons]
      right
      have := depsOf_mem (id := id) (off := off + 1) j c (by simpa using h)
      have e : off + (j + 1) = off + 1 + j := by omega
      rw [e]; exact this

theorem run_load_at (w : World) {T : TypeId} {ag : Bool} {cs : List CS} {v : CV} {g : Gh} {b off : Nat} {arr : Array Value} {T' : TypeId} {fr : Nat × Nat}
    (hs : tyShape P T = some (ag, cs.length)) (hv : mkVal ag cs = some v) (hb : 0 < cs.length → w.heap[b]? = some (.cells arr T' fr))
    (hc : ∀ (j : Nat) c, cs[j]? = some c → ∃ u, arr[off + j]? = some u ∧ rel g c u) :
    ∃ r, (Instr.loadAt T (.pointer (some ⟨b, off, none⟩))).run P w = .ok r w ∧ relV g v r := by
  obtain ⟨d, i, hd, hi, hn, hag⟩ := tyShape_spec hs
  have hadd : ∀ j, (⟨b, off, none⟩ : Addr).add j = ⟨b, off + j, none⟩ := fun j => by unfold Addr.add; split <;> simp_all
  have hlen : ∀ j, j < cs.length → off + j < arr.size := fun j hj => by
    obtain ⟨u, hu, _⟩ := hc j cs[j] (by simp [hj])
    rcases Nat.lt_or_ge (off + j) arr.size with h | h
    · exact h
    · rw [Array.getElem?_eq_none h] at hu; cases hu
  cases ag with
  | true =>
    cases hv
    have hus : ((arr.toList.drop off).take cs.length).length = cs.length := by
      simp
      rcases Nat.eq_zero_or_pos cs.length with h0 | h0
      · omega
      · have := hlen (cs.length - 1) (by omega); omega
    have hget : ∀ (j : Nat) u, ((arr.toList.drop off).take cs.length)[j]? = some u → arr[off + j]? = some u ∧ j < cs.length := fun j u h => by
      rw [List.getElem?_take] at h
      split at h
      · simp at h; exact ⟨by simpa using h, by assumption⟩
      · cases h
    refine ⟨.agg ((arr.toList.drop off).take cs.length).toArray, ?_, _, rfl, by simpa using hus, fun j c u h1 h2 => ?_⟩
    · have hl := run_loadCells_list (P := P) w ⟨b, off, none⟩ ((arr.toList.drop off).take cs.length) (fun j v hj => by
        obtain ⟨h1, h2⟩ := hget j v hj
        rw [hadd]; simp [World.cell?, hb (by omega), h1])
      rw [hus] at hl
      simp [Instr.loadAt, Instr.sureAddr, loadVar, hag, sizeOf, typeInfo, hi, hn, hl]
    · have h2' : ((arr.toList.drop off).take cs.length)[j]? = some u := by simpa using h2
      obtain ⟨u', hu', hr⟩ := hc j c h1
      obtain ⟨h3, _⟩ := hget j u h2'
      rw [h3] at hu'; cases hu'; exact hr
  | false =>
    unfold mkVal at hv
    simp only at hv
    split at hv
    · rename_i c; cases hv
      obtain ⟨u, hu, hr⟩ := hc 0 c rfl
      refine ⟨u, ?_, hr⟩
      have hcell : w.cell? ⟨b, off, none⟩ = some u := by simp [World.cell?, hb (by simp)]; simpa using hu
      simp [Instr.loadAt, Instr.sureAddr, loadVar, hag, hcell]
    · cases hv

theorem load_sound {o : Oper} {s : St} {T : TypeId} {x : Operand} {ag : Bool} {cs : List CS} {v : CV} {id off : Nat} (ho : o.op = .load T x)
    (hs : tyShape P T = some (ag, cs.length)) (hx : s.ev x = .one (.s (.ptr id off))) (hr : readFrom s.hp id off cs.length = some cs) (hv : mkVal ag cs = some v) :
    EffOk P o s (.val v (depsOf id off cs)) := by
  refine ⟨fun d hd => ?_, fun g w0 w a K Q hops hdeps hw hk => ?_⟩
  · obtain ⟨j, c, hj, rfl⟩ := mem_depsOf hd
    exact readFrom_get hr j c hj
  · have hxa := hops x (by rw [ho]; simp [Op.operands])
    rw [hx] at hxa
    obtain ⟨b, hb, hxe⟩ := hxa
    have hcell : ∀ (j : Nat) c, cs[j]? = some c → ∃ arr T u, w.heap[b]? = some (.cells arr T (0, 0)) ∧ arr[off + j]? = some u ∧ rel g c u := fun j c hj => by
      obtain ⟨b', arr, T, u, h1, h2, h3, h4⟩ := hdeps _ (depsOf_mem (id := id) (off := off) j c hj)
      rw [hb] at h1; cases h1
      exact ⟨arr, T, u, h2, h3, h4⟩
    have hex : ∃ arr T', (0 < cs.length → w.heap[b]? = some (.cells arr T' (0, 0))) ∧ ∀ (j : Nat) c, cs[j]? = some c → ∃ u, arr[off + j]? = some u ∧ rel g c u := by
      cases cs with
      | nil => exact ⟨#[], 0, by simp, fun j c hj => by simp at hj⟩
      | cons c0 cs' =>
        obtain ⟨arr, T', u, h2, h3, h4⟩ := hcell 0 c0 rfl
        refine ⟨arr, T', fun _ => h2, fun j c hj => ?_⟩
        obtain ⟨arr', T'', u', h2', h3', h4'⟩ := hcell j c hj
        rw [h2] at h2'; cases h2'
        exact ⟨u', h3', h4'⟩
    obtain ⟨arr, T', hb', hcc⟩ := hex
    obtain ⟨r, hrun, hrel⟩ := run_load_at (P := P) w hs hv hb' hcc
    refine wp_of_run (w' := w) ?_ (hk r g w (After.refl hw) hrel)
    simp [execOp, ho, hxe, hrun]

theorem load_ip_sound {o : Oper} {s : St} {T : TypeId} {x : Operand} {ag : Bool} {n m : Nat} {f : Nat → CS} {v : CV} (ho : o.op = .load T x)
    (hs : tyShape P T = some (ag, n)) (hx : s.ev x = .one (.s (.ip m f))) (hm : n ≤ m) (hv : mkVal ag ((List.range n).map f) = some v) :
    EffOk P o s (.val v []) := by
  refine ⟨(fun _ h => by cases h), fun g w0 w a K Q hops hdeps hw hk => ?_⟩
  have hxa := hops x (by rw [ho]; simp [Op.operands])
  rw [hx] at hxa
  obtain ⟨b, off, hxe, hc⟩ := hxa
  have hget : ∀ (j : Nat) c, ((List.range n).map f)[j]? = some c → c = f j ∧ j < n := fun j c hj => by
    rw [List.getElem?_map] at hj
    rcases Nat.lt_or_ge j n with h | h
    · rw [List.getElem?_range h] at hj; simp at hj; exact ⟨hj.symm, h⟩
    · rw [List.getElem?_eq_none (by simpa using h)] at hj; simp at hj
  have hex : ∃ arr T' fr, (0 < ((List.range n).map f).length → w.heap[b]? = some (.cells arr T' fr)) ∧ ∀ (j : Nat) c, ((List.range n).map f)[j]? = some c → ∃ u, arr[off + j]? = some u ∧ rel g c u := by
    rcases Nat.eq_zero_or_pos n with h0 | h0
    · subst h0; exact ⟨#[], 0, (0, 0), by simp, fun j c hj => by simp at hj⟩
    · obtain ⟨arr, T', fr, u, h1, h2, h3⟩ := hc 0 (by omega)
      refine ⟨arr, T', fr, fun _ => hw.im _ _ h1, fun j c hj => ?_⟩
      obtain ⟨rfl, hj'⟩ := hget j c hj
      obtain ⟨arr', T'', fr', u', h1', h2', h3'⟩ := hc j (by omega)
      rw [h1] at h1'; cases h1'
      exact ⟨u', h2', h3'⟩
  obtain ⟨arr, T', fr, hb', hcc⟩ := hex
  obtain ⟨r, hrun, hrel⟩ := run_load_at (P := P) w (by simpa using hs) hv hb' hcc
  refine wp_of_run (w' := w) ?_ (hk r g w (After.refl hw) hrel)
  simp [execOp, ho, hxe, hrun]


theorem zeroCells_spec {T : TypeId} {cs : List CS} (h : zeroCells P T = some cs) : ∃ i z, P.info? T = some i ∧ i.zero = some z ∧ cs = z.cells.toList.map ofCell := by
  unfold zeroCells at h
  split at h
  · rename_i i hi
    split at h
    · rename_i z hz; cases h; exact ⟨i, z, hi, hz, rfl⟩
    · cases h
  · cases h

theorem alloc_sound {o : Oper} {s : St} {T : TypeId} {cs : List CS} (ho : o.op = .alloc T) (hz : zeroCells P T = some cs) : EffOk P o s (.new cs) := by
  obtain ⟨i, z, hi, hz2, rfl⟩ := zeroCells_spec hz
  intro g w a K Q hops hk
  refine wp_of_run (w' := w.alloc (.cells z.cells T)) (v := .pointer (some ⟨w.heap.size, 0, none⟩)) ?_ (hk z.cells T (by simp) fun j c u h1 h2 => ?_)
  · simp [execOp, ho, Instr.alloc, zeroValue, typeInfo, hi, hz2, newVar, newRow]
  · simp at h1
    obtain ⟨x, hx, rfl⟩ := h1
    rw [hx] at h2; cases h2
    exact rel_ofCell g _

theorem box_sound {o : Oper} {s : St} {T : TypeId} {x : Operand} {cs : List CS} (ho : o.op = .box T x) (hc : cellsOf (s.ev x) = some cs) (hp : cs.all plain = true) : EffOk P o s (.new cs) := by
  intro g w a K Q hops hk
  have hxa := hops x (by rw [ho]; simp [Op.operands])
  obtain ⟨h1, h2⟩ := cells_rel hc hp hxa
  refine wp_of_run (w' := w.alloc (.cells (a.eval x).cells T)) (v := .pointer (some ⟨w.heap.size, 0, none⟩)) ?_ (hk _ T h1 fun j c u h3 h4 => (h2 j c u h3 h4).1)
  simp [execOp, ho, Instr.box, newVar, newRow]

theorem store_sound {o : Oper} {s : St} {T : TypeId} {ad x : Operand} {ag : Bool} {n id off : Nat} {cs : List CS} (ho : o.op = .store T ad x) (hs : tyShape P T = some (ag, n))
    (ha : s.ev ad = .one (.s (.ptr id off))) (hc : cellsOf (s.ev x) = some cs) (h0 : 0 < n) (hn : cs.length = n) (hp : cs.all plain = true) (hr : (readFrom s.hp id off n).isSome = true) :
    EffOk P o s (.put id off cs) := by
  obtain ⟨cs0, hr⟩ := Option.isSome_iff_exists.1 hr
  refine ⟨⟨by omega, fun j hj => ?_⟩, ?_⟩
  · have hl := readFrom_length hr
    rw [readFrom_get hr j cs0[j] (by simp [hl, ← hn, hj])]; rfl
  · intro g w a K Q b arr T' hops hb hh hl hk
    have hxa := hops x (by rw [ho]; simp [Op.operands])
    have hadr := hops ad (by rw [ho]; simp [Op.operands])
    rw [ha] at hadr
    obtain ⟨b', hb', he⟩ := hadr
    rw [hb] at hb'; cases hb'
    obtain ⟨h1, h2⟩ := cells_rel hc hp hxa
    obtain ⟨d, i, hd, hi, hsz, hag⟩ := tyShape_spec hs
    have hone : ∀ v ∈ (a.eval x).cells.toList, v.oneCell' = true := fun v hv => by
      obtain ⟨j, hj⟩ := List.getElem?_of_mem hv
      have hj' : (a.eval x).cells[j]? = some v := by simpa using hj
      have hjl : j < cs.length := by
        rw [← h1]
        rcases Nat.lt_or_ge j (a.eval x).cells.size with h | h
        · exact h
        · rw [Array.getElem?_eq_none h] at hj'; cases hj'
      obtain ⟨h3, h4⟩ := h2 j cs[j] v (by simp [hjl]) hj'
      have h5 := plain_cells h4 h3
      cases v <;> first | rfl | exact (h5.2.1 _ rfl).elim | exact (h5.2.2 _ rfl).elim
    have hrun := run_storeCells_at (P := P) b off T' (a.eval x).cells.toList 0 arr w hh (by simpa [h1] using hl) hone
    refine wp_of_skip (w' := w.setRow b (arr.toList.take off ++ (a.eval x).cells.toList ++ arr.toList.drop (off + (a.eval x).cells.toList.length)).toArray) ?_ (hk _ (by simpa using h1) fun j c u h3 h4 => (h2 j c u h3 (by simpa using h4)).1)
    have hsz' : (a.eval x).cells.size = i.size := by rw [h1, hsz, hn]
    simp only [Nat.add_zero] at hrun
    simp [execOp, ho, he, Instr.storeAt, Instr.sureAddr, storeVar, sizeOf, typeInfo, hi, hsz', hrun]

theorem over_length {cells : List CS} {off : Nat} {cs : List CS} (h : off + cs.length ≤ cells.length) : (over cells off cs).length = cells.length := by
  simp [over]; omega

theorem over_get {cells : List CS} {off : Nat} {cs : List CS} (h : off + cs.length ≤ cells.length) (j : Nat) :
    (over cells off cs)[j]? = if off ≤ j ∧ j < off + cs.length then cs[j - off]? else cells[j]? := by
  unfold over
  rw [List.append_assoc]
  rcases Nat.lt_or_ge j off with h1 | h1
  · rw [if_neg (by omega), List.getElem?_append_left (by simp; omega), List.getElem?_take_of_lt h1]
  · rw [List.getElem?_append_right (by simp; omega)]
    have e : (cells.take off).length = off := by simp; omega
    rw [e]
    rcases Nat.lt_or_ge j (off + cs.length) with h2 | h2
    · rw [if_pos ⟨h1, h2⟩, List.getElem?_append_left (by omega)]
    · rw [if_neg (by omega), List.getElem?_append_right (by omega), List.getElem?_drop]
      congr 1; omega

/-- the fold by which 'Instr.fill' lays a part's cells -/
theorem fill_fold (off : Nat) : ∀ (vs : List Value) (k : Nat) (cells : Array Value), off + k + vs.length ≤ cells.size →
    ((vs.zipIdx k).foldl (fun cs (c, j) => cs.setIfInBounds (off + j) c) cells).size = cells.size ∧
    ∀ j, ((vs.zipIdx k).foldl (fun cs (c, j) => cs.setIfInBounds (off + j) c) cells)[j]? = if off + k ≤ j ∧ j < off + k + vs.length then vs[j - (off + k)]? else cells[j]?
  | [], k, cells, h => by simp; intro j h1 h2; omega
  | v :: vs, k, cells, h => by
    simp only [List.zipIdx_cons, List.foldl_cons]
    have ih := fill_fold off vs (k + 1) (cells.setIfInBounds (off + k) v) (by simp at h ⊢; omega)
    refine ⟨by rw [ih.1]; simp, fun j => ?_⟩
    rw [ih.2]
    simp only [List.length_cons] at h ⊢
    by_cases h1 : off + (k + 1) ≤ j ∧ j < off + (k + 1) + vs.length
    · rw [if_pos h1, if_pos (by omega)]
      have e : j - (off + k) = (j - (off + (k + 1))) + 1 := by omega
      rw [e]; simp
    · rw [if_neg h1]
      by_cases h2 : off + k = j
      · subst h2
        rw [if_pos (by omega), Array.getElem?_setIfInBounds_self]
        simp; omega
      · rw [Array.getElem?_setIfInBounds_ne h2, if_neg (by omega)]

/-- cells of a struct, one by one -/
def CellsRel (g : Gh) (cs : List CS) (arr : Array Value) : Prop := arr.size = cs.length ∧ ∀ (j : Nat) c u, cs[j]? = some c → arr[j]? = some u → rel g c u

theorem fill_sound {g : Gh} {places : List (Nat × Nat)} : ∀ {ps : List (Nat × List CS)} {vs : List (Nat × Value)} {cells cs : List CS} {arr : Array Value}, fillC places cells ps = some cs → CellsRel g cells arr →
    ps.length = vs.length → (∀ (j : Nat) p v, ps[j]? = some p → vs[j]? = some v → p.1 = v.1 ∧ CellsRel g p.2 v.2.cells) →
    ∃ arr', Instr.fill (places.toArray[·]?) arr vs = some arr' ∧ CellsRel g cs arr'
  | [], [], cells, cs, arr, h, hc, _, _ => by
    simp only [fillC] at h; cases h
    exact ⟨arr, rfl, hc⟩
  | [], _ :: _, _, _, _, _, _, hl, _ => by simp at hl
  | _ :: _, [], _, _, _, _, _, hl, _ => by simp at hl
  | (i, p) :: ps, (i', v) :: vs, cells, cs, arr, h, hc, hl, hr => by
    simp only [fillC] at h
    obtain ⟨rfl, hp⟩ := hr 0 (i, p) (i', v) rfl rfl
    split at h
    · rename_i off size hpl
      by_cases hsz : p.length = size ∧ off + p.length ≤ cells.length
      · rw [if_pos hsz] at h
        obtain ⟨hs1, hs2⟩ := hsz
        have hff := fill_fold off v.cells.toList 0 arr (by simp only [Array.length_toList]; have := hp.1; have := hc.1; simp only at *; omega)
        obtain ⟨arr', h1, h2⟩ := fill_sound (ps := ps) (vs := vs) (arr := ((v.cells.toList.zipIdx 0).foldl (fun cs (c, j) => cs.setIfInBounds (off + j) c) arr)) h (by
          refine ⟨by rw [hff.1, over_length hs2]; exact hc.1, fun j c u h3 h4 => ?_⟩
          rw [over_get hs2] at h3
          rw [hff.2] at h4
          simp only [Nat.add_zero, Array.length_toList] at h4
          have e : v.cells.size = p.length := hp.1
          rw [e] at h4
          by_cases hj : off ≤ j ∧ j < off + p.length
          · rw [if_pos hj] at h3 h4
            exact hp.2 _ c u h3 (by simpa using h4)
          · rw [if_neg hj] at h3 h4
            exact hc.2 _ c u h3 h4) (by simpa using hl) (fun j p v h3 h4 => hr (j + 1) p v (by simpa using h3) (by simpa using h4))
        refine ⟨arr', ?_, h2⟩
        have hpl' : places.toArray[i]? = some (off, size) := by simpa using hpl
        simp only [Instr.fill, hpl']
        have e : v.cells.size = p.length := hp.1
        rw [if_neg (by simp only [e, hs1]; have := hc.1; simp; omega)]
        rw [← h1]
        congr 1
        rw [← Array.foldl_toList, Array.toList_zipIdx]
      · rw [if_neg hsz] at h; cases h
    · cases h

theorem partsOf_rel {g : Gh} {ev : Operand → CV} {a : Act} : ∀ {parts : List (Nat × Operand)} {ps : List (Nat × List CS)}, partsOf ev parts = some ps → (∀ x ∈ parts, relV g (ev x.2) (a.eval x.2)) →
    ps.length = (parts.map fun (i, x) => (i, a.eval x)).length ∧ ∀ (j : Nat) p v, ps[j]? = some p → (parts.map fun (i, x) => (i, a.eval x))[j]? = some v → p.1 = v.1 ∧ CellsRel g p.2 v.2.cells
  | [], ps, h, _ => by simp only [partsOf] at h; cases h; exact ⟨rfl, fun j p v h => by simp at h⟩
  | (i, x) :: rest, ps, h, hr => by
    simp only [partsOf] at h
    split at h
    · rename_i cs hcs
      by_cases hp : cs.all plain = true
      · rw [if_pos hp] at h
        split at h
        · rename_i ps' hps'; cases h
          obtain ⟨h1, h2⟩ := partsOf_rel hps' (fun x hx => hr x (by simp [hx]))
          refine ⟨by simpa using h1, fun j p v h3 h4 => ?_⟩
          cases j with
          | zero =>
            simp at h3 h4; subst h3 h4
            obtain ⟨h5, h6⟩ := cells_rel hcs hp (hr (i, x) (by simp))
            exact ⟨rfl, h5, fun j c u h7 h8 => (h6 j c u h7 h8).1⟩
          | succ j => exact h2 j p v (by simpa using h3) (by simpa using h4)
        · cases h
      · rw [if_neg hp] at h; cases h
    · cases h

theorem build_sound {o : Oper} {s : St} {T : TypeId} {parts : Array (Nat × Operand)} {places : List (Nat × Nat)} {z cs : List CS} {ps : List (Nat × List CS)} (ho : o.op = .build T parts)
    (hpl : placesOf P T = some places) (hz : zeroCells P T = some z) (hps : partsOf s.ev parts.toList = some ps) (hf : fillC places z ps = some cs) : EffOk P o s (.val (.one (.agg cs)) []) := by
  refine val_of_run fun g w a hops => ?_
  have hx : ∀ x ∈ parts.toList, relV g (s.ev x.2) (a.eval x.2) := fun x hx => hops x.2 (by
    rw [ho]; simp only [Op.operands]; exact List.mem_map_of_mem hx)
  obtain ⟨h1, h2⟩ := partsOf_rel hps hx
  obtain ⟨i, z', hi, hz', rfl⟩ := zeroCells_spec hz
  obtain ⟨arr', h3, h4⟩ := fill_sound (g := g) (arr := z'.cells) hf ⟨by simp, fun j c u h5 h6 => by
    simp at h5
    obtain ⟨x, hx, rfl⟩ := h5
    rw [hx] at h6; cases h6; exact rel_ofCell g _⟩ h1 h2
  unfold placesOf at hpl
  split at hpl
  · rename_i fields hu
    refine ⟨.agg arr', 0, ?_, arr', rfl, h4.1, h4.2⟩
    have hb : P.built T (parts.map fun (i, x) => (i, a.eval x)).toList = some arr' := by
      unfold Program.built
      simp only [hi, hu, hz', hpl]
      simpa using h3
    simp only [execOp, ho, Sem.run_bind, run_build w T _ arr' hb, Result.andThen_ok, Sem.run_pure]
    rfl
  · cases hpl

theorem fieldOff_spec {T f k : Nat} (h : fieldOff P T f = some k) : ∃ fields fd i, P.underlying T = some (.struct fields) ∧ fields[f]? = some fd ∧ P.info? fd.type = some i ∧ i.size ≠ 0 ∧ fd.offset = k := by
  unfold fieldOff at h
  split at h
  · rename_i fields hu
    split at h
    · rename_i fd hf
      split at h
      · rename_i i hi
        by_cases h0 : i.size = 0
        · rw [if_pos h0] at h; cases h
        · rw [if_neg h0] at h; cases h; exact ⟨_, _, _, hu, hf, hi, h0, rfl⟩
      · cases h
    · cases h
  · cases h

theorem run_fieldAt (w : World) {T f k : Nat} (h : fieldOff P T f = some k) (b off : Nat) : (Instr.fieldAt T (.pointer (some ⟨b, off, none⟩)) f).run P w = .ok (.pointer (some ⟨b, off + k, none⟩)) w := by
  obtain ⟨fields, fd, i, h1, h2, h3, h4, h5⟩ := fieldOff_spec h
  have hadd : (⟨b, off, none⟩ : Addr).add k = ⟨b, off + k, none⟩ := by unfold Addr.add; split <;> simp_all
  simp [Instr.fieldAt, run_underlying h1, h2, Instr.sureAddr, fieldPlace, sizeOf, typeInfo, h3, h4, h5, hadd]

theorem tyElem_spec {T sz : Nat} (h : tyElem P T = some sz) : ∃ e i, P.underlying T = some (.slice e) ∧ P.info? e = some i ∧ i.size = sz := by
  unfold tyElem at h
  split at h
  · rename_i e he
    split at h
    · rename_i i hi; cases h; exact ⟨e, i, he, hi, rfl⟩
    · cases h
  · cases h

theorem fieldPart_spec {T f off : Nat} {ag : Bool} {n : Nat} (h : fieldPart P T f = some (off, ag, n)) : ∃ fields fd, P.underlying T = some (.struct fields) ∧ fields[f]? = some fd ∧ tyShape P fd.type = some (ag, n) ∧ fd.offset = off := by
  unfold fieldPart at h
  split at h
  · rename_i fields hu
    split at h
    · rename_i fd hf
      split at h
      · rename_i ag' n' hs; cases h; exact ⟨_, _, hu, hf, hs, rfl⟩
      · cases h
    · cases h
  · cases h


theorem argsOf_rel {g : Gh} {ev : Operand → CV} {a : Act} : ∀ {xs : List Operand} {cs : List CV1}, argsOf (xs.map ev) = some cs → (∀ x ∈ xs, relV g (ev x) (a.eval x)) →
    (xs.map a.eval).length = cs.length ∧ ∀ (j : Nat) c u, cs[j]? = some c → (xs.map a.eval)[j]? = some u → rel1 g c u
  | [], cs, h, _ => by simp only [List.map_nil, argsOf] at h; cases h; exact ⟨rfl, fun j c u h => by simp at h⟩
  | x :: xs, cs, h, hr => by
    simp only [List.map_cons] at h
    cases hx : ev x with
    | tup vs => rw [hx] at h; simp [argsOf] at h
    | one c =>
      rw [hx] at h
      simp only [argsOf] at h
      split at h
      · rename_i cs' hcs; cases h
        obtain ⟨h1, h2⟩ := argsOf_rel hcs (fun y hy => hr y (by simp [hy]))
        refine ⟨by simpa using h1, fun j c' u h3 h4 => ?_⟩
        cases j with
        | zero =>
          simp at h3 h4; subst h3 h4
          have := hr x (by simp); rw [hx] at this; exact this
        | succ j => exact h2 j c' u (by simpa using h3) (by simpa using h4)
      · cases h

theorem scalarsOf_rel {g : Gh} {ev : Operand → CV} {a : Act} : ∀ {xs : List Operand} {cs : List CS}, scalarsOf (xs.map ev) = some cs → (∀ x ∈ xs, relV g (ev x) (a.eval x)) →
    (xs.map a.eval).length = cs.length ∧ ∀ (j : Nat) c u, cs[j]? = some c → (xs.map a.eval)[j]? = some u → rel g c u
  | [], cs, h, _ => by simp only [List.map_nil, scalarsOf] at h; cases h; exact ⟨rfl, fun j c u h => by simp at h⟩
  | x :: xs, cs, h, hr => by
    simp only [List.map_cons] at h
    cases hx : ev x with
    | tup vs => rw [hx] at h; simp [scalarsOf] at h
    | one c =>
      rw [hx] at h
      cases c with
      | agg ys => simp [scalarsOf] at h
      | s c =>
        simp only [scalarsOf] at h
        split at h
        · rename_i cs' hcs; cases h
          obtain ⟨h1, h2⟩ := scalarsOf_rel hcs (fun y hy => hr y (by simp [hy]))
          refine ⟨by simpa using h1, fun j c' u h3 h4 => ?_⟩
          cases j with
          | zero =>
            simp at h3 h4; subst h3 h4
            have := hr x (by simp); rw [hx] at this; exact this
          | succ j => exact h2 j c' u (by simpa using h3) (by simpa using h4)
        · cases h

/-- a call by its contract -/
theorem wp_of_callOk {o : Oper} {a : Act} {w : World} {K : Act → World → Prop} {Q : Exit → Act → World → Prop} {f : FuncId} {vals : Array Value} {R : Value → World → Prop}
    (hrun : (execOp a.eval o).run P w = (callFunc f vals).run P w) (h : CallOk P f vals w R) (hk : ∀ v w', R v w' → K (a.put o.dst v) w') : o.wp P a w K Q := by
  unfold Oper.wp
  rw [hrun]
  unfold CallOk at h
  generalize (callFunc f vals).run P w = r at *
  cases r with
  | halt x w' => cases h
  | ok n w' =>
    cases n <;> simp only at h <;> simp only [Oper.upon]
    · exact hk _ _ h
    · refine h.mono fun e w'' hh => ?_
      obtain ⟨v, rfl, hr⟩ := hh
      exact hk _ _ hr

theorem ccall_sound {Γ : CEnv} (hΓ : GoodC P Γ) {o : Oper} {s : St} {c : Call} {K : Eff → Tr} {rv : CV} (ho : o.op = .call c) (h : ccall P Γ s c K = some rv) : ∃ e, K e = some rv ∧ EffOk P o s e := by
  unfold ccall at h
  split at h
  · rename_i f hc
    split at h
    · rename_i fid n cap hf
      split at h
      · rename_i args hargs
        split at h
        · rename_i S hS
          split at h
          · rename_i pre cv deps hcv
            have hbr := brT_req h; clear h; obtain ⟨hpre, h⟩ := hbr
            rw [hpre] at hcv
            refine ⟨_, h, ?_⟩
            obtain ⟨hd, hok⟩ := hΓ _ _ hS _ _ _ _ hcv
            refine ⟨hd, fun g w0 w a K' Q hops hdeps hw hk => ?_⟩
            have hopl : ∀ x ∈ c.operands.toList, relV g (s.ev x) (a.eval x) := by
              rw [ho] at hops; exact hops
            unfold Call.operands at hopl
            rw [hc] at hopl
            have hfa := hopl f (by simp)
            rw [hf] at hfa
            obtain ⟨arr, he, hsz, hcap⟩ := hfa
            obtain ⟨h1, h2⟩ := argsOf_rel (a := a) hargs (fun x hx => hopl x (by simp [hx]))
            have hvals := hok g w0 w (c.args.map a.eval ++ arr) (by simp at h1; simp [h1, hsz]) (fun j c' u h3 h4 => by
              have hlen : (c.args.map a.eval).size = args.length := by simpa using h1
              rcases Nat.lt_or_ge j args.length with hj | hj
              · rw [List.getElem?_append_left hj] at h3
                rw [Array.getElem?_append_left (by omega)] at h4
                exact h2 j c' u h3 (by simpa using h4)
              · rw [List.getElem?_append_right hj] at h3
                rw [Array.getElem?_append_right (by omega)] at h4
                rw [hlen] at h4
                have hlt : j - args.length < n := by
                  rcases Nat.lt_or_ge (j - args.length) n with h | h
                  · exact h
                  · rw [Array.getElem?_eq_none (by omega)] at h4; cases h4
                rw [List.getElem?_map, List.getElem?_range hlt] at h3
                cases h3
                exact hcap _ u h4) hdeps hw
            refine wp_of_callOk ?_ hvals fun v w' ⟨g', haf, hr⟩ => hk v g' w' haf hr
            simp [execOp, ho, resolve, hc, he, Deferred.ofValue, invoke]
          · cases h
        · cases h
      · cases h
    · cases h
  · rename_i b hc
    obtain ⟨cv, hk, hh⟩ := cbuiltin_sound (type := o.type) (consts := c.args.map fun | .const _ => true | _ => false) h
    refine ⟨_, hk, val_of_run fun g w a hops => ?_⟩
    have hopl : ∀ x ∈ c.operands.toList, relV g (s.ev x) (a.eval x) := by rw [ho] at hops; exact hops
    unfold Call.operands at hopl
    rw [hc] at hopl
    obtain ⟨r, hr, hrel⟩ := hh g w (c.args.map a.eval) (by simp) (fun j c' u h3 h4 => by
      simp at h3 h4
      obtain ⟨x, hx, rfl⟩ := h3
      obtain ⟨y, hy, rfl⟩ := h4
      rw [hx] at hy; cases hy
      exact hopl x (by have hx' : c.args.toList[j]? = some x := by simpa using hx
                       have := List.mem_of_getElem? hx'; simpa using this))
    exact ⟨r, 0, by simp only [execOp, ho, resolve, hc, Sem.run_bind, Sem.run_pure, Result.andThen_ok, invoke]; exact hr, hrel⟩
  · cases h

/-- places of a fresh slice -/
theorem slice_places (len size i : Nat) : ((List.range len).map fun i => (i * size, size))[i]? = if i < len then some (i * size, size) else none := by
  rw [List.getElem?_map]
  split
  · rename_i h; rw [List.getElem?_range h]; rfl
  · rename_i h; rw [List.getElem?_eq_none (by simpa using h)]; rfl

theorem fill_congr {p q : Nat → Option (Nat × Nat)} : ∀ {vs : List (Nat × Value)} {arr arr' : Array Value}, (∀ i, ∀ x, p i = some x → q i = some x) → Instr.fill p arr vs = some arr' → Instr.fill q arr vs = some arr'
  | [], arr, arr', _, h => h
  | (i, v) :: vs, arr, arr', hpq, h => by
    simp only [Instr.fill] at h ⊢
    cases hp : p i with
    | none => rw [hp] at h; cases h
    | some x =>
      obtain ⟨off, size⟩ := x
      rw [hp] at h
      rw [hpq i _ hp]
      simp only at h ⊢
      split
      · rename_i hc; rw [if_pos hc] at h; cases h
      · rename_i hc; rw [if_neg hc] at h; exact fill_congr hpq h

theorem flat_get {α : Type} (z : List α) (len : Nat) : ∀ (j : Nat) c, ((List.range len).flatMap fun _ => z)[j]? = some c → z[j % z.length]? = some c ∧ j < len * z.length := by
  induction len with
  | zero => intro j c h; simp at h
  | succ len ih =>
    intro j c h
    rw [List.range_succ, List.flatMap_append] at h
    have hl : ((List.range len).flatMap fun _ => z).length = len * z.length := by
      clear h ih
      induction len with
      | zero => simp
      | succ len ih => rw [List.range_succ, List.flatMap_append, List.length_append, ih]; simp [Nat.succ_mul]
    rcases Nat.lt_or_ge j (len * z.length) with h1 | h1
    · rw [List.getElem?_append_left (by omega)] at h
      obtain ⟨h2, h3⟩ := ih j c h
      exact ⟨h2, by rw [Nat.succ_mul]; omega⟩
    · rw [List.getElem?_append_right (by omega), hl] at h
      simp at h
      have h2 : j - len * z.length < z.length := by
        rcases Nat.lt_or_ge (j - len * z.length) z.length with h' | h'
        · exact h'
        · rw [List.getElem?_eq_none h'] at h; cases h
      have h3 : j % z.length = j - len * z.length := by
        have : j = (j - len * z.length) + len * z.length := by omega
        rw [this, Nat.add_mul_mod_self_right, Nat.mod_eq_of_lt (by omega)]
        omega
      exact ⟨by rw [h3]; exact h, by rw [Nat.succ_mul]; omega⟩

theorem flat_length {α : Type} (z : List α) (len : Nat) : ((List.range len).flatMap fun _ => z).length = len * z.length := by
  induction len with
  | zero => simp
  | succ len ih => rw [List.range_succ, List.flatMap_append, List.length_append, ih]; simp [Nat.succ_mul]

theorem buildSlice_sound {o : Oper} {s : St} {T : TypeId} {len size : Nat} {parts : Array (Nat × Operand)} {z cs : List CS} {ps : List (Nat × List CS)} (ho : o.op = .buildSlice T len parts)
    (hT : tyElem P T = some size) (hz : zeroElem P T = some z) (hps : partsOf s.ev parts.toList = some ps) (h0 : 0 < size) (h00 : 0 < len) (hl : len * size ≤ 16777216) (hzl : z.length = size)
    (hf : fillC ((List.range len).map fun i => (i * size, size)) ((List.range len).flatMap fun _ => z) ps = some cs) : EffOk P o s (.val (.one (.s (.sl len size (fun j => cs.getD j .any)))) []) := by
  refine ⟨(fun _ h => by cases h), fun g w0 w a K Q hops hdeps hw hk => ?_⟩
  have hx : ∀ x ∈ parts.toList, relV g (s.ev x.2) (a.eval x.2) := fun x hx => hops x.2 (by
    rw [ho]; simp only [Op.operands]; exact List.mem_map_of_mem hx)
  obtain ⟨h1, h2⟩ := partsOf_rel hps hx
  obtain ⟨e, i, hu, hi, hsz⟩ := tyElem_spec hT
  unfold zeroElem at hz
  rw [hu] at hz
  simp only at hz
  obtain ⟨i', z', hi', hz', rfl⟩ := zeroCells_spec hz
  rw [hi] at hi'; cases hi'
  have hzs : z'.cells.size = size := by simpa using hzl
  have hrel0 : CellsRel g ((List.range len).flatMap fun _ => z'.cells.toList.map ofCell) ((Array.range (len * size)).map (z'.cells[· % z'.cells.size]!)) := by
    refine ⟨by rw [flat_length]; simp [hzs], fun j c u h3 h4 => ?_⟩
    obtain ⟨h5, h6⟩ := flat_get _ _ j c h3
    simp only [List.length_map, Array.length_toList, hzs] at h5 h6
    have h7 : j % size < z'.cells.size := by rw [hzs]; exact Nat.mod_lt _ h0
    have h8 : u = z'.cells[j % size] := by
      have : j < len * size := h6
      simp [this, hzs] at h4
      rw [← h4, getElem!_pos z'.cells (j % size) h7]
    rw [List.getElem?_map] at h5
    have h9 : z'.cells.toList[j % size]? = some z'.cells[j % size] := by simp [h7]
    rw [h9] at h5
    cases h5
    rw [h8]; exact rel_ofCell g _
  obtain ⟨arr', h3, h4⟩ := fill_sound (g := g) hf hrel0 h1 h2
  have h3' : Instr.fill (fun i => some (i * size, size)) ((Array.range (len * size)).map (z'.cells[· % z'.cells.size]!)) (parts.map fun (i, x) => (i, a.eval x)).toList = some arr' := by
    refine fill_congr (fun i x hp => ?_) (by simpa using h3)
    have := slice_places len size i
    have hp' : ((List.range len).map fun i => (i * size, size))[i]? = some x := by simpa using hp
    rw [this] at hp'
    split at hp'
    · exact hp'
    · cases hp'
  let g' : Gh := { β := g.β, im := fun k => if k = w.heap.size then some (.cells arr' e) else g.im k }
  have himn : g.im w.heap.size = none := by
    cases ho : g.im w.heap.size with
    | none => rfl
    | some o => have := hw.im _ _ ho; rw [Array.getElem?_eq_none (Nat.le_refl _)] at this; cases this
  have hle : g.le g' := ⟨fun _ _ h => h, fun k o' hk' => by
    show (if k = w.heap.size then some (Obj.cells arr' e) else g.im k) = some o'
    by_cases e : k = w.heap.size
    · subst e; rw [himn] at hk'; cases hk'
    · rw [if_neg e]; exact hk'⟩
  have hlt : ∀ k o', g.im k = some o' → k < w.heap.size := fun k o' hk' => by
    have := hw.im _ _ hk'
    rcases Nat.lt_or_ge k w.heap.size with h | h
    · exact h
    · rw [Array.getElem?_eq_none h] at this; cases this
  have haf : After w0 g w g' (w.alloc (.cells arr' e)) := by
    refine ⟨hle, rfl, ⟨hw.below.alloc hw.below.size _, fun k o' hk' => ?_, hw.inj, fun i b hb => ?_, fz_push hw.fz _ _⟩, by simp, fun k hk' => Below.heap_alloc _ _ _ hk'⟩
    · have hk'' : (if k = w.heap.size then some (Obj.cells arr' e) else g.im k) = some o' := hk'
      by_cases e1 : k = w.heap.size
      · rw [if_pos e1] at hk''; cases hk''; subst e1
        show (w.heap.push _)[w.heap.size]? = _
        simp
      · rw [if_neg e1] at hk''
        rw [Below.heap_alloc _ _ _ (hlt k o' hk'')]; exact hw.im _ _ hk''
    · obtain ⟨h5, h6, h7⟩ := hw.fresh i b hb
      refine ⟨h5, by simp; omega, ?_⟩
      show (if b = w.heap.size then some (Obj.cells arr' e) else g.im b) = none
      rw [if_neg (by omega)]; exact h7
  have hfl : fillC ((List.range len).map fun i => (i * size, size)) ((List.range len).flatMap fun _ => z'.cells.toList.map ofCell) ps = some cs := hf
  have hsize : arr'.size = len * size := by
    have : arr'.size = ((Array.range (len * size)).map (z'.cells[· % z'.cells.size]!)).size := by
      have hlen : ∀ {vs : List (Nat × Value)} {p : Nat → Option (Nat × Nat)} {a b : Array Value}, Instr.fill p a vs = some b → b.size = a.size := by
        intro vs
        induction vs with
        | nil => intro p a b h; simp only [Instr.fill] at h; cases h; rfl
        | cons v vs ih =>
          intro p a b h
          obtain ⟨i, v⟩ := v
          simp only [Instr.fill] at h
          split at h
          · cases h
          · rename_i off sz _
            split at h
            · cases h
            · rename_i hcond
              rw [ih h]
              have := (fill_fold off v.cells.toList 0 a (by simp at hcond ⊢; omega)).1
              rw [← this, ← Array.foldl_toList, Array.toList_zipIdx]
      exact hlen h3'
    rw [this]; simp
  refine wp_of_run (w' := w.alloc (.cells arr' e)) (v := .slice (some ⟨w.heap.size, 0, none⟩) len len) ?_ (hk _ g' _ haf ?_)
  · have hgt : ¬ 16777216 < len * size := by omega
    have hmul : 0 < len * size := Nat.mul_pos h00 h0
    have h3e := h3'
    simp at h3e
    simp [execOp, ho, Instr.buildSlice, run_underlying hu, sizeOf, typeInfo, hi, hsz, newRow, zeroValue, hz', hgt, h3e]
    intro h7; omega
  · refine ⟨some ⟨w.heap.size, 0, none⟩, len, rfl, Nat.le_refl _, fun _ => ⟨w.heap.size, 0, rfl, fun j hj => ?_⟩⟩
    have hj' : j < arr'.size := by omega
    refine ⟨arr', e, (0, 0), arr'[j], ?_, by simp [hj'], ?_⟩
    · show (if w.heap.size = w.heap.size then some (Obj.cells arr' e) else _) = _
      rw [if_pos rfl]
    · have hjc : j < cs.length := by have := h4.1; omega
      have := h4.2 j cs[j] arr'[j] (by simp [hjc]) (by simp [hj'])
      have e2 : cs.getD j .any = cs[j] := by simp [List.getD, hjc]
      show rel g' (cs.getD j .any) _
      rw [e2]
      exact rel_mono hle _ _ this

theorem cop_sound {Γ : CEnv} (hΓ : GoodC P Γ) {o : Oper} {s : St} {K : Eff → Tr} {rv : CV} (h : cop R P Γ o.op s K = some rv) : ∃ e, K e = some rv ∧ EffOk P o s e := by
  generalize ho : o.op = op at h
  cases op with
  | move x =>
    refine ⟨_, h, val_of_run fun g w a hops => ⟨a.eval x, 0, ?_, hops x (by rw [ho]; simp [Op.operands])⟩⟩
    simp [execOp, ho]; rfl
  | assign x =>
    refine ⟨_, h, val_of_run fun g w a hops => ⟨a.eval x, 0, ?_, hops x (by rw [ho]; simp [Op.operands])⟩⟩
    simp [execOp, ho]; rfl
  | pick c x y =>
    simp only [cop] at h
    split at h
    · rename_i t hc
      have hb : ∀ {g : Gh} {a : Act}, (∀ x ∈ o.op.operands.toList, relV g (s.ev x) (a.eval x)) → a.eval c = .bool t := fun {g a} hops => by
        have := hops c (by rw [ho]; simp [Op.operands]); rw [hc] at this; exact this
      have hbr := brT_some h; clear h; rcases hbr with ⟨rfl, h⟩ | ⟨rfl, h⟩
      ·
        refine ⟨_, h, val_of_run fun g w a hops => ⟨a.eval x, 0, ?_, hops x (by rw [ho]; simp [Op.operands])⟩⟩
        simp [execOp, ho, hb hops, asBool]; rfl
      ·
        refine ⟨_, h, val_of_run fun g w a hops => ⟨a.eval y, 0, ?_, hops y (by rw [ho]; simp [Op.operands])⟩⟩
        simp [execOp, ho, hb hops, asBool]; rfl
    · cases h
  | alloc T =>
    simp only [cop] at h
    split at h
    · rename_i cs hz; exact ⟨_, h, alloc_sound ho hz⟩
    · cases h
  | box T x =>
    simp only [cop] at h
    split at h
    · rename_i cs hc; have hbr := brT_req h; clear h; obtain ⟨h1, h⟩ := hbr; exact ⟨_, h, box_sound ho hc h1⟩
    · cases h
  | build T parts =>
    simp only [cop] at h
    split at h
    · rename_i places z ps h1 h2 h3
      split at h
      · rename_i cs hf; exact ⟨_, h, build_sound ho h1 h2 h3 hf⟩
      · cases h
    · cases h
  | load T x =>
    simp only [cop] at h
    split at h
    · rename_i ag n hs
      split at h
      · rename_i id off hx
        split at h
        · rename_i cs hr
          split at h
          · rename_i v hv
            have hl := readFrom_length hr
            subst hl
            exact ⟨_, h, load_sound ho hs hx hr hv⟩
          · cases h
        · cases h
      · rename_i m f hx
        have hbr := brT_req h; clear h; obtain ⟨hm, h⟩ := hbr
        have hm := Nat.le_of_ble_eq_true hm
        split at h
        · rename_i v hv; exact ⟨_, h, load_ip_sound ho hs hx hm hv⟩
        · cases h
      · cases h
    · cases h
  | store T ad x =>
    simp only [cop] at h
    split at h
    · rename_i ag n hs
      split at h
      · rename_i id off hx
        split at h
        · rename_i cs hc
          have hbr := brT_req h; clear h; obtain ⟨hh, h⟩ := hbr
          simp only [Bool.and_eq_true] at hh
          obtain ⟨⟨h0, h1⟩, h2, h3⟩ := hh
          have h0 : 0 < n := Nat.le_of_ble_eq_true h0
          have h1 := Nat.eq_of_beq_eq_true h1
          exact ⟨_, h, store_sound ho hs hx hc h0 h1 h2 h3⟩
        · cases h
      · cases h
    · cases h
  | fieldAddr T x f =>
    simp only [cop] at h
    split at h
    · rename_i k hk
      split at h
      · rename_i id off hx
        refine ⟨_, h, val_of_run fun g w a hops => ?_⟩
        have hxa := hops x (by rw [ho]; simp [Op.operands])
        rw [hx] at hxa
        obtain ⟨b, hb, he⟩ := hxa
        exact ⟨_, 0, by simp only [execOp, ho, he, Sem.run_bind, run_fieldAt w hk, Result.andThen_ok, Sem.run_pure]; rfl, b, hb, rfl⟩
      · rename_i m hh hx
        refine ⟨_, h, val_of_run fun g w a hops => ?_⟩
        have hxa := hops x (by rw [ho]; simp [Op.operands])
        rw [hx] at hxa
        obtain ⟨b, off, he, hc⟩ := hxa
        refine ⟨_, 0, by simp only [execOp, ho, he, Sem.run_bind, run_fieldAt w hk, Result.andThen_ok, Sem.run_pure]; rfl, b, off + k, rfl, fun j hj => ?_⟩
        obtain ⟨arr, T', fr, u, h1, h2, h3⟩ := hc (k + j) (by omega)
        exact ⟨arr, T', fr, u, h1, by rw [← h2]; congr 1; omega, h3⟩
      · cases h
    · cases h
  | field T x f =>
    simp only [cop] at h
    split at h
    · rename_i off ag n hp
      split at h
      · rename_i cs hx
        have hbr := brT_req h; clear h; obtain ⟨hl, h⟩ := hbr
        have hl := Nat.le_of_ble_eq_true hl
        split at h
        · rename_i v hv
          obtain ⟨fields, fd, h1, h2, h3, h4⟩ := fieldPart_spec hp
          obtain ⟨d, i, h5, h6, h7, h8⟩ := tyShape_spec h3
          refine ⟨_, h, val_of_run fun g w a hops => ?_⟩
          have hxa := hops x (by rw [ho]; simp [Op.operands])
          rw [hx] at hxa
          obtain ⟨arr, he, hsz, hc⟩ := hxa
          cases ag with
          | true =>
            cases hv
            refine ⟨.agg (arr.extract off (off + n)), 0, ?_, _, rfl, ?_, fun j c u hj hu => ?_⟩
            · simp [execOp, ho, he, Instr.field, run_underlying h1, h2, asAgg, part, h8, sizeOf, typeInfo, h6, h7, h4]; rfl
            · simp; omega
            · rw [List.getElem?_take] at hj
              split at hj
              · rename_i hjn
                rw [Array.getElem?_extract] at hu
                split at hu
                · exact hc (off + j) c u (by simpa using hj) hu
                · cases hu
              · cases hj
          | false =>
            unfold mkVal at hv
            simp only at hv
            split at hv
            · rename_i c hcs; cases hv
              have hn : n = 1 := by
                have := congrArg List.length hcs; simp at this; omega
              have hget : cs[off]? = some c := by
                have := congrArg (·[0]?) hcs
                simp [hn] at this
                simpa using this
              have hlt : off < arr.size := by omega
              refine ⟨arr[off], 0, ?_, hc off c _ hget (by simp [hlt])⟩
              simp [execOp, ho, he, Instr.field, run_underlying h1, h2, asAgg, part, h8, h4, hlt]; rfl
            · cases hv
        · cases h
      · cases h
    · cases h
  | nilCheck x =>
    simp only [cop] at h
    split at h
    · rename_i id off hx
      refine ⟨_, h, val_of_run fun g w a hops => ?_⟩
      have hxa := hops x (by rw [ho]; simp [Op.operands])
      rw [hx] at hxa
      obtain ⟨b, hb, he⟩ := hxa
      exact ⟨_, 0, by simp [execOp, ho, he]; rfl, b, hb, rfl⟩
    · rename_i n f hx
      refine ⟨_, h, val_of_run fun g w a hops => ?_⟩
      have hxa := hops x (by rw [ho]; simp [Op.operands])
      rw [hx] at hxa
      obtain ⟨b, off, he, hc⟩ := hxa
      exact ⟨_, 0, by simp [execOp, ho, he]; rfl, b, off, rfl, hc⟩
    · cases h
  | binOp op T x y yT =>
    simp only [cop] at h
    obtain ⟨cv, hk, hh⟩ := cbin_sound h
    refine ⟨_, hk, val_of_run fun g w a hops => ?_⟩
    obtain ⟨r, n, h1, h2, h3⟩ := hh g w x y (a.eval x) (a.eval y) (hops x (by rw [ho]; simp [Op.operands])) (hops y (by rw [ho]; simp [Op.operands]))
    exact ⟨r, n, by simp only [execOp, ho, h1, Sem.run_bind, Sem.run_pure, Result.andThen_ok, h2], h3⟩
  | unOp op T x =>
    simp only [cop] at h
    obtain ⟨cv, hk, hh⟩ := cun_sound (P := P) h
    refine ⟨_, hk, val_of_run fun g w a hops => ?_⟩
    obtain ⟨r, h1, h2⟩ := hh g w (a.eval x) (hops x (by rw [ho]; simp [Op.operands]))
    exact ⟨r, 0, by simp only [execOp, ho, h1, Sem.run_bind, Sem.run_pure, Result.andThen_ok]; rfl, h2⟩
  | convert src dst x =>
    simp only [cop] at h
    obtain ⟨cv, hk, hh⟩ := cconv_sound h
    refine ⟨_, hk, val_of_run fun g w a hops => ?_⟩
    obtain ⟨r, n, h1, h2⟩ := hh g w (a.eval x) (hops x (by rw [ho]; simp [Op.operands]))
    exact ⟨r, n, by simp only [execOp, ho, h1, Sem.run_bind, Sem.run_pure, Result.andThen_ok], h2⟩
  | indexAddr T x i =>
    simp only [cop] at h
    split at h
    · rename_i sz hsz
      split at h
      · rename_i n size f hx
        split at h
        · rename_i k ix hi
          have hbr := brT_req h; clear h; obtain ⟨hh, h⟩ := hbr
          simp only [Bool.and_eq_true, decide_eq_true_eq] at hh
          obtain ⟨hse, h0, hn⟩ := hh
          obtain rfl := Nat.eq_of_beq_eq_true hse
          obtain ⟨e, inf, h1, h2, h3⟩ := tyElem_spec hsz
          refine ⟨_, h, val_of_run fun g w a hops => ?_⟩
          have hxa := hops x (by rw [ho]; simp [Op.operands])
          have hia := hops i (by rw [ho]; simp [Op.operands])
          rw [hx] at hxa
          rw [hi] at hia
          obtain ⟨ad, cap, he, hcap, hc⟩ := hxa
          have hie : a.eval i = .int k ix := hia
          obtain ⟨b, off, rfl, hcc⟩ := hc (by omega)
          have hadd : (⟨b, off, none⟩ : Addr).add (ix.toNat * size) = ⟨b, off + ix.toNat * size, none⟩ := by unfold Addr.add; split <;> simp_all
          refine ⟨.pointer (some ⟨b, off + ix.toNat * size, none⟩), 0, ?_, b, off + ix.toNat * size, rfl, fun j hj => ?_⟩
          · simp [execOp, ho, he, hie, Instr.indexAt, asIntOf, run_underlying h1, h0, hn, sizeOf, typeInfo, h2, h3, hadd]; rfl
          · obtain ⟨arr, T', fr, u, h4, h5, h6⟩ := hcc (ix.toNat * size + j) (by omega)
            exact ⟨arr, T', fr, u, h4, by rw [← h5]; congr 1; omega, h6⟩
        · cases h
      · cases h
    · cases h
  | extract t i =>
    simp only [cop] at h
    split at h
    · rename_i vs ht
      split at h
      · rename_i v hv
        refine ⟨_, h, val_of_run fun g w a hops => ?_⟩
        have hxa := hops t (by rw [ho]; simp [Op.operands])
        rw [ht] at hxa
        obtain ⟨arr, he, hsz, hc⟩ := hxa
        have hlt : i < arr.size := by
          rw [hsz]
          rcases Nat.lt_or_ge i vs.length with h | h
          · exact h
          · rw [List.getElem?_eq_none h] at hv; cases hv
        exact ⟨arr[i], 0, by simp [execOp, ho, he, Instr.extract, hlt]; rfl, hc i v _ hv (by simp [hlt])⟩
      · cases h
    · cases h
  | buildSlice T len parts =>
    simp only [cop] at h
    split at h
    · rename_i size z ps h1 h2 h3
      have hbr := brT_req h; clear h; obtain ⟨hh, h⟩ := hbr
      simp only [Bool.and_eq_true] at hh
      obtain ⟨⟨h4, h44⟩, h5, h6⟩ := hh
      split at h
      · rename_i cs hf
        exact ⟨_, h, buildSlice_sound ho h1 h2 h3 (Nat.le_of_ble_eq_true h4) (Nat.le_of_ble_eq_true h44) (Nat.le_of_ble_eq_true h5) (Nat.eq_of_beq_eq_true h6) hf⟩
      · cases h
    · cases h
  | makeFunc fn first captured =>
    simp only [cop] at h
    split at h
    · rename_i fid
      have hbr := brT_req h; clear h; obtain ⟨h0, h⟩ := hbr
      have h0 := Nat.eq_of_beq_eq_true h0
      split at h
      · rename_i cs hcs
        refine ⟨_, h, val_of_run fun g w a hops => ?_⟩
        have hf : first = #[] := Array.eq_empty_of_size_eq_zero h0
        subst hf
        obtain ⟨h1, h2⟩ := scalarsOf_rel (a := a) hcs (fun x hx => hops x (by rw [ho]; simpa [Op.operands] using hx))
        refine ⟨.func (.func fid) #[] (captured.map a.eval), 0, by simp [execOp, ho, Instr.makeFunc]; rfl, _, rfl, by simpa using h1, fun j u hu => ?_⟩
        have hj : j < cs.length := by
          rw [← h1]; simp
          rcases Nat.lt_or_ge j captured.size with h | h
          · exact h
          · rw [Array.getElem?_eq_none (by simpa using h)] at hu; cases hu
        have hc := h2 j cs[j] u (by simp [hj]) (by simpa using hu)
        simpa [hj] using hc
      · cases h
    · cases h
  | call c => exact ccall_sound hΓ ho h
  | _ => cases h

end
end Go.Cv
