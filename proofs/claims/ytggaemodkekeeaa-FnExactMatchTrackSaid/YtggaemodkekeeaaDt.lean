/- The contracts at hand; what has no Go body; ways of trees. -/
import Derived.Test.YtggaemodkekeeaaDs
import Derived.Laws.BitsAllLaws

namespace Go.Dv
open Go.RowKit Go.Cv

/-! ### trees -/
section
variable {α β : Type}
theorem push2 {F : α → β} {c : Bool} {A B : Tr β} {a b : α} (hA : A = some (F a)) (hB : B = some (F b)) : brT c A B = some (F (bif c then a else b)) := by
  cases c
  · exact hB
  · exact hA
theorem pushR {F : α → β} {c rA rB : Bool} {A B : Tr β} {a b : α} (hA : rA = true → A = some (F a)) (hB : rB = true → B = some (F b)) (h : (bif c then rA else rB) = true) :
    brT c A B = some (F (bif c then a else b)) := by
  cases c
  · exact hB h
  · exact hA h
theorem pushL {F : α → β} {c rA : Bool} {A B : Tr β} {a : α} (hA : rA = true → A = some (F a)) (h : (c && rA) = true) : brT c A B = some (F a) := by
  cases c
  · cases h
  · exact hA h
theorem pushN {F : α → β} {c rB : Bool} {A B : Tr β} {b : α} (hB : rB = true → B = some (F b)) (h : (!c && rB) = true) : brT c A B = some (F b) := by
  cases c
  · exact hB h
  · cases h
end

/-! ### the contracts at hand, as a list -/
section
variable {P : Program}
def envOf : List (FuncId × FSpec) → CEnv
  | [], _ => none
  | (g, S) :: rest, f => bif Nat.beq f g then some S else envOf rest f

theorem good_nil : GoodC P (envOf []) := fun _ _ h => nomatch h
theorem good_cons {g : FuncId} {S : FSpec} {rest : List (FuncId × FSpec)} (h : OkFn P g S) (hr : GoodC P (envOf rest)) : GoodC P (envOf ((g, S) :: rest)) := by
  intro f S' hf
  simp only [envOf] at hf
  cases hb : Nat.beq f g
  · rw [hb] at hf; exact hr f S' hf
  · rw [hb] at hf
    obtain rfl := Nat.eq_of_beq_eq_true hb
    cases hf; exact h

/-- the loops that are told -/
def lamOf : List (Nat × LSpec) → Nat → Option LSpec
  | [], _ => none
  | (i, L) :: rest, j => bif Nat.beq j i then some L else lamOf rest j

def LamOk (P : Program) (n : Nat) (c : Code) (Λ : Nat → Option LSpec) : Prop := ∀ i cc L, (loopsOf c)[i]? = some cc → Λ i = some L → LOk P n cc L
theorem lam_nil {n : Nat} {c : Code} : LamOk P n c (lamOf []) := fun _ _ _ _ h => nomatch h
theorem lam_cons {n : Nat} {c cc : Code} {i : Nat} {L : LSpec} {rest : List (Nat × LSpec)} (hc : (loopsOf c)[i]? = some cc) (h : LOk P n cc L) (hr : LamOk P n c (lamOf rest)) : LamOk P n c (lamOf ((i, L) :: rest)) := by
  intro j cc' L' hj hL
  simp only [lamOf] at hL
  cases hb : Nat.beq j i
  · rw [hb] at hL; exact hr j cc' L' hj hL
  · rw [hb] at hL
    obtain rfl := Nat.eq_of_beq_eq_true hb
    cases hL
    rw [hc] at hj; cases hj; exact h

def LamAt (P : Program) (n : Nat) (c : Code) (b : Nat) (Λ : Nat → Option LSpec) : Prop := ∀ i cc L, (loopsOf c)[i]? = some cc → Λ (b + i) = some L → LOk P n cc L
theorem lamAt_nil {n b : Nat} {c : Code} : LamAt P n c b (lamOf []) := fun _ _ _ _ h => nomatch h
theorem lamAt_cons {n b : Nat} {c cc : Code} {i k : Nat} {L : LSpec} {rest : List (Nat × LSpec)} (hk : k = b + i) (hc : (loopsOf c)[i]? = some cc) (h : LOk P n cc L) (hr : LamAt P n c b (lamOf rest)) : LamAt P n c b (lamOf ((k, L) :: rest)) := by
  intro j cc' L' hj hL
  simp only [lamOf] at hL
  cases hb : Nat.beq (b + j) k
  · rw [hb] at hL; exact hr j cc' L' hj hL
  · rw [hb] at hL
    have := Nat.eq_of_beq_eq_true hb
    obtain rfl : i = j := by omega
    cases hL
    rw [hc] at hj; cases hj; exact h
end

/-! ### Go's package math -/
section
variable {P : Program}

/-- what an entry without a body does -/
def ExtRun (P : Program) (f : FuncId) (e : Array Value → Sem Value) : Prop := ∀ args w, (callFunc f args).run P w = ((e args) >>= fun v => pure (Next.value v)).run P w

@[reducible] def sigF : AS := .cons (.one (.fl .f64)) .nil
def un64 (F : Nat → Nat) : FSpec := fun _ args => match args with
  | [.s (.fl .f64 x)] => some { pre := true, cv := fl .f64 (F x), nw := [], rd := [], wr := [] }
  | _ => none

theorem done_same {X : Fr} {w0 w : World} {g : Gh} (hok : WOk X w0 g w) {base : Nat} (hfree : ∀ i, base ≤ i → g.β i = none) {b : Bool} {cv : CV} {rd : List Dep} (n : Nat) : Done X w0 g w { pre := b, cv := cv, nw := [], rd := rd, wr := [] } base g (w.drewN n) :=
  ⟨g.le_refl, fun _ _ => rfl, fun i hi => hfree i hi, fun _ => hok.drewN n, fun _ => Nat.le_refl _, fun _ _ _ _ => rfl, (fun _ h => nomatch h), fun _ _ h => by simp at h⟩

theorem arr_one {us : Array Value} (h : us.size = 1) : ∃ u, us = #[u] := ⟨us[0], by
    apply Array.ext (by simp [h]); intro i h1 h2
    match i, h2 with
    | 0, _ => rfl⟩

theorem okUn64 {f : FuncId} {e : Array Value → Sem Value} (hx : ExtRun P f e) {F : Nat → Nat}
    (h : ∀ x w, x < lim .f64 → ∃ r n, (e #[.float .f64 x]).run P w = .ok (.float .f64 r) (w.drewN n) ∧ cn .f64 r = F (cn .f64 x) ∧ r < lim .f64) : OkFn P f (un64 F) := by
  intro hp args r hS _
  unfold un64 at hS
  split at hS
  · cases hS
    refine ⟨(fun d hd => nomatch hd), (fun d hd => nomatch hd), (fun d hd => nomatch hd), fun X g w0 w base vals hsz hrel _ hok _ _ hfree => ?_⟩
    obtain ⟨u, rfl⟩ := arr_one hsz
    obtain ⟨m, rfl, rfl, hm⟩ := hrel 0 _ u rfl rfl
    obtain ⟨r, n, hr, hc, hl⟩ := h m w hm
    unfold CallOk
    rw [hx]
    simp only [Sem.run_bind, hr, Result.andThen_ok, Sem.run_pure]
    exact ⟨g, done_same hok hfree n, r, rfl, hc, hl⟩
  · cases hS

theorem sqrt_eq (x : Nat) : Extern.MathSqrt.sqrt #[.float .f64 x] = (match FloatKind.f64.format.sqrt x with
    | some r => pure (.float .f64 r)
    | none => do pure (.float .f64 (← choose (.nanBits .f64 x x)))) := rfl

theorem floor_eq (name : String) (way : Ieee.Toward) (x : Nat) : Extern.MathFloor.toIntegral name way #[.float .f64 x] = (match FloatKind.f64.decode x with
    | .nan s t =>
      if FloatKind.f64.format.quiet t = t then pure (.float .f64 x) else do
      let kept ← choose (.extern "math.Floor,Ceil,Trunc,RoundToEven.signallingNaN kept" 2)
      pure (.float .f64 (if kept == 1 then x else FloatKind.f64.encode (.nan s (FloatKind.f64.format.quiet t))))
    | d => pure (.float .f64 (FloatKind.f64.encode (d.integral way)))) := rfl

theorem okSqrt {f : FuncId} (hx : ExtRun P f Extern.MathSqrt.sqrt) : OkFn P f (un64 fsqrt) := by
  refine okUn64 hx fun x w hm => ?_
  have hcn : FloatKind.f64.format.sqrt (cn .f64 x) = FloatKind.f64.format.sqrt x := by
    cases hn : isNan .f64 x
    · rw [cn_of_not hn]
    · obtain ⟨s, t, e⟩ := nan_read hn
      obtain ⟨s', t', e'⟩ := nan_read (k := .f64) (n := cn .f64 x) (by rw [isNan_cn, hn])
      unfold Ieee.Format.sqrt; rw [e, e']; rfl
  cases h : FloatKind.f64.format.sqrt x with
  | some r =>
    refine ⟨r, 0, ?_, ?_, FloatKind.f64.format.sqrt_lt h⟩
    · rw [sqrt_eq]; simp [h]; rfl
    · rw [cn_of_not (k := .f64) (n := r) (map_write_not_nan (fun d hd => root_not_nan hd) h)]
      unfold fsqrt; rw [hcn, h]; rfl
  | none =>
    obtain ⟨hn, hl⟩ := nan_bits .f64 x x (w.tape w.drawn (.nanBits .f64 x x))
    refine ⟨_, 1, ?_, ?_, hl⟩
    · rw [sqrt_eq]; simp [h, forced_bits]; rfl
    · rw [cn_of_nan hn]; unfold fsqrt; rw [hcn, h]; rfl

/-- a NaN made quiet is a NaN -/
theorem nan_encode (s : Bool) (t : Nat) : isNan .f64 (FloatKind.f64.encode (.nan s (FloatKind.f64.format.quiet t))) = true ∧ FloatKind.f64.encode (.nan s (FloatKind.f64.format.quiet t)) < lim .f64 := by
  have eb : FloatKind.f64.format.binade = 4503599627370496 := by decide
  have ei : FloatKind.f64.format.infRung = 9218868437227405312 := by decide
  have es : FloatKind.f64.format.signWeight = 9223372036854775808 := by decide
  have hq : FloatKind.f64.format.quiet t % 4503599627370496 ≠ 0 := by
    intro h
    have hb : (FloatKind.f64.format.quiet t).testBit 51 = true := by
      unfold Ieee.Format.quiet
      have : FloatKind.f64.format.fractionBits - 1 = 51 := by decide
      rw [this, Nat.testBit_or, Nat.testBit_two_pow_self]; simp
    have h2 := Nat.testBit_mod_two_pow (FloatKind.f64.format.quiet t) 52 51
    have e52 : (2 : Nat) ^ 52 = 4503599627370496 := by decide
    rw [e52, h, hb] at h2
    simp at h2
  generalize FloatKind.f64.format.quiet t = q at hq ⊢
  have hq2 : q % 4503599627370496 < 4503599627370496 := Nat.mod_lt _ (by decide)
  have hw : FloatKind.f64.encode (.nan s q) = FloatKind.f64.format.word s (9218868437227405312 + q % 4503599627370496) := by
    show FloatKind.f64.format.word s (FloatKind.f64.format.infRung + q % FloatKind.f64.format.binade) = _
    rw [ei, eb]
  rw [hw]
  refine ⟨?_, FloatKind.f64.format.word_lt s (by rw [es]; omega)⟩
  unfold isNan Ieee.Format.read
  have hm := word_rung FloatKind.f64.format s (9218868437227405312 + q % 4503599627370496) (by rw [es]; omega)
  simp only [hm, eb, ei]
  rw [if_neg (by omega), if_neg (by omega), if_neg (by omega)]
  rfl

theorem okFloor {f : FuncId} {name : String} {way : Ieee.Toward} (hx : ExtRun P f (Extern.MathFloor.toIntegral name way)) : OkFn P f (un64 (ffloor way)) := by
  refine okUn64 hx fun x w hm => ?_
  unfold ffloor
  rw [isNan_cn]
  cases hn : isNan .f64 x
  · rw [cn_of_not hn]
    have hd : ∀ s t, FloatKind.f64.decode x ≠ .nan s t := fun s t e => by
      unfold isNan at hn
      have e' : FloatKind.f64.format.read x = .nan s t := e
      rw [e'] at hn; cases hn
    refine ⟨FloatKind.f64.encode ((FloatKind.f64.decode x).integral way), 0, ?_, ?_, FloatKind.f64.format.write_lt _⟩
    · cases hdx : FloatKind.f64.decode x with
      | nan s t => exact (hd s t hdx).elim
      | number s m e => rw [floor_eq, hdx]; rfl
      | infinity s => rw [floor_eq, hdx]; rfl
    · rw [if_neg (by simp)]
      refine cn_of_not (write_not_nan _ _ ?_)
      cases hdx : FloatKind.f64.decode x with
      | nan s t => exact (hd s t hdx).elim
      | number s m e => rfl
      | infinity s => rfl
  · rw [if_pos rfl]
    obtain ⟨s, t, e⟩ := nan_read hn
    have e' : FloatKind.f64.decode x = .nan s t := e
    by_cases hq : FloatKind.f64.format.quiet t = t
    · refine ⟨x, 0, ?_, cn_of_nan hn, hm⟩
      rw [floor_eq, e']; simp [hq]; rfl
    · obtain ⟨h1, h2⟩ := nan_encode s t
      have hf : (Question.extern "math.Floor,Ceil,Trunc,RoundToEven.signallingNaN kept" 2).forced = false := rfl
      by_cases hk : ((Question.extern "math.Floor,Ceil,Trunc,RoundToEven.signallingNaN kept" 2).cut (w.tape w.drawn (.extern "math.Floor,Ceil,Trunc,RoundToEven.signallingNaN kept" 2)) == 1) = true
      · refine ⟨x, 1, ?_, cn_of_nan hn, hm⟩
        have hk' := by simpa using hk
        rw [floor_eq, e']; simp [hq, hf, hk']; rfl
      · refine ⟨FloatKind.f64.encode (.nan s (FloatKind.f64.format.quiet t)), 1, ?_, cn_of_nan h1, h2⟩
        have hk' := by simpa using hk
        rw [floor_eq, e']; simp [hq, hf, hk']; rfl

/-- math.Float64frombits of a number that is known -/
def sFrombits : FSpec := fun _ args => match args with
  | [.s (.v (.int .u64 n))] => some { pre := decide (0 ≤ n) && decide (n < 18446744073709551616), cv := fl .f64 (cn .f64 n.toNat), nw := [], rd := [], wr := [] }
  | _ => none

theorem okFrombits {f : FuncId} (hx : ExtRun P f Extern.MathFloatBits.float64frombits) : OkFn P f sFrombits := by
  intro hp args r hS hpre
  unfold sFrombits at hS
  split at hS
  · rename_i n
    cases hS
    simp only [Bool.and_eq_true, decide_eq_true_eq] at hpre
    obtain ⟨h0, h1⟩ := hpre
    refine ⟨(fun d hd => nomatch hd), (fun d hd => nomatch hd), (fun d hd => nomatch hd), fun X g w0 w base vals hsz hrel _ hok _ _ hfree => ?_⟩
    obtain ⟨u, rfl⟩ := arr_one hsz
    obtain rfl : u = _ := hrel 0 _ u rfl rfl
    unfold CallOk
    rw [hx]
    have e : Extern.MathFloatBits.float64frombits #[.int .u64 n] = pure (.float .f64 n.toNat) := rfl
    rw [e]
    simp only [Sem.run_bind, Result.andThen_ok, Sem.run_pure]
    refine ⟨g, done_same hok hfree 0, n.toNat, rfl, rfl, ?_⟩
    have : lim .f64 = 18446744073709551616 := by decide
    rw [this]; omega
  · cases hS

/-- math.Float64bits and math.Float64frombits of the very bits -/
def xBits : FSpec := fun _ args => match args with
  | [.s (.v (.float .f64 n))] => some { pre := true, cv := ex (.int .u64 n), nw := [], rd := [], wr := [] }
  | _ => none
def xFrombits : FSpec := fun _ args => match args with
  | [.s (.v (.int .u64 n))] => some { pre := true, cv := ex (.float .f64 n.toNat), nw := [], rd := [], wr := [] }
  | _ => none

theorem okxBits {f : FuncId} (hx : ExtRun P f Extern.MathFloatBits.float64bits) : OkFn P f xBits := by
  intro hp args r hS _
  unfold xBits at hS
  split at hS
  · cases hS
    refine ⟨(fun d hd => nomatch hd), (fun d hd => nomatch hd), (fun d hd => nomatch hd), fun X g w0 w base vals hsz hrel _ hok _ _ hfree => ?_⟩
    obtain ⟨u, rfl⟩ := arr_one hsz
    obtain rfl : u = _ := hrel 0 _ u rfl rfl
    unfold CallOk
    rw [hx]
    exact ⟨g, done_same hok hfree 0, rfl⟩
  · cases hS
theorem okxFrombits {f : FuncId} (hx : ExtRun P f Extern.MathFloatBits.float64frombits) : OkFn P f xFrombits := by
  intro hp args r hS _
  unfold xFrombits at hS
  split at hS
  · cases hS
    refine ⟨(fun d hd => nomatch hd), (fun d hd => nomatch hd), (fun d hd => nomatch hd), fun X g w0 w base vals hsz hrel _ hok _ _ hfree => ?_⟩
    obtain ⟨u, rfl⟩ := arr_one hsz
    obtain rfl : u = _ := hrel 0 _ u rfl rfl
    unfold CallOk
    rw [hx]
    exact ⟨g, done_same hok hfree 0, rfl⟩
  · cases hS

@[reducible] def sigRaw : AS := .cons .raw .nil
def pAbs (x : sigRaw.Ty) : sigRaw.Ty × List CS := ((match x.1 with | .float .f64 n => .float .f64 (bits .andNot .u64 (n : Int) 9223372036854775808).toNat | v => v, ()), [])
def isF64 (x : sigRaw.Ty) : Bool := match x.1 with | .float .f64 _ => true | _ => false
def xAbs : FSpec := mkSpec sigRaw sigRaw isF64 pAbs

/-- math.Abs, out of what it does to the bits -/
theorem okAbs {f : FuncId} (h : OkFn P f xAbs) : OkFn P f (un64 fabs) := by
  intro hp args r hS _
  unfold un64 at hS
  split at hS
  · cases hS
    refine ⟨(fun d hd => nomatch hd), (fun d hd => nomatch hd), (fun d hd => nomatch hd), fun X g w0 w base vals hsz hrel _ hok hbase _ hfree => ?_⟩
    obtain ⟨u, rfl⟩ := arr_one hsz
    obtain ⟨m, rfl, rfl, hm⟩ := hrel 0 _ u rfl rfl
    obtain ⟨_, _, _, h2⟩ := h hp [.s (.v (.float .f64 m))] _ rfl rfl
    have h3 := h2 X g w0 w base #[.float .f64 m] rfl (fun j c u hj hu => by
      cases j with
      | zero => simp at hj hu; subst hj hu; exact rfl
      | succ j => simp at hj) (fun d hd => nomatch hd) hok hbase (fun d hd => nomatch hd) hfree
    have e64 : lim .f64 = 18446744073709551616 := by decide
    have hm' : m < 18446744073709551616 := by rw [← e64]; exact hm
    have hb2 := u64_andNot_nat m 9223372036854775808 hm' (by decide)
    have e1 : (18446744073709551615 - 9223372036854775808 : Nat) = 2 ^ 63 - 1 := by decide
    rw [e1, Nat.and_two_pow_sub_one_eq_mod] at hb2
    have hb3 : (bits .andNot .u64 (m : Int) 9223372036854775808).toNat = m % 2 ^ 63 := by
      have : ((9223372036854775808 : Nat) : Int) = 9223372036854775808 := rfl
      rw [this] at hb2; rw [hb2]; exact Int.toNat_natCast _
    have key : ∀ v, relV g (ex (.float .f64 (bits .andNot .u64 (m : Int) 9223372036854775808).toNat)) v → ∀ g', relV g' (fl .f64 (fabs (cn .f64 m))) v := fun v hv g' => by
      obtain rfl : v = _ := hv
      rw [hb3]
      refine ⟨_, rfl, ?_, ?_⟩
      · unfold fabs
        rw [isNan_cn]
        have hr : isNan .f64 (m % 2 ^ 63) = isNan .f64 m := by
          have es : FloatKind.f64.format.signWeight = 2 ^ 63 := by decide
          unfold isNan Ieee.Format.read
          simp only [es, Nat.mod_mod]
          split
          · rfl
          · split
            · rfl
            · split <;> rfl
        cases hn : isNan .f64 m
        · rw [cn_of_not hn, cn_of_not (by rw [hr, hn])]; rfl
        · rw [cn_of_nan (by rw [hr, hn])]; rfl
      · rw [e64]
        have : m % 2 ^ 63 < 2 ^ 63 := Nat.mod_lt _ (by decide)
        have e63 : (2 : Nat) ^ 63 = 9223372036854775808 := by decide
        omega
    have conv : ∀ {r : Res} {g' w'}, r.nw = [] → r.wr = [] → r.eat = none → Done X w0 g w r base g' w' → Done X w0 g w { pre := true, cv := fl .f64 (fabs (cn .f64 m)), nw := [], rd := [], wr := [] } base g' w' := fun {r} _ _ h1 h2 h3 d => by
      obtain ⟨a, b, c, d', e, e'⟩ := r
      subst h1 h2 h3
      exact ⟨d.le, d.β, d.top, d.ok, d.size, d.same, d.wr, d.nw⟩
    unfold CallOk at h3 ⊢
    generalize (callFunc f #[.float .f64 m]).run P w = r at h3 ⊢
    cases r with
    | halt x w' => exact h3
    | ok n w' =>
      cases n <;> simp only at h3 ⊢ <;> try exact h3
      · obtain ⟨g', h4, h5⟩ := h3; exact ⟨g', conv rfl rfl rfl h4, key _ h5 g'⟩
      · refine h3.mono fun e w'' hh => ?_
        obtain ⟨v, he, g', h4, h5⟩ := hh
        exact ⟨v, he, g', conv rfl rfl rfl h4, key _ h5 g'⟩
  · cases hS

end
end Go.Dv
