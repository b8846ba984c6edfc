/- The contracts at hand; what has no Go body; ways of trees. -/
/- From a contract of the library (what a call returns; the world below is as it was) to a contract in shapes. -/
import Derived.Test.YtgfplcpjnlignaaDoorDs
import Derived.Laws.BitsAllLaws

namespace Go.Dv
open Go.RowKit Go.Cv

/-! ### trees -/
section
variable {α β : Type}
theorem push2 {F : α → β} {c : Bool} {A B : Tr β} {a b : α} (hA : A = some (F a)) (hB : B = some (F b)) : brT c A B = some (F (bif c then a else b)) := by
  cases c
  · exact hB
  · exact hA
theorem pushR {F : α → β} {c rA rB : Bool} {A B : Tr β} {a b : α} (hA : rA = true → A = some (F a)) (hB : rB = true → B = some (F b)) (h : (bif c then rA else rB) = true) :
    brT c A B = some (F (bif c then a else b)) := by
  cases c
  · exact hB h
  · exact hA h
theorem pushL {F : α → β} {c rA : Bool} {A B : Tr β} {a : α} (hA : rA = true → A = some (F a)) (h : (c && rA) = true) : brT c A B = some (F a) := by
  cases c
  · cases h
  · exact hA h
theorem pushN {F : α → β} {c rB : Bool} {A B : Tr β} {b : α} (hB : rB = true → B = some (F b)) (h : (!c && rB) = true) : brT c A B = some (F b) := by
  cases c
  · exact hB h
  · cases h
/-- a truth that holds anyway -/
theorem pushT {c : Bool} {A B : Tr β} {x : β} (hc : c = true) (hA : A = some x) : brT c A B = some x := by
  rw [hc]; exact hA
theorem beq_self_eq {a : Nat} : Nat.beq a a = true := Nat.beq_refl a
end

/-! ### the contracts at hand, as a list -/
section
variable {P : Program}
def envOf : List (FuncId × FSpec) → CEnv
  | [], _ => none
  | (g, S) :: rest, f => bif Nat.beq f g then some S else envOf rest f

theorem good_nil : GoodC P (envOf []) := fun _ _ h => nomatch h
theorem good_cons {g : FuncId} {S : FSpec} {rest : List (FuncId × FSpec)} (h : OkFn P g S) (hr : GoodC P (envOf rest)) : GoodC P (envOf ((g, S) :: rest)) := by
  intro f S' hf
  simp only [envOf] at hf
  cases hb : Nat.beq f g
  · rw [hb] at hf; exact hr f S' hf
  · rw [hb] at hf
    obtain rfl := Nat.eq_of_beq_eq_true hb
    cases hf; exact h

/-- the loops that are told -/
def lamOf : List (Nat × LSpec) → Nat → Option LSpec
  | [], _ => none
  | (i, L) :: rest, j => bif Nat.beq j i then some L else lamOf rest j

def LamOk (P : Program) (n : Nat) (c : Code) (Λ : Nat → Option LSpec) : Prop := ∀ i cc L, (loopsOf c)[i]? = some cc → Λ i = some L → LOk P n cc L
theorem lam_nil {n : Nat} {c : Code} : LamOk P n c (lamOf []) := fun _ _ _ _ h => nomatch h
theorem lam_cons {n : Nat} {c cc : Code} {i : Nat} {L : LSpec} {rest : List (Nat × LSpec)} (hc : (loopsOf c)[i]? = some cc) (h : LOk P n cc L) (hr : LamOk P n c (lamOf rest)) : LamOk P n c (lamOf ((i, L) :: rest)) := by
  intro j cc' L' hj hL
  simp only [lamOf] at hL
  cases hb : Nat.beq j i
  · rw [hb] at hL; exact hr j cc' L' hj hL
  · rw [hb] at hL
    obtain rfl := Nat.eq_of_beq_eq_true hb
    cases hL
    rw [hc] at hj; cases hj; exact h

def LamAt (P : Program) (n : Nat) (c : Code) (b : Nat) (Λ : Nat → Option LSpec) : Prop := ∀ i cc L, (loopsOf c)[i]? = some cc → Λ (b + i) = some L → LOk P n cc L
theorem lamAt_nil {n b : Nat} {c : Code} : LamAt P n c b (lamOf []) := fun _ _ _ _ h => nomatch h
theorem lamAt_cons {n b : Nat} {c cc : Code} {i k : Nat} {L : LSpec} {rest : List (Nat × LSpec)} (hk : k = b + i) (hc : (loopsOf c)[i]? = some cc) (h : LOk P n cc L) (hr : LamAt P n c b (lamOf rest)) : LamAt P n c b (lamOf ((k, L) :: rest)) := by
  intro j cc' L' hj hL
  simp only [lamOf] at hL
  cases hb : Nat.beq (b + j) k
  · rw [hb] at hL; exact hr j cc' L' hj hL
  · rw [hb] at hL
    have := Nat.eq_of_beq_eq_true hb
    obtain rfl : i = j := by omega
    cases hL
    rw [hc] at hj; cases hj; exact h
end

/-! ### Go's package math -/
section
variable {P : Program}

/-- what an entry without a body does -/
def ExtRun (P : Program) (f : FuncId) (e : Array Value → Sem Value) : Prop := ∀ args w, (callFunc f args).run P w = ((e args) >>= fun v => pure (Next.value v)).run P w

def un64 (F : Nat → Nat) : FSpec := fun _ args => match args with
  | [.s (.fl .f64 x)] => some { pre := true, cv := fl .f64 (F x), nw := [], rd := [], wr := [] }
  | _ => none

theorem done_same {X : Fr} {w0 w : World} {g : Gh} (hok : WOk X w0 g w) {base : Nat} (hfree : ∀ i, base ≤ i → g.β i = none) {b : Bool} {cv : CV} {rd : List Dep} (n : Nat) : Done X w0 g w { pre := b, cv := cv, nw := [], rd := rd, wr := [] } base g (w.drewN n) :=
  ⟨g.le_refl, fun _ _ => rfl, fun i hi => hfree i hi, fun _ => hok.drewN n, fun _ => Nat.le_refl _, fun _ _ _ _ => rfl, (fun _ h => nomatch h), fun _ _ h => by simp at h⟩

theorem arr_one {us : Array Value} (h : us.size = 1) : ∃ u, us = #[u] := ⟨us[0], by
    apply Array.ext (by simp [h]); intro i h1 h2
    match i, h2 with
    | 0, _ => rfl⟩

theorem okUn64 {f : FuncId} {e : Array Value → Sem Value} (hx : ExtRun P f e) {F : Nat → Nat}
    (h : ∀ x w, x < lim .f64 → ∃ r n, (e #[.float .f64 x]).run P w = .ok (.float .f64 r) (w.drewN n) ∧ cn .f64 r = F (cn .f64 x) ∧ r < lim .f64) : OkFn P f (un64 F) := by
  intro hp args r hS _
  unfold un64 at hS
  split at hS
  · cases hS
    refine ⟨(fun d hd => nomatch hd), (fun d hd => nomatch hd), (fun d hd => nomatch hd), fun X g w0 w base vals hsz hrel _ hok _ _ hfree => ?_⟩
    obtain ⟨u, rfl⟩ := arr_one hsz
    obtain ⟨m, rfl, rfl, hm⟩ := hrel 0 _ u rfl rfl
    obtain ⟨r, n, hr, hc, hl⟩ := h m w hm
    unfold CallOk
    rw [hx]
    simp only [Sem.run_bind, hr, Result.andThen_ok, Sem.run_pure]
    exact ⟨g, done_same hok hfree n, r, rfl, hc, hl⟩
  · cases hS

theorem floor_eq (name : String) (way : Ieee.Toward) (x : Nat) : Extern.MathFloor.toIntegral name way #[.float .f64 x] = (match FloatKind.f64.decode x with
    | .nan s t =>
      if FloatKind.f64.format.quiet t = t then pure (.float .f64 x) else do
      let kept ← choose (.extern "math.Floor,Ceil,Trunc,RoundToEven.signallingNaN kept" 2)
      pure (.float .f64 (if kept == 1 then x else FloatKind.f64.encode (.nan s (FloatKind.f64.format.quiet t))))
    | d => pure (.float .f64 (FloatKind.f64.encode (d.integral way)))) := rfl

/-- a NaN made quiet is a NaN -/
theorem nan_encode (s : Bool) (t : Nat) : isNan .f64 (FloatKind.f64.encode (.nan s (FloatKind.f64.format.quiet t))) = true ∧ FloatKind.f64.encode (.nan s (FloatKind.f64.format.quiet t)) < lim .f64 := by
  have eb : FloatKind.f64.format.binade = 4503599627370496 := by decide
  have ei : FloatKind.f64.format.infRung = 9218868437227405312 := by decide
  have es : FloatKind.f64.format.signWeight = 9223372036854775808 := by decide
  have hq : FloatKind.f64.format.quiet t % 4503599627370496 ≠ 0 := by
    intro h
    have hb : (FloatKind.f64.format.quiet t).testBit 51 = true := by
      unfold Ieee.Format.quiet
      have : FloatKind.f64.format.fractionBits - 1 = 51 := by decide
      rw [this, Nat.testBit_or, Nat.testBit_two_pow_self]; simp
    have h2 := Nat.testBit_mod_two_pow (FloatKind.f64.format.quiet t) 52 51
    have e52 : (2 : Nat) ^ 52 = 4503599627370496 := by decide
    rw [e52, h, hb] at h2
    simp at h2
  generalize FloatKind.f64.format.quiet t = q at hq ⊢
  have hq2 : q % 4503599627370496 < 4503599627370496 := Nat.mod_lt _ (by decide)
  have hw : FloatKind.f64.encode (.nan s q) = FloatKind.f64.format.word s (9218868437227405312 + q % 4503599627370496) := by
    show FloatKind.f64.format.word s (FloatKind.f64.format.infRung + q % FloatKind.f64.format.binade) = _
    rw [ei, eb]
  rw [hw]
  refine ⟨?_, FloatKind.f64.format.word_lt s (by rw [es]; omega)⟩
  unfold isNan Ieee.Format.read
  have hm := word_rung FloatKind.f64.format s (9218868437227405312 + q % 4503599627370496) (by rw [es]; omega)
  simp only [hm, eb, ei]
  rw [if_neg (by omega), if_neg (by omega), if_neg (by omega)]
  rfl

theorem okFloor {f : FuncId} {name : String} {way : Ieee.Toward} (hx : ExtRun P f (Extern.MathFloor.toIntegral name way)) : OkFn P f (un64 (ffloor way)) := by
  refine okUn64 hx fun x w hm => ?_
  unfold ffloor
  rw [isNan_cn]
  cases hn : isNan .f64 x
  · rw [cn_of_not hn]
    have hd : ∀ s t, FloatKind.f64.decode x ≠ .nan s t := fun s t e => by
      unfold isNan at hn
      have e' : FloatKind.f64.format.read x = .nan s t := e
      rw [e'] at hn; cases hn
    refine ⟨FloatKind.f64.encode ((FloatKind.f64.decode x).integral way), 0, ?_, ?_, FloatKind.f64.format.write_lt _⟩
    · cases hdx : FloatKind.f64.decode x with
      | nan s t => exact (hd s t hdx).elim
      | number s m e => rw [floor_eq, hdx]; rfl
      | infinity s => rw [floor_eq, hdx]; rfl
    · rw [if_neg (by simp)]
      refine cn_of_not (write_not_nan _ _ ?_)
      cases hdx : FloatKind.f64.decode x with
      | nan s t => exact (hd s t hdx).elim
      | number s m e => rfl
      | infinity s => rfl
  · rw [if_pos rfl]
    obtain ⟨s, t, e⟩ := nan_read hn
    have e' : FloatKind.f64.decode x = .nan s t := e
    by_cases hq : FloatKind.f64.format.quiet t = t
    · refine ⟨x, 0, ?_, cn_of_nan hn, hm⟩
      rw [floor_eq, e']; simp [hq]; rfl
    · obtain ⟨h1, h2⟩ := nan_encode s t
      have hf : (Question.extern "math.Floor,Ceil,Trunc,RoundToEven.signallingNaN kept" 2).forced = false := rfl
      by_cases hk : ((Question.extern "math.Floor,Ceil,Trunc,RoundToEven.signallingNaN kept" 2).cut (w.tape w.drawn (.extern "math.Floor,Ceil,Trunc,RoundToEven.signallingNaN kept" 2)) == 1) = true
      · refine ⟨x, 1, ?_, cn_of_nan hn, hm⟩
        have hk' := by simpa using hk
        rw [floor_eq, e']; simp [hq, hf, hk']; rfl
      · refine ⟨FloatKind.f64.encode (.nan s (FloatKind.f64.format.quiet t)), 1, ?_, cn_of_nan h1, h2⟩
        have hk' := by simpa using hk
        rw [floor_eq, e']; simp [hq, hf, hk']; rfl

end
end Go.Dv


namespace Go.Dv
open Go.RowKit Go.Cv

theorem WOk.below {X : Fr} {w0 w w' : World} {g : Gh} (h : WOk X w0 g w) (hb : Below w.heap.size w w') : WOk X w0 g w' := by
  have hs := h.keep.size
  refine ⟨⟨hb.os.trans h.keep.os, hb.tape.trans h.keep.tape, hb.output.trans h.keep.output, Nat.le_trans hs hb.size, fun k hk hx => ?_⟩, h.im, fun k o ho => ?_, h.inj, fun i b hi => ?_, trivial, h.base, fun k o ho => ?_, h.pin⟩
  · rw [hb.block k (by omega)]; exact h.keep.block k hk hx
  · rw [hb.block k (lt_of_block (h.bi k o ho))]; exact h.bi k o ho
  · obtain ⟨h1, h2, h3⟩ := h.fresh i b hi
    exact ⟨h1, by have := hb.size; omega, h3⟩
  · exact h.imf k o ho

theorem done_below {X : Fr} {w0 w w' : World} {g : Gh} (hok : WOk X w0 g w) (hb : Below w.heap.size w w') {base : Nat} (hfree : ∀ i, base ≤ i → g.β i = none) {b : Bool} {cv : CV} {rd : List Dep} : Done X w0 g w { pre := b, cv := cv, nw := [], rd := rd, wr := [] } base g w' :=
  ⟨g.le_refl, fun _ _ => rfl, fun i hi => hfree i hi, fun _ => hok.below hb, fun _ => hb.size, fun k hk _ _ => hb.block k hk, (fun _ h => nomatch h), fun _ _ h => by simp at h⟩

/-- results without arrays: what is given stands for the same value under whatever names -/
def flatRes (ra : AS) (y : ra.Ty) : Prop := (encR ra y 0).2 = [] ∧ ∀ n, shiftV n (retCV (encR ra y 0).1) = retCV (encR ra y 0).1

/-- what a call of the library's is handed and what it must give -/
theorem okFn_lib {P : Program} {f : FuncId} {fn : Func} {body : Code} (hf : P.funcs[f]? = some fn) (hb : fn.body = some body) (hname : (fn.name == "runtime.NumGoroutine") = false)
    {sig ra : AS} {pre : sig.Ty → Bool} {p : sig.Ty → ra.Ty × List CS} (hno : sig.nOwn = 0) (hwr : ∀ x, (p x).2 = [])
    (hfl : ∀ x, pre x = true → flatRes ra (p x).1)
    (h : ∀ (x : sig.Ty), pre x = true → ∀ (g : Gh) (vals : Array Value) (w : World), (∀ k o, g.bi k = some o → w.heap[k]? = some o) → GQ (fun k => w.heap[k]?) → vals.size = (encA sig x 0).1.length →
      (∀ (j : Nat) c u, (encA sig x 0).1[j]? = some c → vals[j]? = some u → rel1 g c u) → Calls P f vals w (fun e w' => ∃ v, e = .returned v ∧ Below w.heap.size w w' ∧ ∀ g', relV g' (retCV (encR ra (p x).1 0).1) v)) : OkFn P f (mkSpec sig ra pre p) := by
  classical
  intro hp args r hS hpre
  unfold mkSpec at hS
  split at hS
  rotate_left
  · cases hS
  rename_i x d o k hdec
  cases hcond : (nodupB (o.map (·.1)) && d.all (fun q => !memB q.1 (o.map (·.1))))
  · rw [hcond] at hS; cases hS
  rw [hcond] at hS
  simp only [cond_true] at hS
  cases hS
  have hpre : (k && pre x) = true := hpre
  rw [Bool.and_eq_true] at hpre
  obtain ⟨rfl, hpre⟩ := hpre
  have hdec := uA_spec hdec
  obtain ⟨hdd, hoo, hol⟩ := decA_deps _ _ _ _ _ _ hdec
  have ho : o = [] := List.eq_nil_of_length_eq_zero (by rw [hol]; exact hno)
  subst ho
  obtain ⟨hnw, hsh⟩ := hfl x hpre
  rw [hwr x, hnw]
  refine ⟨fun q hq => hdd q (by simpa using hq), fun q hq => ?_, (fun c hc => nomatch hc), ?_⟩
  · have hq : q ∈ zipW [] [] := hq
    simp [zipW] at hq
  intro X g w0 w base vals hsz hrel hcell hok hbase hdb hfree
  have hcall : (callFunc f vals).run P w = .ok (.enter f vals) w := by
    have hname' : ¬ fn.name = "runtime.NumGoroutine" := by simpa using hname
    simp [callFunc, hf, hname', hb]
  unfold CallOk
  rw [hcall]
  let gc : Gh := { β := g.β, cp := g.cp, im := g.im, bi := fun k => w.heap[k]? }
  have hdep : ∀ q ∈ d, DepOk g gc w q := fun q hq => ⟨hcell q (by simpa using hq), fun b hb => rfl⟩
  obtain ⟨v1, v2, v3, v4⟩ := decA_view (gc := gc) (fun k ob hk => hok.bi k ob hk) hok.im (fun _ _ h => h) sig args [] x d [] 0 vals 0 hdec hdep (fun i id c hi => by simp at hi) (fun j c u hj hu => hrel j c u hj (by simpa using hu))
  have v4 := v4 (by omega)
  simp at v1
  have hq : GQ (fun k => w.heap[k]?) := GQ_mono (fun k ob hk => hok.imh k ob (hok.base k ob hk)) X.q
  refine (h x hpre gc vals w (fun k o hk => hk) hq (by omega) (fun j c u hj hu => v4 j c u hj (by simpa using hu))).mono fun e w' ⟨v, he, hbl, hv⟩ => ?_
  refine ⟨v, he, g, ?_, by rw [hsh]; exact hv g⟩
  have e0 : zipW ([] : List (Nat × CS)) ([] : List CS) = [] := rfl
  rw [e0]
  exact done_below hok hbl hfree

/-! ### arguments out of cells -/
section
variable {g : Gh} {w : World}

theorem vals_two {vals : Array Value} {c d : CV1} (hs : vals.size = 2) (h : ∀ (j : Nat) e u, [c, d][j]? = some e → vals[j]? = some u → rel1 g e u) : ∃ u v, vals = #[u, v] ∧ rel1 g c u ∧ rel1 g d v := by
  have h0 := h 0 c vals[0] rfl (by simp [hs])
  have h1 := h 1 d vals[1] rfl (by simp [hs])
  refine ⟨vals[0], vals[1], ?_, h0, h1⟩
  apply Array.ext (by simp [hs])
  intro i h2 h3
  match i, h3 with
  | 0, _ => rfl
  | 1, _ => rfl

end
end Go.Dv
