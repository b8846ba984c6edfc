/- Statements: 'cwp' is sound; what is told of a loop. -/
import Derived.Test.YtmhmedbhngmmpaaDm
import Derived.LoopN
import Derived.Scope
namespace Go.Dv
open Go.RowKit Go.Cv

section
variable {P : Program} {Γ : CEnv}

/-- what is told of a loop holds -/
def LOk (P : Program) (n : Nat) (c : Code) (L : LSpec) : Prop :=
  ∀ X w0 s g a w (Kp : Exit → St → Prop) (Q : Exit → Act → World → Prop), Sim X w0 n s g a w → (L s).holds Kp → (∀ e s' g' a' w', Kp e s' → Sim X w0 n s' g' a' w' → Q e a' w') → (Code.loop c).wp P Q a w

theorem LT.holds_of_run {α : Type} {rv : α} {K : Exit → St → Tr α} : ∀ {t : LT}, t.run K = some rv → t.holds (fun e s => K e s = some rv)
  | .leaf e s, h => h
  | .br true a b, h => LT.holds_of_run (t := a) h
  | .br false a b, h => LT.holds_of_run (t := b) h
  | .no, h => by cases h

theorem LT.holds_mono {K K' : Exit → St → Prop} (hk : ∀ e s, K e s → K' e s) : ∀ {t : LT}, t.holds K → t.holds K'
  | .leaf e s, h => hk e s h
  | .br true a _, h => LT.holds_mono hk (t := a) h
  | .br false _ b, h => LT.holds_mono hk (t := b) h

theorem cwp_sound (hΓ : GoodC P Γ) (hm : P.follows .mixedOrders = true) {α : Type} {Λ : Nat → Option LSpec} {X : Fr} {w0 : World} {n F : Nat} {rv : α} : ∀ (c : Code) (b : Nat) (K : Exit → St → Tr α) (s : St), dstOk n c = true →
    (∀ i cc L, (loopsOf c)[i]? = some cc → Λ (b + i) = some L → LOk P n cc L) → cwp R P Γ Λ F c b K s = some rv →
    ∀ {g : Gh} {a : Act} {w : World}, Sim X w0 n s g a w → ∀ {Q : Exit → Act → World → Prop}, (∀ e s' g' a' w', K e s' = some rv → Sim X w0 n s' g' a' w' → Q e a' w') → c.wp P Q a w := by
  intro c
  induction c with
  | skip => intro b K s _ _ h g a w hs Q hq; exact wp_skip (hq _ _ _ _ _ h hs)
  | label l => intro b K s _ _ h g a w hs Q hq; exact wp_label (hq _ _ _ _ _ h hs)
  | exit id => intro b K s _ _ h g a w hs Q hq; exact wp_exit (hq _ _ _ _ _ h hs)
  | ret => intro b K s _ _ h g a w hs Q hq; exact wp_ret (hq _ _ _ _ _ h hs)
  | region id ops draw =>
    intro b K s hd _ h g a w hs Q hq
    have hd' : ∀ o ∈ ops.toList, ∀ x, o.dst = some x → x < n := fun o ho x hx => by
      have := List.all_eq_true.1 hd o ho
      rw [hx] at this; simpa using this
    simp only [cwp, cregion] at h
    cases draw with
    | true => exact cops_any hΓ hm hd' h hs fun s' g' a' w' hk hs' => hq _ _ _ _ _ hk hs'
    | false =>
      refine wp_region ?_
      have := cops_lex hΓ (n := n) ops.toList 0 s [] _ rv g a w (by simp) hd' h hs (Q := Q) (fun s' acc' g' a' w' hk hs' => hq _ _ _ _ _ hk hs')
      simpa [List.range_eq_range'] using this
  | seq x y ihx ihy =>
    intro b K s hd hL h g a w hs Q hq
    simp only [dstOk, Bool.and_eq_true] at hd
    simp only [cwp] at h
    refine wp_seq (ihx b _ s hd.1 (fun i cc L h1 h2 => hL i cc L ?_ h2) h hs fun e s' g' a' w' hk hs' => ?_)
    · have hlt : i < (loopsOf x).length := by
        rcases Nat.lt_or_ge i (loopsOf x).length with h3 | h3
        · exact h3
        · rw [List.getElem?_eq_none h3] at h1; cases h1
      simp only [loopsOf]; rw [List.getElem?_append_left hlt]; exact h1
    · cases e with
      | normal =>
        refine ihy (b + nLoops x) _ s' hd.2 (fun i cc L h1 h2 => hL (nLoops x + i) cc L ?_ (by rw [← Nat.add_assoc]; exact h2)) hk hs' hq
        simp only [loopsOf]
        rw [List.getElem?_append_right (by rw [nLoops_eq]; omega), nLoops_eq]
        have : nLoops x + i - nLoops x = i := by omega
        rw [this]; exact h1
      | _ => exact hq _ _ _ _ _ hk hs'
  | cond c x y ihx ihy =>
    intro b K s hd hL h g a w hs Q hq
    simp only [dstOk, Bool.and_eq_true] at hd
    simp only [cwp] at h
    split at h
    · rename_i t hc
      have hr := hs.ev c
      rw [hc] at hr
      have hr : a.eval c = .bool t := hr
      have hbr := brT_some h; clear h; rcases hbr with ⟨rfl, h⟩ | ⟨rfl, h⟩
      · rw [setOp_eq hc] at h
        refine wp_cond_true hr (ihx b _ s hd.1 (fun i cc L h1 h2 => hL i cc L ?_ h2) h hs hq)
        have hlt : i < (loopsOf x).length := by
          rcases Nat.lt_or_ge i (loopsOf x).length with h3 | h3
          · exact h3
          · rw [List.getElem?_eq_none h3] at h1; cases h1
        simp only [loopsOf]; rw [List.getElem?_append_left hlt]; exact h1
      · rw [setOp_eq hc] at h
        refine wp_cond_false hr (ihy (b + nLoops x) _ s hd.2 (fun i cc L h1 h2 => hL (nLoops x + i) cc L ?_ (by rw [← Nat.add_assoc]; exact h2)) h hs hq)
        simp only [loopsOf]
        rw [List.getElem?_append_right (by rw [nLoops_eq]; omega), nLoops_eq]
        have : nLoops x + i - nLoops x = i := by omega
        rw [this]; exact h1
    · cases h
  | block id c ih =>
    intro b K s hd hL h g a w hs Q hq
    simp only [cwp] at h
    refine wp_block (ih b _ s hd hL h hs fun e s' g' a' w' hk hs' => ?_)
    cases e with
    | exit i =>
      simp only [blockK] at hk
      simp only [Exit.inBlock]
      by_cases e : i = id
      · subst e
        rw [if_pos rfl]
        simp at hk
        exact hq _ _ _ _ _ hk hs'
      · rw [beq_ne e] at hk
        rw [if_neg e]
        exact hq _ _ _ _ _ hk hs'
    | _ => exact hq _ _ _ _ _ hk hs'
  | loop c ih =>
    intro b K s hd hL h g a w hs Q hq
    simp only [cwp] at h
    split at h
    · rename_i L hLb
      exact hL 0 c L rfl (by simpa using hLb) X w0 s g a w _ Q hs (LT.holds_of_run h) hq
    · have rounds : ∀ (m : Nat) (s : St) (g : Gh) (a : Act) (w : World), Sim X w0 n s g a w → cloop (fun K s => cwp R P Γ Λ F c (b + 1) K s) m K s = some rv → Code.rounds P c Q m a w := by
        intro m
        induction m with
        | zero => intro s g a w _ h; cases h
        | succ m ihm =>
          intro s g a w hs h
          rw [rounds_succ]
          simp only [cloop] at h
          refine ih (b + 1) _ s hd (fun i cc L h1 h2 => hL (i + 1) cc L (by simpa [loopsOf] using h1) (by rw [show b + (i + 1) = b + 1 + i by omega]; exact h2)) h hs fun e s' g' a' w' hk hs' => ?_
          cases e with
          | normal => exact ihm s' g' a' w' hs' hk
          | _ => exact hq _ _ _ _ _ hk hs'
      exact wp_loop_rounds F (rounds F s g a w hs h)
  | scope c ih =>
    intro b K s hd hL h g a w hs Q hq
    simp only [cwp] at h
    refine wp_scope_straight (ih b _ s hd hL h hs fun e s' g' a' w' hk hs' => ?_)
    cases e with
    | goto l => cases hk
    | _ => exact hq _ _ _ _ _ hk hs'
  | rangeFunc f ps as b _ _ => intro b K s _ _ h; cases h
  | goto l => intro b K s _ _ h; cases h
  | refuse y => intro b K s _ _ h; cases h

/-- a state that tells no more than another -/
def Weaker (s s' : St) : Prop :=
  (∀ t, s'.tm t = s.tm t ∨ s'.tm t = top) ∧ (∀ i o c, s'.hp i o = some c → s.hp i o = some c) ∧ s'.nx = s.nx ∧ s'.lo = s.lo

theorem Sim.weaken {X : Fr} {w0 : World} {n : Nat} {s s' : St} {g : Gh} {a : Act} {w : World} (h : Sim X w0 n s g a w) (hw : Weaker s s') : Sim X w0 n s' g a w := by
  obtain ⟨h1, h2, h3, h4⟩ := hw
  refine ⟨fun t => ?_, h.len, h.df, h.ok, fun id off c hc => h.cells _ _ _ (h2 _ _ _ hc), by rw [h3]; exact h.nx, fun i o c hc => by rw [h3]; exact h.hx _ _ _ (h2 _ _ _ hc), by rw [h4]; exact h.lo, by rw [h3]; exact h.ln⟩
  rcases h1 t with e | e
  · rw [e]; exact h.tm t
  · rw [e]; trivial

end
end Go.Dv
