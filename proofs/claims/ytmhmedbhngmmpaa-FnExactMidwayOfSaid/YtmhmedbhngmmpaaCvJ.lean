/- Statements and functions: 'cwp' is sound; a function's contract out of it. -/
import Derived.Test.YtmhmedbhngmmpaaCvI
import Derived.LoopN
import Derived.Scope
namespace Go.Cv
open Go.RowKit

section
variable {P : Program} {Γ : CEnv}

theorem cwp_sound (hΓ : GoodC P Γ) (hm : P.follows .mixedOrders = true) {w0 : World} {n F : Nat} {rv : CV} : ∀ (c : Code) (K : Exit → St → Tr) (s : St), dstOk n c = true → cwp R P Γ F c K s = some rv →
    ∀ {g : Gh} {a : Act} {w : World}, Sim w0 n s g a w → ∀ {Q : Exit → Act → World → Prop}, (∀ e s' g' a' w', K e s' = some rv → Sim w0 n s' g' a' w' → Q e a' w') → c.wp P Q a w := by
  intro c
  induction c with
  | skip => intro K s _ h g a w hs Q hq; exact wp_skip (hq _ _ _ _ _ h hs)
  | label l => intro K s _ h g a w hs Q hq; exact wp_label (hq _ _ _ _ _ h hs)
  | exit id => intro K s _ h g a w hs Q hq; exact wp_exit (hq _ _ _ _ _ h hs)
  | ret => intro K s _ h g a w hs Q hq; exact wp_ret (hq _ _ _ _ _ h hs)
  | region id ops draw =>
    intro K s hd h g a w hs Q hq
    have hd' : ∀ o ∈ ops.toList, ∀ x, o.dst = some x → x < n := fun o ho x hx => by
      have := List.all_eq_true.1 hd o ho
      rw [hx] at this; simpa using this
    simp only [cwp, cregion] at h
    cases draw with
    | true => exact cops_any hΓ hm hd' h hs fun s' g' a' w' hk hs' => hq _ _ _ _ _ hk hs'
    | false =>
      refine wp_region ?_
      have := cops_lex hΓ (n := n) ops.toList 0 s [] _ rv g a w (by simp) hd' h hs (Q := Q) (fun s' acc' g' a' w' hk hs' => hq _ _ _ _ _ hk hs')
      simpa [List.range_eq_range'] using this
  | seq x y ihx ihy =>
    intro K s hd h g a w hs Q hq
    simp only [dstOk, Bool.and_eq_true] at hd
    simp only [cwp] at h
    refine wp_seq (ihx _ s hd.1 h hs fun e s' g' a' w' hk hs' => ?_)
    cases e with
    | normal => exact ihy _ s' hd.2 hk hs' hq
    | _ => exact hq _ _ _ _ _ hk hs'
  | cond c x y ihx ihy =>
    intro K s hd h g a w hs Q hq
    simp only [dstOk, Bool.and_eq_true] at hd
    simp only [cwp] at h
    split at h
    · rename_i t hc
      have hr := hs.ev c
      rw [hc] at hr
      have hr : a.eval c = .bool t := hr
      have hbr := brT_some h; clear h; rcases hbr with ⟨rfl, h⟩ | ⟨rfl, h⟩
      · rw [setOp_eq hc] at h; exact wp_cond_true hr (ihx _ s hd.1 h hs hq)
      · rw [setOp_eq hc] at h; exact wp_cond_false hr (ihy _ s hd.2 h hs hq)
    · cases h
  | block id c ih =>
    intro K s hd h g a w hs Q hq
    simp only [cwp] at h
    refine wp_block (ih _ s hd h hs fun e s' g' a' w' hk hs' => ?_)
    cases e with
    | exit i =>
      simp only [blockK] at hk
      simp only [Exit.inBlock]
      by_cases e : i = id
      · subst e
        rw [if_pos rfl]
        simp at hk
        exact hq _ _ _ _ _ hk hs'
      · have hb : Nat.beq i id = false := by cases hb : Nat.beq i id; rfl; exact absurd (Nat.eq_of_beq_eq_true hb) e
        rw [hb] at hk
        rw [if_neg e]
        exact hq _ _ _ _ _ hk hs'
    | _ => exact hq _ _ _ _ _ hk hs'
  | loop c ih =>
    intro K s hd h g a w hs Q hq
    simp only [cwp] at h
    have rounds : ∀ (m : Nat) (s : St) (g : Gh) (a : Act) (w : World), Sim w0 n s g a w → cloop (fun K s => cwp R P Γ F c K s) m K s = some rv → Code.rounds P c Q m a w := by
      intro m
      induction m with
      | zero => intro s g a w _ h; cases h
      | succ m ihm =>
        intro s g a w hs h
        rw [rounds_succ]
        simp only [cloop] at h
        refine ih _ s hd h hs fun e s' g' a' w' hk hs' => ?_
        cases e with
        | normal => exact ihm s' g' a' w' hs' hk
        | _ => exact hq _ _ _ _ _ hk hs'
    exact wp_loop_rounds F (rounds F s g a w hs h)
  | scope c ih =>
    intro K s hd h g a w hs Q hq
    simp only [cwp] at h
    refine wp_scope_straight (ih _ s hd h hs fun e s' g' a' w' hk hs' => ?_)
    cases e with
    | goto l => cases hk
    | _ => exact hq _ _ _ _ _ hk hs'
  | rangeFunc f ps as b _ _ => intro K s _ h; cases h
  | goto l => intro K s _ h; cases h
  | refuse y => intro K s _ h; cases h

/-! ### trees -/

theorem push2 {α : Type} {F : α → CV} {c : Bool} {A B : Tr} {a b : α} (hA : A = some (F a)) (hB : B = some (F b)) : brT c A B = some (F (bif c then a else b)) := by
  cases c
  · exact hB
  · exact hA
theorem pushR {α : Type} {F : α → CV} {c rA rB : Bool} {A B : Tr} {a b : α} (hA : rA = true → A = some (F a)) (hB : rB = true → B = some (F b)) (h : (bif c then rA else rB) = true) :
    brT c A B = some (F (bif c then a else b)) := by
  cases c
  · exact hB h
  · exact hA h
theorem pushL {α : Type} {F : α → CV} {c rA : Bool} {A : Tr} {a : α} (hA : rA = true → A = some (F a)) (h : (c && rA) = true) : brT c A none = some (F a) := by
  cases c
  · cases h
  · exact hA h
theorem pushN {α : Type} {F : α → CV} {c rB : Bool} {B : Tr} {b : α} (hB : rB = true → B = some (F b)) (h : (!c && rB) = true) : brT c none B = some (F b) := by
  cases c
  · exact hB h
  · cases h

/-- the cells behind a pointer -/
def ptrCells (hp : Hp) (n : Nat) : CV1 → Option (List CS × List (Nat × Nat × CS))
  | .s (.ptr id off) => match readFrom hp id off n with
    | some cs => some (cs, depsOf id off cs)
    | none => none
  | .s (.ip m f) => match Nat.ble n m with
    | true => some ((List.range n).map f, [])
    | false => none
  | _ => none

theorem ptrCells_hp {hp : Hp} {n : Nat} {a : CV1} {cs : List CS} {ds : List (Nat × Nat × CS)} (h : ptrCells hp n a = some (cs, ds)) : ∀ d ∈ ds, hp d.1 d.2.1 = some d.2.2 := by
  unfold ptrCells at h
  split at h
  · split at h
    · rename_i cs' hr; cases h
      intro d hd
      obtain ⟨j, c, hj, rfl⟩ := mem_depsOf hd
      exact readFrom_get hr j c hj
    · cases h
  · split at h
    · cases h; intro d hd; cases hd
    · cases h
  · cases h

/-! ### the contracts at hand, as a list -/

def envOf : List (FuncId × FSpec) → CEnv
  | [], _ => none
  | (g, S) :: rest, f => bif Nat.beq f g then some S else envOf rest f

theorem good_nil : GoodC P (envOf []) := fun _ _ h => nomatch h
theorem good_cons {g : FuncId} {S : FSpec} {rest : List (FuncId × FSpec)} (h : OkFn P g S) (hr : GoodC P (envOf rest)) : GoodC P (envOf ((g, S) :: rest)) := by
  intro f S' hf
  simp only [envOf] at hf
  cases hb : Nat.beq f g
  · rw [hb] at hf; exact hr f S' hf
  · rw [hb] at hf
    obtain rfl := Nat.eq_of_beq_eq_true hb
    cases hf; exact h

/-! ### functions -/

/-- a value that no name of a block is in -/
def Lift (c : CS) : Prop := ∀ g g' y, (∀ k o, g.im k = some o → g'.im k = some o) → rel g c y → rel g' c y
def Lift1 : CV1 → Prop
  | .s c => Lift c
  | .agg cs => ∀ c ∈ cs, Lift c

theorem lift_any : Lift .any := fun _ _ _ _ _ => trivial
theorem lift_v (x : Value) : Lift (.v x) := fun _ _ _ _ h => h
theorem lift_fl (k : FloatKind) (n : Nat) : Lift (.fl k n) := fun _ _ _ _ h => h
theorem lift_cx (k : FloatKind) (a b : Nat) : Lift (.cx k a b) := fun _ _ _ _ h => h
theorem lift_ip {n : Nat} {f : Nat → CS} (h : ∀ j, j < n → Lift (f j)) : Lift (.ip n f) := by
  rintro g g' y hi ⟨b, off, e, hc⟩
  refine ⟨b, off, e, fun j hj => ?_⟩
  obtain ⟨arr, T, fr, u, h1, h2, h3⟩ := hc j hj
  exact ⟨arr, T, fr, u, hi _ _ h1, h2, h j hj g g' u hi h3⟩
theorem lift_sl {n size : Nat} {f : Nat → CS} (h : ∀ j, j < n * size → Lift (f j)) : Lift (.sl n size f) := by
  rintro g g' y hi ⟨a, cap, e, hn, hc⟩
  refine ⟨a, cap, e, hn, fun h0 => ?_⟩
  obtain ⟨b, off, ea, hc⟩ := hc h0
  refine ⟨b, off, ea, fun j hj => ?_⟩
  obtain ⟨arr, T, fr, u, h1, h2, h3⟩ := hc j hj
  exact ⟨arr, T, fr, u, hi _ _ h1, h2, h j hj g g' u hi h3⟩
theorem lift_fn {f : Fn} {n : Nat} {c : Nat → CS} (h : ∀ j, j < n → Lift (c j)) : Lift (.fn f n c) := by
  rintro g g' y hi ⟨arr, e, hs, hc⟩
  refine ⟨arr, e, hs, fun j u hu => h j ?_ g g' u hi (hc j u hu)⟩
  rw [← hs]
  rcases Nat.lt_or_ge j arr.size with h | h
  · exact h
  · rw [Array.getElem?_eq_none h] at hu; cases hu

theorem lift1_rel {g g' : Gh} {c : CV1} {y : Value} (hl : Lift1 c) (hi : ∀ k o, g.im k = some o → g'.im k = some o) (h : rel1 g c y) : rel1 g' c y := by
  cases c with
  | s c => exact hl g g' y hi h
  | agg cs => obtain ⟨arr, e, hs, hc⟩ := h; exact ⟨arr, e, hs, fun j c u h1 h2 => hl c (List.mem_of_getElem? h1) g g' u hi (hc j c u h1 h2)⟩

/-- how the callee sees an argument: a pointer into the caller's own memory is for it one into memory that nobody writes -/
def ViewArg (deps : List (Nat × Nat × CS)) (a a' : CV1) : Prop :=
  (a' = a ∧ Lift1 a) ∨ (∃ id off n f, a = .s (.ptr id off) ∧ a' = .s (.ip n f) ∧ ∀ i, i < n → (id, off + i, f i) ∈ deps ∧ Lift (f i)) ∨
  (∃ m f n f', a = .s (.ip m f) ∧ a' = .s (.ip n f') ∧ n ≤ m ∧ ∀ i, i < n → f' i = f i ∧ Lift (f i)) ∨
  ∃ n size f f', a = .s (.sl n size f) ∧ a' = .s (.sl n size f') ∧ ∀ i, i < n * size → f' i = f i ∧ Lift (f i)

def View (deps : List (Nat × Nat × CS)) : List CV1 → List CV1 → Prop
  | [], [] => True
  | a :: as, a' :: as' => ViewArg deps a a' ∧ View deps as as'
  | _, _ => False

theorem view_same {deps : List (Nat × Nat × CS)} : ∀ {as : List CV1}, (∀ a ∈ as, Lift1 a) → View deps as as
  | [], _ => trivial
  | a :: as, h => ⟨.inl ⟨rfl, h a (by simp)⟩, view_same fun b hb => h b (by simp [hb])⟩

theorem view_ptr {hp : Hp} {n : Nat} {a : CV1} {cs : List CS} {ds deps : List (Nat × Nat × CS)} (h : ptrCells hp n a = some (cs, ds)) (hsub : ∀ d ∈ ds, d ∈ deps) (hl : ∀ c ∈ cs, Lift c) :
    ViewArg deps a (.s (.ip n (fun j => cs.getD j .any))) := by
  unfold ptrCells at h
  split at h
  · rename_i id off
    split at h
    · rename_i cs' hr; cases h
      have hlen := readFrom_length hr
      refine .inr (.inl ⟨id, off, n, _, rfl, rfl, fun i hi => ?_⟩)
      have hi' : i < cs.length := by omega
      have hg : cs.getD i .any = cs[i] := by simp [List.getD, hi']
      exact ⟨by show (id, off + i, cs.getD i .any) ∈ deps; rw [hg]; exact hsub _ (depsOf_mem i cs[i] (by simp [hi'])), by show Lift (cs.getD i .any); rw [hg]; exact hl _ (List.getElem_mem hi')⟩
    · cases h
  · rename_i m f
    split at h
    · rename_i hle; cases h
      refine .inr (.inr (.inl ⟨m, f, n, _, rfl, rfl, Nat.le_of_ble_eq_true hle, fun i hi => ?_⟩))
      have hg : ((List.range n).map f).getD i .any = f i := by simp [List.getD, hi]
      exact ⟨hg, hl _ (by rw [List.mem_map]; exact ⟨i, by simpa using hi, rfl⟩)⟩
    · cases h
  · cases h

/-- a list of float32 is seen as one whose every cell is such -/
theorem view_sl {deps : List (Nat × Nat × CS)} {n size : Nat} {f f' : Nat → CS} (h : ∀ i, i < n * size → f' i = f i ∧ Lift (f i)) : ViewArg deps (.s (.sl n size f)) (.s (.sl n size f')) :=
  .inr (.inr (.inr ⟨n, size, f, f', rfl, rfl, h⟩))

def liftS : CS → Bool
  | .any => true
  | .v _ => true
  | .fl _ _ => true
  | .cx _ _ _ => true
  | _ => false
def liftB : CV1 → Bool
  | .s c => liftS c
  | .agg cs => cs.all liftS
theorem liftS_ok {c : CS} (h : liftS c = true) : Lift c := by
  cases c <;> first | exact lift_any | exact lift_v _ | exact lift_fl _ _ | exact lift_cx _ _ _ | cases h
theorem liftB_ok {c : CV1} (h : liftB c = true) : Lift1 c := by
  cases c with
  | s c => exact liftS_ok h
  | agg cs => exact fun c hc => liftS_ok (List.all_eq_true.1 h c hc)
theorem view_plain {deps : List (Nat × Nat × CS)} {as : List CV1} (h : as.all liftB = true) : View deps as as := view_same fun a ha => liftB_ok (List.all_eq_true.1 h a ha)
theorem lift_cells {cs : List CS} (h : cs.all liftS = true) : ∀ c ∈ cs, Lift c := fun c hc => liftS_ok (List.all_eq_true.1 h c hc)

theorem View.length {deps : List (Nat × Nat × CS)} : ∀ {as as' : List CV1}, View deps as as' → as'.length = as.length
  | [], [], _ => rfl
  | _ :: _, _ :: _, h => by simp [View.length h.2]
  | [], _ :: _, h => h.elim
  | _ :: _, [], h => h.elim

theorem View.get {deps : List (Nat × Nat × CS)} : ∀ {as as' : List CV1}, View deps as as' → ∀ (j : Nat) a', as'[j]? = some a' → ∃ a, as[j]? = some a ∧ ViewArg deps a a'
  | [], [], _, j, a', h => by simp at h
  | a :: as, a0 :: as', h, 0, a', ha => by simp at ha; subst ha; exact ⟨a, rfl, h.1⟩
  | a :: as, a0 :: as', h, j + 1, a', ha => by simpa using View.get h.2 j a' (by simpa using ha)
  | [], _ :: _, h, _, _, _ => h.elim
  | _ :: _, [], h, _, _, _ => h.elim

def initTm : List CV1 → Nat → CV
  | [], _ => ex undef
  | c :: _, 0 => .one c
  | _ :: cs, t + 1 => initTm cs t

def initSt (args : List CV1) : St := { tm := initTm args, hp := fun _ _ => none, nx := 0 }

theorem initTm_lt : ∀ {args : List CV1} {t : Nat} {c : CV1}, args[t]? = some c → initTm args t = .one c
  | [], t, c, h => by simp at h
  | c0 :: cs, 0, c, h => by simp at h; subst h; rfl
  | c0 :: cs, t + 1, c, h => initTm_lt (args := cs) (by simpa using h)
theorem initTm_ge : ∀ {args : List CV1} {t : Nat}, args[t]? = none → initTm args t = ex undef
  | [], t, _ => rfl
  | c0 :: cs, 0, h => by simp at h
  | c0 :: cs, t + 1, h => initTm_ge (args := cs) (by simpa using h)

def resOf (P : Program) (s : St) : ResultVar → Option CV
  | .tmp t => some (s.tm t)
  | .cell a T =>
    match tyShape P T with
    | some (ag, n) => match s.tm a with
      | .one (.s (.ptr id off)) => match readFrom s.hp id off n with
        | some cs => mkVal ag cs
        | none => none
      | _ => none
    | none => none

def resList (P : Program) (s : St) : List ResultVar → Option (List CV1)
  | [] => some []
  | r :: rs => match resOf P s r with
    | some (.one c) => match resList P s rs with
      | some cs => some (c :: cs)
      | none => none
    | _ => none

def retCV : List CV1 → CV
  | [c] => .one c
  | cs => .tup cs

def plainS : CS → Bool
  | .v _ => true
  | .fl _ _ => true
  | .cx _ _ _ => true
  | _ => false
def plain1 : CV1 → Bool
  | .s c => plainS c
  | .agg cs => cs.all plainS
def plainV : CV → Bool
  | .one c => plain1 c
  | .tup cs => cs.all plain1

theorem plainS_rel {c : CS} (h : plainS c = true) (g g' : Gh) (y : Value) (hr : rel g c y) : rel g' c y := by
  cases c <;> first | exact hr | cases h
theorem plain1_rel {c : CV1} (h : plain1 c = true) (g g' : Gh) (y : Value) (hr : rel1 g c y) : rel1 g' c y := by
  cases c with
  | s c => exact plainS_rel h g g' y hr
  | agg cs => obtain ⟨arr, e, hs, hc⟩ := hr; exact ⟨arr, e, hs, fun j c u h1 h2 => plainS_rel (List.all_eq_true.1 h c (List.mem_of_getElem? h1)) g g' u (hc j c u h1 h2)⟩
theorem plainV_rel {c : CV} (h : plainV c = true) (g g' : Gh) (y : Value) (hr : relV g c y) : relV g' c y := by
  cases c with
  | one c => exact plain1_rel h g g' y hr
  | tup cs => obtain ⟨arr, e, hs, hc⟩ := hr; exact ⟨arr, e, hs, fun j c u h1 h2 => plain1_rel (List.all_eq_true.1 h c (List.mem_of_getElem? h1)) g g' u (hc j c u h1 h2)⟩

/-- the end of a body: the results -/
def retK (P : Program) (rs : List ResultVar) : Exit → St → Tr
  | .normal, s => match resList P s rs with
    | some cs => some (retCV cs)
    | none => none
  | .ret, s => match resList P s rs with
    | some cs => some (retCV cs)
    | none => none
  | _, _ => none

def resSem (a : Act) : ResultVar → Sem Value
  | .tmp t => pure (a.tmps.getD t undef)
  | .cell x t => do loadVar t (← asAddr (a.tmps.getD x undef))

theorem run_res {w0 : World} {n : Nat} {s : St} {g : Gh} {a : Act} {w : World} (hs : Sim w0 n s g a w) {r : ResultVar} {cv : CV} (h : resOf P s r = some cv) :
    ∃ v, (resSem a r).run P w = .ok v w ∧ relV g cv v := by
  cases r with
  | tmp t => cases h; exact ⟨_, rfl, hs.tm t⟩
  | cell x T =>
    simp only [resOf] at h
    split at h
    · rename_i ag n' hsh
      split at h
      · rename_i id off hx
        split at h
        · rename_i cs hr
          have hl := readFrom_length hr
          subst hl
          have hxa := hs.tm x
          rw [hx] at hxa
          obtain ⟨b, hb, he⟩ := hxa
          have hcell : ∀ (j : Nat) c, cs[j]? = some c → ∃ arr T u, w.heap[b]? = some (.cells arr T (0, 0)) ∧ arr[off + j]? = some u ∧ rel g c u := fun j c hj => by
            obtain ⟨b', arr, T, u, h1, h2, h3, h4⟩ := hs.cells _ _ _ (readFrom_get hr j c hj)
            rw [hb] at h1; cases h1
            exact ⟨arr, T, u, h2, h3, h4⟩
          have hex : ∃ arr T', (0 < cs.length → w.heap[b]? = some (.cells arr T' (0, 0))) ∧ ∀ (j : Nat) c, cs[j]? = some c → ∃ u, arr[off + j]? = some u ∧ rel g c u := by
            cases cs with
            | nil => exact ⟨#[], 0, by simp, fun j c hj => by simp at hj⟩
            | cons c0 cs' =>
              obtain ⟨arr, T', u, h2, h3, h4⟩ := hcell 0 c0 rfl
              refine ⟨arr, T', fun _ => h2, fun j c hj => ?_⟩
              obtain ⟨arr', T'', u', h2', h3', h4'⟩ := hcell j c hj
              rw [h2] at h2'; cases h2'
              exact ⟨u', h3', h4'⟩
          obtain ⟨arr, T', hb', hcc⟩ := hex
          obtain ⟨v, hrun, hrel⟩ := run_load_at (P := P) w hsh h hb' hcc
          refine ⟨v, ?_, hrel⟩
          simp only [resSem, he, asAddr, Sem.run_bind, Sem.run_pure, Result.andThen_ok]
          simpa [Instr.loadAt, Instr.sureAddr] using hrun
        · cases h
      · cases h
    · cases h

theorem run_resList {w0 : World} {n : Nat} {s : St} {g : Gh} {a : Act} {w : World} (hs : Sim w0 n s g a w) : ∀ {rs : List ResultVar} {cs : List CV1}, resList P s rs = some cs →
    ∃ vs : List Value, (rs.mapM (resSem a)).run P w = .ok vs w ∧
      vs.length = cs.length ∧ ∀ (j : Nat) c u, cs[j]? = some c → vs[j]? = some u → rel1 g c u
  | [], cs, h => by simp only [resList] at h; cases h; exact ⟨[], by simp, rfl, fun j c u h => by simp at h⟩
  | r :: rs, cs, h => by
    simp only [resList] at h
    split at h
    · rename_i c hc
      split at h
      · rename_i cs' hcs; cases h
        obtain ⟨v, h1, h2⟩ := run_res hs hc
        obtain ⟨vs, h3, h4, h5⟩ := run_resList hs hcs
        refine ⟨v :: vs, ?_, by simp [h4], fun j c' u h6 h7 => ?_⟩
        · simp only [List.mapM_cons, Sem.run_bind, h1, Result.andThen_ok, h3, Sem.run_pure]
        · cases j with
          | zero => simp at h6 h7; subst h6 h7; exact h2
          | succ j => exact h5 j c' u (by simpa using h6) (by simpa using h7)
      · cases h
    · cases h

theorem run_results {w0 : World} {n : Nat} {s : St} {g : Gh} {a : Act} {w : World} (hs : Sim w0 n s g a w) {fn : Func} {cs : List CV1} (h : resList P s fn.results.toList = some cs) :
    ∃ v, (results fn a.tmps).run P w = .ok v w ∧ relV g (retCV cs) v := by
  obtain ⟨vs, h1, h2, h3⟩ := run_resList hs h
  refine ⟨if h : vs.toArray.size = 1 then vs.toArray[0] else .tuple vs.toArray, ?_, ?_⟩
  · have e : results fn a.tmps = (do
        let vs ← fn.results.mapM (resSem a)
        pure (if h : vs.size = 1 then vs[0] else .tuple vs)) := by
      unfold results
      congr 2
    rw [e, Array.mapM_eq_mapM_toList]
    simp only [Sem.run_bind, Sem.run_map]
    rw [h1]
    rfl
  · match cs, vs, h2 with
    | [c], [v], _ => exact h3 0 c v rfl rfl
    | [], [], _ => exact ⟨#[], rfl, rfl, fun j c u h => by simp at h⟩
    | c1 :: c2 :: cs, v1 :: v2 :: vs, hl =>
      have : ¬ (v1 :: v2 :: vs).toArray.size = 1 := by simp
      rw [dif_neg this]
      exact ⟨_, rfl, by simpa using hl, fun j c u h4 h5 => h3 j c u h4 (by simpa using h5)⟩

/-- **A FUNCTION's CONTRACT** -/
theorem okFn_of_cwp (hΓ : GoodC P Γ) (hm : P.follows .mixedOrders = true) {f : FuncId} {fn : Func} {body : Code} (hf : P.funcs[f]? = some fn) (hb : fn.body = some body) (hname : (fn.name == "runtime.NumGoroutine") = false)
    (hds : dstOk fn.ntmps body = true) {S : FSpec} (h : ∀ hp args cv deps, S hp args = some (true, cv, deps) → plainV cv = true ∧ (∀ d ∈ deps, hp d.1 d.2.1 = some d.2.2) ∧ args.length ≤ fn.ntmps ∧
      ∃ args' F, View deps args args' ∧ cwp R P Γ F body (retK P fn.results.toList) (initSt args') = some cv) : OkFn P f S := by
  intro hp args cv deps hS
  obtain ⟨hpl, hdep, hlen, args', F, hview, hwp⟩ := h hp args cv deps hS
  refine ⟨hdep, fun g w0 w vals hsz hrel hcell hok => ?_⟩
  have hcall : (callFunc f vals).run P w = .ok (.enter f vals) w := by
    have hname' : ¬ fn.name = "runtime.NumGoroutine" := by simpa using hname
    simp [callFunc, hf, hname', hb]
  unfold CallOk
  rw [hcall]
  simp only
  refine calls_of_wp hf hb ?_
  let gc : Gh := { β := fun _ => none, im := fun k => w.heap[k]? }
  have hgc : ∀ k o, g.im k = some o → gc.im k = some o := hok.im
  have hsim : Sim w fn.ntmps (initSt args') gc { tmps := vals ++ Array.replicate (fn.ntmps - vals.size) undef, defers := [] } w := by
    refine ⟨fun t => ?_, by simp; omega, rfl, ⟨Below.refl _ _, fun k o h => h, (fun i j b h => nomatch h), (fun i b h => nomatch h), fun k c t fr hk hc => by rw [Array.getElem?_eq_none hk] at hc; cases hc⟩, (fun id off c h => nomatch h), (fun i b h => nomatch h)⟩
    show relV gc (initTm args' t) _
    cases ha : args'[t]? with
    | none =>
      rw [initTm_ge ha]
      have ht : args'.length ≤ t := by
        rcases Nat.lt_or_ge t args'.length with h | h
        · rw [List.getElem?_eq_getElem h] at ha; cases ha
        · exact h
      rw [hview.length] at ht
      show (vals ++ Array.replicate (fn.ntmps - vals.size) undef).getD t undef = undef
      have hge : vals.size ≤ t := by omega
      simp only [Array.getD_eq_getD_getElem?, Array.getElem?_append_right hge]
      rcases Nat.lt_or_ge (t - vals.size) (fn.ntmps - vals.size) with h | h
      · simp [h]
      · rw [Array.getElem?_eq_none (by simpa using h)]; rfl
    | some c =>
      rw [initTm_lt ha]
      obtain ⟨c0, hc0, hv⟩ := hview.get t c ha
      have ht : t < vals.size := by
        rw [hsz]
        rcases Nat.lt_or_ge t args.length with h | h
        · exact h
        · rw [List.getElem?_eq_none h] at hc0; cases hc0
      have hval : (vals ++ Array.replicate (fn.ntmps - vals.size) undef).getD t undef = vals[t] := by
        simp only [Array.getD_eq_getD_getElem?, Array.getElem?_append_left ht]; simp [ht]
      rw [hval]
      have hr := hrel t c0 vals[t] hc0 (by simp [ht])
      rcases hv with ⟨rfl, hl⟩ | ⟨id, off, m, f', rfl, rfl, hd⟩ | ⟨m, f1, k, f2, rfl, rfl, hle, hd⟩ | ⟨m, size, f1, f2, rfl, rfl, hd⟩
      · exact lift1_rel hl hgc hr
      · obtain ⟨b, hb, he⟩ := hr
        refine ⟨b, off, he, fun j hj => ?_⟩
        obtain ⟨h1, h2⟩ := hd j hj
        obtain ⟨b', arr, T, u, h3, h4, h5, h6⟩ := hcell _ h1
        rw [hb] at h3; cases h3
        exact ⟨arr, T, (0, 0), u, h4, h5, h2 g gc u hgc h6⟩
      · obtain ⟨b, off, he, hc⟩ := hr
        refine ⟨b, off, he, fun j hj => ?_⟩
        obtain ⟨arr, T, fr, u, h3, h4, h5⟩ := hc j (by omega)
        obtain ⟨h1, h2⟩ := hd j hj
        exact ⟨arr, T, fr, u, hgc _ _ h3, h4, by rw [h1]; exact h2 g gc u hgc h5⟩
      · obtain ⟨a, cap, he, hn, hc⟩ := hr
        refine ⟨a, cap, he, hn, fun h0 => ?_⟩
        obtain ⟨b, off, ea, hc⟩ := hc h0
        refine ⟨b, off, ea, fun j hj => ?_⟩
        obtain ⟨arr, T, fr, u, h3, h4, h5⟩ := hc j hj
        obtain ⟨h1, h2⟩ := hd j hj
        exact ⟨arr, T, fr, u, hgc _ _ h3, h4, by rw [h1]; exact h2 g gc u hgc h5⟩
  refine cwp_sound hΓ hm body _ _ hds hwp hsim fun e s' g' a' w' hk hs' => ?_
  have fin : ∀ cs, resList P s' fn.results.toList = some cs → retCV cs = cv → a'.defers = [] ∧ ∃ v, (results fn a'.tmps).run P w' = .ok v w' ∧ ∃ v', Ending.returned v = .returned v' ∧ ∃ g'', After w0 g w g'' w' ∧ relV g'' cv v' := fun cs h1 h2 => by
    obtain ⟨v, hr, hv⟩ := run_results hs' h1
    rw [h2] at hv
    have hbw := hs'.ok.below
    refine ⟨hs'.df, v, hr, v, rfl, g, ⟨g.le_refl, rfl, ⟨hok.below.trans (hbw.mono hok.below.size), fun k o ho => ?_, hok.inj, fun i b hb => ?_, fun k c t fr hk hc => ?_⟩, hbw.size, hbw.block⟩, plainV_rel hpl g' g v hv⟩
    · have := hok.im k o ho
      have hk : k < w.heap.size := by
        rcases Nat.lt_or_ge k w.heap.size with h | h
        · exact h
        · rw [Array.getElem?_eq_none h] at this; cases this
      rw [hbw.block k hk]; exact this
    · obtain ⟨h3, h4, h5⟩ := hok.fresh i b hb
      exact ⟨h3, by have := hbw.size; omega, h5⟩
    · rcases Nat.lt_or_ge k w.heap.size with h | h
      · rw [hbw.block k h] at hc; exact hok.fz k c t fr hk hc
      · exact hs'.ok.fz k c t fr h hc
  cases e with
  | normal =>
    simp only [retK] at hk
    split at hk
    · rename_i cs hcs; exact fin cs hcs (Option.some.inj hk)
    · cases hk
  | ret =>
    simp only [retK] at hk
    split at hk
    · rename_i cs hcs; exact fin cs hcs (Option.some.inj hk)
    · cases hk
  | exit id => cases hk
  | goto l => cases hk
  | panic c => cases hk
  | outgrown => cases hk

end
end Go.Cv

namespace Go.Cv
/-- the loops of a text, the outer ones first -/
def loopsOf : Code → List Code
  | .seq x y => loopsOf x ++ loopsOf y
  | .cond _ x y => loopsOf x ++ loopsOf y
  | .block _ c => loopsOf c
  | .loop c => c :: loopsOf c
  | .scope c => loopsOf c
  | _ => []
/-- does a text end with a loop -/
def endsLoop : Code → Bool
  | .block _ (.loop _) => true
  | .seq _ y => endsLoop y
  | _ => false
/-- what comes after each loop -/
def afterLoop : Code → List Code
  | .seq x y => bif endsLoop x then y :: (afterLoop x ++ afterLoop y) else afterLoop x ++ afterLoop y
  | .cond _ x y => afterLoop x ++ afterLoop y
  | .block _ c => afterLoop c
  | .loop c => afterLoop c
  | .scope c => afterLoop c
  | _ => []
end Go.Cv
