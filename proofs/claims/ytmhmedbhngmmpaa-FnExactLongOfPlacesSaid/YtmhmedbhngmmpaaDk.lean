/- The model's operations do what 'cop' says (part 8): all operations. -/
import Derived.Test.YtmhmedbhngmmpaaDj
namespace Go.Dv
open Go.RowKit Go.Cv

section
variable {P : Program} {α : Type}

theorem indexAddr_ls {o : Oper} {s : St} {T : TypeId} {x i : Operand} {sz : Nat} {ix : Int} {bw : Bool} {e : Sh} {l : List e.Ty} (ho : o.op = .indexAddr T x i) (hsz : tyElem P T = some sz) (hi : idxOf (s.ev i) = some ix) (hx : s.ev x = .one (.s (.ls bw e l)))
    (hse : e.size = sz) (h0 : 0 ≤ ix) (hn : ix < (l.length : Int)) : EffOk P o s (.val (sc (.ip sz (fun j => (cells bw e (l.getD ix.toNat e.dflt)).getD j .any))) []) := by
  subst hse
  obtain ⟨E, inf, h1, h2, h3⟩ := tyElem_spec hsz
  refine ⟨(fun _ h => by cases h), fun X g w0 w a K Q hops _ hw _ hk => ?_⟩
  have hxa := hops x (by rw [ho]; simp [Op.operands])
  rw [hx] at hxa
  obtain ⟨k, hie⟩ := idxOf_spec hi (hops i (by rw [ho]; simp [Op.operands]))
  obtain ⟨ad, cap, he, hcap, hz, hc⟩ := hxa
  obtain ⟨b, off, rfl, hcc⟩ := hc (by omega)
  have hadd : (⟨b, off, none⟩ : Addr).add (ix.toNat * e.size) = ⟨b, off + ix.toNat * e.size, none⟩ := by unfold Addr.add; split <;> simp_all
  have hlt : ix.toNat < l.length := by omega
  have hel : l[ix.toNat]? = some (l.getD ix.toNat e.dflt) := by simp [List.getD, hlt]
  have hr := (relT_cells (g := g) (bw := bw) e _ _).1 (hcc _ _ hel)
  have hcl := cells_length bw e (l.getD ix.toNat e.dflt)
  have hbi : ∀ k o, g.mem bw k = some o → g.bi k = some o := by cases bw; exact hw.im; exact fun _ _ h => h
  refine wp_of_run (w' := w) (v := .pointer (some ⟨b, off + ix.toNat * e.size, none⟩)) ?_ (hk _ g w (After.refl hw) ⟨b, off + ix.toNat * e.size, rfl, fun j hj => ?_⟩)
  · simp [execOp, ho, he, hie, Instr.indexAt, asIntOf, run_underlying h1, h0, hn, sizeOf, typeInfo, h2, h3, hadd]
  · have hjl : j < (cells bw e (l.getD ix.toNat e.dflt)).length := by omega
    obtain ⟨u, h4, h5⟩ := hr j _ (List.getElem?_eq_getElem hjl)
    refine ⟨u, h4.mono hbi, ?_⟩
    have e2 : (cells bw e (l.getD ix.toNat e.dflt)).getD j .any = (cells bw e (l.getD ix.toNat e.dflt))[j] := by rw [List.getD_eq_getElem?_getD, List.getElem?_eq_getElem hjl]; rfl
    show rel g ((cells bw e (l.getD ix.toNat e.dflt)).getD j .any) u
    rw [e2]; exact h5

theorem indexAddr_own {o : Oper} {s : St} {T : TypeId} {x i : Operand} {sz id n : Nat} {ix : Int} (ho : o.op = .indexAddr T x i) (hsz : tyElem P T = some sz) (hi : idxOf (s.ev i) = some ix) (hx : s.ev x = .one (.s (.own id n)))
    (h0 : 0 ≤ ix) (hn : ix < (n : Int)) : EffOk P o s (.val (sc (.pe id sz ix.toNat 0)) []) := by
  obtain ⟨E, inf, h1, h2, h3⟩ := tyElem_spec hsz
  refine val_of_run fun g w a hops => ?_
  have hxa := hops x (by rw [ho]; simp [Op.operands])
  rw [hx] at hxa
  obtain ⟨k, hie⟩ := idxOf_spec hi (hops i (by rw [ho]; simp [Op.operands]))
  rcases hxa with ⟨h4, _⟩ | ⟨b, hb, he, hle⟩
  · omega
  · have hadd : (⟨b, 0, none⟩ : Addr).add (ix.toNat * sz) = ⟨b, ix.toNat * sz, none⟩ := by unfold Addr.add; split <;> simp_all
    refine ⟨.pointer (some ⟨b, ix.toNat * sz, none⟩), 0, ?_, b, hb, by simp⟩
    simp [execOp, ho, he, hie, Instr.indexAt, asIntOf, run_underlying h1, h0, hn, sizeOf, typeInfo, h2, h3, hadd]
    rfl

theorem cbuiltin_sound {o : Oper} {s : St} {c : Call} {b : Builtin} {K : Eff → Tr α} {rv : α} (ho : o.op = .call c) (hcb : c.callee = .builtin b) (h : cbuiltin P b o.dst c.argTypes.toList s (c.args.toList.map s.ev) K = some rv) : ∃ e, K e = some rv ∧ EffOk P o s e := by
  have hop : ∀ {g : Gh} {a : Act}, (∀ x ∈ o.op.operands.toList, relV g (s.ev x) (a.eval x)) → ∀ x ∈ c.args.toList, relV g (s.ev x) (a.eval x) := fun {g a} hops x hx => hops x (by
    rw [ho]; simp [Op.operands, Call.operands, hcb]; simpa using hx)
  have run : ∀ (a : Act) (w : World), (execOp a.eval o).run P w = (builtin b c.argTypes o.type (c.args.map fun | .const _ => true | _ => false) (c.args.map a.eval)).run P w := fun a w => by
    simp only [execOp, ho, resolve, hcb, Sem.run_bind, Sem.run_pure, Result.andThen_ok, invoke]
    rfl
  have one : ∀ {x1 : CV}, c.args.toList.map s.ev = [x1] → ∃ x, c.args = #[x] ∧ s.ev x = x1 := fun {x1} h => by
    match hl : c.args.toList, h with
    | [x], h => simp at h; exact ⟨x, by rw [← hl], h⟩
  have two : ∀ {x1 x2 : CV}, c.args.toList.map s.ev = [x1, x2] → ∃ x y, c.args = #[x, y] ∧ s.ev x = x1 ∧ s.ev y = x2 := fun {x1 x2} h => by
    match hl : c.args.toList, h with
    | [x, y], h => simp at h; exact ⟨x, y, by rw [← hl], h.1, h.2⟩
  have tys : ∀ {t : TypeId → Bool}, (match c.argTypes.toList with | T :: _ => t T | [] => false) = true → ∃ T, c.argTypes[0]? = some T ∧ t T = true := fun {t} h => by
    cases hl : c.argTypes.toList with
    | nil => rw [hl] at h; cases h
    | cons T rest =>
      rw [hl] at h
      have h0 : c.argTypes.toList[0]? = some T := by rw [hl]; rfl
      exact ⟨T, by simpa using h0, h⟩
  have lens : ∀ {x : Operand} {n : Nat}, c.args = #[x] → b = .len → (match c.argTypes.toList with | T :: _ => tySlice P T | [] => false) = true → (∀ {g : Gh} {u : Value}, relV g (s.ev x) u → ∃ a cap, u = .slice a n cap) → EffOk P o s (.val (exI n) []) := by
    intro x n hx hb hT hv
    obtain ⟨T, hT1, hT2⟩ := tys hT
    obtain ⟨E, hE⟩ := tySlice_spec hT2
    refine val_of_run fun g w a hops => ?_
    obtain ⟨ad, cap, hu⟩ := hv (hop hops x (by rw [hx]; simp))
    refine ⟨_, 0, ?_, rfl⟩
    rw [run, hx, hb]
    simp [builtin, Builtin.len_, hT1, run_underlying hE, goInt, hu]
    rfl
  unfold cbuiltin at h
  split at h
  · rename_i args bw e l hargs
    have hbr := brT_req h; clear h; obtain ⟨hT, h⟩ := hbr
    obtain ⟨x, hx, hxe⟩ := one hargs
    exact ⟨_, h, lens hx rfl hT fun {g u} hu => by rw [hxe] at hu; obtain ⟨ad, cap, rfl, _⟩ := hu; exact ⟨_, _, rfl⟩⟩
  · rename_i args id n hargs
    have hbr := brT_req h; clear h; obtain ⟨hT, h⟩ := hbr
    obtain ⟨x, hx, hxe⟩ := one hargs
    exact ⟨_, h, lens hx rfl hT fun {g u} hu => by
      rw [hxe] at hu
      rcases hu with ⟨rfl, rfl⟩ | ⟨b', _, rfl, _⟩ <;> exact ⟨_, _, rfl⟩⟩
  · rename_i args id sz lo n hargs
    have hbr := brT_req h; clear h; obtain ⟨hT, h⟩ := hbr
    obtain ⟨x, hx, hxe⟩ := one hargs
    exact ⟨_, h, lens hx rfl hT fun {g u} hu => by rw [hxe] at hu; obtain ⟨ad, cap, rfl, _⟩ := hu; exact ⟨_, _, rfl⟩⟩
  · rename_i args hargs
    have hbr := brT_req h; clear h; obtain ⟨hT, h⟩ := hbr
    obtain ⟨x, hx, hxe⟩ := one hargs
    exact ⟨_, h, lens (n := 0) hx rfl hT fun {g u} hu => by rw [hxe] at hu; obtain rfl : u = _ := hu; exact ⟨_, _, rfl⟩⟩
  · rename_i args t hargs
    have hbr := brT_req h; clear h; obtain ⟨hT, h⟩ := hbr
    obtain ⟨x, hx, hxe⟩ := one hargs
    obtain ⟨T, hT1, hT2⟩ := tys hT
    have hT' : P.underlying T = some .string := by
      unfold tyString at hT2
      split at hT2
      · assumption
      · cases hT2
    refine ⟨_, h, val_of_run fun g w a hops => ?_⟩
    have hu := hop hops x (by rw [hx]; simp)
    rw [hxe] at hu
    have hu : a.eval x = .string t := hu
    refine ⟨_, 0, ?_, rfl⟩
    rw [run, hx]
    simp [builtin, Builtin.len_, hT1, run_underlying hT', goInt, hu]
    rfl
  · rename_i args k n m hargs
    obtain ⟨x, hx, hxe⟩ := one hargs
    refine ⟨_, h, val_of_run fun g w a hops => ?_⟩
    have hu := hop hops x (by rw [hx]; simp)
    rw [hxe] at hu
    obtain ⟨p, q, hv, h1, h2, h3, h4⟩ := hu
    exact ⟨.float k p, 0, by rw [run, hx]; simp [hv]; rfl, p, rfl, h1, h3⟩
  · rename_i args k n m hargs
    obtain ⟨x, hx, hxe⟩ := one hargs
    refine ⟨_, h, val_of_run fun g w a hops => ?_⟩
    have hu := hop hops x (by rw [hx]; simp)
    rw [hxe] at hu
    obtain ⟨p, q, hv, h1, h2, h3, h4⟩ := hu
    exact ⟨.float k q, 0, by rw [run, hx]; simp [hv]; rfl, q, rfl, h2, h4⟩
  · rename_i args k n k' m hargs
    have hbr := brT_req h; clear h; obtain ⟨hk, h⟩ := hbr
    obtain rfl := eqK_spec hk
    obtain ⟨x, y, hx, hxe, hye⟩ := two hargs
    refine ⟨_, h, val_of_run fun g w a hops => ?_⟩
    have hu := hop hops x (by rw [hx]; simp)
    have hv := hop hops y (by rw [hx]; simp)
    rw [hxe] at hu
    rw [hye] at hv
    obtain ⟨p, e1, h1, h2⟩ := hu
    obtain ⟨q, e2, h3, h4⟩ := hv
    refine ⟨.complex k p q, 0, ?_, p, q, rfl, h1, h3, h2, h4⟩
    rw [run, hx]
    simp [e1, e2, builtin, run_complex, Result.andThen_ok]
    rfl
  · rename_i args x y hargs
    obtain ⟨xo, yo, hx, hxe, hye⟩ := two hargs
    subst hxe hye
    have hlen : ∃ T T', c.argTypes.toList = [T, T'] := by
      unfold cappend at h
      split at h
      · exact ⟨_, _, by assumption⟩
      · cases h
    obtain ⟨T, T', hTT⟩ := hlen
    have hTa : c.argTypes = #[T, T'] := by rw [← hTT]
    rw [hTT] at h
    refine append_sound (ty := o.type) (fun a w => ?_) h
    rw [run, hx, hTa]
    simp [builtin]
  · cases h

theorem mkVal_field {g : Gh} {cs : List CS} {arr : Array Value} {off n : Nat} {ag : Bool} {v : CV} (hv : mkVal ag ((cs.drop off).take n) = some v) (hl : off + n ≤ cs.length) (hsz : arr.size = cs.length) (hc : ∀ (j : Nat) c u, cs[j]? = some c → arr[j]? = some u → rel g c u) :
    (ag = true ∧ relV g v (.agg (arr.extract off (off + n)))) ∨ (ag = false ∧ ∃ h : off < arr.size, relV g v arr[off]) := by
  cases ag with
  | true =>
    cases hv
    refine .inl ⟨rfl, _, rfl, by simp; omega, fun j c u hj hu => ?_⟩
    rw [List.getElem?_take] at hj
    split at hj
    · rename_i hjn
      rw [Array.getElem?_extract] at hu
      split at hu
      · exact hc (off + j) c u (by simpa using hj) hu
      · cases hu
    · cases hj
  | false =>
    unfold mkVal at hv
    simp only at hv
    split at hv
    · rename_i c hcs; cases hv
      have hn : n = 1 := by
        have := congrArg List.length hcs; simp at this; omega
      have hget : cs[off]? = some c := by
        have := congrArg (·[0]?) hcs
        simp [hn] at this
        simpa using this
      have hlt : off < arr.size := by omega
      exact .inr ⟨rfl, hlt, hc off c _ hget (by simp [hlt])⟩
    · cases hv

theorem cop_sound {Γ : CEnv} (hΓ : GoodC P Γ) {o : Oper} {s : St} {K : Eff → Tr α} {rv : α} (h : cop R P Γ o.dst o.op s K = some rv) : ∃ e, K e = some rv ∧ EffOk P o s e := by
  generalize ho : o.op = op at h
  cases op with
  | move x =>
    refine ⟨_, h, val_of_run fun g w a hops => ⟨a.eval x, 0, ?_, hops x (by rw [ho]; simp [Op.operands])⟩⟩
    simp [execOp, ho]; rfl
  | assign x =>
    refine ⟨_, h, val_of_run fun g w a hops => ⟨a.eval x, 0, ?_, hops x (by rw [ho]; simp [Op.operands])⟩⟩
    simp [execOp, ho]; rfl
  | pick c x y =>
    simp only [cop] at h
    split at h
    · rename_i t hc
      have hb : ∀ {g : Gh} {a : Act}, (∀ x ∈ o.op.operands.toList, relV g (s.ev x) (a.eval x)) → a.eval c = .bool t := fun {g a} hops => by
        have := hops c (by rw [ho]; simp [Op.operands]); rw [hc] at this; exact this
      have hbr := brT_some h; clear h; rcases hbr with ⟨rfl, h⟩ | ⟨rfl, h⟩
      · refine ⟨_, h, val_of_run fun g w a hops => ⟨a.eval x, 0, ?_, hops x (by rw [ho]; simp [Op.operands])⟩⟩
        simp [execOp, ho, hb hops, asBool]; rfl
      · refine ⟨_, h, val_of_run fun g w a hops => ⟨a.eval y, 0, ?_, hops y (by rw [ho]; simp [Op.operands])⟩⟩
        simp [execOp, ho, hb hops, asBool]; rfl
    · cases h
  | alloc T =>
    simp only [cop] at h
    split at h
    · rename_i cs hz; exact ⟨_, h, alloc_sound ho hz⟩
    · cases h
  | box T x =>
    simp only [cop] at h
    split at h
    · rename_i cs hc; have hbr := brT_req h; clear h; obtain ⟨h1, h⟩ := hbr; exact ⟨_, h, box_sound ho hc h1⟩
    · cases h
  | build T parts =>
    simp only [cop] at h
    split at h
    · rename_i places z ps h1 h2 h3
      split at h
      · rename_i cs hf; exact ⟨_, h, build_sound ho h1 h2 h3 hf⟩
      · cases h
    · cases h
  | load T x =>
    simp only [cop] at h
    split at h
    · rename_i ag n hs
      split at h
      · rename_i id off hx
        split at h
        · rename_i cs hr
          have hbr := brT_req h; clear h; obtain ⟨hpl, h⟩ := hbr
          split at h
          · rename_i v hv
            have hl := readFrom_length hr
            subst hl
            exact ⟨_, h, load_sound ho hs hx hr hpl hv⟩
          · cases h
        · cases h
      · rename_i m f hx
        have hbr := brT_req h; clear h; obtain ⟨hm, h⟩ := hbr
        have hm := Nat.le_of_ble_eq_true hm
        split at h
        · rename_i v hv; exact ⟨_, h, load_ip_sound ho hs hx hm hv⟩
        · cases h
      · rename_i id sz i k hx
        split at h
        · rename_i e l hh
          have hbr := brT_req h; clear h; obtain ⟨hc, h⟩ := hbr
          simp only [Bool.and_eq_true] at hc
          obtain ⟨⟨h1, h2⟩, h3⟩ := hc
          obtain rfl := Nat.eq_of_beq_eq_true h1
          have h2 : i < l.length := Nat.le_of_ble_eq_true h2
          split at h
          · rename_i v hv; exact ⟨_, h, load_pe_sound ho hs hx hh h2 (Nat.le_of_ble_eq_true h3) hv⟩
          · cases h
        · cases h
      · cases h
    · cases h
  | store T ad x =>
    simp only [cop] at h
    split at h
    · rename_i ag n hs
      split at h
      · rename_i id off hx
        split at h
        · rename_i cs hc
          have hbr := brT_req h; clear h; obtain ⟨hh, h⟩ := hbr
          simp only [Bool.and_eq_true] at hh
          obtain ⟨⟨h0, h1⟩, ⟨h2, h4⟩, h3⟩ := hh
          have h0 : 0 < n := Nat.le_of_ble_eq_true h0
          have h1 := Nat.eq_of_beq_eq_true h1
          have hex : ∃ cs', readFrom s.hp id off n = some cs' ∧ cs'.all plain = true := by
            cases hr : readFrom s.hp id off n with
            | none => rw [hr] at h3; cases h3
            | some cs' => rw [hr] at h3; exact ⟨cs', rfl, h3⟩
          obtain ⟨cs', h5, h6⟩ := hex
          exact ⟨_, h, store_sound ho hs hx hc h0 h1 h2 h5 h6 (fun e l he => by rw [he] at h4; cases h4)⟩
        · cases h
      · rename_i id sz i k hx
        split at h
        · rename_i e l hh
          split at h
          · rename_i cs hc
            split at h
            · rename_i y hy
              have hbr := brT_req h; clear h; obtain ⟨hcd, h⟩ := hbr
              simp only [Bool.and_eq_true] at hcd
              obtain ⟨⟨h1, h2⟩, ⟨h3, h4⟩, h6⟩ := hcd
              obtain rfl := Nat.eq_of_beq_eq_true h1
              have h2 : i < l.length := Nat.le_of_ble_eq_true h2
              have h3 := Nat.le_of_ble_eq_true h3
              have h4 := Nat.eq_of_beq_eq_true h4
              refine ⟨_, h, store_pe_sound ho hs hx hh hc h2 h3 h4 h6 hy⟩
            · cases h
          · cases h
        · cases h
      · cases h
    · cases h
  | fieldAddr T x f =>
    simp only [cop] at h
    split at h
    · rename_i k hk
      split at h
      · rename_i id off hx
        refine ⟨_, h, val_of_run fun g w a hops => ?_⟩
        have hxa := hops x (by rw [ho]; simp [Op.operands])
        rw [hx] at hxa
        obtain ⟨b, hb, he⟩ := hxa
        exact ⟨_, 0, by simp only [execOp, ho, he, Sem.run_bind, run_fieldAt w hk, Result.andThen_ok, Sem.run_pure]; rfl, b, hb, rfl⟩
      · rename_i m hh hx
        refine ⟨_, h, val_of_run fun g w a hops => ?_⟩
        have hxa := hops x (by rw [ho]; simp [Op.operands])
        rw [hx] at hxa
        obtain ⟨b, off, he, hc⟩ := hxa
        refine ⟨_, 0, by simp only [execOp, ho, he, Sem.run_bind, run_fieldAt w hk, Result.andThen_ok, Sem.run_pure]; rfl, b, off + k, rfl, fun j hj => ?_⟩
        obtain ⟨u, h1, h2⟩ := hc (k + j) (by omega)
        exact ⟨u, by rw [Nat.add_assoc]; exact h1, h2⟩
      · rename_i id sz i j hx
        refine ⟨_, h, val_of_run fun g w a hops => ?_⟩
        have hxa := hops x (by rw [ho]; simp [Op.operands])
        rw [hx] at hxa
        obtain ⟨b, hb, he⟩ := hxa
        exact ⟨_, 0, by simp only [execOp, ho, he, Sem.run_bind, run_fieldAt w hk, Result.andThen_ok, Sem.run_pure]; rfl, b, hb, by rw [Nat.add_assoc]⟩
      · cases h
    · cases h
  | field T x f =>
    simp only [cop] at h
    split at h
    · rename_i off ag n hp
      split at h
      · rename_i cs hx
        have hbr := brT_req h; clear h; obtain ⟨hl, h⟩ := hbr
        have hl := Nat.le_of_ble_eq_true hl
        split at h
        · rename_i v hv
          obtain ⟨fields, fd, h1, h2, h3, h4⟩ := fieldPart_spec hp
          obtain ⟨d, i, h5, h6, h7, h8⟩ := tyShape_spec h3
          refine ⟨_, h, val_of_run fun g w a hops => ?_⟩
          have hxa := hops x (by rw [ho]; simp [Op.operands])
          rw [hx] at hxa
          obtain ⟨arr, he, hsz, hc⟩ := hxa
          rcases mkVal_field hv hl hsz hc with ⟨rfl, hr⟩ | ⟨rfl, hlt, hr⟩
          · refine ⟨.agg (arr.extract off (off + n)), 0, ?_, hr⟩
            simp [execOp, ho, he, Instr.field, run_underlying h1, h2, asAgg, part, h8, sizeOf, typeInfo, h6, h7, h4]; rfl
          · refine ⟨arr[off], 0, ?_, hr⟩
            simp [execOp, ho, he, Instr.field, run_underlying h1, h2, asAgg, part, h8, h4, hlt]; rfl
        · cases h
      · cases h
    · cases h
  | nilCheck x =>
    simp only [cop] at h
    split at h
    · rename_i id off hx
      refine ⟨_, h, val_of_run fun g w a hops => ?_⟩
      have hxa := hops x (by rw [ho]; simp [Op.operands])
      rw [hx] at hxa
      obtain ⟨b, hb, he⟩ := hxa
      exact ⟨_, 0, by simp [execOp, ho, he]; rfl, b, hb, rfl⟩
    · rename_i n f hx
      refine ⟨_, h, val_of_run fun g w a hops => ?_⟩
      have hxa := hops x (by rw [ho]; simp [Op.operands])
      rw [hx] at hxa
      obtain ⟨b, off, he, hc⟩ := hxa
      exact ⟨_, 0, by simp [execOp, ho, he]; rfl, b, off, rfl, hc⟩
    · rename_i id sz i k hx
      refine ⟨_, h, val_of_run fun g w a hops => ?_⟩
      have hxa := hops x (by rw [ho]; simp [Op.operands])
      rw [hx] at hxa
      obtain ⟨b, hb, he⟩ := hxa
      exact ⟨_, 0, by simp [execOp, ho, he]; rfl, b, hb, rfl⟩
    · cases h
  | binOp op T x y yT =>
    simp only [cop] at h
    obtain ⟨cv, hk, hh⟩ := cbin_sound h
    refine ⟨_, hk, val_of_run fun g w a hops => ?_⟩
    obtain ⟨r, n, h1, h2, h3⟩ := hh g w x y (a.eval x) (a.eval y) (hops x (by rw [ho]; simp [Op.operands])) (hops y (by rw [ho]; simp [Op.operands]))
    exact ⟨r, n, by simp only [execOp, ho, h1, Sem.run_bind, Sem.run_pure, Result.andThen_ok, h2], h3⟩
  | unOp op T x =>
    simp only [cop] at h
    obtain ⟨cv, hk, hh⟩ := cun_sound (P := P) h
    refine ⟨_, hk, val_of_run fun g w a hops => ?_⟩
    obtain ⟨r, h1, h2⟩ := hh g w (a.eval x) (hops x (by rw [ho]; simp [Op.operands]))
    exact ⟨r, 0, by simp only [execOp, ho, h1, Sem.run_bind, Sem.run_pure, Result.andThen_ok]; rfl, h2⟩
  | convert src dst x =>
    simp only [cop] at h
    obtain ⟨cv, hk, hh⟩ := cconv_sound h
    refine ⟨_, hk, val_of_run fun g w a hops => ?_⟩
    obtain ⟨r, n, h1, h2⟩ := hh g w (a.eval x) (hops x (by rw [ho]; simp [Op.operands]))
    exact ⟨r, n, by simp only [execOp, ho, h1, Sem.run_bind, Sem.run_pure, Result.andThen_ok], h2⟩
  | indexAddr T x i =>
    simp only [cop] at h
    split at h
    · rename_i sz hsz
      split at h
      · rename_i ix hi
        split at h
        · rename_i bw e l hx
          have hbr := brT_req h; clear h; obtain ⟨hh, h⟩ := hbr
          simp only [Bool.and_eq_true, decide_eq_true_eq] at hh
          obtain ⟨hse, h0, hn⟩ := hh
          exact ⟨_, h, indexAddr_ls ho hsz hi hx (Nat.eq_of_beq_eq_true hse) h0 hn⟩
        · rename_i id n hx
          have hbr := brT_req h; clear h; obtain ⟨hh, h⟩ := hbr
          simp only [Bool.and_eq_true, decide_eq_true_eq] at hh
          exact ⟨_, h, indexAddr_own ho hsz hi hx hh.1 hh.2⟩
        · cases h
      · cases h
    · cases h
  | slice T x lo hi max =>
    simp only [cop] at h
    cases max with
    | some m => cases h
    | none =>
      simp only at h
      split at h
      · rename_i l hh hl hhi
        exact slice_sound ho hl hhi h
      · cases h
  | extract t i =>
    simp only [cop] at h
    split at h
    · rename_i vs ht
      split at h
      · rename_i v hv
        refine ⟨_, h, val_of_run fun g w a hops => ?_⟩
        have hxa := hops t (by rw [ho]; simp [Op.operands])
        rw [ht] at hxa
        obtain ⟨arr, he, hsz, hc⟩ := hxa
        have hlt : i < arr.size := by
          rw [hsz]
          rcases Nat.lt_or_ge i vs.length with h | h
          · exact h
          · rw [List.getElem?_eq_none h] at hv; cases hv
        exact ⟨arr[i], 0, by simp [execOp, ho, he, Instr.extract, hlt]; rfl, hc i v _ hv (by simp [hlt])⟩
      · cases h
    · cases h
  | buildSlice T len parts =>
    simp only [cop] at h
    split at h
    · rename_i e ps h1 h2
      have hbr := brT_req h; clear h; obtain ⟨hh, h⟩ := hbr
      simp only [Bool.and_eq_true] at hh
      obtain ⟨h4, h5⟩ := hh
      have h5 := Nat.le_of_ble_eq_true h5
      split at h
      · rename_i cs hf
        split at h
        · rename_i l hl
          obtain ⟨p1, p2⟩ := buildSlice_sound ho h4 h2 hf h5 hl
          exact ⟨_, h, p2⟩
        · cases h
      · cases h
    · cases h
  | makeSlice T len cap =>
    simp only [cop] at h
    split at h
    · rename_i e n c h1 h2 h3
      have hbr := brT_req h; clear h; obtain ⟨hh, h⟩ := hbr
      simp only [Bool.and_eq_true, decide_eq_true_eq] at hh
      exact ⟨_, h, makeSlice_sound ho hh.1 h2 h3 hh.2.1.1 hh.2.1.2 hh.2.2⟩
    · cases h
  | makeFunc fn first captured =>
    simp only [cop] at h
    split at h
    · rename_i fid
      have hbr := brT_req h; clear h; obtain ⟨h0, h⟩ := hbr
      have h0 := Nat.eq_of_beq_eq_true h0
      split at h
      · rename_i cs hcs
        refine ⟨_, h, val_of_run fun g w a hops => ?_⟩
        have hf : first = #[] := Array.eq_empty_of_size_eq_zero h0
        subst hf
        obtain ⟨h1, h2⟩ := scalarsOf_rel (a := a) hcs (fun x hx => hops x (by rw [ho]; simpa [Op.operands] using hx))
        refine ⟨.func (.func fid) #[] (captured.map a.eval), 0, by simp [execOp, ho, Instr.makeFunc]; rfl, _, rfl, by simpa using h1, fun j u hu => ?_⟩
        have hj : j < cs.length := by
          rw [← h1]; simp
          rcases Nat.lt_or_ge j captured.size with h | h
          · exact h
          · rw [Array.getElem?_eq_none (by simpa using h)] at hu; cases hu
        have hc := h2 j cs[j] u (by simp [hj]) (by simpa using hu)
        simpa [hj] using hc
      · cases h
    · cases h
  | call c =>
    simp only [cop] at h
    cases hc : c.callee with
    | value f => exact ccall_sound hΓ ho hc h
    | builtin b => unfold ccall at h; rw [hc] at h; exact cbuiltin_sound ho hc h
    | invoke r m => unfold ccall at h; rw [hc] at h; cases h
  | _ => cases h

end
end Go.Dv
