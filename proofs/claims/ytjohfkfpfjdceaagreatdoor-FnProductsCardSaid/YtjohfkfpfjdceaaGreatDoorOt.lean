/- The row of a law whose program's tables are laid and whose variables are shaped. -/
import Derived.Test.YtjohfkfpfjdceaaGreatDoorOq
import Derived.HandedShaped
import Derived.Shelf.Vars

namespace Go.Dv
open Go.Cv Go.ChangeShapes Go.WideShapes Go.ChangeAt Go.RowKit Go.Joins

/-- a variable of an interface's type that is laid holds nothing or a value -/
theorem cell_iface {P : Program} {W : World} {name : String} {d : DataW Unit} {g : Nat} {t : TypeId} {ms : Array (String × TypeId)}
    (hg : P.globalNamed name = some g) (hty : (P.globals[g]?).map (·.type) = some t) (hu : P.underlying t = some (.interface ms)) (h : Lib.VarReads P W name d) :
    ∃ v, W.cell? ⟨g, 0, none⟩ = some v ∧ (v = .nilIface ∨ ∃ t u, v = .iface t u) := by
  obtain ⟨g', t', cs, fuel, p, hg', ht', hvar, hd⟩ := h
  obtain rfl := Option.some.inj (hg.symm.trans hg')
  obtain rfl := Option.some.inj (hty.symm.trans ht')
  unfold World.var? at hvar
  rw [hg] at hvar
  simp only [Option.bind_some] at hvar
  split at hvar
  · rename_i cs' T fr hh
    cases hvar
    have key : ∃ v, cs.toList = [v] ∧ (v = .nilIface ∨ ∃ t u, v = .iface t u) := by
      cases fuel with
      | zero => cases hd
      | succ n =>
        rw [DataW.trod_step] at hd
        unfold DataW.trodStep at hd
        rw [hu] at hd
        split at hd <;> first
          | (rename_i h0 h1; cases h0; done)
          | (rename_i h1; cases h1; done)
          | exact ⟨_, by assumption, .inl rfl⟩
          | exact ⟨_, by assumption, .inr ⟨_, _, rfl⟩⟩
          | (cases hd; done)
    obtain ⟨v, hv, hi⟩ := key
    refine ⟨v, ?_, hi⟩
    have hc : cs[0]? = some v := by rw [← Array.getElem?_toList, hv]; rfl
    simp [World.cell?, hh, hc]
  · cases hvar

theorem law_body {H : Type} {enc : TypeId × Value → H} {C : Checked}  {f : FuncId} {fn : Func} {body : Code} {s : ChangeSpec}  {tb : TypeId} 
    (hf : C.prog.funcs[f]? = some fn) (hb : fn.body = some body) (hname : (fn.name == "runtime.NumGoroutine") = false)
    (hl : laidOutB C.prog = true) (hts : fn.params.toList.all (fun t => C.prog.readableRec t && decide (t < C.prog.types.size)) = true)
    (hres : fn.resultTypes = #[tb]) (htb : C.prog.underlying tb = some .bool)
    (hvars : s.vars = []) (hsf : ∀ ds : List (DataW H), ds.length = fn.params.size → (s.fn H ds).results = [.lit (.bool true)] ∧ (s.fn H ds).args = ds ∧ (s.fn H ds).vars = [])
    {sig : AS} (hfit : fitA C.prog sig fn.params.toList = true) {pre : sig.Ty → Bool} {p : sig.Ty → raB.Ty × List CS} (h : OkFn C.prog f (mkSpec sig raB pre p)) (hlaw : ∀ x, SmA sig x → pre x = true ∧ p x = ((true, ()), []))
    {W : World} {base : Nat} {args : Array Value} {ds gs : List (DataW H)} {before : List MemPlace}
    (hval : ∀ (j : Nat) t v, fn.params[j]? = some t → args[j]? = some v → Value.okWide C.prog W .any base t v)
    (hW : DataW.Whole enc C.prog fn.params.toList s.vars false W args.toList ds gs before) (hgq : GQ (fun k => W.heap[k]?)) :
    Calls C.prog f args W fun e W' => ∃ v, e = .returned v ∧ s.post enc C.prog fn false true false false W args v W' := by
  have hW0 := hW
  have hlt := hW.lt
  obtain ⟨q, q', hA, hV, rfl, _, _⟩ := hW
  rw [hvars] at hV
  obtain ⟨rfl, rfl⟩ := trodVars_none hV
  obtain ⟨x, hx, hu, hsz, hrel⟩ := open_args (P := C.prog) (W := W) sig fn.params.toList args.toList ds q hfit hA (fun j t v h1 h2 => ⟨.any, base, hval j t v (by simpa using h1) (by simpa using h2)⟩) 0
  obtain ⟨hpre, hp⟩ := hlaw x hx
  have hlen : ds.length = fn.params.size := by
    have := (trodAll_length hA).2
    simpa using this
  obtain ⟨r1, r2, r3⟩ := hsf ds hlen
  refine (calls_true_below hf hb hname h (hu _) hpre hp _ W hgq (by simpa using hsz.symm) (fun j c u h1 h2 => hrel j c u h1 (by simpa using h2))).mono fun e W' ⟨he, hbl⟩ => ⟨_, he, ?_⟩
  refine ⟨ds, [], q ++ [], [], q, [], hW0, ?_, ?_, ?_, hbl.frame _, fun h => nomatch h⟩
  · rw [List.append_nil, r1, hres]
    exact trodAll_mk1 (shut_bool htb _)
  · rw [List.append_nil, r2]
    exact trodAll_below hl hbl hts hA (fun x hx => hlt x (by simpa using hx))
  · rw [List.append_nil, r3, hvars]
    rfl

/-- **THE ROW OF A LAW** at a world whose tables are laid and whose variables are shaped -/
theorem law_row_shaped {H : Type} {enc : TypeId × Value → H} {C : Checked} {os : Os} {f : FuncId} {fn : Func} {body : Code} {s : ChangeSpec} {conds : List PathCond} {tb : TypeId} {laid : List (String × DataW Unit)}
    (own : ownKnob C.prog.godebug = none) (started : os.Started) (noInit : C.prog.inits.idxOf? f = none) (hf : C.prog.funcs[f]? = some fn) (hb : fn.body = some body) (hname : (fn.name == "runtime.NumGoroutine") = false)
    (witness : ∃ (w : World) (tape : Tape) (i : Input), w.os = os ∧ (w.forCall tape i).Shaped C.prog ∧ i.vars = [] ∧ Input.okWide C.prog (w.forCall tape i) .any w.heap.size f i ∧
      ((s.pre enc C.prog fn conds false (w.forCall tape i).memory i.args ∧ laidMet C.prog laid (w.forCall tape i).memory) ∧ sizedMet enc C.prog fn (OpenSpec.ofChange s) false (w.forCall tape i).memory i.args) ∧ Assume.holds {} C.prog (lone (Frame.enter C.prog f i.args .normal) [] (w.forCall tape i)))
    (hl : laidOutB C.prog = true) (hts : fn.params.toList.all (fun t => C.prog.readableRec t && decide (t < C.prog.types.size)) = true)
    (hres : fn.resultTypes = #[tb]) (htb : C.prog.underlying tb = some .bool)
    (hvars : s.vars = []) (hsf : ∀ ds : List (DataW H), ds.length = fn.params.size → (s.fn H ds).results = [.lit (.bool true)] ∧ (s.fn H ds).args = ds ∧ (s.fn H ds).vars = [])
    {sig : AS} (hfit : fitA C.prog sig fn.params.toList = true) {pre : sig.Ty → Bool} {p : sig.Ty → raB.Ty × List CS} (h : OkFn C.prog f (mkSpec sig raB pre p)) (hlaw : ∀ x, SmA sig x → pre x = true ∧ p x = ((true, ()), []))
    (hq : ∀ W : World, W.ShapedOpen C.prog → laidMet C.prog laid W → GQ (fun k => W.heap[k]?)) :
    ReturnsInHanded {} C os f .any (fun w args => (s.pre enc C.prog fn conds false w args ∧ laidMet C.prog laid w) ∧ sizedMet enc C.prog fn (OpenSpec.ofChange s) false w args) (s.post enc C.prog fn false true false false) := by
  refine returnsInHanded_of_calls own started noInit witness ?_
  intro w tape i _ hsh _ hok hpre _
  obtain ⟨_, _, _, fn', hfn', _, _, _, _, hval⟩ := hok
  have e : fn' = fn := Option.some.inj (hfn'.symm.trans hf)
  subst e
  obtain ⟨⟨⟨ds, gs, before, hw, _⟩, hL⟩, _⟩ := hpre
  refine (law_body hf hb hname hl hts hres htb hvars hsf hfit h hlaw hval (DataW.Whole.of_heap (w' := w.forCall tape i) (by rfl) hw) (hq (w.forCall tape i) hsh (hL.of_heap (by rfl)))).mono fun e W' ⟨v, he, hp⟩ => ?_
  subst he
  exact ChangeSpec.post_blind hp
end Go.Dv
