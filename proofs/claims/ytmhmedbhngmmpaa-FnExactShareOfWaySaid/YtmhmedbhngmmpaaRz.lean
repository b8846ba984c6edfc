/- From a function's contract to the row of a law: any arguments. -/
import Derived.Test.YtmhmedbhngmmpaaRw
import Derived.Carry
import Derived.ChangeCalls
namespace Go.Cv
open Go.ChangeShapes Go.WideShapes Go.ChangeAt Go.RowKit Go.Joins

section
variable {H : Type} {enc : TypeId × Value → H} {P : Program}

theorem trodAll_below (hl : laidOutB P = true) {W W' : World} (hb : Below W.heap.size W W') : ∀ {ts : List TypeId} {vs : List Value} {ds : List (DataW H)} {ps : List MemPlace},
    ts.all (fun t => P.readableRec t && decide (t < P.types.size)) = true → DataW.TrodAll enc P W 0 (fun _ => true) true ts vs ds ps → (∀ x ∈ ps, x.block < W.heap.size) →
    DataW.TrodAll enc P W' 0 (fun b => decide (b < W.heap.size)) true ts vs ds ps
  | [], [], [], _, _, h, _ => h
  | _ :: _, _ :: _, _ :: _, _, ht, ⟨p, q, h1, h2, e⟩, hs => by
    rw [List.all_cons, Bool.and_eq_true, Bool.and_eq_true, decide_eq_true_eq] at ht
    exact ⟨p, q, Below.trod hl ht.1.1 ht.1.2 h1 hb (fun x hx => hs x (by rw [e]; exact List.mem_append_left _ hx)), trodAll_below hl hb ht.2 h2 (fun x hx => hs x (by rw [e]; exact List.mem_append_right _ hx)), e⟩

theorem below_of_grown {W W' : World} {g g' : Gh} (h : After W g W g' W') : Below W.heap.size W W' := h.ok.below
end

variable {P : Program}
theorem calls_true_below {f : FuncId} {fn : Func} {body : Code} (hf : P.funcs[f]? = some fn) (hb : fn.body = some body) (hname : (fn.name == "runtime.NumGoroutine") = false) {S : FSpec} (h : OkFn P f S)
    {args : List CV1} (hS : S (fun _ _ => none) args = some (true, .one (.s (.v (.bool true))), [])) (vals : Array Value) (W : World) (hsz : vals.size = args.length)
    (hrel : ∀ (j : Nat) c u, args[j]? = some c → vals[j]? = some u → rel1 (gOut W) c u) :
    Calls P f vals W (fun e W' => e = .returned (.bool true) ∧ Below W.heap.size W W' ∧ Grown W W') := by
  obtain ⟨_, hc⟩ := h _ args _ [] hS
  have h1 := hc (gOut W) W W vals hsz hrel (fun d hd => nomatch hd) (wok_out W)
  have hcall : (callFunc f vals).run P W = .ok (.enter f vals) W := by
    have hname' : ¬ fn.name = "runtime.NumGoroutine" := by simpa using hname
    simp [callFunc, hf, hname', hb]
  unfold CallOk at h1
  rw [hcall] at h1
  exact h1.mono fun e W' ⟨v, he, g', ha, hr⟩ => by
    have : v = .bool true := hr
    subst this
    exact ⟨he, ha.ok.below, grown_of_after ha⟩

/-- **THE ROW OF A LAW**: out of its contract, at arguments of any shape -/
theorem law_row {H : Type} {enc : TypeId × Value → H} {C : Checked} {os : Os} {f : FuncId} {fn : Func} {body : Code} {s : ChangeSpec} {conds : List PathCond} {tb : TypeId}
    (own : ownKnob C.prog.godebug = none) (started : os.Started) (noInit : C.prog.inits.idxOf? f = none) (hf : C.prog.funcs[f]? = some fn) (hb : fn.body = some body) (hname : (fn.name == "runtime.NumGoroutine") = false)
    (witness : ∃ (w : World) (tape : Tape) (i : Input), w.os = os ∧ (w.forCall tape i).Shaped C.prog ∧ i.vars = [] ∧ Input.okWide C.prog (w.forCall tape i) .any w.heap.size f i ∧
      s.pre6 enc C.prog fn conds false (w.forCall tape i).memory i.args ∧ Assume.holds {} C.prog (lone (Frame.enter C.prog f i.args .normal) [] (w.forCall tape i)))
    (hl : laidOutB C.prog = true) (hts : fn.params.toList.all (fun t => C.prog.readableRec t && decide (t < C.prog.types.size)) = true)
    (hres : fn.resultTypes = #[tb]) (htb : C.prog.underlying tb = some .bool)
    (hvars : s.vars = []) (hsf : ∀ ds : List (DataW H), ds.length = fn.params.size → (s.fn H ds).results = [.lit (.bool true)] ∧ (s.fn H ds).args = ds ∧ (s.fn H ds).vars = [])
    {S : FSpec} (h : OkFn C.prog f S)
    (hopen : ∀ (W : World) (base : Nat) (args : Array Value) (ds : List (DataW H)) (p : List MemPlace), DataW.TrodAll enc C.prog W 0 (fun _ => true) true fn.params.toList args.toList ds p →
      (∀ (j : Nat) t v, fn.params[j]? = some t → args[j]? = some v → Value.okWide C.prog W .any base t v) →
      ∃ cs : List CV1, S (fun _ _ => none) cs = some (true, .one (.s (.v (.bool true))), []) ∧ args.size = cs.length ∧ ∀ (j : Nat) c u, cs[j]? = some c → args[j]? = some u → rel1 (gOut W) c u) :
    ReturnsInHanded {} C os f .any (s.pre6 enc C.prog fn conds false) (s.post enc C.prog fn false true false false) := by
  refine returnsInHanded_of_change own started noInit hf witness ?_
  intro W base args ds gs before hval hW _ _
  have hW0 := hW
  have hlt := hW.lt
  obtain ⟨p, q, hA, hV, rfl, _, _⟩ := hW
  rw [hvars] at hV
  obtain ⟨rfl, rfl⟩ := trodVars_none hV
  obtain ⟨cs, hS, hsz, hrel⟩ := hopen W base args ds p hA hval
  have hlen : ds.length = fn.params.size := by
    have := (trodAll_length hA).2
    simpa using this
  obtain ⟨r1, r2, r3⟩ := hsf ds hlen
  refine (calls_true_below hf hb hname h hS _ W hsz hrel).mono fun e W' ⟨he, hbl, hg⟩ => ⟨_, he, ?_⟩
  refine ⟨ds, [], p ++ [], [], p, [], hW0, ?_, ?_, ?_, World.keptBut_mono (fun p hp => hp.elim) hg.1, fun h => nomatch h⟩
  · rw [List.append_nil, r1, hres]
    exact trodAll_mk1 (shut_bool htb _)
  · rw [List.append_nil, r2]
    exact trodAll_below hl hbl hts hA (fun x hx => hlt x (by simpa using hx))
  · rw [List.append_nil, r3, hvars]
    rfl
end Go.Cv
