/- The row of a law whose program's tables are laid. -/
import Derived.Test.YtgfplcpjnlignaaDoorOr
import Derived.Handed
import Derived.SizedLaws
import Derived.LaidLaws
import Derived.Lib.LaidTab
import Derived.Lib.LaidU8

namespace Go.Dv
open Go.Cv Go.ChangeShapes Go.WideShapes Go.ChangeAt Go.RowKit Go.Joins

/-- **THE ROW OF A LAW, its program's tables laid** -/
theorem law_row_laid {H : Type} {enc : TypeId × Value → H} {C : Checked} {os : Os} {f : FuncId} {fn : Func} {body : Code} {s : ChangeSpec} {conds : List PathCond} {tb : TypeId} {laid : List (String × DataW Unit)}
    (own : ownKnob C.prog.godebug = none) (started : os.Started) (noInit : C.prog.inits.idxOf? f = none) (hf : C.prog.funcs[f]? = some fn) (hb : fn.body = some body) (hname : (fn.name == "runtime.NumGoroutine") = false)
    (witness : ∃ (w : World) (tape : Tape) (i : Input), w.os = os ∧ (w.forCall tape i).Shaped C.prog ∧ i.vars = [] ∧ Input.okWide C.prog (w.forCall tape i) .any w.heap.size f i ∧
      ((s.pre enc C.prog fn conds false (w.forCall tape i).memory i.args ∧ laidMet C.prog laid (w.forCall tape i).memory) ∧ sizedMet enc C.prog fn (OpenSpec.ofChange s) false (w.forCall tape i).memory i.args) ∧ Assume.holds {} C.prog (lone (Frame.enter C.prog f i.args .normal) [] (w.forCall tape i)))
    (hl : laidOutB C.prog = true) (hts : fn.params.toList.all (fun t => C.prog.readableRec t && decide (t < C.prog.types.size)) = true)
    (hres : fn.resultTypes = #[tb]) (htb : C.prog.underlying tb = some .bool)
    (hvars : s.vars = []) (hsf : ∀ ds : List (DataW H), ds.length = fn.params.size → (s.fn H ds).results = [.lit (.bool true)] ∧ (s.fn H ds).args = ds ∧ (s.fn H ds).vars = [])
    {sig : AS} (hfit : fitA C.prog sig fn.params.toList = true) {pre : sig.Ty → Bool} {p : sig.Ty → raB.Ty × List CS} (h : OkFn C.prog f (mkSpec sig raB pre p)) (hlaw : ∀ x, SmA sig x → pre x = true ∧ p x = ((true, ()), []))
    (hq : ∀ W : World, laidMet C.prog laid W → GQ (fun k => W.heap[k]?)) :
    ReturnsInHanded {} C os f .any (fun w args => (s.pre enc C.prog fn conds false w args ∧ laidMet C.prog laid w) ∧ sizedMet enc C.prog fn (OpenSpec.ofChange s) false w args) (s.post enc C.prog fn false true false false) := by
  refine returnsInHanded_of_change_and (X := fun w _ => laidMet C.prog laid w) (fun _ _ _ hh h => h.of_heap hh) own started noInit hf witness ?_
  intro W base args ds gs before hval hW _ _ hL _
  have hW0 := hW
  have hlt := hW.lt
  obtain ⟨q, q', hA, hV, rfl, _, _⟩ := hW
  rw [hvars] at hV
  obtain ⟨rfl, rfl⟩ := trodVars_none hV
  obtain ⟨x, hx, hu, hsz, hrel⟩ := open_args (P := C.prog) (W := W) sig fn.params.toList args.toList ds q hfit hA (fun j t v h1 h2 => ⟨.any, base, hval j t v (by simpa using h1) (by simpa using h2)⟩) 0
  obtain ⟨hpre, hp⟩ := hlaw x hx
  have hlen : ds.length = fn.params.size := by
    have := (trodAll_length hA).2
    simpa using this
  obtain ⟨r1, r2, r3⟩ := hsf ds hlen
  refine (calls_true_below hf hb hname h (hu _) hpre hp _ W (hq W hL) (by simpa using hsz.symm) (fun j c u h1 h2 => hrel j c u h1 (by simpa using h2))).mono fun e W' ⟨he, hbl⟩ => ⟨_, he, ?_⟩
  refine ⟨ds, [], q ++ [], [], q, [], hW0, ?_, ?_, ?_, hbl.frame _, fun h => nomatch h⟩
  · rw [List.append_nil, r1, hres]
    exact trodAll_mk1 (shut_bool htb _)
  · rw [List.append_nil, r2]
    exact trodAll_below hl hbl hts hA (fun x hx => hlt x (by simpa using hx))
  · rw [List.append_nil, r3, hvars]
    rfl
end Go.Dv
