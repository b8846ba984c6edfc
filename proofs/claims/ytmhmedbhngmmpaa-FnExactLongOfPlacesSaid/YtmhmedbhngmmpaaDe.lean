/- The model's operations do what 'cop' says (part 2): conversions, loads, stores, structs. -/
import Derived.Test.YtmhmedbhngmmpaaDd
namespace Go.Dv
open Go.RowKit Go.Cv

section
variable {P : Program} {α : Type}

theorem cun_sound {op : UnOp} {x : CV} {K : Eff → Tr α} {rv : α} (h : cun R op x K = some rv) :
    ∃ cv, K (.val cv []) = some rv ∧ ∀ g (w : World) u, relV g x u → ∃ r, (Op.unary op u).run P w = .ok r w ∧ relV g cv r := by
  unfold cun at h
  split at h
  · refine ⟨_, h, fun g w u hu => ?_⟩
    obtain rfl : u = _ := hu
    exact ⟨_, rfl, rfl⟩
  · refine ⟨_, h, fun g w u hu => ?_⟩
    obtain ⟨m, rfl, rfl, hm⟩ := hu
    obtain ⟨r, hr, hc, hl⟩ := run_float_neg (P := P) w _ m hm
    exact ⟨_, hr, r, rfl, hc, hl⟩
  · refine ⟨_, h, fun g w u hu => ?_⟩
    obtain rfl : u = _ := hu
    exact ⟨_, rfl, rfl⟩
  · cases h

theorem tyFloat_spec {T : TypeId} {k : FloatKind} (h : tyFloat P T = some k) : P.underlying T = some (.float k) := by
  unfold tyFloat at h; split at h
  · cases h; assumption
  · cases h
theorem tyInt_spec {T : TypeId} {k : IntKind} (h : tyInt P T = some k) : P.underlying T = some (.int k) := by
  unfold tyInt at h; split at h
  · cases h; assumption
  · cases h

/-- a float32 is a float64 -/
theorem fwid_some (n : Nat) : fconv .f32 n .f64 = some (fwid n) := by
  have key : (fconv .f32 n .f64).isSome = true := by
    unfold fconv
    rw [if_neg (by decide)]
    cases hn : isNan .f32 n
    · simp only [Bool.false_eq_true, if_false]
      unfold floatToFloatBits
      rw [if_neg (by decide)]
      exact wid_ok n hn
    · simp
  obtain ⟨r, hr⟩ := Option.isSome_iff_exists.1 key
  unfold fwid; rw [hr]; rfl

theorem cconv_sound {src dst : TypeId} {x : CV} {K : Eff → Tr α} {rv : α} (h : cconv R P src dst x K = some rv) :
    ∃ cv, K (.val cv []) = some rv ∧ ∀ g (w : World) u, relV g x u → ∃ r n, (convert src dst u).run P w = .ok r (w.drewN n) ∧ relV g cv r := by
  unfold cconv at h
  have hbr := brT_req h; clear h; obtain ⟨hs, h⟩ := hbr
  split at h
  · rename_i s a
    split at h
    · rename_i k hd
      have fin : ∀ c, K (.val (fl k c) []) = some rv → (∀ m, m < lim s → cn s m = a → fconv s (cn s m) k = some c) → ∃ cv, K (.val cv []) = some rv ∧ ∀ g (w : World) u, relV g (.one (.s (.fl s a))) u → ∃ r n, (convert src dst u).run P w = .ok r (w.drewN n) ∧ relV g cv r := fun c h1 h2 => by
        refine ⟨_, h1, fun g w u hu => ?_⟩
        obtain ⟨m, rfl, he, hm⟩ := hu
        obtain ⟨r, n, hr, h3, h4⟩ := run_float_conv (P := P) w src dst s k m c hm hs (tyFloat_spec hd) (h2 m hm he)
        exact ⟨_, n, hr, r, rfl, h3, h4⟩
      split at h
      · exact fin _ h fun m hm he => by rw [he]; exact fwid_some a
      · obtain ⟨hc, h⟩ := brT_req h
        obtain ⟨c, hc⟩ := Option.isSome_iff_exists.1 (show (fconv .f64 a .f32).isSome = true from hc)
        exact fin _ h fun m hm he => by rw [he]; show _ = some ((fconv .f64 a .f32).getD 0); rw [hc]; rfl
      · exact fin _ h fun m hm he => by rw [he]; unfold fconv; rw [if_pos rfl, ← he, cn_idem]
      · exact fin _ h fun m hm he => by rw [he]; unfold fconv; rw [if_pos rfl, ← he, cn_idem]
    · split at h
      · rename_i k hd
        obtain ⟨hc, h⟩ := brT_req h
        obtain ⟨c, hc⟩ := Option.isSome_iff_exists.1 (show (ftoi s a k).isSome = true from hc)
        refine ⟨_, h, fun g w u hu => ?_⟩
        obtain ⟨m, rfl, he, hm⟩ := hu
        obtain ⟨r, n, hr, h1⟩ := run_float_int (P := P) w src dst _ k m hs (tyInt_spec hd)
        refine ⟨_, n, hr, ?_⟩
        rw [h1 c (by rw [he]; exact hc)]
        show _ = Value.int k ((ftoi s a k).getD 0)
        rw [hc]; rfl
      · cases h
  · rename_i q n
    split at h
    · rename_i k hd
      refine ⟨_, h, fun g w u hu => ?_⟩
      obtain rfl : u = _ := hu
      exact ⟨_, 0, run_convert_int_float w src dst q k n hs (tyFloat_spec hd), _, rfl, rfl, (k.format.write_lt (.number (decide (n < 0)) n.natAbs 0) : floatOfInt k n < 2 ^ k.format.width)⟩
    · split at h
      · rename_i k hd
        refine ⟨_, h, fun g w u hu => ?_⟩
        obtain rfl : u = _ := hu
        refine ⟨_, 0, ?_, rfl⟩
        obtain ⟨d, hs'⟩ := Option.isSome_iff_exists.1 hs
        simp [convert, run_underlying hs', run_underlying (tyInt_spec hd), Conv.intToInt]; rfl
      · cases h
  · cases h


theorem mem_ops {o : Oper} {s : St} {g : Gh} {a : Act} {x : Operand} (h : ∀ x ∈ o.op.operands.toList, relV g (s.ev x) (a.eval x)) (hx : x ∈ o.op.operands.toList) : relV g (s.ev x) (a.eval x) := h x hx

theorem tyShape_spec {T : TypeId} {ag : Bool} {n : Nat} (h : tyShape P T = some (ag, n)) :
    ∃ d i, P.underlying T = some d ∧ P.info? T = some i ∧ i.size = n ∧ (∀ w : World, (isAgg T).run P w = .ok ag w) := by
  unfold tyShape at h
  split at h
  · rename_i fs i h1 h2; cases h
    exact ⟨_, i, h1, h2, rfl, fun w => by simp [isAgg, run_underlying h1]⟩
  · rename_i k e i h1 h2; cases h
    exact ⟨_, i, h1, h2, rfl, fun w => by simp [isAgg, run_underlying h1]⟩
  · rename_i d i h3 h4 h1 h2; cases h
    refine ⟨d, i, h1, h2, rfl, fun w => ?_⟩
    cases d <;> first | exact (h3 _ rfl).elim | exact (h4 _ _ rfl).elim | simp [isAgg, run_underlying h1]
  · cases h

theorem readFrom_length {hp : Hp} {id : Nat} : ∀ {n off : Nat} {cs : List CS}, readFrom hp id off n = some cs → cs.length = n
  | 0, off, cs, h => by simp only [readFrom] at h; cases h; rfl
  | n + 1, off, cs, h => by
    simp only [readFrom] at h
    split at h
    · split at h
      · rename_i c _ cs' h'; cases h; simp [readFrom_length h']
      · cases h
    · cases h

theorem readFrom_get {hp : Hp} {id : Nat} : ∀ {n off : Nat} {cs : List CS}, readFrom hp id off n = some cs → ∀ j c, cs[j]? = some c → hp id (off + j) = some c
  | 0, off, cs, h => by simp only [readFrom] at h; cases h; intro j c hj; simp at hj
  | n + 1, off, cs, h => by
    simp only [readFrom] at h
    split at h
    · rename_i c0 h0
      split at h
      · rename_i cs' h'; cases h
        intro j c hj
        cases j with
        | zero => simp at hj; subst hj; exact h0
        | succ j => simp at hj; have := readFrom_get h' j c hj; rw [← this]; congr 1; omega
      · cases h
    · cases h

theorem mem_depsOf {id : Nat} : ∀ {cs : List CS} {off : Nat} {d : Dep}, d ∈ depsOf id off cs → ∃ j c, cs[j]? = some c ∧ d = (id, off + j, c)
  | [], off, d, h => by cases h
  | c :: cs, off, d, h => by
    simp only [depsOf, List.mem_cons] at h
    rcases h with rfl | h
    · exact ⟨0, c, rfl, rfl⟩
    · obtain ⟨j, c', hj, rfl⟩ := mem_depsOf h
      exact ⟨j + 1, c', by simpa using hj, by congr 2; omega⟩

theorem depsOf_mem {id : Nat} : ∀ {cs : List CS} {off : Nat} (j : Nat) (c : CS), cs[j]? = some c → (id, off + j, c) ∈ depsOf id off cs
  | [], off, j, c, h => by simp at h
  | c0 :: cs, off, j, c, h => by
    cases j with
    | zero => simp at h; subst h; simp [depsOf]
    | succ j =>
      simp only [depsOf, List.mem_cons]
      right
      have := depsOf_mem (id := id) (off := off + 1) j c (by simpa using h)
      have e : off + (j + 1) = off + 1 + j := by omega
      rw [e]; exact this

theorem run_load_at (w : World) {T : TypeId} {ag : Bool} {cs : List CS} {v : CV} {g : Gh} {b off : Nat} {arr : Array Value} {T' : TypeId} {fr : Nat × Nat}
    (hs : tyShape P T = some (ag, cs.length)) (hv : mkVal ag cs = some v) (hb : 0 < cs.length → w.heap[b]? = some (.cells arr T' fr))
    (hc : ∀ (j : Nat) c, cs[j]? = some c → ∃ u, arr[off + j]? = some u ∧ rel g c u) :
    ∃ r, (Instr.loadAt T (.pointer (some ⟨b, off, none⟩))).run P w = .ok r w ∧ relV g v r := by
  obtain ⟨d, i, hd, hi, hn, hag⟩ := tyShape_spec hs
  have hadd : ∀ j, (⟨b, off, none⟩ : Addr).add j = ⟨b, off + j, none⟩ := fun j => by unfold Addr.add; split <;> simp_all
  have hlen : ∀ j, j < cs.length → off + j < arr.size := fun j hj => by
    obtain ⟨u, hu, _⟩ := hc j cs[j] (by simp [hj])
    rcases Nat.lt_or_ge (off + j) arr.size with h | h
    · exact h
    · rw [Array.getElem?_eq_none h] at hu; cases hu
  cases ag with
  | true =>
    cases hv
    have hus : ((arr.toList.drop off).take cs.length).length = cs.length := by
      simp
      rcases Nat.eq_zero_or_pos cs.length with h0 | h0
      · omega
      · have := hlen (cs.length - 1) (by omega); omega
    have hget : ∀ (j : Nat) u, ((arr.toList.drop off).take cs.length)[j]? = some u → arr[off + j]? = some u ∧ j < cs.length := fun j u h => by
      rw [List.getElem?_take] at h
      split at h
      · simp at h; exact ⟨by simpa using h, by assumption⟩
      · cases h
    refine ⟨.agg ((arr.toList.drop off).take cs.length).toArray, ?_, _, rfl, by simpa using hus, fun j c u h1 h2 => ?_⟩
    · have hl := run_loadCells_list (P := P) w ⟨b, off, none⟩ ((arr.toList.drop off).take cs.length) (fun j v hj => by
        obtain ⟨h1, h2⟩ := hget j v hj
        rw [hadd]; simp [World.cell?, hb (by omega), h1])
      rw [hus] at hl
      simp [Instr.loadAt, Instr.sureAddr, loadVar, hag, sizeOf, typeInfo, hi, hn, hl]
    · have h2' : ((arr.toList.drop off).take cs.length)[j]? = some u := by simpa using h2
      obtain ⟨u', hu', hr⟩ := hc j c h1
      obtain ⟨h3, _⟩ := hget j u h2'
      rw [h3] at hu'; cases hu'; exact hr
  | false =>
    unfold mkVal at hv
    simp only at hv
    split at hv
    · rename_i c; cases hv
      obtain ⟨u, hu, hr⟩ := hc 0 c rfl
      refine ⟨u, ?_, hr⟩
      have hcell : w.cell? ⟨b, off, none⟩ = some u := by simp [World.cell?, hb (by simp)]; simpa using hu
      simp [Instr.loadAt, Instr.sureAddr, loadVar, hag, hcell]
    · cases hv


theorem plainCell {g : Gh} {w : World} {id off : Nat} {c : CS} (hp : plain c = true) (h : CellRel g w id off c) : ∃ b arr T u, g.β id = some b ∧ w.heap[b]? = some (.cells arr T (0, 0)) ∧ arr[off]? = some u ∧ rel g c u := by
  rcases h with ⟨e, l, rfl, _⟩ | h
  · cases hp
  · exact h

theorem load_sound {o : Oper} {s : St} {T : TypeId} {x : Operand} {ag : Bool} {cs : List CS} {v : CV} {id off : Nat} (ho : o.op = .load T x)
    (hs : tyShape P T = some (ag, cs.length)) (hx : s.ev x = .one (.s (.ptr id off))) (hr : readFrom s.hp id off cs.length = some cs) (hpl : cs.all plain = true) (hv : mkVal ag cs = some v) :
    EffOk P o s (.val v (depsOf id off cs)) := by
  refine ⟨fun d hd => ?_, fun X g w0 w a K Q hops hdeps hw _ hk => ?_⟩
  · obtain ⟨j, c, hj, rfl⟩ := mem_depsOf hd
    exact readFrom_get hr j c hj
  · have hxa := hops x (by rw [ho]; simp [Op.operands])
    rw [hx] at hxa
    obtain ⟨b, hb, hxe⟩ := hxa
    have hcell : ∀ (j : Nat) c, cs[j]? = some c → ∃ arr T u, w.heap[b]? = some (.cells arr T (0, 0)) ∧ arr[off + j]? = some u ∧ rel g c u := fun j c hj => by
      obtain ⟨b', arr, T, u, h1, h2, h3, h4⟩ := plainCell (List.all_eq_true.1 hpl c (List.mem_of_getElem? hj)) (hdeps _ (depsOf_mem (id := id) (off := off) j c hj))
      rw [hb] at h1; cases h1
      exact ⟨arr, T, u, h2, h3, h4⟩
    have hex : ∃ arr T', (0 < cs.length → w.heap[b]? = some (.cells arr T' (0, 0))) ∧ ∀ (j : Nat) c, cs[j]? = some c → ∃ u, arr[off + j]? = some u ∧ rel g c u := by
      cases cs with
      | nil => exact ⟨#[], 0, by simp, fun j c hj => by simp at hj⟩
      | cons c0 cs' =>
        obtain ⟨arr, T', u, h2, h3, h4⟩ := hcell 0 c0 rfl
        refine ⟨arr, T', fun _ => h2, fun j c hj => ?_⟩
        obtain ⟨arr', T'', u', h2', h3', h4'⟩ := hcell j c hj
        rw [h2] at h2'; cases h2'
        exact ⟨u', h3', h4'⟩
    obtain ⟨arr, T', hb', hcc⟩ := hex
    obtain ⟨r, hrun, hrel⟩ := run_load_at (P := P) w hs hv hb' hcc
    refine wp_of_run (w' := w) ?_ (hk r g w (After.refl hw) hrel)
    simp [execOp, ho, hxe, hrun]

theorem load_ip_sound {o : Oper} {s : St} {T : TypeId} {x : Operand} {ag : Bool} {n m : Nat} {f : Nat → CS} {v : CV} (ho : o.op = .load T x)
    (hs : tyShape P T = some (ag, n)) (hx : s.ev x = .one (.s (.ip m f))) (hm : n ≤ m) (hv : mkVal ag ((List.range n).map f) = some v) :
    EffOk P o s (.val v []) := by
  refine ⟨(fun _ h => by cases h), fun X g w0 w a K Q hops hdeps hw _ hk => ?_⟩
  have hxa := hops x (by rw [ho]; simp [Op.operands])
  rw [hx] at hxa
  obtain ⟨b, off, hxe, hc⟩ := hxa
  have hget : ∀ (j : Nat) c, ((List.range n).map f)[j]? = some c → c = f j ∧ j < n := fun j c hj => by
    rw [List.getElem?_map] at hj
    rcases Nat.lt_or_ge j n with h | h
    · rw [List.getElem?_range h] at hj; simp at hj; exact ⟨hj.symm, h⟩
    · rw [List.getElem?_eq_none (by simpa using h)] at hj; simp at hj
  have hex : ∃ arr T' fr, (0 < ((List.range n).map f).length → w.heap[b]? = some (.cells arr T' fr)) ∧ ∀ (j : Nat) c, ((List.range n).map f)[j]? = some c → ∃ u, arr[off + j]? = some u ∧ rel g c u := by
    rcases Nat.eq_zero_or_pos n with h0 | h0
    · subst h0; exact ⟨#[], 0, (0, 0), by simp, fun j c hj => by simp at hj⟩
    · obtain ⟨u, ⟨arr, T', fr, h1, h2⟩, h3⟩ := hc 0 (by omega)
      refine ⟨arr, T', fr, fun _ => hw.bi _ _ h1, fun j c hj => ?_⟩
      obtain ⟨rfl, hj'⟩ := hget j c hj
      obtain ⟨u', ⟨arr', T'', fr', h1', h2'⟩, h3'⟩ := hc j (by omega)
      rw [h1] at h1'; cases h1'
      exact ⟨u', h2', h3'⟩
  obtain ⟨arr, T', fr, hb', hcc⟩ := hex
  obtain ⟨r, hrun, hrel⟩ := run_load_at (P := P) w (by simpa using hs) hv hb' hcc
  refine wp_of_run (w' := w) ?_ (hk r g w (After.refl hw) hrel)
  simp [execOp, ho, hxe, hrun]

/-- an element of an array of the call's own, cell by cell -/
theorem ArrRel.elem {g : Gh} {w : World} {id : Nat} {e : Sh} {l : List e.Ty} (h : ArrRel g w id e l) {i : Nat} (hi : i < l.length) : ∃ b arr T, g.β id = some b ∧ w.heap[b]? = some (.cells arr T (0, 0)) ∧ i * e.size + e.size ≤ arr.size ∧
    ∀ j c, (cells false e (l.getD i e.dflt))[j]? = some c → ∃ u, arr[i * e.size + j]? = some u ∧ rel g c u := by
  rcases h with ⟨h1, _⟩ | ⟨b, arr, T, h1, h2, h3, h4, h5⟩
  · subst h1; simp at hi
  · refine ⟨b, arr, T, h1, h2, ?_, ?_⟩
    · rw [h3]
      have : (i + 1) * e.size ≤ g.cp id * e.size := Nat.mul_le_mul_right _ (by omega)
      rw [Nat.add_mul] at this; omega
    · intro j c hj
      have h6 := h5 i l[i] (by simp [hi])
      have e1 : l.getD i e.dflt = l[i] := by simp [List.getD, hi]
      rw [e1] at hj
      exact (relT_cells (g := g) (bw := false) e l[i] _).1 h6 j c hj

theorem load_pe_sound {o : Oper} {s : St} {T : TypeId} {x : Operand} {ag : Bool} {n id i k : Nat} {e : Sh} {l : List e.Ty} {v : CV} (ho : o.op = .load T x)
    (hs : tyShape P T = some (ag, n)) (hx : s.ev x = .one (.s (.pe id e.size i k))) (hh : s.hp id 0 = some (.arr e l)) (hi : i < l.length) (hk : k + n ≤ e.size) (hv : mkVal ag (((cells false e (l.getD i e.dflt)).drop k).take n) = some v) :
    EffOk P o s (.val v [(id, 0, .arr e l)]) := by
  refine ⟨fun d hd => by simp at hd; subst hd; exact hh, fun X g w0 w a K Q hops hdeps hw _ hkk => ?_⟩
  have hxa := hops x (by rw [ho]; simp [Op.operands])
  rw [hx] at hxa
  obtain ⟨b, hb, hxe⟩ := hxa
  have hd := hdeps _ (List.mem_singleton.2 rfl)
  rcases hd with ⟨e', l', h1, _, h3⟩ | ⟨_, _, _, _, _, _, _, h⟩
  · cases h1
    obtain ⟨b', arr, T', h4, h5, h6, h7⟩ := h3.elem hi
    rw [hb] at h4; cases h4
    have hcl := cells_length false e (l.getD i e.dflt)
    have hlen : (((cells false e (l.getD i e.dflt)).drop k).take n).length = n := by rw [List.length_take, List.length_drop, hcl]; omega
    obtain ⟨r, hrun, hrel⟩ := run_load_at (P := P) (off := i * e.size + k) w (by rw [hlen]; exact hs) hv (fun _ => h5) (g := g) (fun j c hj => by
      rw [List.getElem?_take] at hj
      split at hj
      · rw [List.getElem?_drop] at hj
        obtain ⟨u, h8, h9⟩ := h7 _ c hj
        exact ⟨u, by rw [← h8]; congr 1; omega, h9⟩
      · cases hj)
    refine wp_of_run (w' := w) ?_ (hkk r g w (After.refl hw) hrel)
    simp [execOp, ho, hxe, hrun]
  · exact h.elim

theorem zeroCells_spec {T : TypeId} {cs : List CS} (h : zeroCells P T = some cs) : ∃ i z, P.info? T = some i ∧ i.zero = some z ∧ cs = z.cells.toList.map ofCell := by
  unfold zeroCells at h
  split at h
  · rename_i i hi
    split at h
    · rename_i z hz; cases h; exact ⟨i, z, hi, hz, rfl⟩
    · cases h
  · cases h

theorem ofCell_notArr (x : Value) : notArr (some (ofCell x)) = true := by
  cases x with
  | float k n =>
    show notArr (some (bif Nat.blt n (lim k) && !isNan k n then .fl k n else .v (.float k n))) = true
    cases (Nat.blt n (lim k) && !isNan k n) <;> rfl
  | complex k a b =>
    show notArr (some (bif (Nat.blt a (lim k) && !isNan k a) && (Nat.blt b (lim k) && !isNan k b) then .cx k a b else .v (.complex k a b))) = true
    cases ((Nat.blt a (lim k) && !isNan k a) && (Nat.blt b (lim k) && !isNan k b)) <;> rfl
  | func f fi ca =>
    show notArr (some (if fi.size = 0 then .fn f ca.size (fun j => .v (ca.getD j undef)) else .v (.func f fi ca))) = true
    by_cases h : fi.size = 0
    · rw [if_pos h]; rfl
    · rw [if_neg h]; rfl
  | _ => rfl
theorem ofCell_arr (x : Value) : ∀ e l, ofCell x ≠ .arr e l := by
  intro e l h
  have := ofCell_notArr x
  rw [h] at this; cases this

theorem alloc_sound {o : Oper} {s : St} {T : TypeId} {cs : List CS} (ho : o.op = .alloc T) (hz : zeroCells P T = some cs) : EffOk P o s (.new cs) := by
  obtain ⟨i, z, hi, hz2, rfl⟩ := zeroCells_spec hz
  refine ⟨fun c hc e l => ?_, ?_⟩
  · simp at hc
    obtain ⟨x, _, rfl⟩ := hc
    exact ofCell_arr x e l
  intro g w a K Q hops hk
  refine wp_of_run (w' := w.alloc (.cells z.cells T)) (v := .pointer (some ⟨w.heap.size, 0, none⟩)) ?_ (hk z.cells T (by simp) fun j c u h1 h2 => ?_)
  · simp [execOp, ho, Instr.alloc, zeroValue, typeInfo, hi, hz2, newVar, newRow]
  · simp at h1
    obtain ⟨x, hx, rfl⟩ := h1
    rw [hx] at h2; cases h2
    exact rel_ofCell g _

theorem box_sound {o : Oper} {s : St} {T : TypeId} {x : Operand} {cs : List CS} (ho : o.op = .box T x) (hc : cellsOf (s.ev x) = some cs) (hp : cs.all plain = true) : EffOk P o s (.new cs) := by
  refine ⟨fun c hc e l he => ?_, ?_⟩
  · have := List.all_eq_true.1 hp c hc; rw [he] at this; cases this
  intro g w a K Q hops hk
  have hxa := hops x (by rw [ho]; simp [Op.operands])
  obtain ⟨h1, h2⟩ := cells_rel hc hp hxa
  refine wp_of_run (w' := w.alloc (.cells (a.eval x).cells T)) (v := .pointer (some ⟨w.heap.size, 0, none⟩)) ?_ (hk _ T h1 fun j c u h3 h4 => (h2 j c u h3 h4).1)
  simp [execOp, ho, Instr.box, newVar, newRow]

/-- what is stored, and how the model stores it -/
theorem run_store_at {o : Oper} {T : TypeId} {ad x : Operand} {ag : Bool} {n : Nat} {cs : List CS} {xv : CV} (ho : o.op = .store T ad x) (hs : tyShape P T = some (ag, n))
    (hc : cellsOf xv = some cs) (hn : cs.length = n) (hp : cs.all plain = true) {g : Gh} {w : World} {a : Act} {b off : Nat} {arr : Array Value} {T' : TypeId} (hxa : relV g xv (a.eval x))
    (he : a.eval ad = .pointer (some ⟨b, off, none⟩)) (hh : w.heap[b]? = some (.cells arr T' (0, 0))) (hl : off + cs.length ≤ arr.size) :
    ∃ us : List Value, us.length = cs.length ∧ (∀ (j : Nat) c u, cs[j]? = some c → us[j]? = some u → rel g c u) ∧
      (execOp a.eval o).run P w = .ok .skip (w.setRow b (arr.toList.take off ++ us ++ arr.toList.drop (off + us.length)).toArray) := by
  obtain ⟨h1, h2⟩ := cells_rel hc hp hxa
  obtain ⟨d, i, hd, hi, hsz, hag⟩ := tyShape_spec hs
  have hone : ∀ v ∈ (a.eval x).cells.toList, v.oneCell' = true := fun v hv => by
    obtain ⟨j, hj⟩ := List.getElem?_of_mem hv
    have hj' : (a.eval x).cells[j]? = some v := by simpa using hj
    have hjl : j < cs.length := by
      rw [← h1]
      rcases Nat.lt_or_ge j (a.eval x).cells.size with h | h
      · exact h
      · rw [Array.getElem?_eq_none h] at hj'; cases hj'
    obtain ⟨h3, h4⟩ := h2 j cs[j] v (by simp [hjl]) hj'
    have h5 := plain_cells h4 h3
    cases v <;> first | rfl | exact (h5.2.1 _ rfl).elim | exact (h5.2.2 _ rfl).elim
  have hrun := run_storeCells_at (P := P) b off T' (a.eval x).cells.toList 0 arr w hh (by simpa [h1] using hl) hone
  refine ⟨(a.eval x).cells.toList, by simpa using h1, fun j c u h3 h4 => (h2 j c u h3 (by simpa using h4)).1, ?_⟩
  have hsz' : (a.eval x).cells.size = i.size := by rw [h1, hsz, hn]
  simp only [Nat.add_zero] at hrun
  simp [execOp, ho, he, Instr.storeAt, Instr.sureAddr, storeVar, sizeOf, typeInfo, hi, hsz', hrun]

theorem store_sound {o : Oper} {s : St} {T : TypeId} {ad x : Operand} {ag : Bool} {n id off : Nat} {cs cs' : List CS} (ho : o.op = .store T ad x) (hs : tyShape P T = some (ag, n))
    (ha : s.ev ad = .one (.s (.ptr id off))) (hc : cellsOf (s.ev x) = some cs) (h0 : 0 < n) (hn : cs.length = n) (hp : cs.all plain = true) (hr : readFrom s.hp id off n = some cs') (hp' : cs'.all plain = true) (hna : ∀ e l, s.hp id 0 ≠ some (.arr e l)) :
    EffOk P o s (.put id off cs) := by
  refine ⟨⟨by omega, fun j hj => ?_, hna, fun c hc => List.all_eq_true.1 hp c hc⟩, ?_⟩
  · have hl := readFrom_length hr
    have hlt : j < cs'.length := by omega
    exact ⟨cs'[j], readFrom_get hr j cs'[j] (by simp [hlt]), List.all_eq_true.1 hp' _ (List.getElem_mem hlt)⟩
  · intro g w a K Q b arr T' hops hb hh hl hk
    have hxa := hops x (by rw [ho]; simp [Op.operands])
    have hadr := hops ad (by rw [ho]; simp [Op.operands])
    rw [ha] at hadr
    obtain ⟨b', hb', he⟩ := hadr
    rw [hb] at hb'; cases hb'
    obtain ⟨us, h1, h2, h3⟩ := run_store_at ho hs hc hn hp hxa he hh hl
    exact wp_of_skip h3 (hk us h1 h2)

theorem over_length {cells : List CS} {off : Nat} {cs : List CS} (h : off + cs.length ≤ cells.length) : (over cells off cs).length = cells.length := by
  simp [over]; omega

theorem over_get {cells : List CS} {off : Nat} {cs : List CS} (h : off + cs.length ≤ cells.length) (j : Nat) :
    (over cells off cs)[j]? = if off ≤ j ∧ j < off + cs.length then cs[j - off]? else cells[j]? := by
  unfold over
  rw [List.append_assoc]
  rcases Nat.lt_or_ge j off with h1 | h1
  · rw [if_neg (by omega), List.getElem?_append_left (by simp; omega), List.getElem?_take_of_lt h1]
  · rw [List.getElem?_append_right (by simp; omega)]
    have e : (cells.take off).length = off := by simp; omega
    rw [e]
    rcases Nat.lt_or_ge j (off + cs.length) with h2 | h2
    · rw [if_pos ⟨h1, h2⟩, List.getElem?_append_left (by omega)]
    · rw [if_neg (by omega), List.getElem?_append_right (by omega), List.getElem?_drop]
      congr 1; omega

/-- the fold by which 'Instr.fill' lays a part's cells -/
theorem fill_fold (off : Nat) : ∀ (vs : List Value) (k : Nat) (cells : Array Value), off + k + vs.length ≤ cells.size →
    ((vs.zipIdx k).foldl (fun cs (c, j) => cs.setIfInBounds (off + j) c) cells).size = cells.size ∧
    ∀ j, ((vs.zipIdx k).foldl (fun cs (c, j) => cs.setIfInBounds (off + j) c) cells)[j]? = if off + k ≤ j ∧ j < off + k + vs.length then vs[j - (off + k)]? else cells[j]?
  | [], k, cells, h => by simp; intro j h1 h2; omega
  | v :: vs, k, cells, h => by
    simp only [List.zipIdx_cons, List.foldl_cons]
    have ih := fill_fold off vs (k + 1) (cells.setIfInBounds (off + k) v) (by simp at h ⊢; omega)
    refine ⟨by rw [ih.1]; simp, fun j => ?_⟩
    rw [ih.2]
    simp only [List.length_cons] at h ⊢
    by_cases h1 : off + (k + 1) ≤ j ∧ j < off + (k + 1) + vs.length
    · rw [if_pos h1, if_pos (by omega)]
      have e : j - (off + k) = (j - (off + (k + 1))) + 1 := by omega
      rw [e]; simp
    · rw [if_neg h1]
      by_cases h2 : off + k = j
      · subst h2
        rw [if_pos (by omega), Array.getElem?_setIfInBounds_self]
        simp; omega
      · rw [Array.getElem?_setIfInBounds_ne h2, if_neg (by omega)]

/-- cells of a struct, one by one -/
def CellsRel (g : Gh) (cs : List CS) (arr : Array Value) : Prop := arr.size = cs.length ∧ ∀ (j : Nat) c u, cs[j]? = some c → arr[j]? = some u → rel g c u

theorem fill_sound {g : Gh} {places : List (Nat × Nat)} : ∀ {ps : List (Nat × List CS)} {vs : List (Nat × Value)} {cells cs : List CS} {arr : Array Value}, fillC places cells ps = some cs → CellsRel g cells arr →
    ps.length = vs.length → (∀ (j : Nat) p v, ps[j]? = some p → vs[j]? = some v → p.1 = v.1 ∧ CellsRel g p.2 v.2.cells) →
    ∃ arr', Instr.fill (places.toArray[·]?) arr vs = some arr' ∧ CellsRel g cs arr'
  | [], [], cells, cs, arr, h, hc, _, _ => by
    simp only [fillC] at h; cases h
    exact ⟨arr, rfl, hc⟩
  | [], _ :: _, _, _, _, _, _, hl, _ => by simp at hl
  | _ :: _, [], _, _, _, _, _, hl, _ => by simp at hl
  | (i, p) :: ps, (i', v) :: vs, cells, cs, arr, h, hc, hl, hr => by
    simp only [fillC] at h
    obtain ⟨rfl, hp⟩ := hr 0 (i, p) (i', v) rfl rfl
    split at h
    · rename_i off size hpl
      by_cases hsz : p.length = size ∧ off + p.length ≤ cells.length
      · rw [if_pos hsz] at h
        obtain ⟨hs1, hs2⟩ := hsz
        have hff := fill_fold off v.cells.toList 0 arr (by simp only [Array.length_toList]; have := hp.1; have := hc.1; simp only at *; omega)
        obtain ⟨arr', h1, h2⟩ := fill_sound (ps := ps) (vs := vs) (arr := ((v.cells.toList.zipIdx 0).foldl (fun cs (c, j) => cs.setIfInBounds (off + j) c) arr)) h (by
          refine ⟨by rw [hff.1, over_length hs2]; exact hc.1, fun j c u h3 h4 => ?_⟩
          rw [over_get hs2] at h3
          rw [hff.2] at h4
          simp only [Nat.add_zero, Array.length_toList] at h4
          have e : v.cells.size = p.length := hp.1
          rw [e] at h4
          by_cases hj : off ≤ j ∧ j < off + p.length
          · rw [if_pos hj] at h3 h4
            exact hp.2 _ c u h3 (by simpa using h4)
          · rw [if_neg hj] at h3 h4
            exact hc.2 _ c u h3 h4) (by simpa using hl) (fun j p v h3 h4 => hr (j + 1) p v (by simpa using h3) (by simpa using h4))
        refine ⟨arr', ?_, h2⟩
        have hpl' : places.toArray[i]? = some (off, size) := by simpa using hpl
        simp only [Instr.fill, hpl']
        have e : v.cells.size = p.length := hp.1
        rw [if_neg (by simp only [e, hs1]; have := hc.1; simp; omega)]
        rw [← h1]
        congr 1
        rw [← Array.foldl_toList, Array.toList_zipIdx]
      · rw [if_neg hsz] at h; cases h
    · cases h

theorem partsOf_rel {g : Gh} {ev : Operand → CV} {a : Act} : ∀ {parts : List (Nat × Operand)} {ps : List (Nat × List CS)}, partsOf ev parts = some ps → (∀ x ∈ parts, relV g (ev x.2) (a.eval x.2)) →
    ps.length = (parts.map fun (i, x) => (i, a.eval x)).length ∧ ∀ (j : Nat) p v, ps[j]? = some p → (parts.map fun (i, x) => (i, a.eval x))[j]? = some v → p.1 = v.1 ∧ CellsRel g p.2 v.2.cells
  | [], ps, h, _ => by simp only [partsOf] at h; cases h; exact ⟨rfl, fun j p v h => by simp at h⟩
  | (i, x) :: rest, ps, h, hr => by
    simp only [partsOf] at h
    split at h
    · rename_i cs hcs
      by_cases hp : cs.all plain = true
      · rw [if_pos hp] at h
        split at h
        · rename_i ps' hps'; cases h
          obtain ⟨h1, h2⟩ := partsOf_rel hps' (fun x hx => hr x (by simp [hx]))
          refine ⟨by simpa using h1, fun j p v h3 h4 => ?_⟩
          cases j with
          | zero =>
            simp at h3 h4; subst h3 h4
            obtain ⟨h5, h6⟩ := cells_rel hcs hp (hr (i, x) (by simp))
            exact ⟨rfl, h5, fun j c u h7 h8 => (h6 j c u h7 h8).1⟩
          | succ j => exact h2 j p v (by simpa using h3) (by simpa using h4)
        · cases h
      · rw [if_neg hp] at h; cases h
    · cases h

theorem build_sound {o : Oper} {s : St} {T : TypeId} {parts : Array (Nat × Operand)} {places : List (Nat × Nat)} {z cs : List CS} {ps : List (Nat × List CS)} (ho : o.op = .build T parts)
    (hpl : placesOf P T = some places) (hz : zeroCells P T = some z) (hps : partsOf s.ev parts.toList = some ps) (hf : fillC places z ps = some cs) : EffOk P o s (.val (.one (.agg cs)) []) := by
  refine val_of_run fun g w a hops => ?_
  have hx : ∀ x ∈ parts.toList, relV g (s.ev x.2) (a.eval x.2) := fun x hx => hops x.2 (by
    rw [ho]; simp only [Op.operands]; exact List.mem_map_of_mem hx)
  obtain ⟨h1, h2⟩ := partsOf_rel hps hx
  obtain ⟨i, z', hi, hz', rfl⟩ := zeroCells_spec hz
  obtain ⟨arr', h3, h4⟩ := fill_sound (g := g) (arr := z'.cells) hf ⟨by simp, fun j c u h5 h6 => by
    simp at h5
    obtain ⟨x, hx, rfl⟩ := h5
    rw [hx] at h6; cases h6; exact rel_ofCell g _⟩ h1 h2
  unfold placesOf at hpl
  split at hpl
  · rename_i fields hu
    refine ⟨.agg arr', 0, ?_, arr', rfl, h4.1, h4.2⟩
    have hb : P.built T (parts.map fun (i, x) => (i, a.eval x)).toList = some arr' := by
      unfold Program.built
      simp only [hi, hu, hz', hpl]
      simpa using h3
    simp only [execOp, ho, Sem.run_bind, run_build w T _ arr' hb, Result.andThen_ok, Sem.run_pure]
    rfl
  · cases hpl

theorem fieldOff_spec {T f k : Nat} (h : fieldOff P T f = some k) : ∃ fields fd i, P.underlying T = some (.struct fields) ∧ fields[f]? = some fd ∧ P.info? fd.type = some i ∧ i.size ≠ 0 ∧ fd.offset = k := by
  unfold fieldOff at h
  split at h
  · rename_i fields hu
    split at h
    · rename_i fd hf
      split at h
      · rename_i i hi
        by_cases h0 : i.size = 0
        · rw [if_pos h0] at h; cases h
        · rw [if_neg h0] at h; cases h; exact ⟨_, _, _, hu, hf, hi, h0, rfl⟩
      · cases h
    · cases h
  · cases h

theorem run_fieldAt (w : World) {T f k : Nat} (h : fieldOff P T f = some k) (b off : Nat) : (Instr.fieldAt T (.pointer (some ⟨b, off, none⟩)) f).run P w = .ok (.pointer (some ⟨b, off + k, none⟩)) w := by
  obtain ⟨fields, fd, i, h1, h2, h3, h4, h5⟩ := fieldOff_spec h
  have hadd : (⟨b, off, none⟩ : Addr).add k = ⟨b, off + k, none⟩ := by unfold Addr.add; split <;> simp_all
  simp [Instr.fieldAt, run_underlying h1, h2, Instr.sureAddr, fieldPlace, sizeOf, typeInfo, h3, h4, h5, hadd]

theorem tyElem_spec {T sz : Nat} (h : tyElem P T = some sz) : ∃ e i, P.underlying T = some (.slice e) ∧ P.info? e = some i ∧ i.size = sz := by
  unfold tyElem at h
  split at h
  · rename_i e he
    split at h
    · rename_i i hi; cases h; exact ⟨e, i, he, hi, rfl⟩
    · cases h
  · cases h

theorem fieldPart_spec {T f off : Nat} {ag : Bool} {n : Nat} (h : fieldPart P T f = some (off, ag, n)) : ∃ fields fd, P.underlying T = some (.struct fields) ∧ fields[f]? = some fd ∧ tyShape P fd.type = some (ag, n) ∧ fd.offset = off := by
  unfold fieldPart at h
  split at h
  · rename_i fields hu
    split at h
    · rename_i fd hf
      split at h
      · rename_i ag' n' hs; cases h; exact ⟨_, _, hu, hf, hs, rfl⟩
      · cases h
    · cases h
  · cases h



end
end Go.Dv
