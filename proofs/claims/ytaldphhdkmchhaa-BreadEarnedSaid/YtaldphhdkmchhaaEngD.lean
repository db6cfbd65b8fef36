/-
  The engine, part D: operations in a state: pure ones, loads, stores, new blocks, calls; a function's entry and return.
-/
import Derived.Test.YtaldphhdkmchhaaEngC
namespace Go.Proofs.Ytaldphhdkmchhaa
set_option linter.unusedSimpArgs false
set_option linter.unusedVariables false
open Go

theorem semAt_ok {P : Program} {r : Option Nat} {ρ : Operand → Value} {o : Oper} {w w' : World} {x : Next} (h : (execOp ρ o).run P w = .ok x w') (hx : ∀ d, x ≠ .defer d) :
    (o.semAt r ρ).run P w = .ok x w' := by
  unfold Oper.semAt
  split
  · rename_i l c hc
    exfalso
    rw [show execOp ρ o = (do pure (.defer (← resolve ρ c o.type))) from by unfold execOp; simp only [hc]] at h
    rw [Sem.run_bind] at h
    cases hr : (resolve ρ c o.type).run P w with
    | ok d w1 => rw [hr] at h; simp only [Result.andThen, Sem.run_pure, Result.ok.injEq] at h; exact hx d h.1.symm
    | halt y w1 => rw [hr] at h; simp [Result.andThen] at h
  · exact h

section ops
variable {P : Program} {r : Option Nat} {ops : Array Oper} {n : Nat} {L : Slots} {D : List Deferred} {H : Heap} {R : Facts} {K : Act → World → Prop}
  {bm : List Nat} {X : Act → World → Prop} {p : Plan} {pend : Pend}
  {i d : Nat} {op : Op} {ty : TypeId} {pos : String} {af : Array Edge}

theorem wanted_none (o : Oper) (h : o.guard = none) (y : Nat → Option Bool) : Region.wanted o y = true := by simp [Region.wanted, h]

/-- What a guard reads: the temporary of operation j. -/
theorem yielded_of {L : Slots} {a : Act} (ha : Knows n L a) {j t : Nat} {oj : Oper} {b : Bool} (hj : ops[j]? = some oj) (ht : oj.dst = some t) (hb : lk L t = some (.bool b)) :
    yielded ops a.tmps j = some b := by
  have := ha.at_ t _ hb
  unfold yielded
  rw [hj]
  simp [ht, this]

theorem stp_value {o : Oper} {v : Value} {a : Act} {w w' : World} (ho : ops[i]? = some o) (hw : Region.wanted o (yielded ops a.tmps) = true)
    (h : (execOp a.eval o).run P w = .ok (.value v) w') (hK : K (a.put o.dst v) w') : stp P r ops i K a w := by
  unfold stp
  rw [ho]
  simp only [hw, if_true, Oper.wpIn, FF_round, semAt_ok h (by simp), Oper.uponIn]
  exact ⟨fun _ _ => FF_fn _ _, hK⟩
theorem stp_skip {o : Oper} {a : Act} {w w' : World} (ho : ops[i]? = some o) (hw : Region.wanted o (yielded ops a.tmps) = true)
    (h : (execOp a.eval o).run P w = .ok .skip w') (hK : K (a.put o.dst undef) w') : stp P r ops i K a w := by
  unfold stp
  rw [ho]
  simp only [hw, if_true, Oper.wpIn, FF_round, semAt_ok h (by simp), Oper.uponIn]
  exact ⟨fun _ _ => FF_fn _ _, hK⟩
theorem stp_enter {o : Oper} {f : FuncId} {args : Array Value} {a : Act} {w : World} (ho : ops[i]? = some o) (hw : Region.wanted o (yielded ops a.tmps) = true)
    (h : (execOp a.eval o).run P w = .ok (.enter f args) w) (hK : CallsIn (FF r) 0 P f args w (fun e w' => ∃ v, e = .returned v ∧ K (a.put o.dst v) w')) : stp P r ops i K a w := by
  unfold stp
  rw [ho]
  simp only [hw, if_true, Oper.wpIn, FF_round, semAt_ok h (by simp), Oper.uponIn]
  refine ⟨fun _ _ => FF_fn _ _, by simp [FF_depth], CallsIn.mono hK fun e w' he => ?_⟩
  obtain ⟨v, rfl, hk⟩ := he
  exact hk

/-! pure -/
theorem sp {v : Value} (ho : ops[i]? = some ⟨some d, op, ty, pos, af, none⟩) (hv : PE P L ⟨some d, op, ty, pos, af, none⟩ v) (hd : Nat.blt d n = true)
    (h : Sy n ((d, v) :: L) D H R K) : Sy n L D H R (stp P r ops i K) := fun a w ha hD hs =>
  stp_value ho (wanted_none _ rfl _) (hv _ ha.reads w) (h _ w (ha.put (by simpa using hd) v) hD hs)
theorem tk {v : Value} (ho : ops[i]? = some ⟨some d, op, ty, pos, af, none⟩) (hv : PE P L ⟨some d, op, ty, pos, af, none⟩ v) (hd : Nat.blt d n = true)
    (h : Sy n ((d, v) :: L) D H R (Dv P r ops bm X p pend)) : Sy n L D H R (Dv P r ops bm X (.tk i p) pend) := fun a w ha hD hs =>
  ⟨_, v, ho, .inl ⟨wanted_none _ rfl _, fun w _ => semAt_ok (hv _ ha.reads w) (by simp)⟩, h _ w (ha.put (by simpa using hd) v) hD hs⟩
/-- under a guard that says yes -/
theorem spG {v : Value} {j t : Nat} {b : Bool} {oj : Oper} (ho : ops[i]? = some ⟨some d, op, ty, pos, af, some (j, b)⟩) (hj : ops[j]? = some oj) (ht : oj.dst = some t) (hb : lk L t = some (.bool b))
    (hv : PE P L ⟨some d, op, ty, pos, af, some (j, b)⟩ v) (hd : Nat.blt d n = true) (h : Sy n ((d, v) :: L) D H R K) : Sy n L D H R (stp P r ops i K) := fun a w ha hD hs =>
  stp_value ho (by simp [Region.wanted, yielded_of ha hj ht hb]) (hv _ ha.reads w) (h _ w (ha.put (by simpa using hd) v) hD hs)
theorem tkG {v : Value} {j t : Nat} {b : Bool} {oj : Oper} (ho : ops[i]? = some ⟨some d, op, ty, pos, af, some (j, b)⟩) (hj : ops[j]? = some oj) (ht : oj.dst = some t) (hb : lk L t = some (.bool b))
    (hv : PE P L ⟨some d, op, ty, pos, af, some (j, b)⟩ v) (hd : Nat.blt d n = true)
    (h : Sy n ((d, v) :: L) D H R (Dv P r ops bm X p pend)) : Sy n L D H R (Dv P r ops bm X (.tk i p) pend) := fun a w ha hD hs =>
  ⟨_, v, ho, .inl ⟨by simp [Region.wanted, yielded_of ha hj ht hb], fun w _ => semAt_ok (hv _ ha.reads w) (by simp)⟩, h _ w (ha.put (by simpa using hd) v) hD hs⟩
/-- under a guard that says no: passed over -/
theorem spN {o : Oper} {j t : Nat} {b c : Bool} {oj : Oper} (ho : ops[i]? = some o) (hg : o.guard = some (j, b)) (hj : ops[j]? = some oj) (ht : oj.dst = some t) (hb : lk L t = some (.bool c)) (hbc : b = !c)
    (hd : o.dst = some d) (hdn : Nat.blt d n = true) (h : Sy n ((d, undef) :: L) D H R K) : Sy n L D H R (stp P r ops i K) := fun a w ha hD hs => by
  have hw : Region.wanted o (yielded ops a.tmps) = false := by simp [Region.wanted, hg, yielded_of ha hj ht hb, hbc]
  unfold stp
  rw [ho]
  simp only [hw, Bool.false_eq_true, if_false, hd]
  exact h _ w (ha.put (by simpa using hdn) undef) hD hs
theorem spN0 {o : Oper} {j t : Nat} {b c : Bool} {oj : Oper} (ho : ops[i]? = some o) (hg : o.guard = some (j, b)) (hj : ops[j]? = some oj) (ht : oj.dst = some t) (hb : lk L t = some (.bool c)) (hbc : b = !c)
    (hd : o.dst = none) (h : Sy n L D H R K) : Sy n L D H R (stp P r ops i K) := fun a w ha hD hs => by
  have hw : Region.wanted o (yielded ops a.tmps) = false := by simp [Region.wanted, hg, yielded_of ha hj ht hb, hbc]
  unfold stp
  rw [ho]
  simp only [hw, Bool.false_eq_true, if_false, hd]
  exact h _ w ha hD hs
theorem tkN {o : Oper} {j t : Nat} {b c : Bool} {oj : Oper} (ho : ops[i]? = some o) (hg : o.guard = some (j, b)) (hj : ops[j]? = some oj) (ht : oj.dst = some t) (hb : lk L t = some (.bool c)) (hbc : b = !c)
    (hd : o.dst = some d) (hdn : Nat.blt d n = true) (h : Sy n ((d, undef) :: L) D H R (Dv P r ops bm X p pend)) : Sy n L D H R (Dv P r ops bm X (.tk i p) pend) := fun a w ha hD hs => by
  have hw : Region.wanted o (yielded ops a.tmps) = false := by simp [Region.wanted, hg, yielded_of ha hj ht hb, hbc]
  refine ⟨o, undef, ho, .inr ⟨hw, rfl⟩, ?_⟩
  rw [hd]
  exact h _ w (ha.put (by simpa using hdn) undef) hD hs
theorem ldN {o : Oper} {j t : Nat} {b c : Bool} {oj : Oper} (ho : ops[i]? = some o) (hg : o.guard = some (j, b)) (hj : ops[j]? = some oj) (ht : oj.dst = some t) (hb : lk L t = some (.bool c)) (hbc : b = !c)
    (hd : o.dst = some d) (hdn : Nat.blt d n = true) (h : Sy n ((d, undef) :: L) D H R (Dv P r ops bm X p ((i, fun _ => True) :: pend))) : Sy n L D H R (Dv P r ops bm X (.ld i p) pend) := fun a w ha hD hs => by
  have hw : Region.wanted o (yielded ops a.tmps) = false := by simp [Region.wanted, hg, yielded_of ha hj ht hb, hbc]
  refine ⟨o, undef, fun _ => True, ho, .inr ⟨hw, rfl⟩, trivial, ?_⟩
  rw [hd]
  exact h _ w (ha.put (by simpa using hdn) undef) hD hs

/-- the guard has been passed over itself -/
theorem yielded_undef {L : Slots} {a : Act} (ha : Knows n L a) {j t : Nat} {oj : Oper} (hj : ops[j]? = some oj) (ht : oj.dst = some t) (hb : lk L t = some undef) : yielded ops a.tmps j = none := by
  have := ha.at_ t _ hb
  unfold yielded
  rw [hj]
  simp [ht, this, undef]
theorem spU {o : Oper} {j t : Nat} {b : Bool} {oj : Oper} (ho : ops[i]? = some o) (hg : o.guard = some (j, b)) (hj : ops[j]? = some oj) (ht : oj.dst = some t) (hb : lk L t = some undef)
    (hd : o.dst = some d) (hdn : Nat.blt d n = true) (h : Sy n ((d, undef) :: L) D H R K) : Sy n L D H R (stp P r ops i K) := fun a w ha hD hs => by
  have hw : Region.wanted o (yielded ops a.tmps) = false := by simp [Region.wanted, hg, yielded_undef ha hj ht hb]
  unfold stp
  rw [ho]
  simp only [hw, Bool.false_eq_true, if_false, hd]
  exact h _ w (ha.put (by simpa using hdn) undef) hD hs
theorem tkU {o : Oper} {j t : Nat} {b : Bool} {oj : Oper} (ho : ops[i]? = some o) (hg : o.guard = some (j, b)) (hj : ops[j]? = some oj) (ht : oj.dst = some t) (hb : lk L t = some undef)
    (hd : o.dst = some d) (hdn : Nat.blt d n = true) (h : Sy n ((d, undef) :: L) D H R (Dv P r ops bm X p pend)) : Sy n L D H R (Dv P r ops bm X (.tk i p) pend) := fun a w ha hD hs => by
  have hw : Region.wanted o (yielded ops a.tmps) = false := by simp [Region.wanted, hg, yielded_undef ha hj ht hb]
  refine ⟨o, undef, ho, .inr ⟨hw, rfl⟩, ?_⟩
  rw [hd]
  exact h _ w (ha.put (by simpa using hdn) undef) hD hs
theorem ldU {o : Oper} {j t : Nat} {b : Bool} {oj : Oper} (ho : ops[i]? = some o) (hg : o.guard = some (j, b)) (hj : ops[j]? = some oj) (ht : oj.dst = some t) (hb : lk L t = some undef)
    (hd : o.dst = some d) (hdn : Nat.blt d n = true) (h : Sy n ((d, undef) :: L) D H R (Dv P r ops bm X p ((i, fun _ => True) :: pend))) : Sy n L D H R (Dv P r ops bm X (.ld i p) pend) := fun a w ha hD hs => by
  have hw : Region.wanted o (yielded ops a.tmps) = false := by simp [Region.wanted, hg, yielded_undef ha hj ht hb]
  refine ⟨o, undef, fun _ => True, ho, .inr ⟨hw, rfl⟩, trivial, ?_⟩
  rw [hd]
  exact h _ w (ha.put (by simpa using hdn) undef) hD hs

/-! loads -/
def Ld (P : Program) (T : TypeId) (a : Addr) (v : Value) (w : World) : Prop := (loadVar T a).run P w = .ok v w

theorem run_load_op {T : TypeId} {x : Operand} {a : Addr} {v : Value} {g : Option (Nat × Bool)} {ρ : Operand → Value} (hρ : Reads L ρ) (hx : ev L x = some (.pointer (some a))) {w : World} (h : Ld P T a v w) :
    (execOp ρ ⟨some d, .load T x, ty, pos, af, g⟩).run P w = .ok (.value v) w := by
  simp only [execOp, hρ _ _ hx, Instr.loadAt, Instr.sureAddr, Sem.run_bind, Sem.run_pure, Result.andThen, show (loadVar T a).run P w = .ok v w from h]

theorem spL {T : TypeId} {x : Operand} {a : Addr} {v : Value} (ho : ops[i]? = some ⟨some d, .load T x, ty, pos, af, none⟩) (hx : ev L x = some (.pointer (some a)))
    (hl : ∀ w, St H R w → Ld P T a v w) (hd : Nat.blt d n = true) (h : Sy n ((d, v) :: L) D H R K) : Sy n L D H R (stp P r ops i K) := fun b w ha hD hs =>
  stp_value ho (wanted_none _ rfl _) (run_load_op ha.reads hx (hl w hs)) (h _ w (ha.put (by simpa using hd) v) hD hs)
theorem ld {T : TypeId} {x : Operand} {a : Addr} {v : Value} (ho : ops[i]? = some ⟨some d, .load T x, ty, pos, af, none⟩) (hx : ev L x = some (.pointer (some a)))
    (hl : ∀ w, St H R w → Ld P T a v w) (hd : Nat.blt d n = true) (h : Sy n ((d, v) :: L) D H R (Dv P r ops bm X p ((i, Ld P T a v) :: pend))) : Sy n L D H R (Dv P r ops bm X (.ld i p) pend) := fun b w ha hD hs =>
  ⟨_, v, Ld P T a v, ho, .inl ⟨wanted_none _ rfl _, fun w hw => semAt_ok (run_load_op ha.reads hx hw) (by simp)⟩, hl w hs, h _ w (ha.put (by simpa using hd) v) hD hs⟩
theorem spLG {T : TypeId} {x : Operand} {a : Addr} {v : Value} {j t : Nat} {b : Bool} {oj : Oper} (ho : ops[i]? = some ⟨some d, .load T x, ty, pos, af, some (j, b)⟩) (hj : ops[j]? = some oj) (ht : oj.dst = some t) (hb : lk L t = some (.bool b))
    (hx : ev L x = some (.pointer (some a))) (hl : ∀ w, St H R w → Ld P T a v w) (hd : Nat.blt d n = true) (h : Sy n ((d, v) :: L) D H R K) : Sy n L D H R (stp P r ops i K) := fun c w ha hD hs =>
  stp_value ho (by simp [Region.wanted, yielded_of ha hj ht hb]) (run_load_op ha.reads hx (hl w hs)) (h _ w (ha.put (by simpa using hd) v) hD hs)
theorem ldG {T : TypeId} {x : Operand} {a : Addr} {v : Value} {j t : Nat} {b : Bool} {oj : Oper} (ho : ops[i]? = some ⟨some d, .load T x, ty, pos, af, some (j, b)⟩) (hj : ops[j]? = some oj) (ht : oj.dst = some t) (hb : lk L t = some (.bool b))
    (hx : ev L x = some (.pointer (some a))) (hl : ∀ w, St H R w → Ld P T a v w) (hd : Nat.blt d n = true)
    (h : Sy n ((d, v) :: L) D H R (Dv P r ops bm X p ((i, Ld P T a v) :: pend))) : Sy n L D H R (Dv P r ops bm X (.ld i p) pend) := fun c w ha hD hs =>
  ⟨_, v, Ld P T a v, ho, .inl ⟨by simp [Region.wanted, yielded_of ha hj ht hb], fun w hw => semAt_ok (run_load_op ha.reads hx hw) (by simp)⟩, hl w hs, h _ w (ha.put (by simpa using hd) v) hD hs⟩

/-- Cells of type e, none of them kept from writing. -/
abbrev cel (e : TypeId) (l : List Value) : Obj := .cells l.toArray e (0, 0)

/-- Is T a type of one cell (none if not known), of how many cells is an aggregate? -/
def scal (P : Program) (T : Nat) : Bool := match P.underlying T with | some (.struct _) => false | some (.array _ _) => false | some _ => true | none => false
def aggN (P : Program) (T : Nat) : Option Nat := match P.underlying T with | some (.struct _) => (P.info? T).map (·.size) | some (.array _ _) => (P.info? T).map (·.size) | _ => none

theorem run_isAgg_scal {T : Nat} (h : scal P T = true) (w : World) : (isAgg T).run P w = .ok false w := by
  unfold scal at h
  split at h <;> first | cases h | skip
  rename_i u h1 h2 hu
  simp only [isAgg, Sem.run_bind, run_underlying hu, Result.andThen]
  rfl
theorem run_isAgg_agg {T k : Nat} (h : aggN P T = some k) (w : World) : (isAgg T).run P w = .ok true w ∧ (sizeOf T).run P w = .ok k w := by
  unfold aggN at h
  split at h
  · rename_i fs hu
    rw [Option.map_eq_some_iff] at h
    obtain ⟨i, hi, rfl⟩ := h
    exact ⟨by simp only [isAgg, Sem.run_bind, run_underlying hu, Result.andThen]; rfl, by simp [sizeOf, typeInfo, program, hi, Sem.run_bind, Sem.run_pure, Sem.run, Result.andThen]⟩
  · rename_i m e hu
    rw [Option.map_eq_some_iff] at h
    obtain ⟨i, hi, rfl⟩ := h
    exact ⟨by simp only [isAgg, Sem.run_bind, run_underlying hu, Result.andThen]; rfl, by simp [sizeOf, typeInfo, program, hi, Sem.run_bind, Sem.run_pure, Sem.run, Result.andThen]⟩
  · cases h

theorem Ld_scal {T b off : Nat} {v : Value} (hT : scal P T = true) {w : World} (h : w.cell? ⟨b, off, none⟩ = some v) : Ld P T ⟨b, off, none⟩ v w := by
  unfold Ld loadVar
  simp only [Sem.run_bind, run_isAgg_scal hT, Result.andThen, Bool.false_eq_true, if_false, run_load, h]
theorem Ld_agg {T b off : Nat} {vs : List Value} (hT : aggN P T = some vs.length) {w : World} (h : ∀ j v, vs[j]? = some v → w.cell? ⟨b, off + j, none⟩ = some v) : Ld P T ⟨b, off, none⟩ (.agg vs.toArray) w := by
  obtain ⟨h1, h2⟩ := run_isAgg_agg hT w
  have := run_loadCells_list (P := P) w ⟨b, off, none⟩ vs (fun j v hv => by rw [addr_add]; exact h j v hv)
  unfold Ld loadVar
  simp only [Sem.run_bind, h1, Result.andThen, if_true, h2, this, Sem.run_pure]

theorem cell_of {w : World} {b off : Nat} {c : Array Value} {e : TypeId} {fz : Nat × Nat} (h : w.heap[b]? = some (.cells c e fz)) : w.cell? ⟨b, off, none⟩ = c[off]? := by simp [World.cell?, h]

/-- A load out of a held block: one cell; an aggregate. -/
theorem lh {T b off : Nat} {o : Obj} [m : Mem1 b o H] {e : TypeId} {l : List Value} {v : Value} (hT : scal P T = true) (ho : o = cel e l) (hv : l[off]? = some v) : ∀ w, St H R w → Ld P T ⟨b, off, none⟩ v w := fun w hs => by
  subst ho
  refine Ld_scal hT ?_
  rw [cell_of (hs.held _ m.mem)]
  simpa using hv
theorem lhA {T b off k : Nat} {o : Obj} [m : Mem1 b o H] {e : TypeId} {l : List Value} (vs : List Value) (hT : aggN P T = some k) (ho : o = cel e l) {rest : List Value} (hv : l.drop off = vs ++ rest) (hk : vs.length = k) :
    ∀ w, St H R w → Ld P T ⟨b, off, none⟩ (.agg vs.toArray) w := fun w hs => by
  subst ho hk
  refine Ld_agg hT fun j v hj => ?_
  rw [cell_of (hs.held _ m.mem)]
  have hlt : j < vs.length := (List.getElem?_eq_some_iff.1 hj).1
  have : (l.drop off)[j]? = some v := by rw [hv, List.getElem?_append_left hlt]; exact hj
  simpa [List.getElem?_drop] using this

/-! stores -/
def spl (l : List Value) (off : Nat) (vs : List Value) : List Value := l.take off ++ vs ++ l.drop (off + vs.length)
/-- The cells that a variable of the type has. -/
def cellN (P : Program) (T : Nat) : Option Nat := (P.info? T).map (·.size)

theorem setRow_cells {w : World} {b : Nat} {c c' : Array Value} {e : TypeId} (h : w.heap[b]? = some (.cells c e (0, 0))) : w.setRow b c' = { w with heap := w.heap.setIfInBounds b (.cells c' e (0, 0)) } := by
  have hlt : b < w.heap.size := (Array.getElem?_eq_some_iff.1 h).1
  have hget : w.heap[b] = .cells c e (0, 0) := by rw [Array.getElem?_eq_getElem hlt] at h; simpa using h
  unfold World.setRow
  congr 1
  apply Array.ext_getElem?
  intro j
  rw [Array.getElem?_modify, Array.getElem?_setIfInBounds]
  by_cases hb : b = j
  · subst hb; simp [hget, hlt]
  · simp [hb]

theorem run_storeVar {T b off k : Nat} {v : Value} {e : TypeId} {l : List Value} (hT : cellN P T = some k) (hk : v.cells.toList.length = k) (h1 : v.cells.toList.all (·.oneCell') = true)
    (hb : Nat.ble (off + v.cells.toList.length) l.length = true) {w : World} (h : w.heap[b]? = some (cel e l)) :
    (storeVar T ⟨b, off, none⟩ v).run P w = .ok () { w with heap := w.heap.setIfInBounds b (cel e (spl l off v.cells.toList)) } := by
  unfold cellN at hT
  rw [Option.map_eq_some_iff] at hT
  obtain ⟨i, hi, rfl⟩ := hT
  have hb' : off + v.cells.toList.length ≤ l.length := Nat.le_of_ble_eq_true hb
  have := run_storeCells_at (P := P) b off e v.cells.toList 0 l.toArray w h (by simpa using hb') (fun x hx => List.all_eq_true.1 h1 x hx)
  rw [setRow_cells h] at this
  unfold storeVar
  have hsz : v.cells.size = i.size := by simpa using hk
  simp only [Sem.run_bind, sizeOf, typeInfo, program, Sem.run, hi, Result.andThen, Sem.run_pure, hsz, ne_eq, not_true_eq_false, if_false, this]
  simp [spl]

theorem run_store_op {T : TypeId} {x y : Operand} {b off : Nat} {v : Value} {g : Option (Nat × Bool)} {dd : Option Nat} {ρ : Operand → Value} (hρ : Reads L ρ) (hx : ev L x = some (.pointer (some ⟨b, off, none⟩))) (hy : ev L y = some v) {w w' : World}
    (h : (storeVar T ⟨b, off, none⟩ v).run P w = .ok () w') : (execOp ρ ⟨dd, .store T x y, ty, pos, af, g⟩).run P w = .ok .skip w' := by
  simp only [execOp, hρ _ _ hx, hρ _ _ hy, Instr.storeAt, Instr.sureAddr, Sem.run_bind, Sem.run_pure, Result.andThen, h]

/-- A store into a held block. -/
theorem sto {T : TypeId} {x y : Operand} {b off k : Nat} {v : Value} {o : Obj} [m : Mem1 b o H] {e : TypeId} {l : List Value} {H' : Heap} (ho : ops[i]? = some ⟨none, .store T x y, ty, pos, af, none⟩)
    (hx : ev L x = some (.pointer (some ⟨b, off, none⟩))) (hy : ev L y = some v) (hT : cellN P T = some k) (hc : o = cel e l) (hk : v.cells.toList.length = k) (h1 : v.cells.toList.all (·.oneCell') = true)
    (hb : Nat.ble (off + v.cells.toList.length) l.length = true) [rp : Rep [(b, o)] [(b, cel e (spl l off v.cells.toList))] H H']
    (h : Sy n L D H' R K) : Sy n L D H R (stp P r ops i K) := fun a w ha hD hs => by
  subst hc
  refine stp_skip ho (wanted_none _ rfl _) (run_store_op ha.reads hx hy (run_storeVar hT hk h1 hb (hs.held _ m.mem))) ?_
  exact h _ _ (ha.putNone undef) hD (hs.rep (F := [(b, cel e l)]) (F' := [(b, cel e (spl l off v.cells.toList))]) fun T hT => St.set hT)

/-! new blocks -/
def zeroL (P : Program) (T : Nat) : Option (List Value) := ((P.info? T).bind (·.zero)).map (·.cells.toList)
theorem run_zero {T : Nat} {l : List Value} (h : zeroL P T = some l) : ∃ z : Value, z.cells = l.toArray ∧ ∀ w, (zeroValue T).run P w = .ok z w := by
  unfold zeroL at h
  rw [Option.map_eq_some_iff] at h
  obtain ⟨z, hz, rfl⟩ := h
  rw [Option.bind_eq_some_iff] at hz
  obtain ⟨i, hi, hz⟩ := hz
  exact ⟨z, by simp, fun w => by simp [zeroValue, typeInfo, program, hi, hz, Sem.run_bind, Sem.run_pure, Sem.run, Result.andThen]⟩

theorem alc {T : TypeId} {l : List Value} (ho : ops[i]? = some ⟨some d, .alloc T, ty, pos, af, none⟩) (hz : zeroL P T = some l) (hd : Nat.blt d n = true)
    (h : ∀ b, Sy n ((d, .pointer (some ⟨b, 0, none⟩)) :: L) D ((b, cel T l) :: H) R K) : Sy n L D H R (stp P r ops i K) := fun a w ha hD hs => by
  obtain ⟨z, hz1, hz2⟩ := run_zero hz
  refine stp_value ho (wanted_none _ rfl _) (v := .pointer (some ⟨w.heap.size, 0, none⟩)) (w' := w.alloc (cel T l)) ?_ (h _ _ _ (ha.put (by simpa using hd) _) hD (hs.alloc _))
  simp only [execOp, Instr.alloc, Sem.run_bind, hz2, Result.andThen, newVar, newRow, hz1, newObj, Sem.run, Sem.run_pure]
  rfl
theorem bx {T : TypeId} {x : Operand} {v : Value} (ho : ops[i]? = some ⟨some d, .box T x, ty, pos, af, none⟩) (hx : ev L x = some v) (hd : Nat.blt d n = true)
    (h : ∀ b, Sy n ((d, .pointer (some ⟨b, 0, none⟩)) :: L) D ((b, cel T v.cells.toList) :: H) R K) : Sy n L D H R (stp P r ops i K) := fun a w ha hD hs => by
  refine stp_value ho (wanted_none _ rfl _) (v := .pointer (some ⟨w.heap.size, 0, none⟩)) (w' := w.alloc (cel T v.cells.toList)) ?_ (h _ _ _ (ha.put (by simpa using hd) _) hD (hs.alloc _))
  simp only [execOp, ha.reads _ _ hx, Instr.box, newVar, newRow, newObj, Sem.run_bind, Sem.run, Result.andThen, Sem.run_pure]
  rfl

end ops
end Go.Proofs.Ytaldphhdkmchhaa
