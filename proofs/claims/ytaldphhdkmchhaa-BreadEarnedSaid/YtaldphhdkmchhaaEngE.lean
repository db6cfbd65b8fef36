/-
  The engine, part E: calls and returns, aggregates that are built, slices that are built.
-/
import Derived.Test.YtaldphhdkmchhaaEngD
namespace Go.Proofs.Ytaldphhdkmchhaa
set_option linter.unusedSimpArgs false
set_option linter.unusedVariables false
open Go

/-! ### a function's contract -/
/-- Called in a state (H, R), f returns v in a state (H', R') with Q v H' R'. -/
def Fn (P : Program) (f : FuncId) (args : List Value) (H : Heap) (R : Facts) (Q : Value → Heap → Facts → Prop) : Prop :=
  ∀ w, St H R w → CallsIn (FF none) 0 P f args.toArray w (fun e w' => ∃ v H' R', Q v H' R' ∧ e = .returned v ∧ St H' R' w')
/-- f returns v and leaves all as it is. -/
def FnV (P : Program) (f : FuncId) (args : List Value) (H : Heap) (R : Facts) (v : Value) : Prop := Fn P f args H R (fun u H' R' => u = v ∧ H' = H ∧ R' = R)

theorem Fn.mono {P : Program} {f : FuncId} {args : List Value} {H : Heap} {R : Facts} {Q Q' : Value → Heap → Facts → Prop} (h : Fn P f args H R Q) (hq : ∀ v H' R', Q v H' R' → Q' v H' R') : Fn P f args H R Q' :=
  fun w hs => CallsIn.mono (h w hs) fun e w' ⟨v, H', R', q, he, hs'⟩ => ⟨v, H', R', hq _ _ _ q, he, hs'⟩

def en : Nat → List Value → Slots
  | _, [] => []
  | k, v :: vs => (k, v) :: en (k + 1) vs

theorem lk_en : ∀ (vs : List Value) (k t : Nat) (v : Value), lk (en k vs) t = some v → k ≤ t ∧ vs[t - k]? = some v
  | [], _, _, _, h => by simp [en, lk] at h
  | u :: us, k, t, v, h => by
    unfold en lk at h
    cases hb : Nat.beq k t with
    | true =>
      obtain rfl := Nat.eq_of_beq_eq_true hb
      simp only [hb, cond_true, Option.some.injEq] at h
      subst h; simp
    | false =>
      simp only [hb, cond_false] at h
      obtain ⟨h1, h2⟩ := lk_en us (k + 1) t v h
      refine ⟨by omega, ?_⟩
      rw [show t - k = (t - (k + 1)) + 1 from by omega]
      simpa using h2

/-- What is asked where a body ends. -/
def Ret (P : Program) (fn : Func) (Q : Value → Heap → Facts → Prop) : Exit → Act → World → Prop :=
  bodyPost P fn (fun e w' => ∃ v H' R', Q v H' R' ∧ e = .returned v ∧ St H' R' w')

theorem fn_of {P : Program} {f : FuncId} {fn : Func} {c : Code} {args : List Value} {H : Heap} {R : Facts} {Q : Value → Heap → Facts → Prop} {n : Nat}
    (hf : P.funcs[f]? = some fn) (hb : fn.body = some c) (hn : fn.ntmps = n) (hl : Nat.ble args.length n = true)
    (h : Sy n (en 0 args) [] H R (wpc P none c (Ret P fn Q))) : Fn P f args H R Q := fun w hs => by
  have hl' : args.length ≤ n := Nat.le_of_ble_eq_true hl
  refine callsIn_of_wp hf hb (FF_fn _ _) (h _ w ⟨?_, fun t v ht => ?_⟩ rfl hs) rfl
  · simp [hn]; omega
  · obtain ⟨_, h2⟩ := lk_en _ _ _ _ ht
    have hlt : t < args.length := by
      rw [Nat.sub_zero] at h2
      exact (List.getElem?_eq_some_iff.1 h2).1
    simpa [Array.getElem?_append, hlt] using h2

section ends
variable {P : Program} {fn : Func} {n : Nat} {L : Slots} {H : Heap} {R : Facts} {Q : Value → Heap → Facts → Prop}

def rvSem (a : Act) : ResultVar → Sem Value
  | .tmp t => pure (a.tmps.getD t undef)
  | .cell c T => do loadVar T (← asAddr (a.tmps.getD c undef))
theorem results_eq (fn : Func) (a : Act) : results fn a.tmps = (do let vs ← fn.results.mapM (rvSem a); pure (if h : vs.size = 1 then vs[0] else .tuple vs)) := by
  unfold results
  congr 2
/-- What a result variable holds. -/
def RV (P : Program) (n : Nat) (L : Slots) (H : Heap) (R : Facts) (x : ResultVar) (v : Value) : Prop :=
  ∀ a w, Knows n L a → St H R w → (rvSem a x).run P w = .ok v w
theorem RV.tmp {t : Nat} {v : Value} (h : lk L t = some v) : RV P n L H R (.tmp t) v := fun a w ha _ => by
  have := ha.at_ t v h
  simp [rvSem, this, Sem.run_pure]
theorem RV.cell {c : Nat} {T : TypeId} {ad : Addr} {v : Value} (h : lk L c = some (.pointer (some ad))) (hl : ∀ w, St H R w → Ld P T ad v w) : RV P n L H R (.cell c T) v := fun a w ha hs => by
  have := ha.at_ c _ h
  have h2 : (loadVar T ad).run P w = .ok v w := hl w hs
  simp [rvSem, this, asAddr, Sem.run_bind, Sem.run_pure, Result.andThen, h2]

inductive RVs (P : Program) (n : Nat) (L : Slots) (H : Heap) (R : Facts) : List ResultVar → List Value → Prop where
  | nil : RVs P n L H R [] []
  | cons {x : ResultVar} {v : Value} {xs : List ResultVar} {vs : List Value} (h : RV P n L H R x v) (hs : RVs P n L H R xs vs) : RVs P n L H R (x :: xs) (v :: vs)

def retV : List Value → Value
  | [v] => v
  | vs => .tuple vs.toArray

theorem run_results {xs : List ResultVar} {vs : List Value} (hr : fn.results = xs.toArray) (h : RVs P n L H R xs vs) {a : Act} {w : World} (ha : Knows n L a) (hs : St H R w) :
    (results fn a.tmps).run P w = .ok (retV vs) w := by
  have key : ∀ (xs : List ResultVar) (vs : List Value), RVs P n L H R xs vs → (xs.mapM (rvSem a)).run P w = .ok vs w := by
    intro xs vs h
    induction h with
    | nil => simp [Sem.run_pure]
    | cons h hs' ih =>
      have h1 := h a w ha hs
      simp only [List.mapM_cons, Sem.run_bind, h1, Result.andThen, ih, Sem.run_pure]
  have h2 := key xs vs h
  have h3 : (xs.toArray.mapM (rvSem a)).run P w = .ok vs.toArray w := by
    rw [List.mapM_toArray, map_eq_pure_bind, Sem.run_bind, h2]; rfl
  rw [results_eq, hr]
  simp only [Sem.run_bind, h3, Result.andThen, Sem.run_pure]
  rcases vs with _ | ⟨v, _ | ⟨u, us⟩⟩ <;> simp [retV]

theorem sy_return {xs : List ResultVar} {vs : List Value} {v : Value} (hr : fn.results = xs.toArray) (h : RVs P n L H R xs vs) (hv : retV vs = v) {H' : Heap} {R' : Facts}
    (hq : Q v H' R') (hs : ∀ w, St H R w → St H' R' w) : Sy n L [] H R (Ret P fn Q .ret) := fun a w ha hD hs0 =>
  ⟨hD, v, hv ▸ run_results hr h ha hs0, v, H', R', hq, rfl, hs w hs0⟩
theorem sy_fall {xs : List ResultVar} {vs : List Value} {v : Value} (hr : fn.results = xs.toArray) (h : RVs P n L H R xs vs) (hv : retV vs = v) {H' : Heap} {R' : Facts}
    (hq : Q v H' R') (hs : ∀ w, St H R w → St H' R' w) : Sy n L [] H R (Ret P fn Q .normal) := fun a w ha hD hs0 =>
  ⟨hD, v, hv ▸ run_results hr h ha hs0, v, H', R', hq, rfl, hs w hs0⟩
end ends

/-! ### a call -/
/-- f has a body, and is none of the runtime's own. -/
def cal (P : Program) (f : FuncId) : Bool := match P.funcs[f]? with | some fn => !(fn.name == "runtime.NumGoroutine") && fn.body.isSome | none => false
theorem run_callFunc {P : Program} {f : FuncId} (h : cal P f = true) (args : Array Value) (w : World) : (callFunc f args).run P w = .ok (.enter f args) w := by
  unfold cal at h
  split at h
  · rename_i fn hf
    simp only [Bool.and_eq_true, Bool.not_eq_true'] at h
    have h3 : fn.body.isNone = false := by cases hb : fn.body <;> simp_all
    unfold callFunc
    simp only [Sem.run_bind, program, Sem.run, Result.andThen, hf, h.1, h3, Bool.false_eq_true, if_false, Sem.run_pure]
  · cases h

section call
variable {P : Program} {r : Option Nat} {ops : Array Oper} {n : Nat} {L : Slots} {D : List Deferred} {H : Heap} {R : Facts} {K : Act → World → Prop}
  {i d : Nat} {ty : TypeId} {pos : String} {af : Array Edge}

theorem calls_round {f : FuncId} {args : Array Value} {w : World} {Q : Ending → World → Prop} (h : CallsIn (FF none) 0 P f args w Q) : CallsIn (FF r) 0 P f args w Q := by
  cases r with
  | none => exact h
  | some l => exact CallsIn.inRound l h

theorem run_call_op {f : FuncId} {c : Operand} {first cap : List Value} {xs : List Operand} {vs : List Value} {ts : Array TypeId} {dd : Option Nat} {g : Option (Nat × Bool)} {ρ : Operand → Value} (hρ : Reads L ρ)
    (hc : ev L c = some (.func (.func f) first.toArray cap.toArray)) (hx : evs L xs = some vs) (hf : cal P f = true) (w : World) :
    (execOp ρ ⟨dd, .call { callee := .value c, args := xs.toArray, argTypes := ts }, ty, pos, af, g⟩).run P w = .ok (.enter f (first ++ vs ++ cap).toArray) w := by
  have e : xs.toArray.map ρ = vs.toArray := by rw [List.map_toArray, evs_map hρ _ _ hx]
  simp only [execOp, resolve, hρ _ _ hc, Deferred.ofValue, e, Sem.run_bind, Sem.run_pure, Result.andThen, invoke]
  rw [run_callFunc hf]
  simp

/-- A call of a function by its contract. -/
theorem cl {f : FuncId} {xs : List Operand} {vs : List Value} {ts : Array TypeId} {Q : Value → Heap → Facts → Prop}
    (ho : ops[i]? = some ⟨some d, .call { callee := .value (.func f), args := xs.toArray, argTypes := ts }, ty, pos, af, none⟩) (hf : cal P f = true) (hd : Nat.blt d n = true) (hx : evs L xs = some vs)
    (hc : Fn P f vs H R Q) (h : ∀ v H' R', Q v H' R' → Sy n ((d, v) :: L) D H' R' K) : Sy n L D H R (stp P r ops i K) := fun a w ha hD hs => by
  refine stp_enter ho (wanted_none _ rfl _) (run_call_op (first := []) (cap := []) ha.reads rfl hx hf w) (calls_round (CallsIn.mono (by simpa using hc w hs) ?_))
  rintro e w' ⟨v, H', R', q, rfl, hs'⟩
  exact ⟨v, rfl, h v H' R' q _ _ (ha.put (by simpa using hd) v) hD hs'⟩
theorem cl0 {f : FuncId} {xs : List Operand} {vs : List Value} {ts : Array TypeId} {Q : Value → Heap → Facts → Prop}
    (ho : ops[i]? = some ⟨none, .call { callee := .value (.func f), args := xs.toArray, argTypes := ts }, ty, pos, af, none⟩) (hf : cal P f = true) (hx : evs L xs = some vs)
    (hc : Fn P f vs H R Q) (h : ∀ v H' R', Q v H' R' → Sy n L D H' R' K) : Sy n L D H R (stp P r ops i K) := fun a w ha hD hs => by
  refine stp_enter ho (wanted_none _ rfl _) (run_call_op (first := []) (cap := []) ha.reads rfl hx hf w) (calls_round (CallsIn.mono (by simpa using hc w hs) ?_))
  rintro e w' ⟨v, H', R', q, rfl, hs'⟩
  exact ⟨v, rfl, h v H' R' q _ _ (ha.putNone v) hD hs'⟩
theorem clV {f : FuncId} {xs : List Operand} {vs : List Value} {ts : Array TypeId} {v : Value}
    (ho : ops[i]? = some ⟨some d, .call { callee := .value (.func f), args := xs.toArray, argTypes := ts }, ty, pos, af, none⟩) (hf : cal P f = true) (hd : Nat.blt d n = true) (hx : evs L xs = some vs)
    (hc : FnV P f vs H R v) (h : Sy n ((d, v) :: L) D H R K) : Sy n L D H R (stp P r ops i K) :=
  cl ho hf hd hx hc fun _ _ _ ⟨hv, hH, hR⟩ => by subst hv hH hR; exact h
/-- .. under a guard that says yes -/
theorem clG {f : FuncId} {xs : List Operand} {vs : List Value} {ts : Array TypeId} {Q : Value → Heap → Facts → Prop} {j t : Nat} {b : Bool} {oj : Oper}
    (ho : ops[i]? = some ⟨some d, .call { callee := .value (.func f), args := xs.toArray, argTypes := ts }, ty, pos, af, some (j, b)⟩) (hj : ops[j]? = some oj) (ht : oj.dst = some t) (hb : lk L t = some (.bool b))
    (hf : cal P f = true) (hd : Nat.blt d n = true) (hx : evs L xs = some vs)
    (hc : Fn P f vs H R Q) (h : ∀ v H' R', Q v H' R' → Sy n ((d, v) :: L) D H' R' K) : Sy n L D H R (stp P r ops i K) := fun a w ha hD hs => by
  refine stp_enter ho (by simp [Region.wanted, yielded_of ha hj ht hb]) (run_call_op (first := []) (cap := []) ha.reads rfl hx hf w) (calls_round (CallsIn.mono (by simpa using hc w hs) ?_))
  rintro e w' ⟨v, H', R', q, rfl, hs'⟩
  exact ⟨v, rfl, h v H' R' q _ _ (ha.put (by simpa using hd) v) hD hs'⟩
theorem clVG {f : FuncId} {xs : List Operand} {vs : List Value} {ts : Array TypeId} {v : Value} {j t : Nat} {b : Bool} {oj : Oper}
    (ho : ops[i]? = some ⟨some d, .call { callee := .value (.func f), args := xs.toArray, argTypes := ts }, ty, pos, af, some (j, b)⟩) (hj : ops[j]? = some oj) (ht : oj.dst = some t) (hb : lk L t = some (.bool b))
    (hf : cal P f = true) (hd : Nat.blt d n = true) (hx : evs L xs = some vs)
    (hc : FnV P f vs H R v) (h : Sy n ((d, v) :: L) D H R K) : Sy n L D H R (stp P r ops i K) :=
  clG ho hj ht hb hf hd hx hc fun _ _ _ ⟨hv, hH, hR⟩ => by subst hv hH hR; exact h
/-- A call of a function value. -/
theorem clF {f : FuncId} {c : Operand} {first cap : List Value} {xs : List Operand} {vs : List Value} {ts : Array TypeId} {Q : Value → Heap → Facts → Prop}
    (ho : ops[i]? = some ⟨some d, .call { callee := .value c, args := xs.toArray, argTypes := ts }, ty, pos, af, none⟩) (hcv : ev L c = some (.func (.func f) first.toArray cap.toArray)) (hf : cal P f = true) (hd : Nat.blt d n = true) (hx : evs L xs = some vs)
    (hc : Fn P f (first ++ vs ++ cap) H R Q) (h : ∀ v H' R', Q v H' R' → Sy n ((d, v) :: L) D H' R' K) : Sy n L D H R (stp P r ops i K) := fun a w ha hD hs => by
  refine stp_enter ho (wanted_none _ rfl _) (run_call_op ha.reads hcv hx hf w) (calls_round (CallsIn.mono (hc w hs) ?_))
  rintro e w' ⟨v, H', R', q, rfl, hs'⟩
  exact ⟨v, rfl, h v H' R' q _ _ (ha.put (by simpa using hd) v) hD hs'⟩

theorem clFV {f : FuncId} {c : Operand} {first cap : List Value} {xs : List Operand} {vs : List Value} {ts : Array TypeId} {v : Value}
    (ho : ops[i]? = some ⟨some d, .call { callee := .value c, args := xs.toArray, argTypes := ts }, ty, pos, af, none⟩) (hcv : ev L c = some (.func (.func f) first.toArray cap.toArray)) (hf : cal P f = true) (hd : Nat.blt d n = true) (hx : evs L xs = some vs)
    (hc : FnV P f (first ++ vs ++ cap) H R v) (h : Sy n ((d, v) :: L) D H R K) : Sy n L D H R (stp P r ops i K) :=
  clF ho hcv hf hd hx hc fun _ _ _ ⟨hv, hH, hR⟩ => by subst hv hH hR; exact h
theorem clFG {f : FuncId} {c : Operand} {first cap : List Value} {xs : List Operand} {vs : List Value} {ts : Array TypeId} {Q : Value → Heap → Facts → Prop} {j t : Nat} {b : Bool} {oj : Oper}
    (ho : ops[i]? = some ⟨some d, .call { callee := .value c, args := xs.toArray, argTypes := ts }, ty, pos, af, some (j, b)⟩) (hj : ops[j]? = some oj) (ht : oj.dst = some t) (hb : lk L t = some (.bool b))
    (hcv : ev L c = some (.func (.func f) first.toArray cap.toArray)) (hf : cal P f = true) (hd : Nat.blt d n = true) (hx : evs L xs = some vs)
    (hc : Fn P f (first ++ vs ++ cap) H R Q) (h : ∀ v H' R', Q v H' R' → Sy n ((d, v) :: L) D H' R' K) : Sy n L D H R (stp P r ops i K) := fun a w ha hD hs => by
  refine stp_enter ho (by simp [Region.wanted, yielded_of ha hj ht hb]) (run_call_op ha.reads hcv hx hf w) (calls_round (CallsIn.mono (hc w hs) ?_))
  rintro e w' ⟨v, H', R', q, rfl, hs'⟩
  exact ⟨v, rfl, h v H' R' q _ _ (ha.put (by simpa using hd) v) hD hs'⟩
theorem clFVG {f : FuncId} {c : Operand} {first cap : List Value} {xs : List Operand} {vs : List Value} {ts : Array TypeId} {v : Value} {j t : Nat} {b : Bool} {oj : Oper}
    (ho : ops[i]? = some ⟨some d, .call { callee := .value c, args := xs.toArray, argTypes := ts }, ty, pos, af, some (j, b)⟩) (hj : ops[j]? = some oj) (ht : oj.dst = some t) (hb : lk L t = some (.bool b))
    (hcv : ev L c = some (.func (.func f) first.toArray cap.toArray)) (hf : cal P f = true) (hd : Nat.blt d n = true) (hx : evs L xs = some vs)
    (hc : FnV P f (first ++ vs ++ cap) H R v) (h : Sy n ((d, v) :: L) D H R K) : Sy n L D H R (stp P r ops i K) :=
  clFG ho hj ht hb hcv hf hd hx hc fun _ _ _ ⟨hv, hH, hR⟩ => by subst hv hH hR; exact h

/-! ### what stands behind an operation of a plan: the loads that are shown anew -/
theorem bg {bm : List Nat} {X : Act → World → Prop} {p : Plan} {pend : Pend} (hp : ∀ w, St H R w → okAfter bm i pend w) (h : Sy n L D H R (Dv P r ops bm X p (keepP bm i pend))) :
    Sy n L D H R (fun a w => okAfter bm i pend w ∧ Dv P r ops bm X p (keepP bm i pend) a w) := fun a w ha hD hs => ⟨hp w hs, h a w ha hD hs⟩
end call

/-! ### small steps of the script -/
section steps
variable {P : Program} {r : Option Nat} {ops : Array Oper} {n : Nat} {L : Slots} {D : List Deferred} {H : Heap} {R : Facts} {X : Act → World → Prop} {bm : List Nat} {p q : Plan} {pend : Pend} {i j : Nat} {l : List Nat} {Q : Exit → Act → World → Prop} {id id' : Nat}
theorem sy_nx (h : Sy n L D H R X) : Sy n L D H R (Exit.then X Q .normal) := h
theorem sy_tx (h : Sy n L D H R (Q (.exit id))) : Sy n L D H R (Exit.then X Q (.exit id)) := h
theorem sy_tr (h : Sy n L D H R (Q .ret)) : Sy n L D H R (Exit.then X Q .ret) := h
theorem sy_bn (h : Sy n L D H R (Q .normal)) : Sy n L D H R (Exit.inBlock id Q .normal) := h
theorem sy_br (h : Sy n L D H R (Q .ret)) : Sy n L D H R (Exit.inBlock id Q .ret) := h
theorem sy_bx (h : Sy n L D H R (Q .normal)) : Sy n L D H R (Exit.inBlock id Q (.exit id)) := fun a w ha hD hs => by
  have := h a w ha hD hs
  simpa [Exit.inBlock] using this
theorem sy_bxn (hne : id' ≠ id) (h : Sy n L D H R (Q (.exit id'))) : Sy n L D H R (Exit.inBlock id Q (.exit id')) := fun a w ha hD hs => by
  have := h a w ha hD hs
  simpa [Exit.inBlock, hne] using this
theorem sy_sq (h : Sy n L D H R (stp P r ops i (dvSeq P r ops X l))) : Sy n L D H R (dvSeq P r ops X (i :: l)) := h
theorem sy_sn (h : Sy n L D H R X) : Sy n L D H R (dvSeq P r ops X []) := h
theorem sy_dn (h : Sy n L D H R X) : Sy n L D H R (Dv P r ops bm X .done pend) := h
theorem sy_bg (h : Sy n L D H R (stp P r ops i (fun a w => okAfter bm i pend w ∧ Dv P r ops bm X p (keepP bm i pend) a w))) : Sy n L D H R (Dv P r ops bm X (.big i p) pend) := h
theorem sy_any (h : Sy n L D H R (Dv P r ops bm X p pend)) : Sy n L D H R (Dv P r ops bm X (.any p) pend) := h
theorem sy_alt (h : Sy n L D H R (stp P r ops i (fun a w => okAfter bm i pend w ∧ Dv P r ops bm X p (keepP bm i pend) a w))) (h' : Sy n L D H R (Dv P r ops bm X q pend)) : Sy n L D H R (Dv P r ops bm X (.alt i p q) pend) := fun a w ha hD hs => ⟨h a w ha hD hs, h' a w ha hD hs⟩
theorem sy_stop : Sy n L D H R (Dv P r ops bm X .stop pend) := fun _ _ _ _ _ => trivial
theorem sy_tx' {id : Nat} {ops : Array Oper} (l : List Nat) (hl : List.range ops.size = l) (h : Sy n L D H R (dvSeq P r ops (Q .normal) l)) : Sy n L D H R (wpc P r (.region id ops false) Q) := sy_text (hl ▸ h)
/-- A temporary that holds a bool: both ways. -/
theorem sy_case {t : Nat} {b : Bool} (hb : lk L t = some (.bool b)) (h1 : b = true → Sy n ((t, .bool true) :: L) D H R X) (h0 : b = false → Sy n ((t, .bool false) :: L) D H R X) : Sy n L D H R X := by
  have key : ∀ c, b = c → ∀ u v, lk ((t, .bool c) :: L) u = some v → lk L u = some v := fun c hc u v hu => by
    unfold lk at hu
    cases hq : Nat.beq t u with
    | true =>
      obtain rfl := Nat.eq_of_beq_eq_true hq
      simp only [hq, cond_true, Option.some.injEq] at hu
      rw [hb, hc, hu]
    | false => simpa only [hq, cond_false] using hu
  cases b with
  | true => exact (h1 rfl).weak (key true rfl) (fun _ h => h)
  | false => exact (h0 rfl).weak (key false rfl) (fun _ h => h)
theorem sy_condT {x : Operand} {c d : Code} (hx : ev L x = some (.bool true)) (h : Sy n L D H R (wpc P r c Q)) : Sy n L D H R (wpc P r (.cond x c d) Q) := sy_cond hx (fun _ => h) (fun e => by cases e)
theorem sy_condF {x : Operand} {c d : Code} (hx : ev L x = some (.bool false)) (h : Sy n L D H R (wpc P r d Q)) : Sy n L D H R (wpc P r (.cond x c d) Q) := sy_cond hx (fun e => by cases e) (fun _ => h)
/-- A cut: what is known where c ends. -/
def CutAt {ι : Type} (n : Nat) (D : List Deferred) (hd : ι → Head) : Exit → Act → World → Prop
  | .normal, a, w => ∃ j, AtHead n D hd j a w
  | _, _, _ => False
theorem sy_cut {c : Code} {ι : Type} (hd : ι → Head) (h1 : Sy n L D H R (wpc P r c (CutAt n D hd)))
    (h2 : ∀ j, Sy n (hd j).L D (hd j).H (hd j).R (Q .normal)) : Sy n L D H R (wpc P r c Q) := fun a w ha hD hs => by
  refine wpIn_mono (h1 a w ha hD hs) fun e a' w' he => ?_
  cases e <;> first | exact he.elim | skip
  obtain ⟨j, g1, g2, g3⟩ := he
  exact h2 j a' w' g1 g2 g3
theorem sy_cutEnd {ι : Type} {hd : ι → Head} (j : ι) (hL : Sub (hd j).L L) (hH : ∀ w, St H R w → St (hd j).H (hd j).R w) :
    Sy n L D H R (CutAt n D hd .normal) := fun a w ha hD hs => ⟨j, ha.sub hL.lk, hD, hH w hs⟩
end steps

/-! ### aggregates -/
def fillL (place : Nat → Option (Nat × Nat)) : List Value → List (Nat × Value) → Option (List Value)
  | cells, [] => some cells
  | cells, (i, v) :: rest =>
    match place i with
    | none => none
    | some (off, size) => bif Nat.beq v.cells.toList.length size && Nat.ble (off + v.cells.toList.length) cells.length then fillL place (spl cells off v.cells.toList) rest else none

theorem foldl_spl : ∀ (vs : List Value) (off k : Nat) (cs : Array Value), off + k + vs.length ≤ cs.size →
    ((vs.zipIdx k).foldl (fun cs (x : Value × Nat) => cs.setIfInBounds (off + x.2) x.1) cs).toList = spl cs.toList (off + k) vs
  | [], off, k, cs, _ => by simp [spl]
  | v :: vs, off, k, cs, h => by
    simp only [List.length_cons] at h
    rw [List.zipIdx_cons, List.foldl_cons, foldl_spl vs off (k + 1) _ (by simp; omega)]
    have e := list_seg_step cs.toList (off + k) v vs (by simp; omega)
    simp only [spl, Array.toList_setIfInBounds, List.length_cons]
    simpa [Nat.add_assoc] using e

theorem fill_eq (place : Nat → Option (Nat × Nat)) : ∀ (parts : List (Nat × Value)) (cells out : List Value), fillL place cells parts = some out → Instr.fill place cells.toArray parts = some out.toArray
  | [], cells, out, h => by simp [fillL] at h; subst h; rfl
  | (i, v) :: rest, cells, out, h => by
    unfold fillL at h
    unfold Instr.fill
    split at h
    · cases h
    · rename_i off size hp
      rw [hp]
      cases hc : (Nat.beq v.cells.toList.length size && Nat.ble (off + v.cells.toList.length) cells.length) with
      | false => rw [hc] at h; cases h
      | true =>
        rw [hc] at h
        simp only [cond_true] at h
        simp only [Bool.and_eq_true] at hc
        have h1 : v.cells.size = size := by simpa using Nat.eq_of_beq_eq_true hc.1
        have h2 : off + v.cells.size ≤ cells.length := by simpa using Nat.le_of_ble_eq_true hc.2
        have h3 : ¬ (v.cells.size ≠ size ∨ off + v.cells.size > cells.toArray.size) := by simp; omega
        have h4 : (decide (v.cells.size ≠ size) || decide (off + v.cells.size > cells.toArray.size)) = false := by simp; omega
        simp only [h4, Bool.false_eq_true, if_false]
        rw [← fill_eq place rest _ out h]
        congr 1
        have h5 := foldl_spl v.cells.toList off 0 cells.toArray (by simp; omega)
        apply Array.toList_inj.1
        rw [← Array.foldl_toList]
        simpa using h5

/-- The places of a struct's fields; of an array's elements. -/
def placeL (P : Program) (T : Nat) : Option (List (Nat × Nat)) :=
  match P.underlying T with
  | some (.struct fs) => fs.toList.mapM fun f => (P.info? f.type).map fun i => (f.offset, i.size)
  | _ => none

theorem run_places {P : Program} : ∀ (fs : List Field) (l : List (Nat × Nat)), (fs.mapM fun f => (P.info? f.type).map fun i => (f.offset, i.size)) = some l →
    ∀ w, (fs.mapM (fun f => (do pure (f.offset, ← sizeOf f.type) : Sem (Nat × Nat)))).run P w = .ok l w
  | [], l, h, w => by simp at h; subst h; simp [Sem.run_pure]
  | f :: fs, l, h, w => by
    simp only [List.mapM_cons, Option.bind_eq_bind, Option.bind_eq_some_iff, Option.pure_def, Option.some.injEq] at h
    obtain ⟨x, hx, us, hus, rfl⟩ := h
    rw [Option.map_eq_some_iff] at hx
    obtain ⟨i, hi, rfl⟩ := hx
    have h1 := run_places fs us hus w
    have h2 : (sizeOf f.type).run P w = .ok i.size w := by simp [sizeOf, typeInfo, program, hi, Sem.run_bind, Sem.run_pure, Sem.run, Result.andThen]
    simp only [List.mapM_cons, Sem.run_bind, h2, Result.andThen, h1, Sem.run_pure]

section build
variable {P : Program} {L : Slots} {d : Option Tmp} {ty : TypeId} {pos : String} {af : Array Edge} {g : Option (Nat × Bool)}

def evp (L : Slots) : List (Nat × Operand) → Option (List (Nat × Value))
  | [] => some []
  | (k, x) :: xs => match ev L x, evp L xs with
    | some v, some vs => some ((k, v) :: vs)
    | _, _ => none
theorem evp_map {ρ : Operand → Value} (hρ : Reads L ρ) : ∀ (l : List (Nat × Operand)) (vs : List (Nat × Value)), evp L l = some vs → (l.map fun (k, x) => (k, ρ x)) = vs
  | [], vs, h => by simp [evp] at h; subst h; rfl
  | (k, x) :: xs, vs, h => by
    unfold evp at h
    split at h
    · rename_i v us hv hus
      cases h
      simp [hρ _ _ hv, evp_map hρ xs us hus]
    · cases h

theorem PE.build {T : TypeId} {parts : List (Nat × Operand)} {vs : List (Nat × Value)} {pl : List (Nat × Nat)} {z out : List Value} (hp : placeL P T = some pl) (hz : zeroL P T = some z) (hx : evp L parts = some vs)
    (hf : fillL (fun i => pl[i]?) z vs = some out) : PE P L ⟨d, .build T parts.toArray, ty, pos, af, g⟩ (.agg out.toArray) := fun ρ hρ w => by
  unfold placeL at hp
  split at hp
  · rename_i fs hu
    have h1 := run_places _ _ hp w
    have h2 : (Array.mapM (fun f => (do pure (f.offset, ← sizeOf f.type) : Sem (Nat × Nat))) fs).run P w = .ok pl.toArray w := by
      rw [show fs = fs.toList.toArray from by simp, List.mapM_toArray, map_eq_pure_bind, Sem.run_bind, h1]; rfl
    obtain ⟨zv, hz1, hz2⟩ := run_zero hz
    have h3 := fill_eq _ _ _ _ hf
    have e : (parts.toArray.map fun (k, x) => (k, ρ x)) = vs.toArray := by rw [List.map_toArray, evp_map hρ _ _ hx]
    simp only [execOp, e, Instr.build, Sem.run_bind, hz2, Result.andThen, run_underlying hu, h2, hz1]
    have e2 : (fun x : Nat => pl.toArray[x]?) = (fun i : Nat => pl[i]?) := by funext i; simp
    rw [e2, h3]
    simp [Sem.run_pure]
  · cases hp

theorem PE.zero {T : TypeId} {l : List Value} (hT : (placeL P T).isSome = true ∨ (arN P T).isSome = true) (hz : zeroL P T = some l) : PE P L ⟨d, .build T #[], ty, pos, af, g⟩ (.agg l.toArray) := fun ρ hρ w => by
  obtain ⟨zv, hz1, hz2⟩ := run_zero hz
  rcases hT with hT | hT
  · obtain ⟨pl, hp⟩ := Option.isSome_iff_exists.1 hT
    exact PE.build (parts := []) (vs := []) hp hz rfl rfl ρ hρ w
  · obtain ⟨mn, hmn⟩ := Option.isSome_iff_exists.1 hT
    unfold arN at hmn
    split at hmn
    · rename_i m e hu
      rw [Option.map_eq_some_iff] at hmn
      obtain ⟨ie, hi, _⟩ := hmn
      simp [execOp, Instr.build, Sem.run_bind, hz2, Result.andThen, run_underlying hu, sizeOf, typeInfo, program, hi, Sem.run, Sem.run_pure, hz1, Instr.fill]
    · cases hmn

theorem PE.buildArr {T m s : TypeId} {parts : List (Nat × Operand)} {vs : List (Nat × Value)} {z out : List Value} (hp : arN P T = some (m, s)) (hz : zeroL P T = some z) (hx : evp L parts = some vs)
    (hf : fillL (fun i => some (i * s, s)) z vs = some out) : PE P L ⟨d, .build T parts.toArray, ty, pos, af, g⟩ (.agg out.toArray) := fun ρ hρ w => by
  unfold arN at hp
  split at hp
  · rename_i m' e hu
    rw [Option.map_eq_some_iff] at hp
    obtain ⟨ie, hi, he⟩ := hp
    cases he
    obtain ⟨zv, hz1, hz2⟩ := run_zero hz
    have h3 := fill_eq _ _ _ _ hf
    have e : (parts.toArray.map fun (k, x) => (k, ρ x)) = vs.toArray := by rw [List.map_toArray, evp_map hρ _ _ hx]
    simp only [execOp, e, Instr.build, Sem.run_bind, hz2, Result.andThen, run_underlying hu, sizeOf, typeInfo, program, hi, Sem.run, Sem.run_pure, hz1, h3]
  · cases hp
end build

/-! ### a slice that is written out -/
section bslice
variable {P : Program} {r : Option Nat} {ops : Array Oper} {n : Nat} {L : Slots} {D : List Deferred} {H : Heap} {R : Facts} {K : Act → World → Prop}
  {i d : Nat} {ty : TypeId} {pos : String} {af : Array Edge}

def slE (P : Program) (T : Nat) : Option (Nat × Nat) := match P.underlying T with | some (.slice e) => (P.info? e).map fun i => (e, i.size) | _ => none
def repl (k : Nat) (z : List Value) : List Value := (List.range (k * z.length)).map fun j => z.toArray[j % z.length]!

theorem bsl {T e : TypeId} {s k : Nat} {parts : List (Nat × Operand)} {vs : List (Nat × Value)} {z out : List Value}
    (ho : ops[i]? = some ⟨some d, .buildSlice T k parts.toArray, ty, pos, af, none⟩) (hp : slE P T = some (e, s)) (hz : zeroL P e = some z) (hzs : z.length = s) (hks : Nat.ble (k * s) 16777216 = true) (hs0 : Nat.blt 0 (k * s) = true)
    (hx : evp L parts = some vs) (hf : fillL (fun i => some (i * s, s)) (repl k z) vs = some out) (hd : Nat.blt d n = true)
    (h : ∀ b, Sy n ((d, .slice (some ⟨b, 0, none⟩) k k) :: L) D ((b, cel e out) :: H) R K) : Sy n L D H R (stp P r ops i K) := fun a w ha hD hs => by
  unfold slE at hp
  split at hp
  · rename_i e' hu
    rw [Option.map_eq_some_iff] at hp
    obtain ⟨ie, hi, he⟩ := hp
    cases he
    obtain ⟨zv, hz1, hz2⟩ := run_zero hz
    have h3 := fill_eq _ _ _ _ hf
    have e1 : (parts.toArray.map fun (k, x) => (k, a.eval x)) = vs.toArray := by rw [List.map_toArray, evp_map ha.reads _ _ hx]
    have hks' : ¬ (k * ie.size > 2 ^ 24) := Nat.not_lt.2 (Nat.le_of_ble_eq_true hks)
    have hs0' : ¬ (k * ie.size = 0) := fun h0 => by rw [h0] at hs0; cases hs0
    refine stp_value ho (wanted_none _ rfl _) (v := .slice (some ⟨w.heap.size, 0, none⟩) k k) (w' := w.alloc (cel e out)) ?_ (h _ _ _ (ha.put (by simpa using hd) _) hD (hs.alloc _))
    have e2 : (Array.map (fun x => zv.cells[x % zv.cells.size]!) (Array.range (k * ie.size))) = (repl k z).toArray := by
      rw [hz1, ← List.toArray_range, List.map_toArray]; simp only [repl, hzs, List.size_toArray]
    simp only [execOp, e1, Instr.buildSlice, Sem.run_bind, run_underlying hu, Result.andThen, sizeOf, typeInfo, program, hi, Sem.run, Sem.run_pure, hks', hs0', if_false, hz2, hz1]
    rw [hz1] at e2
    rw [e2, h3]
    simp [newRow, newObj, Sem.run_bind, Sem.run, Sem.run_pure, Result.andThen]
  · cases hp
end bslice
end Go.Proofs.Ytaldphhdkmchhaa
