/-
  The engine, part R: a range over a function: the statement, its rounds, a call of yield, and where a function with such a statement ends.
-/
import Derived.Test.YtaldphhdkmchhaaEngM
namespace Go.Proofs.Ytaldphhdkmchhaa
set_option linter.unusedSimpArgs false
set_option linter.unusedVariables false
open Go

/-! ### loops whose deferred calls grow -/
structure HeadD where
  L : Slots
  D : List Deferred
  H : Heap
  R : Facts
def AtHeadD {ι : Type} (n : Nat) (inv : ι → HeadD) (j : ι) : Act → World → Prop := fun a w => Knows n (inv j).L a ∧ a.defers = (inv j).D ∧ St (inv j).H (inv j).R w
def AgainD {ι : Type} (n : Nat) (inv : ι → HeadD) (μ : ι → Nat) (i : ι) : Act → World → Prop := fun a w => ∃ j, μ j < μ i ∧ AtHeadD n inv j a w

section loopd
variable {n : Nat} {L : Slots} {D : List Deferred} {H : Heap} {R : Facts} {P : Program} {r : Option Nat} {Q : Exit → Act → World → Prop}
theorem sy_loopD {c : Code} {ι : Type} (inv : ι → HeadD) (μ : ι → Nat) (i₀ : ι)
    (h₀ : Sy n L D H R (AtHeadD n inv i₀))
    (round : ∀ i, Sy n (inv i).L (inv i).D (inv i).H (inv i).R (wpc P r c (Exit.then (AgainD n inv μ i) Q))) :
    Sy n L D H R (wpc P r (.loop c) Q) := by
  have all : ∀ m i a w, μ i = m → AtHeadD n inv i a w → (Code.loop c).wpIn (FF r) 0 P Q a w := by
    intro m i a w hm hat b k cs hro hb hr
    have key : ∀ m i a w, μ i = m → AtHeadD n inv i a w →
        ∃ e a' w', Q e a' w' ∧ ArrivesIn (Machine.fenced P (FF r)) P (lone (b.atR a (.code c :: .inLoop c :: k)) cs w) b k cs e a' w' := by
      intro m
      induction m using Nat.strongRecOn with
      | _ m ih =>
        intro i a w hm ⟨h1, h2, h3⟩
        obtain ⟨e, a₁, w₁, hq, harr⟩ := round i a w h1 h2 h3 b (.inLoop c :: k) cs hro hb hr
        cases e with
        | normal =>
          obtain ⟨j, hlt, g⟩ := hq
          obtain ⟨e₂, a₂, w₂, hq₂, harr₂⟩ := ih (μ j) (hm ▸ hlt) j a₁ w₁ rfl g
          exact ⟨e₂, a₂, w₂, hq₂, .of_steps (StepsIn.trans harr (.one (fenced_calm hb hr rfl) stepR_inLoop)) harr₂⟩
        | exit id => exact ⟨_, a₁, w₁, hq, .pass (x := .inLoop c) rfl (fun _ _ => .inl (by simp)) harr⟩
        | goto l => exact ⟨_, a₁, w₁, hq, .pass (x := .inLoop c) rfl (fun _ _ => .inl (by simp)) harr⟩
        | ret => exact ⟨_, a₁, w₁, hq, .pass (x := .inLoop c) rfl (fun _ _ => .inl (by simp)) harr⟩
        | panic ch => exact ⟨_, a₁, w₁, hq, .pass (x := .inLoop c) rfl (fun _ _ => .inl (by simp)) harr⟩
        | outgrown => exact ⟨_, a₁, w₁, hq, .pass (x := .inLoop c) rfl (fun _ _ => .inl (by simp)) harr⟩
    obtain ⟨e, a', w', hq, harr⟩ := key m i a w hm hat
    exact ⟨e, a', w', hq, .of_steps (.one (fenced_calm hb hr rfl) stepR_loop) harr⟩
  exact fun a w ha hd hs => all _ i₀ a w rfl (h₀ a w ha hd hs)
theorem sy_atD {ι : Type} {inv : ι → HeadD} {j : ι} (hL : Sub (inv j).L L) (hD : (inv j).D = D) (hH : ∀ w, St H R w → St (inv j).H (inv j).R w) : Sy n L D H R (AtHeadD n inv j) := fun _ w ha hd' hs => ⟨ha.sub hL.lk, hd'.trans hD.symm, hH w hs⟩
theorem sy_nextD {ι : Type} {inv : ι → HeadD} {μ : ι → Nat} {i : ι} (j : ι) (hm : μ j < μ i) (hL : Sub (inv j).L L) (hD : (inv j).D = D) (hH : ∀ w, St H R w → St (inv j).H (inv j).R w) :
    Sy n L D H R (AgainD n inv μ i) := fun _ w ha hd' hs => ⟨j, hm, ha.sub hL.lk, hd'.trans hD.symm, hH w hs⟩
end loopd

/-! ### marks -/
def mk1 (b : Nat) : Deferred := { target := .collected b, args := #[] }
def mks (ms : List Nat) : List Deferred := ms.map mk1
def mkh (ms : List Nat) : Heap := ms.map fun b => (b, Obj.deferred (some []))
theorem mks_cons (b : Nat) (ms : List Nat) : mks (b :: ms) = mk1 b :: mks ms := rfl
theorem mkh_cons (b : Nat) (ms : List Nat) : mkh (b :: ms) = (b, Obj.deferred (some [])) :: mkh ms := rfl

/-- What is asked where a body ends that holds ranges over functions. -/
def RetM (P : Program) (fn : Func) (Q : Value → Heap → Facts → Prop) : Exit → Act → World → Prop :=
  bodyPostM (FF none) 0 P fn (fun e w' => ∃ v H' R', Q v H' R' ∧ e = .returned v ∧ St H' R' w')

theorem fnM_of {P : Program} {f : FuncId} {fn : Func} {c : Code} {args : List Value} {H : Heap} {R : Facts} {Q : Value → Heap → Facts → Prop} {n : Nat}
    (hf : P.funcs[f]? = some fn) (hb : fn.body = some c) (hn : fn.ntmps = n) (hl : Nat.ble args.length n = true)
    (h : Sy n (en 0 args) [] H R (wpc P none c (RetM P fn Q))) : Fn P f args H R Q := fun w hs => by
  have hl' : args.length ≤ n := Nat.le_of_ble_eq_true hl
  refine callsIn_of_wp_marks hf hb (FF_fn _ _) (h _ w ⟨?_, fun t v ht => ?_⟩ rfl hs) rfl
  · simp [hn]; omega
  · obtain ⟨_, h2⟩ := lk_en _ _ _ _ ht
    have hlt : t < args.length := by
      rw [Nat.sub_zero] at h2
      exact (List.getElem?_eq_some_iff.1 h2).1
    simpa [Array.getElem?_append, hlt] using h2

theorem leaves_marks {P : Program} {fn : Func} {H : Heap} {R : Facts} {tmps : Array Value} {C : Ending → World → Prop}
    (h : ∀ w, St H R w → ∃ v, (results fn tmps).run P w = .ok v w ∧ C (.returned v) w) :
    ∀ (ms : List Nat) (w : World), St (mkh ms ++ H) R w → LeavesInM (FF none) 0 P fn tmps C (mks ms) .returning w
  | [], w, hs => h w hs
  | b :: ms, w, hs => by
    refine ⟨by simp, .inl ⟨b, w.putObj b (.deferred none), rfl, ?_, ?_⟩⟩
    · exact run_takeDeferred (hs.held (b, .deferred (some [])) (by simp [mkh]))
    · exact leaves_marks h ms _ (St.tail (St.set (o' := .deferred none) (show St ((b, Obj.deferred (some [])) :: (mkh ms ++ H)) R w from hs)))

section ends
variable {P : Program} {fn : Func} {n : Nat} {L : Slots} {H : Heap} {R : Facts} {Q : Value → Heap → Facts → Prop}
theorem sy_returnM (ms : List Nat) {H0 : Heap} {R0 : Facts} {xs : List ResultVar} {vs : List Value} {v : Value} (hm : ∀ w, St H0 R0 w → St (mkh ms ++ H) R w) (hr : fn.results = xs.toArray) (h : RVs P n L H R xs vs) (hv : retV vs = v) {H' : Heap} {R' : Facts}
    (hq : Q v H' R') (hs : ∀ w, St H R w → St H' R' w) : Sy n L (mks ms) H0 R0 (RetM P fn Q .ret) := fun a w ha hD hs0 => by
  show LeavesInM _ _ _ _ _ _ a.defers _ _
  rw [hD]
  exact leaves_marks (fun w hs1 => ⟨v, hv ▸ run_results hr h ha hs1, v, H', R', hq, rfl, hs w hs1⟩) ms w (hm w hs0)
theorem sy_fallM (ms : List Nat) {H0 : Heap} {R0 : Facts} {xs : List ResultVar} {vs : List Value} {v : Value} (hm : ∀ w, St H0 R0 w → St (mkh ms ++ H) R w) (hr : fn.results = xs.toArray) (h : RVs P n L H R xs vs) (hv : retV vs = v) {H' : Heap} {R' : Facts}
    (hq : Q v H' R') (hs : ∀ w, St H R w → St H' R' w) : Sy n L (mks ms) H0 R0 (RetM P fn Q .normal) := fun a w ha hD hs0 => by
  show LeavesInM _ _ _ _ _ _ a.defers _ _
  rw [hD]
  exact leaves_marks (fun w hs1 => ⟨v, hv ▸ run_results hr h ha hs1, v, H', R', hq, rfl, hs w hs1⟩) ms w (hm w hs0)
end ends

/-! ### a call of yield -/
def yv (l : Nat) : Value := .func (.yield l) #[] #[]
/-- Called in a state (H, R), the yield of loop l hands back v in a state (H', R') with Q v H' R'. -/
def Yd (P : Program) (l : Nat) (args : List Value) (H : Heap) (R : Facts) (Q : Value → Heap → Facts → Prop) : Prop :=
  ∀ w, St H R w → ∃ f tm as bo, (Instr.yield l args.toArray).run P w = .ok (.round l f tm as bo) w ∧
    RoundIn (FF none) 0 P l f tm as bo w (fun e w' => ∃ v H' R', Q v H' R' ∧ e = .returned v ∧ St H' R' w')

section call
variable {P : Program} {ops : Array Oper} {n : Nat} {L : Slots} {D : List Deferred} {H : Heap} {R : Facts} {K : Act → World → Prop}
  {i d : Nat} {ty : TypeId} {pos : String} {af : Array Edge}
theorem run_yield_op {l : Nat} {c : Operand} {xs : List Operand} {vs : List Value} {ts : Array TypeId} {dd : Option Nat} {g : Option (Nat × Bool)} {ρ : Operand → Value} (hρ : Reads L ρ)
    (hc : ev L c = some (yv l)) (hx : evs L xs = some vs) {w w' : World} {x : Next} (h : (Instr.yield l vs.toArray).run P w = .ok x w') :
    (execOp ρ ⟨dd, .call { callee := .value c, args := xs.toArray, argTypes := ts }, ty, pos, af, g⟩).run P w = .ok x w' := by
  have e : xs.toArray.map ρ = vs.toArray := by rw [List.map_toArray, evs_map hρ _ _ hx]
  simp only [execOp, resolve, hρ _ _ hc, yv, Deferred.ofValue, e, Sem.run_bind, Sem.run_pure, Result.andThen, invoke]
  simpa using h

theorem clY {l : Nat} {c : Operand} {xs : List Operand} {vs : List Value} {ts : Array TypeId} {Q : Value → Heap → Facts → Prop}
    (ho : ops[i]? = some ⟨some d, .call { callee := .value c, args := xs.toArray, argTypes := ts }, ty, pos, af, none⟩) (hcv : ev L c = some (yv l)) (hd : Nat.blt d n = true) (hx : evs L xs = some vs)
    (hc : Yd P l vs H R Q) (h : ∀ v H' R', Q v H' R' → Sy n ((d, v) :: L) D H' R' K) : Sy n L D H R (stp P none ops i K) := fun a w ha hD hs => by
  obtain ⟨f, tm, as, bo, h1, h2⟩ := hc w hs
  have hw := wanted_none ⟨some d, .call { callee := .value c, args := xs.toArray, argTypes := ts }, ty, pos, af, none⟩ rfl (yielded ops a.tmps)
  unfold stp
  rw [ho]
  simp only [hw, if_true, Oper.wpIn, FF_round, semAt_ok (run_yield_op ha.reads hcv hx h1) (by simp), Oper.uponIn]
  refine ⟨fun _ _ => FF_fn _ _, by simp [FF_depth], RoundIn.mono h2 fun e w' he => ?_⟩
  obtain ⟨v, H', R', q, rfl, hs'⟩ := he
  exact h v H' R' q _ _ (ha.put (by simpa using hd) v) hD hs'
end call

/-! ### the record -/
/-- The record of a loop, but for what turns. -/
structure LR where
  fn : FuncId
  tmps : Array Value
  params : Array Tmp
  assign : Code
  body : Code
  defers : Nat
def lob (c : LR) (st : LoopState) (pend : Option Code) : Obj := .loop { state := st, pending := pend, fn := c.fn, tmps := c.tmps, params := c.params, assign := c.assign, body := c.body, defers := c.defers }

/-- Behind the statement: the jump that a round has left, or on. -/
def jumpTo (P : Program) (r : Option Nat) (Q : Exit → Act → World → Prop) : Option Code → Act → World → Prop
  | none => Q .normal
  | some c => wpc P r c Q

theorem sy_jn {P : Program} {r : Option Nat} {Q : Exit → Act → World → Prop} {n : Nat} {L : Slots} {D : List Deferred} {H : Heap} {R : Facts} (h : Sy n L D H R (Q .normal)) : Sy n L D H R (jumpTo P r Q none) := h
theorem sy_jc {P : Program} {r : Option Nat} {Q : Exit → Act → World → Prop} {c : Code} {n : Nat} {L : Slots} {D : List Deferred} {H : Heap} {R : Facts} (h : Sy n L D H R (wpc P r c Q)) : Sy n L D H R (jumpTo P r Q (some c)) := h

section stmt
variable {P : Program} {n : Nat} {L : Slots} {D : List Deferred} {H : Heap} {R : Facts} {Q : Exit → Act → World → Prop}

theorem sy_range {g : Operand} {ps : Array Tmp} {assign body : Code} {f : FuncId} {first cap : List Value} (hg : ev L g = some (.func (.func f) first.toArray cap.toArray)) (hf : cal P f = true)
    (h : ∀ (c : LR) (bl bd : Nat), c.params = ps → c.assign = assign → c.body = body → Knows n L ⟨c.tmps, []⟩ →
      ∃ A : LoopState → Option Code → Heap → Facts → Prop,
        Fn P f (first ++ [yv bl] ++ cap) ((bl, lob c .ready none) :: (bd, .deferred (some [])) :: H) R (fun _ H' R' => ∃ st pend T, st ≠ .busy ∧ H'.Perm ((bl, lob c st pend) :: T) ∧ A st pend T R') ∧
        ∀ st pend T R', A st pend T R' → Sy n L (mk1 bd :: D) T R' (jumpTo P none Q pend)) :
    Sy n L D H R (wpc P none (.rangeFunc g ps assign body) Q) := fun a w ha hD hs => by
  refine wpIn_rangeFunc fun fn _ => ?_
  let c : LR := ⟨fn, a.tmps, ps, assign, body, w.heap.size⟩
  obtain ⟨A, h1, h2⟩ := h c (w.heap.size + 1) w.heap.size rfl rfl rfl ⟨ha.size, ha.at_⟩
  have hs2 := (hs.alloc (.deferred (some []))).alloc (lob c .ready none)
  rw [show (w.alloc (Obj.deferred (some []))).heap.size = w.heap.size + 1 from World.size_alloc _ _] at hs2
  refine ⟨w.heap.size + 1, _, _, ⟨.fn (.func f) cap.toArray, first.toArray ++ #[yv (w.heap.size + 1)]⟩, (w.alloc (.deferred (some []))).alloc (lob c .ready none), f, (first ++ [yv (w.heap.size + 1)] ++ cap).toArray, (w.alloc (.deferred (some []))).alloc (lob c .ready none), run_enterLoop_outer _ _ _ _ _, ?_, fun _ _ => FF_fn _ _, ?_, by simp [FF_depth], CallsIn.mono (h1 _ hs2) ?_⟩
  · simp only [resolve, rangeCall, ha.reads _ _ hg, Deferred.ofValue, Sem.run_pure, List.map_toArray, List.map_cons, List.map_nil]
    rfl
  · simp only [invoke]
    rw [run_callFunc hf]
    simp
  · rintro e w₃ ⟨v, H', R', ⟨st, pend, T, hst, hp, hA⟩, rfl, hs3⟩
    have hs4 := hs3.perm hp
    have hl := hs4.held (w.heap.size + 1, lob c st pend) (by simp)
    refine ⟨pend, _, run_endLoop hl (by simpa using hst), ?_⟩
    have hs5 := (St.set (o' := lob c .exhausted pend) hs4).tail
    have h3 := h2 st pend T R' hA ⟨a.tmps, mk1 w.heap.size :: a.defers⟩ _ ⟨ha.size, ha.at_⟩ (by rw [hD]) hs5
    cases pend with
    | none => exact h3
    | some j => exact h3

/-- What is asked where a round's body ends. -/
def RP (P : Program) (bl : Nat) (Q : Value → Heap → Facts → Prop) : Exit → Act → World → Prop :=
  roundPost P bl (fun e w' => ∃ v H' R', Q v H' R' ∧ e = .returned v ∧ St H' R' w')
/-- What is asked between a round's assignments and its body. -/
def RB (P : Program) (bl : Nat) (body : Code) (Q : Value → Heap → Facts → Prop) : Exit → Act → World → Prop :=
  Exit.then (fun a₁ w₁ => ∃ w₂, (Instr.beginRound bl).run P w₁ = .ok () w₂ ∧ body.wpIn (FF (some bl)) 0 P (RP P bl Q) a₁ w₂) (fun _ _ _ => False)

theorem yd_of {c : LR} {bl : Nat} {p : Tmp} {assign body : Code} {v : Value} {QY : Value → Heap → Facts → Prop} [m : Mem1 bl (lob c .ready none) H] (hp : c.params = #[p]) (ha : c.assign = assign) (hb : c.body = body)
    (hk : Knows n L ⟨c.tmps, []⟩) (hpn : Nat.blt p n = true) (h : Sy n ((p, v) :: L) [] H R (wpc P (some bl) assign (RB P bl body QY))) : Yd P bl [v] H R QY := fun w hs => by
  subst ha hb
  have hl := hs.held _ m.mem
  refine ⟨c.fn, _, c.assign, c.body, run_yield (r := { state := .ready, pending := none, fn := c.fn, tmps := c.tmps, params := c.params, assign := c.assign, body := c.body, defers := c.defers }) hl (by simp [hp]), ?_⟩
  refine roundIn_of_wpIn (FF_fn _ _) ?_
  have h1 := h ⟨c.tmps.setIfInBounds p v, []⟩ w (by simpa [Act.put] using hk.put (d := p) (by simpa using hpn) v) rfl hs
  have e : (c.params.zip #[v]).foldl (fun tmps (x : Tmp × Value) => tmps.setIfInBounds x.1 x.2) c.tmps = c.tmps.setIfInBounds p v := by simp [hp]
  dsimp only
  rw [e]
  exact h1

theorem sy_beginRound {c : LR} {bl : Nat} {body : Code} {H' : Heap} {QY : Value → Heap → Facts → Prop} [m : Mem1 bl (lob c .ready none) H] [rp : Rep [(bl, lob c .ready none)] [(bl, lob c .busy none)] H H']
    (h : Sy n L D H' R (wpc P (some bl) body (RP P bl QY))) : Sy n L D H R (RB P bl body QY .normal) := fun a w ha hD hs =>
  ⟨_, run_beginRound (hs.held _ m.mem) rfl, h a _ ha hD (hs.rep (F := [(bl, lob c .ready none)]) (F' := [(bl, lob c .busy none)]) fun _ hT => St.set hT)⟩

theorem sy_roundOn {c : LR} {bl : Nat} {pd : Option Code} {st : LoopState} {H' : Heap} {QY : Value → Heap → Facts → Prop} [m : Mem1 bl (lob c st pd) H] [rp : Rep [(bl, lob c st pd)] [(bl, lob c .ready none)] H H']
    {H2 : Heap} {R2 : Facts} (h : QY (.bool true) H2 R2) (hs2 : ∀ w, St H' R w → St H2 R2 w) : Sy n L D H R (RP P bl QY .normal) := fun a w ha hD hs =>
  ⟨_, _, run_endRound none (hs.held _ m.mem), _, H2, R2, h, rfl, hs2 _ (hs.rep (F := [(bl, lob c st pd)]) (F' := [(bl, lob c .ready none)]) fun _ hT => St.set hT)⟩
theorem sy_roundRet {c : LR} {bl : Nat} {pd : Option Code} {st : LoopState} {H' : Heap} {QY : Value → Heap → Facts → Prop} [m : Mem1 bl (lob c st pd) H] [rp : Rep [(bl, lob c st pd)] [(bl, lob c .done (some .ret))] H H']
    {H2 : Heap} {R2 : Facts} (h : QY (.bool false) H2 R2) (hs2 : ∀ w, St H' R w → St H2 R2 w) : Sy n L D H R (RP P bl QY .ret) := fun a w ha hD hs =>
  ⟨_, _, run_endRound (some .ret) (hs.held _ m.mem), _, H2, R2, h, rfl, hs2 _ (hs.rep (F := [(bl, lob c st pd)]) (F' := [(bl, lob c .done (some .ret))]) fun _ hT => St.set hT)⟩
theorem sy_roundExit {c : LR} {bl id : Nat} {pd : Option Code} {st : LoopState} {H' : Heap} {QY : Value → Heap → Facts → Prop} [m : Mem1 bl (lob c st pd) H] [rp : Rep [(bl, lob c st pd)] [(bl, lob c .done (some (.exit id)))] H H']
    {H2 : Heap} {R2 : Facts} (h : QY (.bool false) H2 R2) (hs2 : ∀ w, St H' R w → St H2 R2 w) : Sy n L D H R (RP P bl QY (.exit id)) := fun a w ha hD hs =>
  ⟨_, _, run_endRound (some (.exit id)) (hs.held _ m.mem), _, H2, R2, h, rfl, hs2 _ (hs.rep (F := [(bl, lob c st pd)]) (F' := [(bl, lob c .done (some (.exit id)))]) fun _ hT => St.set hT)⟩
end stmt
end Go.Proofs.Ytaldphhdkmchhaa
