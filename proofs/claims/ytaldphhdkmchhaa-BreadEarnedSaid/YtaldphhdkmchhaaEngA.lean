/-
  The engine, part A: a region's operations in whatever order its edges allow, by one plan. Pure operations are taken first; loads are taken first too, and what they read is shown anew behind each operation that could come before them.
-/
import Derived.OrdersIn
import Derived.RangeFuncIn
import Derived.RangeFuncCalls
import Derived.RangeFuncRecord
import Derived.KernelRfl
namespace Go.Proofs.Ytaldphhdkmchhaa
set_option linter.unusedSimpArgs false
set_option linter.unusedVariables false
open Go

/-- The fence that lets all in; r: the loop's record, in a round. -/
def FF (r : Option Nat) : Fence := { Fence.wide with round := r }
theorem FF_fn (r : Option Nat) (f : FuncId) : (FF r).fn f := trivial
theorem FF_round (r : Option Nat) : (FF r).round = r := rfl
theorem FF_depth (r : Option Nat) : (FF r).depth = none := rfl

section region
variable {P : Program} {r : Option Nat} {ops : Array Oper}

theorem opIn_exit {F : Fence} {n : Nat} {o : Oper} {a : Act} {w : World} {K : Act → World → Prop} {Q : Exit → Act → World → Prop}
    (h : o.wpIn F n P a w K (fun _ _ _ => False)) : o.wpIn F n P a w K Q := by
  unfold Oper.wpIn at *
  refine ⟨h.1, ?_⟩
  have h := h.2
  generalize (o.semAt F.round a.eval).run P w = res at *
  cases res with
  | ok x w' =>
    cases x <;> simp only [Oper.uponIn] at h ⊢ <;>
      first
        | exact h
        | exact ⟨h.1, CallsIn.mono h.2 (fun e w'' he => by
            cases e with
            | returned v => exact he
            | panicked c => exact he.elim
            | outgrown => obtain ⟨_, _, hf⟩ := he; exact hf.elim)⟩
        | exact ⟨h.1, RoundIn.mono h.2 (fun e w'' he => by
            cases e with
            | returned v => exact he
            | panicked c => exact he.elim
            | outgrown => obtain ⟨_, _, hf⟩ := he; exact hf.elim)⟩
  | halt x w' => cases x <;> simp only [Oper.uponIn] at h ⊢ <;> exact h.elim

/-- One operation, then K. -/
def stp (P : Program) (r : Option Nat) (ops : Array Oper) (i : Nat) (K : Act → World → Prop) (a : Act) (w : World) : Prop :=
  match ops[i]? with
  | none => False
  | some o => if Region.wanted o (yielded ops a.tmps) then o.wpIn (FF r) 0 P a w K (fun _ _ _ => False) else K (a.put o.dst undef) w

theorem stp_mono {i : Nat} {a : Act} {w : World} {K K' : Act → World → Prop} (h : ∀ a w, K a w → K' a w) (hh : stp P r ops i K a w) : stp P r ops i K' a w := by
  unfold stp at *
  split
  · simp_all
  · rename_i o ho
    simp only [ho] at hh
    split
    · rename_i hw; simp only [hw, if_true] at hh; exact Oper.wpIn_mono h hh
    · rename_i hw; simp only [hw] at hh; exact h _ _ hh

theorem stp_wpOpIn {i : Nat} {a : Act} {w : World} {K : Act → World → Prop} {Q : Exit → Act → World → Prop} (h : stp P r ops i K a w) : wpOpIn (FF r) 0 P ops Q i K a w := by
  unfold stp at h
  unfold wpOpIn
  split
  · simp_all
  · rename_i o ho
    simp only [ho] at h
    split
    · rename_i hw; simp only [hw, if_true] at h; exact opIn_exit h
    · rename_i hw; simp only [hw] at h; exact ⟨fun _ _ => FF_fn _ _, h⟩

theorem semAt_congr {ρ ρ' : Operand → Value} (o : Oper) (hs : ∀ cs b, o.op ≠ .select cs b) (h : ∀ x ∈ o.op.operands, ρ x = ρ' x) :
    o.semAt r ρ = o.semAt r ρ' := by
  have h1 := execOp_congr (ρ := ρ) (ρ' := ρ') o hs h
  unfold Oper.semAt
  split
  · rename_i l c hc
    have h2 := resolve_congr (ρ := ρ) (ρ' := ρ') c o.type (fun x hx => h x (by rw [hc]; simpa [Op.operands] using hx))
    simp only [h2]
  · exact h1

theorem semAt_put (o : Oper) (hs : ∀ cs b, o.op ≠ .select cs b) (a : Act) (dst : Option Tmp) (v : Value) (h : ∀ d, dst = some d → d ∉ o.looksAt ops) :
    o.semAt r (a.put dst v).eval = o.semAt r a.eval :=
  semAt_congr o hs fun x hx => Act.eval_put fun d hd hxd => h d hd (by
    subst hxd
    exact List.mem_append_left _ (List.mem_filterMap.2 ⟨.tmp d, by simpa using hx, rfl⟩))

/-- In act 'a', in every world that meets C, operation o leaves v and does nothing else. -/
def Yld (P : Program) (r : Option Nat) (ops : Array Oper) (C : World → Prop) (o : Oper) (v : Value) (a : Act) : Prop :=
  (Region.wanted o (yielded ops a.tmps) = true ∧ ∀ w, C w → (o.semAt r a.eval).run P w = .ok (.value v) w) ∨
  (Region.wanted o (yielded ops a.tmps) = false ∧ v = undef)

theorem Yld.of_same {C : World → Prop} {o : Oper} {v : Value} {a a' : Act} (hy : Yld P r ops C o v a) (he : o.semAt r a'.eval = o.semAt r a.eval)
    (hw : Region.wanted o (yielded ops a'.tmps) = Region.wanted o (yielded ops a.tmps)) : Yld P r ops C o v a' := by
  unfold Yld at *
  rw [he, hw]
  exact hy

theorem Yld.stp {C : World → Prop} {i : Nat} {o : Oper} {v : Value} {a : Act} (hi : ops[i]? = some o) (hy : Yld P r ops C o v a)
    {K : Act → World → Prop} {w : World} (hC : C w) (h : K (a.put o.dst v) w) : stp P r ops i K a w := by
  unfold Go.Proofs.Ytaldphhdkmchhaa.stp
  simp only [hi]
  rcases hy with ⟨hw, hv⟩ | ⟨hw, rfl⟩
  · simp only [hw, if_true, Oper.wpIn, FF_round, hv w hC, Oper.uponIn]; exact ⟨fun _ _ => FF_fn _ _, h⟩
  · simp only [hw, Bool.false_eq_true, if_false]; exact h

theorem stp_put {C : World → Prop} {j : Nat} {oi oj : Oper} {v : Value} (hj : ops[j]? = some oj) (hap : oi.apart ops oj = true)
    (hsi : ∀ cs b, oi.op ≠ .select cs b) (hsj : ∀ cs b, oj.op ≠ .select cs b) {K : Act → World → Prop} {a : Act} {w : World}
    (hy : Yld P r ops C oi v a) (h : stp P r ops j K (a.put oi.dst v) w) :
    stp P r ops j (fun a' w' => Yld P r ops C oi v a' ∧ K (a'.put oi.dst v) w') a w := by
  obtain ⟨h1, h2, h3⟩ := Oper.apart_spec hap
  have keep : ∀ (a : Act), Yld P r ops C oi v a → ∀ u, Yld P r ops C oi v (a.put oj.dst u) := fun a hy u =>
    hy.of_same (semAt_put oi hsi a oj.dst u h3) (wanted_put oi a oj.dst u h3)
  have keepD : ∀ d, Yld P r ops C oi v { a with defers := d :: a.defers } := fun d => hy.of_same rfl rfl
  unfold stp at *
  simp only [hj] at *
  rw [wanted_put oj a oi.dst v h1] at h
  split
  · rename_i hw
    simp only [hw, if_true] at h
    unfold Oper.wpIn at *
    refine ⟨fun _ _ => FF_fn _ _, ?_⟩
    have h := h.2
    rw [semAt_put oj hsj a oi.dst v h1] at h
    generalize (oj.semAt (FF r).round a.eval).run P w = res at *
    cases res with
    | ok x w' =>
      cases x <;> simp only [Oper.uponIn] at h ⊢
      case value u => exact ⟨keep a hy u, by rw [← Act.put_comm a v u h2]; exact h⟩
      case skip => exact ⟨keep a hy _, by rw [← Act.put_comm a v undef h2]; exact h⟩
      case defer d =>
        refine ⟨keep _ (keepD d) _, ?_⟩
        rw [← Act.put_comm _ v undef h2, ← Act.put_defers]
        exact h
      case enter f args =>
        refine ⟨h.1, CallsIn.mono h.2 fun e w'' he => ?_⟩
        cases e with
        | returned u => exact ⟨keep a hy u, by rw [← Act.put_comm a v u h2]; exact he⟩
        | panicked c => exact he
        | outgrown => exact he
      case row row args => exact ⟨h.1, RowsIn.mono h.2 fun u w'' he => ⟨keep a hy u, by rw [← Act.put_comm a v u h2]; exact he⟩⟩
      case round l f tmps assign body =>
        refine ⟨h.1, RoundIn.mono h.2 fun e w'' he => ?_⟩
        cases e with
        | returned u => exact ⟨keep a hy u, by rw [← Act.put_comm a v u h2]; exact he⟩
        | panicked c => exact he
        | outgrown => exact he
    | halt x w' => cases x <;> simp only [Oper.uponIn] at h ⊢
  · rename_i hw
    simp only [hw] at h
    exact ⟨keep a hy _, by rw [← Act.put_comm a v undef h2]; exact h⟩

/-! ### what comes before what -/
def maskOf (bm : List Nat) (o : Oper) : Nat := o.after.toList.foldl (fun s e => if Region.binds .any e then s ||| 2 ^ e.on ||| bm.getD e.on 0 else s) 0

/-- 'bm': for each operation the bits of those that must come before it. -/
def bmOk (ops : Array Oper) (bm : List Nat) : Bool :=
  (List.range ops.size).all fun j => match ops[j]? with
    | none => true
    | some o => bm.getD j 0 == maskOf bm o && o.after.toList.all fun e => !Region.binds .any e || e.on < j

theorem testBit_mask (bm : List Nat) (i : Nat) : ∀ (l : List Edge) (s : Nat), (l.foldl (fun s e => if Region.binds .any e then s ||| 2 ^ e.on ||| bm.getD e.on 0 else s) s).testBit i = true →
    s.testBit i = true ∨ ∃ e ∈ l, Region.binds .any e = true ∧ (e.on = i ∨ (bm.getD e.on 0).testBit i = true) := by
  intro l
  induction l with
  | nil => intro s h; exact .inl h
  | cons e l ih =>
    intro s h
    rcases ih _ h with h1 | ⟨e', he', hb⟩
    · dsimp only at h1
      by_cases hb : Region.binds .any e = true
      · rw [if_pos hb] at h1
        rw [Nat.testBit_or, Nat.testBit_or, Bool.or_eq_true, Bool.or_eq_true] at h1
        rcases h1 with (h1 | h1) | h1
        · exact .inl h1
        · refine .inr ⟨e, by simp, hb, .inl ?_⟩
          rw [Nat.testBit_two_pow] at h1; simpa using h1
        · exact .inr ⟨e, by simp, hb, .inr h1⟩
      · rw [if_neg hb] at h1; exact .inl h1
    · exact .inr ⟨e', by simp [he'], hb⟩

/-- What is listed is closed: whatever must come before it is listed. -/
def Down (ops : Array Oper) (listed : Array Bool) : Prop :=
  ∀ j o, ops[j]? = some o → listed.getD j true = true → ∀ e ∈ o.after, Region.binds .any e = true → listed.getD e.on false = true

theorem before_listed {bm : List Nat} (hbm : bmOk ops bm = true) {listed : Array Bool} (hd : Down ops listed) (i : Nat) :
    ∀ j o, ops[j]? = some o → (∀ e ∈ o.after, Region.binds .any e = true → listed.getD e.on false = true) → (bm.getD j 0).testBit i = true → listed.getD i false = true := by
  intro j
  induction j using Nat.strongRecOn with
  | _ j ih =>
    intro o ho hall hbit
    have hj : j < ops.size := (Array.getElem?_eq_some_iff.1 ho).1
    have h1 := List.all_eq_true.1 hbm j (List.mem_range.2 hj)
    simp only [ho, Bool.and_eq_true, beq_iff_eq] at h1
    obtain ⟨h1, h2⟩ := h1
    rw [h1] at hbit
    rcases testBit_mask bm i _ _ hbit with h3 | ⟨e, he, hb, h3⟩
    · simp at h3
    · have hl := hall e (by simpa using he) hb
      rcases h3 with h3 | h3
      · rw [← h3]; exact hl
      · have hlt : e.on < j := by
          have := List.all_eq_true.1 h2 e he
          simpa [hb] using this
        have hsz : e.on < ops.size := by omega
        refine ih e.on hlt ops[e.on] (by simp) ?_ h3
        refine hd e.on ops[e.on] (by simp) ?_
        rcases Nat.lt_or_ge e.on listed.size with h' | h'
        · simp [h'] at hl ⊢; exact hl
        · simp [Array.getElem?_eq_none h'] at hl

theorem Down.set {listed : Array Bool} (hd : Down ops listed) {i : Nat} (hi : i ∈ Region.ready .any ops listed) : Down ops (listed.setIfInBounds i true) := by
  intro j o ho hj e he hb
  apply getD_set_true
  by_cases hij : i = j
  · subst hij
    obtain ⟨_, o', ho', hall⟩ := mem_ready.1 hi
    rw [ho] at ho'
    cases ho'
    exact hall e he hb
  · rw [getD_set_ne true hij] at hj
    exact hd j o ho hj e he hb

theorem down_start : Down ops (Array.replicate ops.size false) := by
  intro j o ho hj
  have hlt : j < ops.size := (Array.getElem?_eq_some_iff.1 ho).1
  simp [hlt] at hj

/-! ### loads that are taken first -/
abbrev Pend := List (Nat × (World → Prop))
def nthN : List Nat → Nat → Nat
  | [], _ => 0
  | x :: _, 0 => x
  | _ :: xs, k + 1 => nthN xs k
def bitB (m i : Nat) : Bool := Nat.beq (Nat.mod (Nat.div m (Nat.pow 2 i)) 2) 1
theorem nthN_eq : ∀ (l : List Nat) (k : Nat), nthN l k = l.getD k 0
  | [], k => by simp [nthN]
  | x :: xs, 0 => by simp [nthN]
  | x :: xs, k + 1 => by simp [nthN, nthN_eq xs k]
theorem bitB_eq (m i : Nat) : bitB m i = m.testBit i := by
  rw [Nat.testBit_eq_decide_div_mod_eq]
  show Nat.beq (m / 2 ^ i % 2) 1 = _
  by_cases h : m / 2 ^ i % 2 = 1
  · rw [h]; rfl
  · simp only [h, decide_false]; cases hb : Nat.beq (m / 2 ^ i % 2) 1 with
    | false => rfl
    | true => exact absurd (Nat.eq_of_beq_eq_true hb) h
/-- Must i come before j? -/
def pre (bm : List Nat) (j i : Nat) : Bool := bitB (nthN bm j) i
theorem pre_eq (bm : List Nat) (j i : Nat) : pre bm j i = (bm.getD j 0).testBit i := by unfold pre; rw [bitB_eq, nthN_eq]

/-- Operation j has been carried out: what those loads read that could still come behind it. -/
def okAfter (bm : List Nat) (j : Nat) : Pend → World → Prop
  | [], _ => True
  | (i, C) :: ps, w => (bif pre bm j i then True else C w) ∧ okAfter bm j ps w

def keepP (bm : List Nat) (j : Nat) : Pend → Pend
  | [] => []
  | (i, C) :: ps => bif pre bm j i then keepP bm j ps else (i, C) :: keepP bm j ps
theorem keepP_sub (bm : List Nat) (j : Nat) : ∀ (pend : Pend), (keepP bm j pend).Sublist pend
  | [] => .slnil
  | (i, C) :: ps => by
    unfold keepP
    cases pre bm j i with
    | true => exact .cons _ (keepP_sub bm j ps)
    | false => exact .cons_cons _ (keepP_sub bm j ps)
theorem keepP_mono (bm : List Nat) (j : Nat) : ∀ {p q : Pend}, p.Sublist q → (keepP bm j p).Sublist (keepP bm j q)
  | _, _, .slnil => .slnil
  | p, (i, C) :: q, .cons _ hs => by
    rw [keepP.eq_2]
    cases pre bm j i with
    | true => exact keepP_mono bm j hs
    | false => exact .cons _ (keepP_mono bm j hs)
  | (i, C) :: p, _ :: q, .cons_cons _ hs => by
    rw [keepP.eq_2, keepP.eq_2]
    cases pre bm j i with
    | true => exact keepP_mono bm j hs
    | false => exact .cons_cons _ (keepP_mono bm j hs)

def AllP (pend : Pend) (w : World) : Prop := ∀ p ∈ pend, p.2 w

theorem AllP.cons {i : Nat} {C : World → Prop} {pend : Pend} {w : World} (hC : C w) (h : AllP pend w) : AllP ((i, C) :: pend) w := fun p hp => by
  rcases List.mem_cons.1 hp with h1 | h1
  · subst h1; exact hC
  · exact h p h1

theorem okAfter_all {bm : List Nat} {j : Nat} : ∀ {pend : Pend} {w : World}, okAfter bm j pend w → AllP (keepP bm j pend) w
  | [], _, _ => fun p hp => by cases hp
  | (i, C) :: qs, w, h => by
    rw [keepP.eq_2]
    cases hb : pre bm j i with
    | true => exact okAfter_all h.2
    | false => exact AllP.cons (by have := h.1; simpa only [hb, cond_false] using this) (okAfter_all h.2)

theorem all_okAfter {bm : List Nat} {j : Nat} : ∀ {pend : Pend} {w : World}, AllP pend w → okAfter bm j pend w
  | [], _, _ => trivial
  | (i, C) :: qs, w, h => ⟨by cases pre bm j i with | true => exact trivial | false => exact h (i, C) (by simp), all_okAfter fun p hp => h p (by simp [hp])⟩

theorem okAfter_sub {bm : List Nat} {j : Nat} {w : World} : ∀ {p q : Pend}, p.Sublist q → okAfter bm j q w → okAfter bm j p w
  | _, _, .slnil, h => h
  | _, _, .cons _ hs, h => okAfter_sub hs h.2
  | _, _, .cons_cons _ hs, h => ⟨h.1, okAfter_sub hs h.2⟩

def anyP (P : Program) (r : Option Nat) (ops : Array Oper) (bm : List Nat) (X : Act → World → Prop) : Nat → Array Bool → Pend → Act → World → Prop
  | 0, listed, _, a, w => Region.ready .any ops listed = [] ∧ X a w
  | fuel + 1, listed, pend, a, w =>
    (Region.ready .any ops listed = [] → X a w) ∧
    ∀ i ∈ Region.ready .any ops listed, stp P r ops i (fun a' w' => okAfter bm i pend w' ∧ anyP P r ops bm X fuel (listed.setIfInBounds i true) (keepP bm i pend) a' w') a w

def Qn (X : Act → World → Prop) : Exit → Act → World → Prop
  | .normal, a, w => X a w
  | _, _, _ => False

theorem anyP_wpAny {bm : List Nat} {X : Act → World → Prop} : ∀ (fuel : Nat) (listed : Array Bool) (pend : Pend) (a : Act) (w : World),
    anyP P r ops bm X fuel listed pend a w → wpAnyIn (FF r) 0 P .any ops (Qn X) fuel listed a w
  | 0, _, _, _, _, h => h
  | fuel + 1, _, _, _, _, h => ⟨h.1, fun i hi => stp_wpOpIn (stp_mono (fun a' w' h' => anyP_wpAny fuel _ _ a' w' h'.2) (h.2 i hi))⟩

theorem anyP_sub {bm : List Nat} {X : Act → World → Prop} : ∀ (fuel : Nat) (listed : Array Bool) (p q : Pend) (a : Act) (w : World), p.Sublist q →
    anyP P r ops bm X fuel listed q a w → anyP P r ops bm X fuel listed p a w
  | 0, _, _, _, _, _, _, h => h
  | fuel + 1, _, _, _, _, _, hs, h => ⟨h.1, fun i hi => stp_mono (fun a' w' h' => ⟨okAfter_sub hs h'.1, anyP_sub fuel _ _ _ a' w' (keepP_mono bm i hs) h'.2⟩) (h.2 i hi)⟩

theorem anyP_first {bm : List Nat} (hbm : bmOk ops bm = true) {X : Act → World → Prop} {C : World → Prop} {i : Nat} {oi : Oper} {v : Value} (hi : ops[i]? = some oi)
    (hsel : ∀ (j : Nat) (o : Oper) cs b, ops[j]? = some o → o.op ≠ .select cs b) :
    ∀ (fuel : Nat) (listed : Array Bool) (pend : Pend) (a : Act) (w : World),
      (∀ j oj, ops[j]? = some oj → j ≠ i → listed.getD j true = false → (∀ e ∈ oj.after, Region.binds .any e = true → e.on ≠ i) → oi.apart ops oj = true) →
      Down ops listed → i ∈ Region.ready .any ops listed → AllP pend w → Yld P r ops C oi v a → C w →
      (∀ pend' : Pend, ((i, C) :: pend = pend' ∨ ((∀ w, C w) ∧ pend = pend')) → anyP P r ops bm X fuel (listed.setIfInBounds i true) pend' (a.put oi.dst v) w → anyP P r ops bm X (fuel + 1) listed pend a w) := by
  intro fuel
  induction fuel with
  | zero =>
    intro listed pend a w _ _ hr hp hy hC pend' hpend H
    refine ⟨fun h => (by rw [h] at hr; cases hr), fun j hj => ?_⟩
    by_cases hji : j = i
    · subst hji; exact hy.stp hi hC ⟨all_okAfter hp, H⟩
    · have := ready_mono hj hji
      rw [H.1] at this
      cases this
  | succ fuel ih =>
    intro listed pend a w hfree hdown hr hp hy hC pend' hpend H
    refine ⟨fun h => (by rw [h] at hr; cases hr), fun j hj => ?_⟩
    by_cases hji : j = i
    · subst hji
      refine hy.stp hi hC ⟨all_okAfter hp, ?_⟩
      rcases hpend with rfl | ⟨_, rfl⟩
      · exact anyP_sub _ _ _ _ _ _ (List.Sublist.cons _ (keepP_sub _ _ _)) H
      · exact anyP_sub _ _ _ _ _ _ (keepP_sub _ _ _) H
    · have h1 := H.2 j (ready_mono hj hji)
      obtain ⟨hjun, oj, hoj, hall⟩ := mem_ready.1 hj
      have hiun := (mem_ready.1 hr).1
      have hnl : listed.getD i false = true → False := fun h1 => by
        rcases Nat.lt_or_ge i listed.size with h' | h'
        · simp [h'] at hiun h1; rw [hiun] at h1; cases h1
        · simp [Array.getElem?_eq_none h'] at h1
      have hnot : ∀ e ∈ oj.after, Region.binds .any e = true → e.on ≠ i := fun e he hb heq => hnl (heq ▸ hall e he hb)
      have hbit : pre bm j i = false := by
        cases hb : pre bm j i with
        | false => rfl
        | true => exact (hnl (before_listed hbm hdown i j oj hoj hall (pre_eq bm j i ▸ hb))).elim
      have h2 := stp_put hoj (hfree j oj hoj hji hjun hnot) (fun cs b => hsel i oi cs b hi) (fun cs b => hsel j oj cs b hoj) hy h1
      have hfree' : ∀ k ok, ops[k]? = some ok → k ≠ i → (listed.setIfInBounds j true).getD k true = false →
          (∀ e ∈ ok.after, Region.binds .any e = true → e.on ≠ i) → oi.apart ops ok = true := fun k ok hk hki hun hno => by
        refine hfree k ok hk hki ?_ hno
        by_cases hjk : j = k
        · subst hjk; exact hjun
        · rw [getD_set_ne true hjk] at hun; exact hun
      refine stp_mono (fun a' w' h3 => ?_) h2
      obtain ⟨h3y, h3p, h3⟩ := h3
      rw [Array.setIfInBounds_comm _ _ (Ne.symm hji)] at h3
      rcases hpend with rfl | ⟨hCC, rfl⟩
      · have hC' : C w' := by have := h3p.1; simpa only [hbit, cond_false] using this
        refine ⟨h3p.2, ih (listed.setIfInBounds j true) (keepP bm j pend) a' w' hfree' (hdown.set hj) (ready_mono hr (Ne.symm hji)) (okAfter_all h3p.2) h3y hC' _ (.inl rfl) ?_⟩
        have : keepP bm j ((i, C) :: pend) = (i, C) :: keepP bm j pend := by rw [keepP.eq_2, hbit]; rfl
        rw [← this]; exact h3
      · exact ⟨h3p, ih (listed.setIfInBounds j true) (keepP bm j pend) a' w' hfree' (hdown.set hj) (ready_mono hr (Ne.symm hji)) (okAfter_all h3p) h3y (hCC w') _ (.inr ⟨hCC, rfl⟩) h3⟩

/-! ### a plan -/
/-- tk: a pure operation is taken first; ld: a load; big: the one that may come up now; any: one of several, each with its plan (alt .. stop). -/
inductive Plan where
  | done
  | tk (i : Nat) (p : Plan)
  | ld (i : Nat) (p : Plan)
  | big (i : Nat) (p : Plan)
  | any (p : Plan)
  | alt (i : Nat) (p : Plan) (rest : Plan)
  | stop

def heads : Plan → List Nat
  | .alt i _ rest => i :: heads rest
  | _ => []

/-- b: a list of alternatives. -/
def planOk (ops : Array Oper) : Plan → Bool → Nat → Array Bool → Bool
  | .done, false, _, listed => Region.ready .any ops listed == []
  | .tk i p, false, fuel + 1, listed => (Region.ready .any ops listed).contains i && Region.free .any ops listed i && planOk ops p false fuel (listed.setIfInBounds i true)
  | .ld i p, false, fuel + 1, listed => (Region.ready .any ops listed).contains i && Region.free .any ops listed i && planOk ops p false fuel (listed.setIfInBounds i true)
  | .big i p, false, fuel + 1, listed => Region.ready .any ops listed == [i] && planOk ops p false fuel (listed.setIfInBounds i true)
  | .any p, false, fuel + 1, listed => Region.ready .any ops listed == heads p && heads p != [] && planOk ops p true fuel listed
  | .alt i p rest, true, fuel, listed => planOk ops p false fuel (listed.setIfInBounds i true) && planOk ops rest true fuel listed
  | .stop, true, _, _ => true
  | _, _, _, _ => false

/-- What the plan asks. -/
def Dv (P : Program) (r : Option Nat) (ops : Array Oper) (bm : List Nat) (X : Act → World → Prop) : Plan → Pend → Act → World → Prop
  | .done, _, a, w => X a w
  | .tk i p, pend, a, w => ∃ o v, ops[i]? = some o ∧ Yld P r ops (fun _ => True) o v a ∧ Dv P r ops bm X p pend (a.put o.dst v) w
  | .ld i p, pend, a, w => ∃ o v C, ops[i]? = some o ∧ Yld P r ops C o v a ∧ C w ∧ Dv P r ops bm X p ((i, C) :: pend) (a.put o.dst v) w
  | .big i p, pend, a, w => stp P r ops i (fun a' w' => okAfter bm i pend w' ∧ Dv P r ops bm X p (keepP bm i pend) a' w') a w
  | .any p, pend, a, w => Dv P r ops bm X p pend a w
  | .alt i p rest, pend, a, w => stp P r ops i (fun a' w' => okAfter bm i pend w' ∧ Dv P r ops bm X p (keepP bm i pend) a' w') a w ∧ Dv P r ops bm X rest pend a w
  | .stop, _, _, _ => True

theorem Dv_anyP {bm : List Nat} (hbm : bmOk ops bm = true) (hs : Region.noSelect ops = true) {X : Act → World → Prop} :
    ∀ (p : Plan) (b : Bool) (fuel : Nat) (listed : Array Bool) (pend : Pend) (a : Act) (w : World), planOk ops p b fuel listed = true → Down ops listed → AllP pend w →
      Dv P r ops bm X p pend a w → (b = false → anyP P r ops bm X fuel listed pend a w) ∧
        (b = true → ∀ i ∈ heads p, i ∈ Region.ready .any ops listed → stp P r ops i (fun a' w' => okAfter bm i pend w' ∧ anyP P r ops bm X fuel (listed.setIfInBounds i true) (keepP bm i pend) a' w') a w) := by
  intro p
  induction p with
  | done =>
    intro b fuel listed pend a w hp _ _ h
    cases b with
    | true => simp [planOk] at hp
    | false =>
    have hr : Region.ready .any ops listed = [] := by simpa [planOk] using hp
    refine ⟨fun _ => ?_, fun h => by cases h⟩
    cases fuel with
    | zero => exact ⟨hr, h⟩
    | succ fuel => exact ⟨fun _ => h, by rw [hr]; simp⟩
  | tk i p ih =>
    intro b fuel listed pend a w hp hd ha h
    cases b with
    | true => simp [planOk] at hp
    | false =>
    refine ⟨fun _ => ?_, fun h => by cases h⟩
    cases fuel with
    | zero => simp [planOk] at hp
    | succ fuel =>
      simp only [planOk, Bool.and_eq_true] at hp
      obtain ⟨⟨h1, h2⟩, h3⟩ := hp
      obtain ⟨o, v, ho, hy, h⟩ := h
      have hr : i ∈ Region.ready .any ops listed := by simpa using h1
      exact anyP_first hbm ho (Region.noSelect_spec hs) fuel listed pend a w (Region.free_spec ho h2) hd hr ha hy trivial pend (.inr ⟨fun _ => trivial, rfl⟩)
        ((ih false fuel _ pend _ w h3 (hd.set hr) ha h).1 rfl)
  | ld i p ih =>
    intro b fuel listed pend a w hp hd ha h
    cases b with
    | true => simp [planOk] at hp
    | false =>
    refine ⟨fun _ => ?_, fun h => by cases h⟩
    cases fuel with
    | zero => simp [planOk] at hp
    | succ fuel =>
      simp only [planOk, Bool.and_eq_true] at hp
      obtain ⟨⟨h1, h2⟩, h3⟩ := hp
      obtain ⟨o, v, C, ho, hy, hC, h⟩ := h
      have hr : i ∈ Region.ready .any ops listed := by simpa using h1
      exact anyP_first hbm ho (Region.noSelect_spec hs) fuel listed pend a w (Region.free_spec ho h2) hd hr ha hy hC _ (.inl rfl)
        ((ih false fuel _ _ _ w h3 (hd.set hr) (ha.cons hC) h).1 rfl)
  | big i p ih =>
    intro b fuel listed pend a w hp hd ha h
    cases b with
    | true => simp [planOk] at hp
    | false =>
    refine ⟨fun _ => ?_, fun h => by cases h⟩
    cases fuel with
    | zero => simp [planOk] at hp
    | succ fuel =>
      simp only [planOk, Bool.and_eq_true, beq_iff_eq] at hp
      obtain ⟨h1, h3⟩ := hp
      refine ⟨fun h0 => (by rw [h1] at h0; cases h0), fun j hj => ?_⟩
      have hj' := hj
      rw [h1] at hj
      obtain rfl : j = i := by simpa using hj
      exact stp_mono (fun a' w' h' => ⟨h'.1, (ih false fuel _ _ a' w' h3 (hd.set hj') (okAfter_all h'.1) h'.2).1 rfl⟩) h
  | any p ih =>
    intro b fuel listed pend a w hp hd ha h
    cases b with
    | true => simp [planOk] at hp
    | false =>
    refine ⟨fun _ => ?_, fun h => by cases h⟩
    cases fuel with
    | zero => simp [planOk] at hp
    | succ fuel =>
      simp only [planOk, Bool.and_eq_true, beq_iff_eq, bne_iff_ne] at hp
      obtain ⟨⟨h1, h0⟩, h3⟩ := hp
      refine ⟨fun h2 => absurd (h1 ▸ h2) h0, fun j hj => ?_⟩
      exact (ih true fuel listed pend a w h3 hd ha h).2 rfl j (h1 ▸ hj) hj
  | alt i p rest ihp ihr =>
    intro b fuel listed pend a w hp hd ha h
    cases b with
    | false => simp [planOk] at hp
    | true =>
    refine ⟨fun h => (by cases h), fun _ k hk hr => ?_⟩
    simp only [planOk, Bool.and_eq_true] at hp
    obtain ⟨h1, h2⟩ := hp
    rcases List.mem_cons.1 hk with rfl | hk
    · exact stp_mono (fun a' w' h' => ⟨h'.1, (ihp false fuel _ _ a' w' h1 (hd.set hr) (okAfter_all h'.1) h'.2).1 rfl⟩) h.1
    · exact (ihr true fuel listed pend a w h2 hd ha h.2).2 rfl k hk hr
  | stop =>
    intro b fuel listed pend a w hp hd ha h
    cases b with
    | false => simp [planOk] at hp
    | true => exact ⟨fun h => (by cases h), fun _ k hk => by cases hk⟩

/-- All that a region's plan must meet, for one closed look. -/
def regOk (ops : Array Oper) (bm : List Nat) (p : Plan) : Bool :=
  bmOk ops bm && Region.noSelect ops && planOk ops p false ops.size (Array.replicate ops.size false)

theorem wp_reg_draw {id : Nat} {bm : List Nat} {p : Plan} {Q : Exit → Act → World → Prop} {a : Act} {w : World} (hm : P.follows .mixedOrders = true)
    (hp : regOk ops bm p = true) (h : Dv P r ops bm (Q .normal) p [] a w.drew) : (Code.region id ops true).wpIn (FF r) 0 P Q a w := by
  simp only [regOk, Bool.and_eq_true] at hp
  obtain ⟨⟨h1, h2⟩, h3⟩ := hp
  have h4 := (Dv_anyP h1 h2 p false _ _ [] a w.drew h3 down_start (fun p hp => by cases hp) h).1 rfl
  refine wpIn_mono (wpIn_region_any hm (anyP_wpAny _ _ _ _ _ h4)) fun e a w hq => ?_
  cases e <;> first | exact hq | exact hq.elim

/-- A region that draws nothing goes by the text. -/
def dvSeq (P : Program) (r : Option Nat) (ops : Array Oper) (X : Act → World → Prop) : List Nat → Act → World → Prop
  | [], a, w => X a w
  | i :: l, a, w => stp P r ops i (dvSeq P r ops X l) a w

theorem dvSeq_wp {X : Act → World → Prop} : ∀ (l : List Nat) (a : Act) (w : World), dvSeq P r ops X l a w → wpOpsIn (FF r) 0 P ops (Qn X) l a w
  | [], _, _, h => h
  | i :: l, a, w, h => by
    rw [wpOpsIn_cons]
    exact stp_wpOpIn (stp_mono (fun a w h => dvSeq_wp l a w h) h)

theorem wp_reg_seq {id : Nat} {Q : Exit → Act → World → Prop} {a : Act} {w : World}
    (h : dvSeq P r ops (Q .normal) (List.range ops.size) a w) : (Code.region id ops false).wpIn (FF r) 0 P Q a w := by
  refine wpIn_mono (wpIn_region (dvSeq_wp _ _ _ h)) fun e a w hq => ?_
  cases e <;> first | exact hq | exact hq.elim

end region
end Go.Proofs.Ytaldphhdkmchhaa
