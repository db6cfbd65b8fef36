/-
  The engine, part U: types made of ints, arrays and structs of them: their equality and their use as keys, out of one check.
-/
import Derived.Test.YtaldphhdkmchhaaEngT
namespace Go.Proofs.Ytaldphhdkmchhaa
set_option linter.unusedSimpArgs false
set_option linter.unusedVariables false
open Go

def eqF (g : Nat → Option (Bool × Nat)) : Nat → List Field → Option Nat
  | o, [] => some o
  | o, f :: fs => match g f.type with
    | some (b, s) => bif (!(f.name == "_")) && Nat.beq f.offset o && (b || Nat.beq s 1) then eqF g (o + s) fs else none
    | none => none
/-- T's word and its cells, if it is made of ints alone. -/
def eqB (P : Program) : Nat → Nat → Option (Bool × Nat)
  | 0, _ => none
  | d + 1, T => match P.underlying T with
    | some (.int _) => match (P.info? T).map (·.size) with
      | some m => bif Nat.beq m 1 then some (false, 1) else none
      | none => none
    | some (.array n e) => match eqB P d e, (P.info? T).map (·.size) with
      | some (b, s), some m => bif Nat.beq m (n * s) && (b || Nat.beq s 1) then some (true, m) else none
      | _, _ => none
    | some (.struct fs) => match eqF (eqB P d) 0 fs.toList, (P.info? T).map (·.size) with
      | some m', some m => bif Nat.beq m' m && !(P.stoodInHeld T) then some (true, m) else none
      | _, _ => none
    | _ => none

theorem eqF_ok {P : Program} {d : Nat} (ih : ∀ T b s, eqB P d T = some (b, s) → EQ P d b T s) : ∀ (fs : List Field) (o m : Nat), eqF (eqB P d) o fs = some m → EQs P d o fs m
  | [], o, m, h => by simp only [eqF, Option.some.injEq] at h; subst h; exact .nil _
  | f :: fs, o, m, h => by
    unfold eqF at h
    split at h
    · rename_i b s hb
      cases hc : ((!(f.name == "_")) && Nat.beq f.offset o && (b || Nat.beq s 1)) with
      | false => rw [hc] at h; cases h
      | true =>
        rw [hc] at h
        simp only [Bool.and_eq_true, Bool.not_eq_true', Bool.or_eq_true] at hc
        exact .cons hc.1.1 (Nat.eq_of_beq_eq_true hc.1.2) (ih _ _ _ hb) (fun hbf => by rcases hc.2 with h1 | h1; (rw [hbf] at h1; cases h1); exact Nat.eq_of_beq_eq_true h1) (eqF_ok ih fs _ _ h)
    · cases h

theorem eqB_ok {P : Program} : ∀ (d T : Nat) (b : Bool) (s : Nat), eqB P d T = some (b, s) → EQ P d b T s
  | 0, _, _, _, h => by cases h
  | d + 1, T, b, s, h => by
    unfold eqB at h
    split at h
    · rename_i k hu
      split at h
      · rename_i m hm
        cases hc : Nat.beq m 1 with
        | false => rw [hc] at h; cases h
        | true => rw [hc] at h; cases h; rw [Nat.eq_of_beq_eq_true hc] at hm; exact eq_int hu hm
      · cases h
    · rename_i n e hu
      split at h
      · rename_i b' s' m he hm
        cases hc : (Nat.beq m (n * s') && (b' || Nat.beq s' 1)) with
        | false => rw [hc] at h; cases h
        | true =>
          rw [hc] at h; cases h
          simp only [Bool.and_eq_true, Bool.or_eq_true] at hc
          have := Nat.eq_of_beq_eq_true hc.1
          subst this
          exact eq_arr hu hm (eqB_ok d e _ _ he) (fun hbf => by rcases hc.2 with h1 | h1; (rw [hbf] at h1; cases h1); exact Nat.eq_of_beq_eq_true h1)
      · cases h
    · rename_i fs hu
      split at h
      · rename_i m' m hf hm
        cases hc : (Nat.beq m' m && !(P.stoodInHeld T)) with
        | false => rw [hc] at h; cases h
        | true =>
          rw [hc] at h; cases h
          simp only [Bool.and_eq_true, Bool.not_eq_true'] at hc
          have := Nat.eq_of_beq_eq_true hc.1
          subst this
          exact eq_struct hu hc.2 hm (eqF_ok (fun T b s hT => eqB_ok d T b s hT) _ _ _ hf)
      · cases h
    · cases h

/-- Structs of ints and of structs alone. -/
def noArr (P : Program) : Nat → Nat → Bool
  | 0, _ => false
  | d + 1, T => match P.underlying T with
    | some (.int _) => true
    | some (.struct fs) => fs.toList.all fun f => noArr P d f.type
    | _ => false
theorem ckF_ok {P : Program} {d : Nat} (ih : ∀ T b s, eqB P d T = some (b, s) → noArr P d T = true → CK P d b T s) : ∀ (fs : List Field) (o m : Nat), eqF (eqB P d) o fs = some m → (∀ f ∈ fs, noArr P d f.type = true) → CKs P d d o fs m
  | [], o, m, h, _ => by simp only [eqF, Option.some.injEq] at h; subst h; exact .nil _
  | f :: fs, o, m, h, h2 => by
    unfold eqF at h
    split at h
    · rename_i b s hb
      cases hc : ((!(f.name == "_")) && Nat.beq f.offset o && (b || Nat.beq s 1)) with
      | false => rw [hc] at h; cases h
      | true =>
        rw [hc] at h
        simp only [Bool.and_eq_true, Bool.not_eq_true', Bool.or_eq_true] at hc
        exact .cons (Nat.eq_of_beq_eq_true hc.1.2) (eqB_ok _ _ _ _ hb) (fun hbf => by rcases hc.2 with h1 | h1; (rw [hbf] at h1; cases h1); exact Nat.eq_of_beq_eq_true h1) (ih _ _ _ hb (h2 f (by simp))) (ckF_ok ih fs _ _ h (fun g hg => h2 g (by simp [hg])))
    · cases h
theorem ck_ok {P : Program} : ∀ (d T : Nat) (b : Bool) (s : Nat), eqB P d T = some (b, s) → noArr P d T = true → CK P d b T s
  | 0, _, _, _, h, _ => by cases h
  | d + 1, T, b, s, h, h2 => by
    unfold eqB at h
    unfold noArr at h2
    split at h2
    · rename_i k hu
      rw [hu] at h
      dsimp only at h
      split at h
      · rename_i m hm
        cases hc : Nat.beq m 1 with
        | false => rw [hc] at h; cases h
        | true => rw [hc] at h; cases h; exact ck_int hu
      · cases h
    · rename_i fs hu
      rw [hu] at h
      dsimp only at h
      split at h
      · rename_i m' m hf hm
        cases hc : (Nat.beq m' m && !(P.stoodInHeld T)) with
        | false => rw [hc] at h; cases h
        | true =>
          rw [hc] at h; cases h
          simp only [Bool.and_eq_true, Bool.not_eq_true'] at hc
          have := Nat.eq_of_beq_eq_true hc.1
          subst this
          exact ck_struct hu (ckF_ok (fun T b s h3 h4 => ck_ok d T b s h3 h4) _ _ _ hf (fun f hf' => List.all_eq_true.1 h2 f hf'))
      · cases h
    · cases h2
theorem KeyT.of {P : Program} {T s : Nat} {b : Bool} (h : eqB P 10000 T = some (b, s)) (h2 : noArr P 10000 T = true) : KeyT P b T s where
  eq := eqB_ok _ _ _ _ h
  ck := ck_ok _ _ _ _ h h2
  one hb := by
    subst hb
    rw [show (10000 : Nat) = 9999 + 1 from rfl] at h h2
    unfold eqB at h
    unfold noArr at h2
    split at h2
    · rename_i k hu
      rw [hu] at h
      dsimp only at h
      split at h
      · rename_i m hm
        cases hc : Nat.beq m 1 with
        | false => rw [hc] at h; cases h
        | true => rw [hc] at h; cases h; exact ⟨rfl, k, hu⟩
      · cases h
    · rename_i fs hu
      rw [hu] at h
      dsimp only at h
      split at h
      · rename_i m' m hf hm
        cases hc : (Nat.beq m' m && !(P.stoodInHeld T)) <;> rw [hc] at h <;> cases h
      · cases h
    · cases h2
  agg hb := by
    subst hb
    rw [show (10000 : Nat) = 9999 + 1 from rfl] at h h2
    unfold eqB at h
    unfold noArr at h2
    split at h2
    · rename_i k hu
      rw [hu] at h
      dsimp only at h
      split at h
      · rename_i m hm
        cases hc : Nat.beq m 1 <;> rw [hc] at h <;> cases h
      · cases h
    · rename_i fs hu
      exact ⟨fs, hu⟩
    · cases h2

section small
variable {P : Program} {n : Nat} {L : Slots} {D : List Deferred} {H : Heap} {R : Facts} {r : Option Nat} {ops : Array Oper} {K : Act → World → Prop} {i : Nat} {ty : TypeId} {pos : String} {af : Array Edge}
/-- An aggregate is stored over a whole block. -/
theorem stoA {T : TypeId} {x y : Operand} {b k : Nat} {vs : List Value} {o : Obj} [m : Mem1 b o H] {e : TypeId} {l : List Value} {H' : Heap} (ho : ops[i]? = some ⟨none, .store T x y, ty, pos, af, none⟩)
    (hx : ev L x = some (.pointer (some ⟨b, 0, none⟩))) (hy : ev L y = some (.agg vs.toArray)) (hT : cellN P T = some k) (hc : o = cel e l) (hk : vs.length = k) (hl : l.length = k) (h1 : vs.all (·.oneCell') = true)
    [rp : Rep [(b, o)] [(b, cel e vs)] H H']
    (h : Sy n L D H' R K) : Sy n L D H R (stp P r ops i K) :=
  stoE (l' := vs) ho hx hy hT hc (by simpa [Value.cells] using hk) (by simpa [Value.cells] using h1) (by simp [Value.cells, spl, hk, ← hl]) (by simp [Value.cells, hl, hk]) h

theorem perm_mid (A M B X : Heap) : (A ++ (M ++ (B ++ X))).Perm (B ++ (M ++ (A ++ X))) :=
  (perm_swap3 A M (B ++ X)).trans ((List.Perm.append_left M (perm_swap3 A B X)).trans (perm_swap3 M B (A ++ X)))
def OSl.cast {e sz : Nat} {rows rows' : List (List Value)} (o : OSl e sz rows) (h : rows = rows') : OSl e sz rows' := ⟨o.fs, o.G, h ▸ o.len, h ▸ o.is⟩
theorem ints_one (l : List Int) : (ints l).all (·.oneCell') = true := by
  simp [ints, Value.oneCell']

theorem OSl.cells {e sz : Nat} {rows : List (List Value)} (o : OSl e sz rows) : o.fs.cells.toList = [o.fs] ∧ o.fs.oneCell' = true := by
  rcases o.is with ⟨_, h, _⟩ | ⟨b, cap, junk, h, _⟩ <;> rw [h] <;> exact ⟨rfl, rfl⟩
end small
end Go.Proofs.Ytaldphhdkmchhaa
