/-
  The engine, part C: the rules of the operations: pure ones, loads, stores, new blocks.
-/
import Derived.Test.YtaldphhdkmchhaaEngB
import Derived.WalkKit
namespace Go.Proofs.Ytaldphhdkmchhaa
set_option linter.unusedSimpArgs false
set_option linter.unusedVariables false
open Go

/-! ### pure operations -/
/-- Whoever reads what L knows, in whatever world: o leaves v and does nothing else. -/
def PE (P : Program) (L : Slots) (o : Oper) (v : Value) : Prop := ∀ ρ, Reads L ρ → ∀ w, (execOp ρ o).run P w = .ok (.value v) w

/-- The operands' values, one by one. -/
def evs (L : Slots) : List Operand → Option (List Value)
  | [] => some []
  | x :: xs => match ev L x, evs L xs with
    | some v, some vs => some (v :: vs)
    | _, _ => none
theorem evs_map {L : Slots} {ρ : Operand → Value} (hρ : Reads L ρ) : ∀ (l : List Operand) (vs : List Value), evs L l = some vs → l.map ρ = vs
  | [], vs, h => by simp [evs] at h; subst h; rfl
  | x :: xs, vs, h => by
    unfold evs at h
    split at h
    · rename_i v us hv hus
      cases h
      simp [hρ _ _ hv, evs_map hρ xs us hus]
    · cases h

section pure
variable {P : Program} {L : Slots} {d : Option Tmp} {ty : TypeId} {pos : String} {af : Array Edge} {g : Option (Nat × Bool)}

theorem PE.move {x : Operand} {v : Value} (hx : ev L x = some v) : PE P L ⟨d, .move x, ty, pos, af, g⟩ v := fun ρ hρ w => by
  simp [execOp, hρ _ _ hx, Sem.run_pure]
theorem PE.assign {x : Operand} {v : Value} (hx : ev L x = some v) : PE P L ⟨d, .assign x, ty, pos, af, g⟩ v := fun ρ hρ w => by
  simp [execOp, hρ _ _ hx, Sem.run_pure]
theorem PE.pick {c x y : Operand} {b : Bool} {u v : Value} (hc : ev L c = some (.bool b)) (hx : ev L x = some u) (hy : ev L y = some v) :
    PE P L ⟨d, .pick c x y, ty, pos, af, g⟩ (bif b then u else v) := fun ρ hρ w => by
  simp only [execOp, hρ _ _ hc, hρ _ _ hx, hρ _ _ hy, asBool]
  cases b <;> simp [Sem.run_bind, Sem.run_pure, Result.andThen]
theorem PE.nilCheck {x : Operand} {a : Addr} (hx : ev L x = some (.pointer (some a))) : PE P L ⟨d, .nilCheck x, ty, pos, af, g⟩ (.pointer (some a)) := fun ρ hρ w => by
  simp [execOp, hρ _ _ hx, Sem.run_pure]
theorem PE.nilCheckFunc {x : Operand} {f : FuncId} {fi ca : Array Value} (hx : ev L x = some (.func (.func f) fi ca)) : PE P L ⟨d, .nilCheck x, ty, pos, af, g⟩ (.func (.func f) fi ca) := fun ρ hρ w => by
  simp [execOp, hρ _ _ hx, Sem.run_pure]

/-- The offset of a field that has cells. -/
def fOff (P : Program) (T k : Nat) : Option Nat :=
  match P.underlying T with
  | some (.struct fs) => match fs[k]? with
    | some f => match P.info? f.type with
      | some i => if i.size = 0 then none else some f.offset
      | none => none
    | none => none
  | _ => none

theorem run_fieldAt {T k o : Nat} (h : fOff P T k = some o) (b off : Nat) (w : World) : (Instr.fieldAt T (.pointer (some ⟨b, off, none⟩)) k).run P w = .ok (.pointer (some ⟨b, off + o, none⟩)) w := by
  unfold fOff at h
  split at h
  · rename_i fs hu
    split at h
    · rename_i f hf
      split at h
      · rename_i i hi
        split at h
        · cases h
        · rename_i hs
          cases h
          have he : (⟨b, off, none⟩ : Addr).add f.offset = ⟨b, off + f.offset, none⟩ := by
            unfold Addr.add; split
            · rename_i h0; simp [h0]
            · rfl
          simp [Instr.fieldAt, run_underlying hu, hf, Instr.sureAddr, fieldPlace, sizeOf, typeInfo, hi, hs, Sem.run_bind, Sem.run_pure, Sem.run, Result.andThen, he, program]
      · cases h
    · cases h
  · cases h

theorem PE.fieldAddr {T k o b off : Nat} {x : Operand} (ho : fOff P T k = some o) (hx : ev L x = some (.pointer (some ⟨b, off, none⟩))) :
    PE P L ⟨d, .fieldAddr T x k, ty, pos, af, g⟩ (.pointer (some ⟨b, off + o, none⟩)) := fun ρ hρ w => by
  simp only [execOp, hρ _ _ hx, Sem.run_bind, run_fieldAt ho, Result.andThen, Sem.run_pure]

/-- The element's cells of a slice type; of an array type with its length. -/
def elN (P : Program) (T : Nat) : Option Nat :=
  match P.underlying T with
  | some (.slice e) => (P.info? e).map (·.size)
  | _ => none
def arN (P : Program) (T : Nat) : Option (Nat × Nat) :=
  match P.underlying T with
  | some (.array n e) => (P.info? e).map fun i => (n, i.size)
  | _ => none

theorem addr_add (b off k : Nat) : (⟨b, off, none⟩ : Addr).add k = ⟨b, off + k, none⟩ := by
  unfold Addr.add; split
  · rename_i h0; simp [h0]
  · rfl

theorem PE.indexAddr {T n b off len cap : Nat} {x y : Operand} {k : IntKind} {i : Int} (hT : elN P T = some n) (hx : ev L x = some (.slice (some ⟨b, off, none⟩) len cap)) (hy : ev L y = some (.int k i))
    (h0 : 0 ≤ i) (hl : i < len) : PE P L ⟨d, .indexAddr T x y, ty, pos, af, g⟩ (.pointer (some ⟨b, off + i.toNat * n, none⟩)) := fun ρ hρ w => by
  unfold elN at hT
  split at hT
  · rename_i e hu
    rw [Option.map_eq_some_iff] at hT
    obtain ⟨ie, hi, rfl⟩ := hT
    simp [execOp, hρ _ _ hx, hρ _ _ hy, Instr.indexAt, asIntOf, run_underlying hu, sizeOf, typeInfo, program, hi, h0, hl, Sem.run_bind, Sem.run_pure, Sem.run, Result.andThen, addr_add]
  · cases hT

theorem PE.indexArr {T m n b off : Nat} {x y : Operand} {k : IntKind} {i : Int} (hT : arN P T = some (m, n)) (hx : ev L x = some (.pointer (some ⟨b, off, none⟩))) (hy : ev L y = some (.int k i))
    (h0 : 0 ≤ i) (hl : i < m) : PE P L ⟨d, .indexAddr T x y, ty, pos, af, g⟩ (.pointer (some ⟨b, off + i.toNat * n, none⟩)) := fun ρ hρ w => by
  unfold arN at hT
  split at hT
  · rename_i m' e hu
    rw [Option.map_eq_some_iff] at hT
    obtain ⟨ie, hi, he⟩ := hT
    cases he
    simp [execOp, hρ _ _ hx, hρ _ _ hy, Instr.indexAt, Instr.sureAddr, asIntOf, run_underlying hu, sizeOf, typeInfo, program, hi, h0, hl, Sem.run_bind, Sem.run_pure, Sem.run, Result.andThen, addr_add]
  · cases hT

theorem PE.bool {op : BinOp} {T U : TypeId} {x y : Operand} {k : IntKind} {m n : Int} {b : Bool} (hx : ev L x = some (.int k m)) (hy : ev L y = some (.int k n))
    (hop : op ≠ .shl ∧ op ≠ .shr ∧ op ≠ .add ∧ op ≠ .sub ∧ op ≠ .mul ∧ op ≠ .quo ∧ op ≠ .rem ∧ op ≠ .and ∧ op ≠ .or ∧ op ≠ .xor ∧ op ≠ .andNot)
    (h : ∀ w, (Op.intCmp op m n).run P w = .ok (.bool b) w) : PE P L ⟨d, .binOp op T x y U, ty, pos, af, g⟩ (.bool b) := fun ρ hρ w => by
  have hg : ∀ w, (eqGuard op T x y (.int k m) (.int k n)).run P w = .ok () w := fun w => by cases op <;> rfl
  have hb : binOp op T (.int k m) (.int k n) = Op.intCmp op m n := by cases op <;> simp_all [binOp]
  simp only [execOp, hρ _ _ hx, hρ _ _ hy, Sem.run_bind, hg, hb, h, Result.andThen, Sem.run_pure]

theorem PE.lss {T U : TypeId} {x y : Operand} {k : IntKind} {m n : Int} (hx : ev L x = some (.int k m)) (hy : ev L y = some (.int k n)) : PE P L ⟨d, .binOp .lss T x y U, ty, pos, af, g⟩ (.bool (decide (m < n))) := PE.bool hx hy (by simp) (fun _ => rfl)
theorem PE.leq {T U : TypeId} {x y : Operand} {k : IntKind} {m n : Int} (hx : ev L x = some (.int k m)) (hy : ev L y = some (.int k n)) : PE P L ⟨d, .binOp .leq T x y U, ty, pos, af, g⟩ (.bool (decide (m ≤ n))) := PE.bool hx hy (by simp) (fun _ => rfl)
theorem PE.gtr {T U : TypeId} {x y : Operand} {k : IntKind} {m n : Int} (hx : ev L x = some (.int k m)) (hy : ev L y = some (.int k n)) : PE P L ⟨d, .binOp .gtr T x y U, ty, pos, af, g⟩ (.bool (decide (n < m))) := PE.bool hx hy (by simp) (fun _ => rfl)
theorem PE.geq {T U : TypeId} {x y : Operand} {k : IntKind} {m n : Int} (hx : ev L x = some (.int k m)) (hy : ev L y = some (.int k n)) : PE P L ⟨d, .binOp .geq T x y U, ty, pos, af, g⟩ (.bool (decide (n ≤ m))) := PE.bool hx hy (by simp) (fun _ => rfl)
theorem PE.eql {T U : TypeId} {x y : Operand} {k : IntKind} {m n : Int} (hx : ev L x = some (.int k m)) (hy : ev L y = some (.int k n)) : PE P L ⟨d, .binOp .eql T x y U, ty, pos, af, g⟩ (.bool (decide (m = n))) :=
  PE.bool hx hy (by simp) (fun w => by simp only [Op.intCmp, Sem.run_pure]; by_cases h : m = n <;> simp [h])
theorem PE.neq {T U : TypeId} {x y : Operand} {k : IntKind} {m n : Int} (hx : ev L x = some (.int k m)) (hy : ev L y = some (.int k n)) : PE P L ⟨d, .binOp .neq T x y U, ty, pos, af, g⟩ (.bool (decide (m ≠ n))) :=
  PE.bool hx hy (by simp) (fun w => by simp only [Op.intCmp, Sem.run_pure]; by_cases h : m = n <;> simp [h])

theorem PE.arith {op : BinOp} {T U : TypeId} {x y : Operand} {k : IntKind} {m n v : Int} (hx : ev L x = some (.int k m)) (hy : ev L y = some (.int k n))
    (hop : op = .add ∨ op = .sub ∨ op = .mul ∨ op = .quo ∨ op = .rem)
    (h : ∀ w, (binOp op T (.int k m) (.int k n)).run P w = .ok (.int k v) w) : PE P L ⟨d, .binOp op T x y U, ty, pos, af, g⟩ (.int k v) := fun ρ hρ w => by
  have hg : ∀ w, (eqGuard op T x y (.int k m) (.int k n)).run P w = .ok () w := fun w => by rcases hop with rfl | rfl | rfl | rfl | rfl <;> rfl
  simp only [execOp, hρ _ _ hx, hρ _ _ hy, Sem.run_bind, hg, h, Result.andThen, Sem.run_pure]

theorem PE.addW {T U : TypeId} {x y : Operand} {k : IntKind} {m n : Int} (hx : ev L x = some (.int k m)) (hy : ev L y = some (.int k n)) : PE P L ⟨d, .binOp .add T x y U, ty, pos, af, g⟩ (.int k (k.wrap (m + n))) :=
  PE.arith hx hy (by simp) (fun w => by simp [binOp, Op.intArith, Sem.run_pure])
theorem PE.subW {T U : TypeId} {x y : Operand} {k : IntKind} {m n : Int} (hx : ev L x = some (.int k m)) (hy : ev L y = some (.int k n)) : PE P L ⟨d, .binOp .sub T x y U, ty, pos, af, g⟩ (.int k (k.wrap (m - n))) :=
  PE.arith hx hy (by simp) (fun w => by simp [binOp, Op.intArith, Sem.run_pure])
theorem PE.mulW {T U : TypeId} {x y : Operand} {k : IntKind} {m n : Int} (hx : ev L x = some (.int k m)) (hy : ev L y = some (.int k n)) : PE P L ⟨d, .binOp .mul T x y U, ty, pos, af, g⟩ (.int k (k.wrap (m * n))) :=
  PE.arith hx hy (by simp) (fun w => by simp [binOp, Op.intArith, Sem.run_pure])
theorem PE.quoW {T U : TypeId} {x y : Operand} {k : IntKind} {m n : Int} (hx : ev L x = some (.int k m)) (hy : ev L y = some (.int k n)) (hn : n ≠ 0) : PE P L ⟨d, .binOp .quo T x y U, ty, pos, af, g⟩ (.int k (k.wrap (m.tdiv n))) :=
  PE.arith hx hy (by simp) (fun w => by simp [binOp, Op.intDiv, hn, Sem.run_pure])
theorem PE.remW {T U : TypeId} {x y : Operand} {k : IntKind} {m n : Int} (hx : ev L x = some (.int k m)) (hy : ev L y = some (.int k n)) (hn : n ≠ 0) : PE P L ⟨d, .binOp .rem T x y U, ty, pos, af, g⟩ (.int k (m.tmod n)) :=
  PE.arith hx hy (by simp) (fun w => by simp [binOp, Op.intDiv, hn, Sem.run_pure])

theorem PE.to {o : Oper} {v u : Value} (h : PE P L o v) (e : v = u) : PE P L o u := e ▸ h
theorem PE.add {T U : TypeId} {x y : Operand} {m n : Int} (hx : ev L x = some (.int .i64 m)) (hy : ev L y = some (.int .i64 n)) (hb : -9223372036854775808 ≤ m + n ∧ m + n ≤ 9223372036854775807) :
    PE P L ⟨d, .binOp .add T x y U, ty, pos, af, g⟩ (.int .i64 (m + n)) := (PE.addW hx hy).to (by rw [IntWalk.i64_in _ hb])
theorem PE.sub {T U : TypeId} {x y : Operand} {m n : Int} (hx : ev L x = some (.int .i64 m)) (hy : ev L y = some (.int .i64 n)) (hb : -9223372036854775808 ≤ m - n ∧ m - n ≤ 9223372036854775807) :
    PE P L ⟨d, .binOp .sub T x y U, ty, pos, af, g⟩ (.int .i64 (m - n)) := (PE.subW hx hy).to (by rw [IntWalk.i64_in _ hb])
theorem PE.mul {T U : TypeId} {x y : Operand} {m n : Int} (hx : ev L x = some (.int .i64 m)) (hy : ev L y = some (.int .i64 n)) (hb : -9223372036854775808 ≤ m * n ∧ m * n ≤ 9223372036854775807) :
    PE P L ⟨d, .binOp .mul T x y U, ty, pos, af, g⟩ (.int .i64 (m * n)) := (PE.mulW hx hy).to (by rw [IntWalk.i64_in _ hb])
/-- A quotient and a remainder of a number that is not negative. -/
theorem PE.quo {T U : TypeId} {x y : Operand} {m n : Int} (hx : ev L x = some (.int .i64 m)) (hy : ev L y = some (.int .i64 n)) (hb : 0 ≤ m ∧ m ≤ 9223372036854775807 ∧ 1 ≤ n) :
    PE P L ⟨d, .binOp .quo T x y U, ty, pos, af, g⟩ (.int .i64 (m / n)) := (PE.quoW hx hy (by omega)).to (by rw [IntWalk.i64_quo _ _ hb])
theorem PE.rem {T U : TypeId} {x y : Operand} {k : IntKind} {m n : Int} (hx : ev L x = some (.int k m)) (hy : ev L y = some (.int k n)) (hb : 0 ≤ m ∧ 1 ≤ n) :
    PE P L ⟨d, .binOp .rem T x y U, ty, pos, af, g⟩ (.int k (m % n)) := (PE.remW hx hy (by omega)).to (by rw [Int.tmod_eq_emod_of_nonneg hb.1])

theorem PE.not {U : TypeId} {x : Operand} {b : Bool} (hx : ev L x = some (.bool b)) : PE P L ⟨d, .unOp .not U x, ty, pos, af, g⟩ (.bool !b) := fun ρ hρ w => by
  simp [execOp, hρ _ _ hx, Op.unary, Sem.run_bind, Sem.run_pure, Result.andThen]
theorem PE.negW {U : TypeId} {x : Operand} {k : IntKind} {m : Int} (hx : ev L x = some (.int k m)) : PE P L ⟨d, .unOp .neg U x, ty, pos, af, g⟩ (.int k (k.wrap (0 - m))) := fun ρ hρ w => by
  simp [execOp, hρ _ _ hx, Op.unary, Op.intArith, Sem.run_bind, Sem.run_pure, Result.andThen]
theorem run_equal_bool {T : TypeId} (hT : P.underlying T = some .bool) (b c : Bool) (w : World) : (Op.equal T (.bool b) (.bool c)).run P w = .ok (b == c) w := by
  show (Op.equalIn (9999 + 1) T (.bool b) (.bool c)).run P w = _
  rw [Op.equalIn]
  simp only [Sem.run_bind, run_underlying hT, Result.andThen, Sem.run_pure]
theorem PE.eqlBool {T U : TypeId} {x y : Operand} {b c : Bool} (hT : P.underlying T = some .bool) (hx : ev L x = some (.bool b)) (hy : ev L y = some (.bool c)) : PE P L ⟨d, .binOp .eql T x y U, ty, pos, af, g⟩ (.bool (b == c)) := fun ρ hρ w => by
  have hg : ∀ w, (eqGuard .eql T x y (.bool b) (.bool c)).run P w = .ok () w := fun w => rfl
  have hb : binOp .eql T (.bool b) (.bool c) = (do pure (.bool (← Op.equal T (.bool b) (.bool c)))) := rfl
  simp only [execOp, hρ _ _ hx, hρ _ _ hy, Sem.run_bind, hg, hb, run_equal_bool hT, Result.andThen, Sem.run_pure]
theorem PE.neqBool {T U : TypeId} {x y : Operand} {b c : Bool} (hT : P.underlying T = some .bool) (hx : ev L x = some (.bool b)) (hy : ev L y = some (.bool c)) : PE P L ⟨d, .binOp .neq T x y U, ty, pos, af, g⟩ (.bool (!(b == c))) := fun ρ hρ w => by
  have hg : ∀ w, (eqGuard .neq T x y (.bool b) (.bool c)).run P w = .ok () w := fun w => rfl
  have hb : binOp .neq T (.bool b) (.bool c) = (do pure (.bool (!(← Op.equal T (.bool b) (.bool c))))) := rfl
  simp only [execOp, hρ _ _ hx, hρ _ _ hy, Sem.run_bind, hg, hb, run_equal_bool hT, Result.andThen, Sem.run_pure]

theorem PE.extract {x : Operand} {l : List Value} {k : Nat} {v : Value} (hx : ev L x = some (.tuple l.toArray)) (hk : l[k]? = some v) : PE P L ⟨d, .extract x k, ty, pos, af, g⟩ v := fun ρ hρ w => by
  simp [execOp, hρ _ _ hx, Instr.extract, hk, Sem.run_bind, Sem.run_pure, Result.andThen]
theorem PE.makeFunc {f : Fn} {first cap : List Operand} {vf vc : List Value} (hf : evs L first = some vf) (hc : evs L cap = some vc) :
    PE P L ⟨d, .makeFunc f first.toArray cap.toArray, ty, pos, af, g⟩ (.func f vf.toArray vc.toArray) := fun ρ hρ w => by
  simp [execOp, Instr.makeFunc, evs_map hρ _ _ hf, evs_map hρ _ _ hc, Sem.run_bind, Sem.run_pure, Result.andThen]

/-- A conversion from an integer to an integer type. -/
def intK (P : Program) (T : Nat) : Option IntKind := match P.underlying T with | some (.int k) => some k | _ => none
theorem PE.convert {S T : TypeId} {x : Operand} {k k' : IntKind} {m : Int} (hS : (P.underlying S).isSome = true) (hT : intK P T = some k') (hx : ev L x = some (.int k m)) :
    PE P L ⟨d, .convert S T x, ty, pos, af, g⟩ (.int k' (k'.wrap m)) := fun ρ hρ w => by
  unfold intK at hT
  split at hT
  · rename_i q hq
    cases hT
    obtain ⟨u, hu⟩ := Option.isSome_iff_exists.1 hS
    have hc : (Go.convert S T (.int k m)).run P w = .ok (.int k' (k'.wrap m)) w := by
      unfold Go.convert
      simp only [Sem.run_bind, run_underlying hu, run_underlying hq, Result.andThen]
      rfl
    simp only [execOp, hρ _ _ hx, Sem.run_bind, hc, Result.andThen, Sem.run_pure]
  · cases hT

/-! len, cap, min, max -/
theorem run_builtin_call {b : Builtin} {args : List Operand} {ts : Array TypeId} {vs : List Value} (hv : args.mapM (ev L) = some vs) {ρ : Operand → Value} (hρ : Reads L ρ) :
    execOp ρ ⟨d, .call { callee := .builtin b, args := args.toArray, argTypes := ts }, ty, pos, af, g⟩ = builtin b ts ty (args.toArray.map fun | .const _ => true | _ => false) vs.toArray := by
  have key : ∀ (l : List Operand) (vs : List Value), l.mapM (ev L) = some vs → l.map ρ = vs := by
    intro l
    induction l with
    | nil => intro vs h; simp at h; subst h; rfl
    | cons x l ih =>
      intro vs h
      simp only [List.mapM_cons, Option.bind_eq_bind, Option.bind_eq_some_iff, Option.pure_def, Option.some.injEq] at h
      obtain ⟨v, hv, us, hus, rfl⟩ := h
      simp [hρ _ _ hv, ih us hus]
  have e : args.toArray.map ρ = vs.toArray := by rw [List.map_toArray, key _ _ hv]
  simp only [execOp, resolve, e]
  rfl

def isSl (P : Program) (T : Nat) : Bool := match P.underlying T with | some (.slice _) => true | _ => false
theorem PE.lenSl {T : TypeId} {x : Operand} {a : Option Addr} {n c : Nat} (hT : isSl P T = true) (hx : ev L x = some (.slice a n c)) :
    PE P L ⟨d, .call { callee := .builtin .len, args := #[x], argTypes := #[T] }, ty, pos, af, g⟩ (.int .i64 n) := fun ρ hρ w => by
  unfold isSl at hT
  split at hT
  · rename_i e hu
    rw [run_builtin_call (args := [x]) (vs := [.slice a n c]) (by simp [hx]) hρ]
    simp [builtin, Builtin.len_, run_underlying hu, goInt, Sem.run_bind, Sem.run_pure, Result.andThen]
  · cases hT
theorem PE.capSl {T : TypeId} {x : Operand} {a : Option Addr} {n c : Nat} (hT : isSl P T = true) (hx : ev L x = some (.slice a n c)) :
    PE P L ⟨d, .call { callee := .builtin .cap, args := #[x], argTypes := #[T] }, ty, pos, af, g⟩ (.int .i64 c) := fun ρ hρ w => by
  unfold isSl at hT
  split at hT
  · rename_i e hu
    rw [run_builtin_call (args := [x]) (vs := [.slice a n c]) (by simp [hx]) hρ]
    simp [builtin, Builtin.cap_, run_underlying hu, goInt, Sem.run_bind, Sem.run_pure, Result.andThen]
  · cases hT
theorem PE.lenArr {T m n : Nat} {x : Operand} {v : Value} (hT : arN P T = some (m, n)) (hx : ev L x = some v) :
    PE P L ⟨d, .call { callee := .builtin .len, args := #[x], argTypes := #[T] }, ty, pos, af, g⟩ (.int .i64 m) := fun ρ hρ w => by
  unfold arN at hT
  split at hT
  · rename_i m' e hu
    rw [Option.map_eq_some_iff] at hT
    obtain ⟨ie, hi, he⟩ := hT
    cases he
    rw [run_builtin_call (args := [x]) (vs := [v]) (by simp [hx]) hρ]
    simp [builtin, Builtin.len_, run_underlying hu, goInt, Sem.run_bind, Sem.run_pure, Result.andThen]
  · cases hT
theorem PE.min {ts : Array TypeId} {x y : Operand} {k : IntKind} {m n : Int} (hx : ev L x = some (.int k m)) (hy : ev L y = some (.int k n)) :
    PE P L ⟨d, .call { callee := .builtin .min, args := #[x, y], argTypes := ts }, ty, pos, af, g⟩ (.int k (min m n)) := fun ρ hρ w => by
  rw [run_builtin_call (args := [x, y]) (vs := [.int k m, .int k n]) (by simp [hx, hy]) hρ]
  have : (if n < m then n else m) = Min.min m n := by rw [Int.min_def]; split <;> split <;> omega
  simp [builtin, Builtin.min_, Builtin.min2, this, Sem.run_bind, Sem.run_pure, Result.andThen]
theorem PE.max {ts : Array TypeId} {x y : Operand} {k : IntKind} {m n : Int} (hx : ev L x = some (.int k m)) (hy : ev L y = some (.int k n)) :
    PE P L ⟨d, .call { callee := .builtin .max, args := #[x, y], argTypes := ts }, ty, pos, af, g⟩ (.int k (max m n)) := fun ρ hρ w => by
  rw [run_builtin_call (args := [x, y]) (vs := [.int k m, .int k n]) (by simp [hx, hy]) hρ]
  have : (if m < n then n else m) = Max.max m n := by rw [Int.max_def]; split <;> split <;> omega
  simp [builtin, Builtin.max_, Builtin.max2, this, Sem.run_bind, Sem.run_pure, Result.andThen]

end pure
end Go.Proofs.Ytaldphhdkmchhaa
