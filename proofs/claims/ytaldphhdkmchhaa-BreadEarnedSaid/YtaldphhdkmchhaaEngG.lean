/-
  The engine, part G: equality of aggregates of ints, maps, append, copy, slices of slices.
-/
import Derived.Test.YtaldphhdkmchhaaEngF
import Derived.DeepKeys
namespace Go.Proofs.Ytaldphhdkmchhaa
set_option linter.unusedSimpArgs false
set_option linter.unusedVariables false
open Go

/-! ### equality of aggregates of ints -/
abbrev ints (l : List Int) : List Value := l.map (Value.int .i64)
/-- The value of a type with these cells: b: is it an aggregate? -/
def mkv (b : Bool) (l : List Int) : Value := bif b then .agg (ints l).toArray else .int .i64 (l.headD 0)

def EQ (P : Program) (d : Nat) (b : Bool) (e s : Nat) : Prop :=
  ((P.info? e).map (·.size) = some s ∧ ∀ w, (isAgg e).run P w = .ok b w) ∧ ∀ (xs ys : List Int), xs.length = s → ys.length = s → ∀ w, (Op.equalIn d e (mkv b xs) (mkv b ys)).run P w = .ok (decide (xs = ys)) w

theorem eq_int {P : Program} {d e : Nat} {k : IntKind} (hu : P.underlying e = some (.int k)) (hi : (P.info? e).map (·.size) = some 1) : EQ P (d + 1) false e 1 := by
  refine ⟨⟨hi, fun w => run_isAgg_scal (by simp [scal, hu]) w⟩, fun xs ys hx hy w => ?_⟩
  obtain ⟨x, rfl⟩ : ∃ x, xs = [x] := by match xs, hx with | [x], _ => exact ⟨x, rfl⟩
  obtain ⟨y, rfl⟩ : ∃ y, ys = [y] := by match ys, hy with | [y], _ => exact ⟨y, rfl⟩
  show (Op.equalIn (d + 1) e (.int .i64 x) (.int .i64 y)).run P w = _
  rw [run_equalIn_int w d e _ _ _ _ hu]
  congr 1
  by_cases h : x = y <;> simp [h]

theorem run_size {P : Program} {e s : Nat} (h : (P.info? e).map (·.size) = some s) (w : World) : (sizeOf e).run P w = .ok s w := by
  rw [Option.map_eq_some_iff] at h
  obtain ⟨i, hi, rfl⟩ := h
  simp [sizeOf, typeInfo, program, hi, Sem.run_bind, Sem.run_pure, Sem.run, Result.andThen]

theorem run_part {P : Program} {d : Nat} {b : Bool} {e s : Nat} (h : EQ P d b e s) (hs : b = false → s = 1) (l : List Int) (off : Nat) (hl : off + s ≤ l.length) (w : World) :
    (part e (ints l).toArray off).run P w = .ok (mkv b ((l.drop off).take s)) w := by
  unfold part
  simp only [Sem.run_bind, h.1.2, Result.andThen]
  cases b with
  | true =>
    simp only [if_true, Sem.run_bind, run_size h.1.1, Result.andThen, Sem.run_pure, mkv, cond_true]
    congr 2
    apply Array.toList_inj.1
    rw [Array.toList_extract]
    simp [List.extract_eq_take_drop, List.map_drop, List.map_take, List.take_drop]
  | false =>
    obtain rfl := hs rfl
    have hlt : off < l.length := by omega
    have : (l.drop off).take 1 = [l[off]] := by
      rw [List.drop_eq_getElem_cons hlt]; rfl
    simp [this, mkv, hlt, Sem.run_pure]

theorem run_items {P : Program} {d : Nat} {b : Bool} {e s : Nat} (h : EQ P d b e s) (hs : b = false → s = 1) (xs ys : List Int) : ∀ (is : List Nat), (∀ i ∈ is, i * s + s ≤ xs.length ∧ i * s + s ≤ ys.length) → ∀ w,
    (Op.eqItems d e s (ints xs).toArray (ints ys).toArray is).run P w = .ok (decide (∀ i ∈ is, (xs.drop (i * s)).take s = (ys.drop (i * s)).take s)) w
  | [], _, w => by simp [Op.eqItems, Sem.run_pure]
  | i :: is, hi, w => by
    obtain ⟨h1, h2⟩ := hi i (by simp)
    have p1 := run_part h hs xs (i * s) h1 w
    have p2 := run_part h hs ys (i * s) h2 w
    have p3 := h.2 ((xs.drop (i * s)).take s) ((ys.drop (i * s)).take s) (by simp; omega) (by simp; omega) w
    simp only [Op.eqItems, Sem.run_bind, p1, p2, p3, Result.andThen]
    by_cases hc : (xs.drop (i * s)).take s = (ys.drop (i * s)).take s
    · rw [run_ite_false (by simp [hc]), run_items h hs xs ys is (fun j hj => hi j (by simp [hj])) w]
      simp [hc]
    · rw [run_ite_true (by simp [hc])]
      simp [hc, Sem.run_pure]
where
  run_ite_false {P : Program} {w : World} {p : Prop} [Decidable p] {a c : Sem Bool} (h : ¬ p) : (if p then a else c).run P w = c.run P w := by rw [if_neg h]
  run_ite_true {P : Program} {w : World} {p : Prop} [Decidable p] {a c : Sem Bool} (h : p) : (if p then a else c).run P w = a.run P w := by rw [if_pos h]

theorem chunks_eq {s n : Nat} : ∀ {xs ys : List Int}, xs.length = n * s → ys.length = n * s → ((∀ i ∈ List.range n, (xs.drop (i * s)).take s = (ys.drop (i * s)).take s) ↔ xs = ys) := by
  intro xs ys hx hy
  constructor
  · intro h
    apply List.ext_getElem (by omega)
    intro j h1 h2
    have hs : 0 < s := by
      rcases Nat.eq_zero_or_pos s with h0 | h0
      · subst h0; simp at hx; subst hx; simp at h1
      · exact h0
    have hj : j / s < n := by rw [Nat.div_lt_iff_lt_mul hs]; omega
    have h3 := h (j / s) (List.mem_range.2 hj)
    have h4 := congrArg (fun l => l[j % s]?) h3
    have hm : j % s < s := Nat.mod_lt _ hs
    have e : j / s * s + j % s = j := Nat.div_add_mod' j s
    simp only [List.getElem?_take, hm, if_true, List.getElem?_drop, e] at h4
    rw [List.getElem?_eq_getElem h1, List.getElem?_eq_getElem h2] at h4
    simpa using h4
  · rintro rfl i _; rfl

theorem eq_arr {P : Program} {d : Nat} {b : Bool} {T e s n : Nat} (hu : P.underlying T = some (.array n e)) (hi : (P.info? T).map (·.size) = some (n * s)) (h : EQ P d b e s) (hs : b = false → s = 1) : EQ P (d + 1) true T (n * s) := by
  obtain ⟨i, hie, hsz⟩ := Option.map_eq_some_iff.1 h.1.1
  refine ⟨⟨hi, fun w => (run_isAgg_agg (k := n * s) (by simp [aggN, hu, hi]) w).1⟩, fun xs ys hx hy w => ?_⟩
  have hc : P.cellsOf e = s := by simp [Program.cellsOf, hie, hsz]
  show (Op.equalIn (d + 1) T (.agg (ints xs).toArray) (.agg (ints ys).toArray)).run P w = _
  rw [run_equalIn_array (w := w) d _ _ hu hie, hc, run_items h hs xs ys (List.range n) (fun j hj => by
    have hj := List.mem_range.1 hj
    have : j * s + s ≤ n * s := by rw [← Nat.succ_mul]; exact Nat.mul_le_mul_right s hj
    omega) w]
  congr 1
  exact decide_eq_decide.2 (chunks_eq hx hy)

/-- A struct's fields: each with its offset, one behind the other, its element's word. -/
inductive EQs (P : Program) (d : Nat) : Nat → List Field → Nat → Prop where
  | nil (o : Nat) : EQs P d o [] o
  | cons {o m : Nat} {f : Field} {fs : List Field} {b : Bool} {s : Nat} (hn : (f.name == "_") = false) (ho : f.offset = o) (h : EQ P d b f.type s) (hs : b = false → s = 1) (hr : EQs P d (o + s) fs m) : EQs P d o (f :: fs) m

theorem run_fields {P : Program} {d : Nat} {xs ys : List Int} : ∀ {o m : Nat} {fs : List Field}, EQs P d o fs m → m ≤ xs.length → m ≤ ys.length → ∀ w,
    (Op.eqFields d (ints xs).toArray (ints ys).toArray fs).run P w = .ok (decide ((xs.drop o).take (m - o) = (ys.drop o).take (m - o))) w ∧ o ≤ m
  | o, _, [], .nil _, _, _, w => by simp [Op.eqFields, Sem.run_pure]
  | o, m, f :: fs, .cons (s := s) hn ho h hs hr, hx, hy, w => by
    obtain ⟨ih, hle⟩ := run_fields hr hx hy w
    subst ho
    have p1 := run_part h hs xs f.offset (by omega) w
    have p2 := run_part h hs ys f.offset (by omega) w
    have p3 := h.2 ((xs.drop f.offset).take s) ((ys.drop f.offset).take s) (by simp; omega) (by simp; omega) w
    have hn' : f.name ≠ "_" := by simpa using hn
    refine ⟨?_, by omega⟩
    have key : ∀ l : List Int, (l.drop f.offset).take (m - f.offset) = (l.drop f.offset).take s ++ (l.drop (f.offset + s)).take (m - (f.offset + s)) := fun l => by
      rw [show m - f.offset = s + (m - (f.offset + s)) from by omega, List.take_add, List.drop_drop]
    simp only [Op.eqFields, hn', ne_eq, not_false_eq_true, if_true, Sem.run_bind, p1, p2, p3, Result.andThen]
    by_cases hc : (xs.drop f.offset).take s = (ys.drop f.offset).take s
    · have e : ((!decide ((xs.drop f.offset).take s = (ys.drop f.offset).take s)) = true) = False := by simp [hc]
      simp only [e, if_false, ih]
      congr 1
      rw [key xs, key ys, hc]
      simp
    · have e : ((!decide ((xs.drop f.offset).take s = (ys.drop f.offset).take s)) = true) = True := by simp [hc]
      simp only [e, if_true, Sem.run_pure]
      congr 1
      rw [key xs, key ys]
      symm
      rw [decide_eq_false_iff_not]
      intro h2
      exact hc (List.append_inj_left h2 (by simp; omega))

theorem eq_struct {P : Program} {d T m : Nat} {fs : Array Field} (hu : P.underlying T = some (.struct fs)) (hp : P.stoodInHeld T = false) (hi : (P.info? T).map (·.size) = some m) (h : EQs P d 0 fs.toList m) : EQ P (d + 1) true T m := by
  refine ⟨⟨hi, fun w => (run_isAgg_agg (k := m) (by simp [aggN, hu, hi]) w).1⟩, fun xs ys hx hy w => ?_⟩
  have hf : P.fieldsOf T = fs := by simp [Program.fieldsOf, hu]
  show (Op.equalIn (d + 1) T (.agg (ints xs).toArray) (.agg (ints ys).toArray)).run P w = _
  rw [run_equalIn_struct w d T _ _ (by rw [hu, hf]) hp, hf, (run_fields h (by omega) (by omega) w).1]
  simp [← hx, hy.trans hx.symm ▸ List.take_length (l := ys)]

section pe
variable {P : Program} {L : Slots} {d : Option Tmp} {ty : TypeId} {pos : String} {af : Array Edge} {g : Option (Nat × Bool)}
theorem run_eqGuard_agg {op : BinOp} {T : Nat} {x y : Operand} {xs ys : Array Value} (hg : P.eqGuardType P.depth T = false) (w : World) : (eqGuard op T x y (.agg xs) (.agg ys)).run P w = .ok () w := by
  unfold eqGuard
  cases op <;> first | rfl | skip
  all_goals
    simp only [Bool.not_true, Bool.false_eq_true, if_false, Sem.run_bind, program, Sem.run, Result.andThen, hg, Bool.not_false, if_true, Sem.run_pure]
theorem PE.eqlAgg {T U s : Nat} {x y : Operand} (xs ys : List Int) (hE : EQ P 10000 true T s) (hg : P.eqGuardType P.depth T = false) (hx : ev L x = some (.agg (ints xs).toArray)) (hy : ev L y = some (.agg (ints ys).toArray)) (lx : xs.length = s) (ly : ys.length = s) :
    PE P L ⟨d, .binOp .eql T x y U, ty, pos, af, g⟩ (.bool (decide (xs = ys))) := fun ρ hρ w => by
  have hb : binOp .eql T (.agg (ints xs).toArray) (.agg (ints ys).toArray) = (do pure (.bool (← Op.equal T (.agg (ints xs).toArray) (.agg (ints ys).toArray)))) := rfl
  have he : (Op.equal T (.agg (ints xs).toArray) (.agg (ints ys).toArray)).run P w = .ok (decide (xs = ys)) w := hE.2 xs ys lx ly w
  simp only [execOp, hρ _ _ hx, hρ _ _ hy, Sem.run_bind, run_eqGuard_agg hg, hb, he, Result.andThen, Sem.run_pure]
theorem PE.neqAgg {T U s : Nat} {x y : Operand} (xs ys : List Int) (hE : EQ P 10000 true T s) (hg : P.eqGuardType P.depth T = false) (hx : ev L x = some (.agg (ints xs).toArray)) (hy : ev L y = some (.agg (ints ys).toArray)) (lx : xs.length = s) (ly : ys.length = s) :
    PE P L ⟨d, .binOp .neq T x y U, ty, pos, af, g⟩ (.bool (!decide (xs = ys))) := fun ρ hρ w => by
  have hb : binOp .neq T (.agg (ints xs).toArray) (.agg (ints ys).toArray) = (do pure (.bool (!(← Op.equal T (.agg (ints xs).toArray) (.agg (ints ys).toArray))))) := rfl
  have he : (Op.equal T (.agg (ints xs).toArray) (.agg (ints ys).toArray)).run P w = .ok (decide (xs = ys)) w := hE.2 xs ys lx ly w
  simp only [execOp, hρ _ _ hx, hρ _ _ hy, Sem.run_bind, run_eqGuard_agg hg, hb, he, Result.andThen, Sem.run_pure]
end pe

/-! ### maps whose keys are ints or aggregates of ints -/
def CK (P : Program) (n : Nat) (b : Bool) (e s : Nat) : Prop := ∀ (m : Bool) (xs : List Int), xs.length = s → ∀ w, (Instr.checkKey m n e (mkv b xs)).run P w = .ok () w

theorem ck_int {P : Program} {n e : Nat} {k : IntKind} (hu : P.underlying e = some (.int k)) : CK P (n + 1) false e 1 := fun m xs _ w => by
  show (Instr.checkKey m (n + 1) e (.int .i64 _)).run P w = _
  unfold Instr.checkKey
  simp only [Sem.run_bind, run_underlying hu, Result.andThen]
  rfl

inductive CKs (P : Program) (d n : Nat) : Nat → List Field → Nat → Prop where
  | nil (o : Nat) : CKs P d n o [] o
  | cons {o m : Nat} {f : Field} {fs : List Field} {b : Bool} {s : Nat} (ho : f.offset = o) (h : EQ P d b f.type s) (hs : b = false → s = 1) (hc : CK P n b f.type s) (hr : CKs P d n (o + s) fs m) : CKs P d n o (f :: fs) m

theorem run_cks {P : Program} {d n : Nat} {em : Bool} {xs : List Int} : ∀ {o m : Nat} {fs : List Field}, CKs P d n o fs m → m ≤ xs.length → ∀ w, o ≤ m ∧
    (forIn fs PUnit.unit (fun f (_ : PUnit) => (if f.name ≠ "_" then (do Instr.checkKey em n f.type (← part f.type (ints xs).toArray f.offset); pure (ForInStep.yield PUnit.unit)) else pure (ForInStep.yield PUnit.unit) : Sem (ForInStep PUnit)))).run P w = .ok PUnit.unit w
  | o, _, [], .nil _, _, w => ⟨Nat.le_refl _, by simp [Sem.run_pure]⟩
  | o, m, f :: fs, .cons (s := s) ho h hs hc hr, hm, w => by
    obtain ⟨hle, ih⟩ := run_cks (em := em) hr hm w
    subst ho
    have p1 := run_part h hs xs f.offset (by omega) w
    have p2 := hc em ((xs.drop f.offset).take s) (by simp; omega) w
    refine ⟨by omega, ?_⟩
    rw [List.forIn_cons, Sem.run_bind]
    by_cases hn : f.name ≠ "_"
    · rw [if_pos hn]
      simp only [Sem.run_bind, p1, p2, Result.andThen, Sem.run_pure]
      exact ih
    · rw [if_neg hn]
      simp only [Sem.run_pure, Result.andThen]
      exact ih

theorem ck_struct {P : Program} {d n T m : Nat} {fs : Array Field} (hu : P.underlying T = some (.struct fs)) (h : CKs P d n 0 fs.toList m) : CK P (n + 1) true T m := fun em xs hx w => by
  show (Instr.checkKey em (n + 1) T (.agg (ints xs).toArray)).run P w = _
  unfold Instr.checkKey
  simp only [Sem.run_bind, run_underlying hu, Result.andThen]
  rw [← Array.forIn_toList]
  have := (run_cks (em := em) (xs := xs) h (by omega) w).2
  rw [this]; rfl

/-! The entries of a map. -/
abbrev KV := List (List Int × Value)
def ents (b : Bool) : Nat → KV → List MapEntry
  | _, [] => []
  | i, (k, v) :: l => ⟨mkv b k, v, i⟩ :: ents b (i + 1) l
def mapO (b : Bool) (l : KV) : Obj := .map (ents b 0 l).toArray l.length
def KV.get (l : KV) (k : List Int) : Option Value := (l.find? fun e => decide (e.1 = k)).map (·.2)
def KV.put : KV → List Int → Value → KV
  | [], k, v => [(k, v)]
  | (k', v') :: l, k, v => bif decide (k' = k) then (k, v) :: l else (k', v') :: KV.put l k v

/-- T is a key type: b, s as its values' shape. -/
structure KeyT (P : Program) (b : Bool) (T s : Nat) : Prop where
  eq : EQ P 10000 b T s
  ck : CK P 10000 b T s
  one : b = false → s = 1 ∧ ∃ k, P.underlying T = some (.int k)
  agg : b = true → ∃ fs, P.underlying T = some (.struct fs)

theorem run_find {P : Program} {b : Bool} {T s : Nat} (h : KeyT P b T s) (k : List Int) (hk : k.length = s) : ∀ (l : KV) (i : Nat), (∀ e ∈ l, e.1.length = s) → ∀ w,
    (Instr.findAsking T (mkv b k) (ents b i l) i).run P w = .ok ((l.findIdx? fun e => decide (e.1 = k)).map fun j => (i + j, (l.getD j default).2)) w
  | [], i, _, w => by simp [ents, Instr.findAsking, Sem.run_pure]
  | (k', v') :: l, i, hl, w => by
    have h1 : (Op.equal T (mkv b k) (mkv b k')).run P w = .ok (decide (k = k')) w := h.eq.2 k k' hk (hl (k', v') (by simp)) w
    simp only [ents, Instr.findAsking, Sem.run_bind, h1, Result.andThen]
    by_cases hc : k = k'
    · subst hc
      rw [if_pos (by simp)]
      simp [List.findIdx?_cons, Sem.run_pure]
    · rw [if_neg (by simp [hc]), run_find h k hk l (i + 1) (fun e he => hl e (by simp [he])) w]
      have hc' : ¬ k' = k := fun e => hc e.symm
      simp only [List.findIdx?_cons, hc', decide_false, Bool.false_eq_true, if_false, Option.map_map]
      have e : (fun j : Nat => (i + 1 + j, (l.getD j default).2)) = (fun j : Nat => (i + j, (((k', v') :: l).getD j default).2)) ∘ fun i => i + 1 := by
        funext j; simp [Nat.add_assoc, Nat.add_comm 1 j]
      rw [e]

theorem findNow_int (q : IntKind) (k : List Int) : ∀ (l : KV) (i : Nat),
    Instr.findNow (.int q) (mkv false k) (ents false i l) i = some ((l.findIdx? fun e => decide (e.1.headD 0 = k.headD 0)).map fun j => (i + j, (l.getD j default).2))
  | [], i => by simp [ents, Instr.findNow]
  | (k', v') :: l, i => by
    simp only [ents, Instr.findNow, Instr.sameNow, mkv, cond_false, if_true]
    rw [List.findIdx?_cons]
    dsimp only
    cases hb : (k.headD 0 == k'.headD 0) with
    | true =>
      have hc : k'.headD 0 = k.headD 0 := ((by simpa using hb : k.headD 0 = k'.headD 0)).symm
      rw [hc]; simp
    | false =>
      have hc : decide (k'.headD 0 = k.headD 0) = false := by
        rw [decide_eq_false_iff_not]; intro h; rw [h] at hb; simp at hb
      have ih := findNow_int q k l (i + 1)
      simp only [mkv, cond_false] at ih
      rw [hc, ih]
      simp only [Bool.false_eq_true, if_false, Option.map_map]
      have e : (fun j : Nat => (i + 1 + j, (l.getD j default).2)) = (fun j : Nat => (i + j, (((k', v') :: l).getD j default).2)) ∘ fun i => i + 1 := by
        funext j; simp [Nat.add_assoc, Nat.add_comm 1 j]
      rw [e]

theorem run_findKey {P : Program} {b : Bool} {T s : Nat} (h : KeyT P b T s) (k : List Int) (hk : k.length = s) (l : KV) (hl : ∀ e ∈ l, e.1.length = s) (w : World) :
    (Instr.findKey T (mkv b k) (ents b 0 l)).run P w = .ok ((l.findIdx? fun e => decide (e.1 = k)).map fun j => (j, (l.getD j default).2)) w := by
  unfold Instr.findKey
  cases b with
  | false =>
    obtain ⟨rfl, q, hu⟩ := h.one rfl
    simp only [Sem.run_bind, run_underlying hu, Result.andThen, findNow_int, Sem.run_pure, Nat.zero_add]
    have one : ∀ e : List Int × Value, e.1.length = 1 → decide (e.1.headD 0 = k.headD 0) = decide (e.1 = k) := by
      intro e he
      obtain ⟨x, hx⟩ : ∃ x, e.1 = [x] := by match e.1, he with | [x], _ => exact ⟨x, rfl⟩
      obtain ⟨y, hy⟩ : ∃ y, k = [y] := by match k, hk with | [y], _ => exact ⟨y, rfl⟩
      rw [hx, hy]; simp
    have fc : ∀ (l : KV), (∀ e ∈ l, e.1.length = 1) → (l.findIdx? fun e => decide (e.1.headD 0 = k.headD 0)) = l.findIdx? fun e => decide (e.1 = k) := by
      intro l hl
      induction l with
      | nil => rfl
      | cons e l ih => rw [List.findIdx?_cons, List.findIdx?_cons, ih (fun x hx => hl x (by simp [hx])), one e (hl e (by simp))]
    rw [fc l hl]
  | true =>
    obtain ⟨fs, hu⟩ := h.agg rfl
    have hnow : Instr.findNow (.struct fs) (mkv true k) (ents true 0 l) 0 = none ∨ l = [] := by
      cases l with
      | nil => exact .inr rfl
      | cons e l => obtain ⟨k', v'⟩ := e; exact .inl rfl
    simp only [Sem.run_bind, run_underlying hu, Result.andThen]
    rcases hnow with h1 | rfl
    · rw [h1]
      have := run_find h k hk l 0 hl w
      simpa using this
    · simp [ents, Instr.findNow, Sem.run_pure]
end Go.Proofs.Ytaldphhdkmchhaa
