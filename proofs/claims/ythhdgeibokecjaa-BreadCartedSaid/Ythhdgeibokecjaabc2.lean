/- Walks of the functions of the program, and the laws that join them: what the last theorem of this claim needs, in order. -/
import Derived.Test.Ythhdgeibokecjaabc1
namespace Go.Proofs.Ythhdgeibokecjaa
set_option linter.unusedSimpArgs false
set_option linter.unusedVariables false
open Go
section pe
variable {P : Program} {L : Zi} {d : Option Tmp} {ty : TypeId} {pos : String} {af : Array Edge} {g : Option (Nat × Bool)}
theorem Z8S {P : Program} {T m n : Nat} (h : arN P T = some (m, n)) : ∃ e i, P.underlying T = some (.array m e) ∧ P.info? e = some i ∧ i.size = n := by
  unfold arN at h
  split at h
  · rename_i k e hu
    rw [Option.map_eq_some_iff] at h
    obtain ⟨i, hi, he⟩ := h
    cases he
    exact ⟨e, i, hu, hi, rfl⟩
  · cases h
theorem PE.slArr {T m n b off : Nat} {x : Operand} (hT : arN P T = some (m, n)) (hx : ev L x = some (.pointer (some ⟨b, off, none⟩))) :
    PE P L ⟨d, .slice T x none none none, ty, pos, af, g⟩ (.slice (some ⟨b, off, none⟩) m m) := fun ρ hρ w => by
  obtain ⟨e, i, hu, hi, rfl⟩ := Z8S hT
  have ha : (⟨b, off, none⟩ : Addr).add (0 * i.size) = ⟨b, off, none⟩ := by rw [Z0h]; simp
  simp only [execOp, hρ _ _ hx, Option.map_none, Instr.sliceAt, Sem.run_bind, run_underlying hu, Result.andThen, Instr.sureAddr, Sem.run_pure, Instr.sliceBounds, sizeOf, typeInfo, program, hi, Sem.run]
  rw [ha]
  by_cases h : m = 0 <;> simp [h]
end pe
section steps
variable {P : Program} {r : Option Nat} {ops : Array Oper} {n : Nat} {L : Zi} {D : List Deferred} {H : Z7} {R : Z4} {K : Act → World → Prop}
  {i d : Nat} {ty : TypeId} {pos : String} {af : Array Edge}
end steps
def Z9s (b : Nat) (o : Obj) (R : Z4) : World → Prop := fun w => w.heap[b]? = some o ∧ ∀ f ∈ R, ∀ w', Keep [b] w w' → f w'
theorem St.lend {b : Nat} {o : Obj} {T : Z7} {R : Z4} {w : World} (h : St ((b, o) :: T) R w) : St T (Z9s b o R :: R) w where
  nd := (List.nodup_cons.1 h.nd).2
  held p hp := h.held p (by simp [hp])
  fact f hf w' k := by
    have hb : b ∉ ids T := (List.nodup_cons.1 h.nd).1
    have hlt : b < w.heap.size := h.lt (by simp)
    rcases List.mem_cons.1 hf with h1 | h1
    · subst h1
      refine ⟨(k.block b hlt hb).trans (h.held (b, o) (by simp)), fun g hg w'' k2 => ?_⟩
      exact h.fact g hg w'' ((k.mono (D' := ids ((b, o) :: T)) (fun i _ hi => by simp [hi])).trans (k2.mono (fun i _ hi => by simp at hi; simp [hi])))
    · exact h.fact f h1 w' (k.mono (fun i _ hi => by simp [hi]))
theorem St.unlend {b : Nat} {o : Obj} {T : Z7} {R R' : Z4} {w : World} (h : St T (Z9s b o R :: R') w) (hb : b ∉ ids T) : St ((b, o) :: T) R w where
  nd := List.nodup_cons.2 ⟨hb, h.nd⟩
  held p hp := by
    rcases List.mem_cons.1 hp with h1 | h1
    · subst h1; exact (h.now (f := Z9s b o R) (by simp)).1
    · exact h.held p h1
  fact f hf w' k := by
    have h0 := (h.now (f := Z9s b o R) (by simp)).1
    have hlt : b < w.heap.size := (Array.getElem?_eq_some_iff.1 h0).1
    have hlt' : b < w'.heap.size := Nat.lt_of_lt_of_le hlt k.size
    have k1 : Keep (ids T) w { w' with heap := w'.heap.setIfInBounds b o } := ⟨k.os, k.tape, k.output, by simpa using k.size, fun i hi hn => by
      show (w'.heap.setIfInBounds b o)[i]? = _
      by_cases e : b = i
      · subst e
        rw [Array.getElem?_setIfInBounds_self_of_lt hlt', h0]
      · rw [Array.getElem?_setIfInBounds_ne e]
        exact k.block i hi (by simp; exact ⟨fun h => e h.symm, hn⟩)⟩
    have h2 := h.fact (Z9s b o R) (by simp) _ k1
    refine h2.2 f hf w' ⟨rfl, rfl, rfl, by simp, fun i _ hn => ?_⟩
    show _ = (w'.heap.setIfInBounds b o)[i]?
    rw [Array.getElem?_setIfInBounds_ne (fun e => hn (by simp [e]))]
theorem Z5L {b e sz : Nat} {rows : List (List Value)} {junk : List Value} {w : World} (h : w.heap[b]? = some (cel e (rows.flatten ++ junk))) (hs : ∀ r ∈ rows, r.length = sz) : RowsA (some ⟨b, 0, none⟩) sz rows w := fun i row hi => by
  refine ⟨hs row (List.mem_of_getElem? hi), b, 0, rfl, fun j x hx => ?_⟩
  rw [Nat.zero_add, Z17 h]
  have := Z21 hs hi hx
  rw [List.getElem?_toArray, List.getElem?_append_left (List.getElem?_eq_some_iff.1 this).1]
  exact this
theorem FnV.lend {P : Program} {f : FuncId} {args : List Value} {v : Value} {b e sz : Nat} {rows : List (List Value)} {junk : List Value} {H T : Z7} {R : Z4} [pl : Pull b (cel e (rows.flatten ++ junk)) H T] (hs : ∀ r ∈ rows, r.length = sz)
    (h : ∀ B : World → Prop, FnV P f args T (RowsA (some ⟨b, 0, none⟩) sz rows :: B :: R) v) : FnV P f args H R v := fun w hw => by
  have h1 := hw.perm pl.perm
  have hb : b ∉ ids T := (List.nodup_cons.1 h1.nd).1
  have h3 : St T (RowsA (some ⟨b, 0, none⟩) sz rows :: Z9s b (cel e (rows.flatten ++ junk)) R :: R) w :=
    St.also h1.lend (fun w' hg => Z5L (hg (Z9s b (cel e (rows.flatten ++ junk)) R) (by simp)).1 hs)
  refine CallsIn.mono (h _ w h3) ?_
  rintro e' w' ⟨u, H', R', ⟨rfl, rfl, rfl⟩, he, hs'⟩
  exact ⟨_, H, R, ⟨rfl, rfl, rfl⟩, he, (St.unlend hs'.ftail hb).perm pl.perm.symm⟩
theorem St.pullG {H : Z7} {R : Z4} {w : World} (F : Z7) {C : Z7 → Z7} [r : RepF F H C] (h : St H R w) : St (F ++ C []) R w := by
  obtain ⟨T, h1, h2⟩ := r.rep
  exact h.perm (h1.trans (List.Perm.append_left F (h2 [])))
section pe
variable {P : Program} {L : Zi} {d : Option Tmp} {ty : TypeId} {pos : String} {af : Array Edge} {g : Option (Nat × Bool)}
def arE (P : Program) (T : Nat) : Option (Nat × Nat) := match P.underlying T with | some (.array n e) => some (n, e) | _ => none
theorem PE.indexI {T len e s i : Nat} {b : Bool} {x y : Operand} {k : IntKind} {l : List Int} (hT : arE P T = some (len, e)) (hE : EQ P 10000 b e s) (hs : b = false → s = 1) (hx : ev L x = some (.agg (Zc l).toArray)) (hy : ev L y = some (.int k i)) (hi : i < len) (hl : i * s + s ≤ l.length) :
    PE P L ⟨d, .index T x y, ty, pos, af, g⟩ (mkv b ((l.drop (i * s)).take s)) := fun ρ hρ w => by
  unfold arE at hT
  split at hT
  · rename_i n e' hu
    cases hT
    have hsz := Z3f hE.1.1
    have hp := Z0E hE hs l (i * s) hl
    simp only [execOp, hρ _ _ hx, hρ _ _ hy, Instr.index, asIntOf, Sem.run_bind, Sem.run_pure, run_underlying hu, Result.andThen]
    rw [if_pos ⟨by omega, by omega⟩]
    simp only [Sem.run_bind, hsz, Result.andThen, Int.toNat_natCast, hp, Sem.run_pure]
  · cases hT
end pe
section calls
variable {P : Program} {r : Option Nat} {ops : Array Oper} {n : Nat} {L : Zi} {D : List Deferred} {H : Z7} {R : Z4} {K : Act → World → Prop}
  {i : Nat} {ty : TypeId} {pos : String} {af : Array Edge}
end calls
theorem FnV.app {P : Program} {f : FuncId} {a : List Value} {G G2 H : Z7} {R : Z4} {v : Value} (h : FnV P f a ((G ++ G2) ++ H) R v) : FnV P f a (G ++ (G2 ++ H)) R v := by rw [← List.append_assoc]; exact h
theorem Yd.app {P : Program} {l : Nat} {a : List Value} {G G2 H : Z7} {R : Z4} {Q : Value → Z7 → Z4 → Prop} (h : Yd P l a ((G ++ G2) ++ H) R Q) : Yd P l a (G ++ (G2 ++ H)) R Q := by rw [← List.append_assoc]; exact h
theorem Yd.mono {P : Program} {l : Nat} {a : List Value} {H : Z7} {R : Z4} {Q Q' : Value → Z7 → Z4 → Prop} (h : Yd P l a H R Q) (hq : ∀ v H' R', Q v H' R' → Q' v H' R') : Yd P l a H R Q' := fun w hs => by
  obtain ⟨f, tm, asg, bo, h1, h2⟩ := h w hs
  exact ⟨f, tm, asg, bo, h1, RoundIn.mono h2 fun e w' ⟨v, H', R', q, he, hs'⟩ => ⟨v, H', R', hq _ _ _ q, he, hs'⟩⟩
theorem Z1f (n : Int) : 0 ≤ IntKind.u32.wrap n ∧ IntKind.u32.wrap n ≤ 4294967295 := by
  have e : IntKind.u32.wrap n = n % 4294967296 := rfl
  rw [e]; omega
theorem Z4t {n : Int} (h0 : 0 ≤ n) (h1 : n ≤ 4294967295) : IntKind.u32.wrap n = n := by
  have e : IntKind.u32.wrap n = n % 4294967296 := rfl
  rw [e]; omega
theorem Z27 {n : Int} (h0 : -9223372036854775808 ≤ n) (h1 : n ≤ 9223372036854775807) : IntKind.i64.wrap n = n := by
  have e : IntKind.i64.wrap n = if n % 18446744073709551616 ≥ 9223372036854775808 then n % 18446744073709551616 - 18446744073709551616 else n % 18446744073709551616 := by
    unfold IntKind.wrap
    simp [IntKind.signed, IntKind.bits]
  rw [e]
  split <;> omega
def U32 (m : Int) (v : Value) : Prop := ∃ x : Int, v = .int .u32 x ∧ 0 ≤ x ∧ x ≤ m
section pe
variable {P : Program} {L : Zi} {d : Option Tmp} {ty : TypeId} {pos : String} {af : Array Edge} {g : Option (Nat × Bool)}
theorem Z7J {op : BinOp} {T : TypeId} {k : IntKind} {m n : Int} (hop : op = .and ∨ op = .or ∨ op = .xor ∨ op = .andNot) : binOp op T (.int k m) (.int k n) = Op.intBits op k m n := by
  rcases hop with rfl | rfl | rfl | rfl <;> simp [binOp]
theorem PE.bits {op : BinOp} {T U : TypeId} {x y : Operand} {k : IntKind} {m n : Int} {v : Value} (hop : op = .and ∨ op = .or ∨ op = .xor ∨ op = .andNot) (hx : ev L x = some (.int k m)) (hy : ev L y = some (.int k n))
    (h : ∀ w, (Op.intBits op k m n).run P w = .ok v w) : PE P L ⟨d, .binOp op T x y U, ty, pos, af, g⟩ v := fun ρ hρ w => by
  have hg : ∀ w, (eqGuard op T x y (.int k m) (.int k n)).run P w = .ok () w := fun w => by rcases hop with rfl | rfl | rfl | rfl <;> rfl
  simp only [execOp, hρ _ _ hx, hρ _ _ hy, Sem.run_bind, hg, Z7J hop, h, Result.andThen, Sem.run_pure]
theorem PE.xorU {T U : TypeId} {x y : Operand} {m n : Int} (hx : ev L x = some (.int .u32 m)) (hy : ev L y = some (.int .u32 n)) : ∃ v, PE P L ⟨d, .binOp .xor T x y U, ty, pos, af, g⟩ v ∧ U32 4294967295 v :=
  ⟨_, PE.bits (by simp) hx hy (fun w => rfl), _, rfl, Z1f _⟩
theorem PE.mulU {T U : TypeId} {x y : Operand} {m n : Int} (hx : ev L x = some (.int .u32 m)) (hy : ev L y = some (.int .u32 n)) : ∃ v, PE P L ⟨d, .binOp .mul T x y U, ty, pos, af, g⟩ v ∧ U32 4294967295 v := ⟨_, PE.mulW hx hy, _, rfl, Z1f _⟩
theorem PE.addU {T U : TypeId} {x y : Operand} {m n : Int} (hx : ev L x = some (.int .u32 m)) (hy : ev L y = some (.int .u32 n)) : ∃ v, PE P L ⟨d, .binOp .add T x y U, ty, pos, af, g⟩ v ∧ U32 4294967295 v := ⟨_, PE.addW hx hy, _, rfl, Z1f _⟩
theorem PE.convU {S T : TypeId} {x : Operand} {k : IntKind} {m : Int} (hS : (P.underlying S).isSome = true) (hT : Z8k P T = some .u32) (hx : ev L x = some (.int k m)) : ∃ v, PE P L ⟨d, .convert S T x, ty, pos, af, g⟩ v ∧ U32 4294967295 v := ⟨_, PE.convert hS hT hx, _, rfl, Z1f _⟩
theorem PE.conv64 {S T : TypeId} {x : Operand} {k : IntKind} {m : Int} (hS : (P.underlying S).isSome = true) (hT : Z8k P T = some .i64) (hx : ev L x = some (.int k m)) (h0 : -9223372036854775808 ≤ m ∧ m ≤ 9223372036854775807) : PE P L ⟨d, .convert S T x, ty, pos, af, g⟩ (.int .i64 m) := by
  have := PE.convert (P := P) (L := L) (d := d) (ty := ty) (pos := pos) (af := af) (g := g) hS hT hx
  rwa [Z27 h0.1 h0.2] at this
theorem PE.andU {T U : TypeId} {x y : Operand} {m n : Int} (hx : ev L x = some (.int .u32 m)) (hy : ev L y = some (.int .u32 n)) (h0 : 0 ≤ n) (h1 : n ≤ 4294967295) : ∃ v, PE P L ⟨d, .binOp .and T x y U, ty, pos, af, g⟩ v ∧ U32 n v := by
  refine ⟨_, PE.bits (by simp) hx hy (fun w => rfl), _, rfl, (Z1f _).1, ?_⟩
  have hb : (BitVec.ofInt 32 n).toNat = n.toNat := by
    rw [BitVec.toNat_ofInt]; omega
  have hle : (BitVec.ofInt 32 m &&& BitVec.ofInt 32 n).toNat ≤ n.toNat := by
    rw [BitVec.toNat_and, hb]; exact Nat.and_le_right
  show IntKind.u32.wrap ((BitVec.ofInt 32 m &&& BitVec.ofInt 32 n).toNat : Int) ≤ n
  rw [Z4t (by omega) (by omega)]
  omega
theorem PE.shrU {T U : TypeId} {x y : Operand} {q : IntKind} {m n : Int} (hx : ev L x = some (.int .u32 m)) (hy : ev L y = some (.int q n)) (hn : 0 ≤ n) (h0 : 0 ≤ m) (h1 : m ≤ 4294967295) : ∃ v, PE P L ⟨d, .binOp .shr T x y U, ty, pos, af, g⟩ v ∧ U32 4294967295 v := by
  refine ⟨.int .u32 (m.fdiv (2 ^ (Min.min n.toNat 32))), fun ρ hρ w => ?_, _, rfl, ?_, ?_⟩
  · have hg : ∀ w, (eqGuard .shr T x y (.int .u32 m) (.int q n)).run P w = .ok () w := fun w => rfl
    have hb : binOp .shr T (.int .u32 m) (.int q n) = Op.shift .shr .u32 m q n := by simp [binOp]
    have hs : ∀ w, (Op.shift .shr .u32 m q n).run P w = .ok (.int .u32 (m.fdiv (2 ^ (Min.min n.toNat 32)))) w := fun w => by
      unfold Op.shift
      rw [if_neg (by omega)]
      rfl
    simp only [execOp, hρ _ _ hx, hρ _ _ hy, Sem.run_bind, hg, hb, hs, Result.andThen, Sem.run_pure]
  · rw [Int.fdiv_eq_ediv_of_nonneg _ (Int.pow_nonneg (by omega))]
    exact Int.ediv_nonneg h0 (Int.pow_nonneg (by omega))
  · rw [Int.fdiv_eq_ediv_of_nonneg _ (Int.pow_nonneg (by omega))]
    have := Int.ediv_le_self (a := m) (2 ^ (Min.min n.toNat 32)) h0
    omega
end pe
section steps
variable {P : Program} {r : Option Nat} {ops : Array Oper} {n : Nat} {L : Zi} {D : List Deferred} {H : Z7} {R : Z4} {K : Act → World → Prop}
  {bm : List Nat} {X : Act → World → Prop} {p : Plan} {pend : Z2r}
  {i d : Nat} {op : Op} {ty : TypeId} {pos : String} {af : Array Edge}
theorem spE {q : Value → Prop} (ho : ops[i]? = some ⟨some d, op, ty, pos, af, none⟩) (hv : ∃ v, PE P L ⟨some d, op, ty, pos, af, none⟩ v ∧ q v) (hd : Nat.blt d n = true)
    (h : ∀ v, q v → Sy n ((d, v) :: L) D H R K) : Sy n L D H R (stp P r ops i K) := by
  obtain ⟨v, hv, hq⟩ := hv
  exact sp ho hv hd (h v hq)
theorem tkE {q : Value → Prop} (ho : ops[i]? = some ⟨some d, op, ty, pos, af, none⟩) (hv : ∃ v, PE P L ⟨some d, op, ty, pos, af, none⟩ v ∧ q v) (hd : Nat.blt d n = true)
    (h : ∀ v, q v → Sy n ((d, v) :: L) D H R (Dv P r ops bm X p pend)) : Sy n L D H R (Dv P r ops bm X (.tk i p) pend) := by
  obtain ⟨v, hv, hq⟩ := hv
  exact tk ho hv hd (h v hq)
end steps
section pe
variable {P : Program} {L : Zi} {d : Option Tmp} {ty : TypeId} {pos : String} {af : Array Edge} {g : Option (Nat × Bool)}
end pe
section steps
variable {P : Program} {r : Option Nat} {ops : Array Oper} {n : Nat} {L : Zi} {D : List Deferred} {H : Z7} {R : Z4} {K : Act → World → Prop}
  {i d : Nat} {ty : TypeId} {pos : String} {af : Array Edge}
end steps
def AllS : List Nat → (Nat → Prop) → Prop
  | [], _ => True
  | i :: l, p => p i ∧ AllS l p
theorem AllS.all {p : Nat → Prop} : ∀ {l : List Nat}, AllS l p → ∀ i ∈ l, p i
  | [], _, i, h => by cases h
  | j :: l, h, i, hi => by
    rcases List.mem_cons.1 hi with rfl | hi
    · exact h.1
    · exact AllS.all h.2 i hi
section free
variable {P : Program} {r : Option Nat} {ops : Array Oper} {n : Nat} {L : Zi} {D : List Deferred} {H : Z7} {R : Z4}
end free
def pvl (L : Zi) : Op → Option Value
  | .move x => ev L x
  | .assign x => ev L x
  | .pick c x y => match ev L c with
    | some (.bool b) => match ev L x with
      | some u => match ev L y with
        | some v => some (bif b then u else v)
        | none => none
      | none => none
    | _ => none
  | .extract x k => match ev L x with
    | some (.tuple l) => l.toList[k]?
    | _ => none
  | .unOp .not _ x => match ev L x with
    | some (.bool b) => some (.bool !b)
    | _ => none
  | .binOp .lss _ x y _ => match ev L x with
    | some (.int .i64 m) => match ev L y with
      | some (.int .i64 n) => some (.bool (decide (m < n)))
      | _ => none
    | _ => none
  | .binOp .leq _ x y _ => match ev L x with
    | some (.int .i64 m) => match ev L y with
      | some (.int .i64 n) => some (.bool (decide (m ≤ n)))
      | _ => none
    | _ => none
  | .binOp .gtr _ x y _ => match ev L x with
    | some (.int .i64 m) => match ev L y with
      | some (.int .i64 n) => some (.bool (decide (n < m)))
      | _ => none
    | _ => none
  | .binOp .geq _ x y _ => match ev L x with
    | some (.int .i64 m) => match ev L y with
      | some (.int .i64 n) => some (.bool (decide (n ≤ m)))
      | _ => none
    | _ => none
  | .binOp .eql _ x y _ => match ev L x with
    | some (.int .i64 m) => match ev L y with
      | some (.int .i64 n) => some (.bool (decide (m = n)))
      | _ => none
    | _ => none
  | .binOp .neq _ x y _ => match ev L x with
    | some (.int .i64 m) => match ev L y with
      | some (.int .i64 n) => some (.bool (decide (m ≠ n)))
      | _ => none
    | _ => none
  | _ => none
theorem Z5r {P : Program} {L : Zi} {o : Oper} {v : Value} (h : pvl L o.op = some v) : PE P L o v := by
  obtain ⟨d, op, ty, pos, af, g⟩ := o
  dsimp only at h
  unfold pvl at h
  split at h
  · exact PE.move h
  · exact PE.assign h
  · split at h
    · rename_i b hb
      split at h
      · rename_i u hu
        split at h
        · rename_i w hw
          obtain rfl := Option.some.inj h
          exact PE.pick hb hu hw
        · cases h
      · cases h
    · cases h
  · split at h
    · rename_i l hl
      exact PE.extract (l := l.toList) hl h
    · cases h
  · split at h
    · rename_i b hb
      obtain rfl := Option.some.inj h
      exact PE.not hb
    · cases h
  · split at h
    · rename_i m hm
      split at h
      · rename_i k hk
        obtain rfl := Option.some.inj h
        exact PE.lss hm hk
      · cases h
    · cases h
  · split at h
    · rename_i m hm
      split at h
      · rename_i k hk
        obtain rfl := Option.some.inj h
        exact PE.leq hm hk
      · cases h
    · cases h
  · split at h
    · rename_i m hm
      split at h
      · rename_i k hk
        obtain rfl := Option.some.inj h
        exact PE.gtr hm hk
      · cases h
    · cases h
  · split at h
    · rename_i m hm
      split at h
      · rename_i k hk
        obtain rfl := Option.some.inj h
        exact PE.geq hm hk
      · cases h
    · cases h
  · split at h
    · rename_i m hm
      split at h
      · rename_i k hk
        obtain rfl := Option.some.inj h
        exact PE.eql hm hk
      · cases h
    · cases h
  · split at h
    · rename_i m hm
      split at h
      · rename_i k hk
        obtain rfl := Option.some.inj h
        exact PE.neq hm hk
      · cases h
    · cases h
  · cases h
def gok (ops : Array Oper) (L : Zi) : Option (Nat × Bool) → Option Bool
  | none => some true
  | some (j, b) => match ops[j]? with
    | some oj => match oj.dst with
      | some t => match lk L t with
        | some (.bool c) => some (b == c)
        | _ => none
      | none => none
    | none => none
def prS (ops : Array Oper) (n : Nat) (L : Zi) (i : Nat) : Option Zi := match ops[i]? with
  | some o => match o.dst with
    | some d => bif Nat.blt d n then
        match gok ops L o.guard with
        | some true => match pvl L o.op with
          | some v => some ((d, v) :: L)
          | none => none
        | some false => some ((d, undef) :: L)
        | none => none
      else none
    | none => none
  | none => none
section ops
variable {P : Program} {r : Option Nat} {ops : Array Oper} {n : Nat} {L L' : Zi} {D : List Deferred} {H : Z7} {R : Z4} {K : Act → World → Prop}
  {bm : List Nat} {X : Act → World → Prop} {p p' : Plan} {pend : Z2r} {i : Nat}
theorem Z43 (h : prS ops n L i = some L') : ∃ o d, ops[i]? = some o ∧ o.dst = some d ∧ Nat.blt d n = true ∧
    ((∃ v, pvl L o.op = some v ∧ L' = (d, v) :: L ∧ (o.guard = none ∨ ∃ j b oj t, o.guard = some (j, b) ∧ ops[j]? = some oj ∧ oj.dst = some t ∧ lk L t = some (.bool b))) ∨
     (L' = (d, undef) :: L ∧ ∃ j b oj t c, o.guard = some (j, b) ∧ ops[j]? = some oj ∧ oj.dst = some t ∧ lk L t = some (.bool c) ∧ b = !c)) := by
  unfold prS at h
  split at h
  · rename_i o ho
    split at h
    · rename_i d hd
      cases hb : Nat.blt d n with
      | false => rw [hb] at h; cases h
      | true =>
        rw [hb, cond_true] at h
        refine ⟨o, d, ho, hd, hb, ?_⟩
        have hg : ∀ x, gok ops L o.guard = some x → (o.guard = none ∧ x = true) ∨ ∃ j b oj t c, o.guard = some (j, b) ∧ ops[j]? = some oj ∧ oj.dst = some t ∧ lk L t = some (.bool c) ∧ x = (b == c) := by
          intro x hx
          unfold gok at hx
          split at hx
          · rename_i h0; exact .inl ⟨h0, (Option.some.inj hx).symm⟩
          · rename_i j b h0
            split at hx
            · rename_i oj hj
              split at hx
              · rename_i t ht
                split at hx
                · rename_i c hc
                  exact .inr ⟨j, b, oj, t, c, h0, hj, ht, hc, (Option.some.inj hx).symm⟩
                · cases hx
              · cases hx
            · cases hx
        split at h
        · rename_i h0
          split at h
          · rename_i v hv
            refine .inl ⟨v, hv, (Option.some.inj h).symm, ?_⟩
            rcases hg _ h0 with ⟨h1, _⟩ | ⟨j, b, oj, t, c, h1, h2, h3, h4, h5⟩
            · exact .inl h1
            · obtain rfl := eq_of_beq h5.symm
              exact .inr ⟨j, b, oj, t, h1, h2, h3, h4⟩
          · cases h
        · rename_i h0
          refine .inr ⟨(Option.some.inj h).symm, ?_⟩
          rcases hg _ h0 with ⟨_, h1⟩ | ⟨j, b, oj, t, c, h1, h2, h3, h4, h5⟩
          · cases h1
          · exact ⟨j, b, oj, t, c, h1, h2, h3, h4, by cases b <;> cases c <;> first | rfl | cases h5⟩
        · cases h
    · cases h
  · cases h
theorem ZaE (h : prS ops n L i = some L') (hk : Sy n L' D H R K) : Sy n L D H R (stp P r ops i K) := by
  obtain ⟨⟨dst, op, ty, pos, af, g⟩, d, ho, hd, hb, h1⟩ := Z43 h
  dsimp only at hd h1
  subst hd
  rcases h1 with ⟨v, hv, rfl, rfl | ⟨j, b, oj, t, rfl, hj, ht, hl⟩⟩ | ⟨rfl, j, b, oj, t, c, hg, hj, ht, hl, hbc⟩
  · exact sp ho (Z5r hv) hb hk
  · exact spG ho hj ht hl (Z5r hv) hb hk
  · exact spN ho hg hj ht hl hbc rfl hb hk
theorem ZaN (h : prS ops n L i = some L') (hk : Sy n L' D H R (Dv P r ops bm X p pend)) : Sy n L D H R (Dv P r ops bm X (.tk i p) pend) := by
  obtain ⟨⟨dst, op, ty, pos, af, g⟩, d, ho, hd, hb, h1⟩ := Z43 h
  dsimp only at hd h1
  subst hd
  rcases h1 with ⟨v, hv, rfl, rfl | ⟨j, b, oj, t, rfl, hj, ht, hl⟩⟩ | ⟨rfl, j, b, oj, t, c, hg, hj, ht, hl, hbc⟩
  · exact tk ho (Z5r hv) hb hk
  · exact tkG ho hj ht hl (Z5r hv) hb hk
  · exact tkN ho hg hj ht hl hbc rfl hb hk
def prK (ops : Array Oper) (n : Nat) : Nat → List Nat → Zi → Option (List Nat × Zi)
  | 0, l, L => some (l, L)
  | _ + 1, [], _ => none
  | k + 1, i :: l, L => match prS ops n L i with
    | some L' => prK ops n k l L'
    | none => none
theorem pur (k : Nat) {l l' : List Nat} (h : prK ops n k l L = some (l', L')) (hk : Sy n L' D H R (Z3C P r ops X l')) : Sy n L D H R (Z3C P r ops X l) := by
  induction k generalizing l L with
  | zero =>
    simp only [prK, Option.some.injEq, Prod.mk.injEq] at h
    obtain ⟨rfl, rfl⟩ := h
    exact hk
  | succ k ih =>
    cases l with
    | nil => cases h
    | cons i l =>
      unfold prK at h
      split at h
      · rename_i L1 h1
        exact ZaE h1 (ih h)
      · cases h
def prP (ops : Array Oper) (n : Nat) : Nat → Plan → Zi → Option (Plan × Zi)
  | 0, p, L => some (p, L)
  | k + 1, .tk i p, L => match prS ops n L i with
    | some L' => prP ops n k p L'
    | none => none
  | _ + 1, _, _ => none
theorem Za (k : Nat) (h : prP ops n k p L = some (p', L')) (hk : Sy n L' D H R (Dv P r ops bm X p' pend)) : Sy n L D H R (Dv P r ops bm X p pend) := by
  induction k generalizing p L with
  | zero =>
    simp only [prP, Option.some.injEq, Prod.mk.injEq] at h
    obtain ⟨rfl, rfl⟩ := h
    exact hk
  | succ k ih =>
    cases p with
    | tk i p =>
      unfold prP at h
      split at h
      · rename_i L1 h1
        exact ZaN h1 (ih h)
      · cases h
    | done => cases h
    | ld i p => cases h
    | big i p => cases h
    | any p => cases h
    | alt i p q => cases h
    | stop => cases h
theorem ZR {X : Act → World → Prop} (t : Nat) {b : Bool} (hb : lk L t = some (.bool b)) (h1 : b = true → Sy n ((t, .bool true) :: L) D H R X) (h0 : b = false → Sy n ((t, .bool false) :: L) D H R X) : Sy n L D H R X := Z9M hb h1 h0
theorem bgT (h : Sy n L D H R (Dv P r ops bm X p (keepP bm i pend))) (hp : ∀ w, St H R w → ZW bm i pend w := by intro w hs; repeat' first | exact trivial | constructor) : Sy n L D H R (fun a w => ZW bm i pend w ∧ Dv P r ops bm X p (keepP bm i pend) a w) := bg hp h
theorem PE.fA {ty : TypeId} {pos : String} {af : Array Edge} {g : Option (Nat × Bool)} {d : Option Tmp} {T k o b off : Nat} {x : Operand} (ho : Z00 P T k = some o) (hx : ev L x = some (.pointer (some ⟨b, off, none⟩))) : PE P L ⟨d, .fieldAddr T x k, ty, pos, af, g⟩ (.pointer (some ⟨b, off + o, none⟩)) := PE.fieldAddr ho hx
end ops
theorem cS : (∀ (p : Prop) [Decidable p], (decide p = true) = p) ∧ (∀ (p : Prop) [Decidable p], (decide p = false) = ¬ p) ∧ (∀ a b : Bool, ((a && b) = true) = (a = true ∧ b = true)) ∧ (∀ a b : Bool, ((a || b) = true) = (a = true ∨ b = true)) ∧ (∀ b : Bool, ((!b) = true) = (b = false)) ∧ (∀ a b : Int, (¬ a ≤ b) = (b < a)) ∧ (∀ a b : Int, (¬ a < b) = (b ≤ a)) :=
  ⟨fun _ _ => decide_eq_true_eq, fun p _ => propext decide_eq_false_iff_not, fun a b => by simp, fun a b => by simp, fun b => by simp, fun a b => propext Int.not_le, fun a b => propext Int.not_lt⟩
def tks : Nat → Nat → Plan → Plan
  | _, 0, p => p
  | i, k + 1, p => .tk i (tks (i + 1) k p)
theorem idH {H : Z7} {R : Z4} : ∀ w, St H R w → St H R w := fun _ h => h
theorem nl {m n : Nat} (h : Nat.ble m n = true) : m ≤ n := Nat.le_of_ble_eq_true h
theorem dF {p : Prop} [i : Decidable p] (h : ¬ p) : decide p = false := decide_eq_false h
theorem dT {p : Prop} [i : Decidable p] (h : p) : decide p = true := decide_eq_true h
section steps
variable {P : Program} {r : Option Nat} {n : Nat} {L : Zi} {D : List Deferred} {H : Z7} {R : Z4} {Q : Exit → Act → World → Prop}
theorem Zr {ι : Type} {inv : ι → Head} {j : ι} (hH : ∀ w, St H R w → St (inv j).H (inv j).R w) (hL : Sub (inv j).L L := by repeat' first | exact Sub.nil | apply Sub.cons | rfl | (simp [lk]; omega)) : Sy n L D H R (Z2T n D inv j) := Zcm hL hH
theorem ZG {ι : Type} {inv : ι → Head} {μ : ι → Nat} {i : ι} (j : ι) (hm : μ j < μ i) (hH : ∀ w, St H R w → St (inv j).H (inv j).R w) (hL : Sub (inv j).L L := by repeat' first | exact Sub.nil | apply Sub.cons | rfl | (simp [lk]; omega)) : Sy n L D H R (Z67 n D inv μ i) := Zt j hm hL hH
theorem ZC {ι : Type} {inv : ι → Head} {μ : ι → Nat} {i : ι} (j : ι) (hH : ∀ w, St H R w → St (inv j).H (inv j).R w) (hm : μ j < μ i := by dsimp only; omega) (hL : Sub (inv j).L L := by repeat' first | exact Sub.nil | apply Sub.cons | rfl | (simp [lk]; omega)) : Sy n L D H R (Z67 n D inv μ i) := Zt j hm hL hH
theorem Z2U {ι : Type} {hd : ι → Head} (j : ι) (hH : ∀ w, St H R w → St (hd j).H (hd j).R w) (hL : Sub (hd j).L L := by repeat' first | exact Sub.nil | apply Sub.cons | rfl | (simp [lk]; omega)) : Sy n L D H R (Z9c n D hd .normal) := Z6e j hL hH
theorem Z5a {ι : Type} {hd : ι → Head} (j : ι) (hH : ∀ w, St H R w → St (hd j).H (hd j).R w) (hL : Sub (hd j).L L := by repeat' first | exact Sub.nil | apply Sub.cons | rfl | (simp [lk]; omega)) : Sy n L D H R (Z6P n D hd Q .normal) := Z9b j hL hH
def rg : Nat → Nat → List Nat
  | _, 0 => []
  | i, k + 1 => i :: rg (i + 1) k
theorem sqt {id : Nat} {ops : Array Oper} {y : Code} (k : Nat) (hl : List.range ops.size = rg 0 k) (h : Sy n L D H R (Z3C P r ops (wpc P r y Q) (rg 0 k))) : Sy n L D H R (wpc P r (.seq (.region id ops false) y) Q) :=
  Z0 (Z8D _ hl h)
theorem sqr {id : Nat} {ops : Array Oper} (k : Nat) (hl : List.range ops.size = rg 0 k) (h : Sy n L D H R (Z3C P r ops (Q .normal) (rg 0 k))) : Sy n L D H R (wpc P r (.region id ops false) Q) := Z8D _ hl h
variable {fn : Func} {G : Value → Z7 → Z4 → Prop} {H' : Z7} {R' : Z4}
theorem rtA {t : Nat} {v u : Value} (hr : fn.results = #[.tmp t]) (hv : lk L t = some v) (he : Zu [v] = u) (hq : G u H' R') (hs : ∀ w, St H R w → St H' R' w) : Sy n L [] H R (Ret P fn G .ret) := Z6 (vs := [v]) hr (.cons (RV.tmp hv) .nil) he hq hs
theorem rtB {t t2 : Nat} {v x u : Value} (hr : fn.results = #[.tmp t, .tmp t2]) (hv : lk L t = some v) (hx : lk L t2 = some x) (he : Zu [v, x] = u) (hq : G u H' R') (hs : ∀ w, St H R w → St H' R' w) : Sy n L [] H R (Ret P fn G .ret) := Z6 (vs := [v, x]) hr (.cons (RV.tmp hv) (.cons (RV.tmp hx) .nil)) he hq hs
end steps
theorem Zk : Try.prog.follows .mixedOrders = true := by kernel_rfl
end Go.Proofs.Ythhdgeibokecjaa
namespace Go.Proofs.Ythhdgeibokecjaa.Gt
set_option linter.unusedSimpArgs false
set_option linter.unusedVariables false
abbrev Box := List Int
abbrev Mix := List Int
def nn (l : List Int) (k : Nat) : Int := l.getD k 0
@[reducible] def bl (b : Box) (k : Nat) : Int := nn b (2 * k)
@[reducible] def bh (b : Box) (k : Nat) : Int := nn b (2 * k + 1)
def met (l h l2 h2 : Int) : Int × Int := bif decide (min h h2 < max l l2) then (1, 0) else (max l l2, min h h2)
def Z13 (b : Box) (k : Nat) (s : Int × Int) : Box := (b.set (2 * k) s.1).set (2 * k + 1) s.2
def oth (f : Nat → Int) (k : Nat) : Int := (bif k == 0 then 0 else f 0) + (bif k == 1 then 0 else f 1) + (bif k == 2 then 0 else f 2) + (bif k == 3 then 0 else f 3)
def ZD (b : Box) (k : Nat) : Int × Int := met (bl b k) (bh b k) (40 - oth (bh b) k) (40 - oth (bl b) k)
def Z2G (b : Box) : Nat → Option Box
  | 0 => some b
  | k + 1 => match Z2G b k with
    | none => none
    | some c => bif ZD c k == (1, 0) then none else some (Z13 c k (ZD c k))
inductive CloseR : Box → Option Box → Prop where
  | no {b : Box} (h : Z2G b 4 = none) : CloseR b none
  | fix {b : Box} (h : Z2G b 4 = some b) : CloseR b (some b)
  | go {b c : Box} {r : Option Box} (h : Z2G b 4 = some c) (hc : c ≠ b) (hr : CloseR c r) : CloseR b r
def Z5j : Nat → Box → Option Box
  | 0, _ => none
  | n + 1, b => match Z2G b 4 with
    | none => none
    | some c => bif decide (c = b) then some b else Z5j n c
@[irreducible] def clo (b : Box) : Option Box := Z5j 200 b
def Z1X (m : List Int) : Int := nn m 0 + nn m 1 + nn m 2 + nn m 3
structure Mx (b : Box) (m : Mix) : Prop where
  len : m.length = 4
  sum : Z1X m = 40
  at_ : ∀ k < 4, bl b k ≤ nn m k ∧ nn m k ≤ bh b k
structure Bok (b : Box) : Prop where
  len : b.length = 8
  at_ : ∀ k < 4, (bl b k = 1 ∧ bh b k = 0) ∨ (0 ≤ bl b k ∧ bl b k ≤ bh b k ∧ bh b k ≤ 40)
def wid (b : Box) : Nat := ((bh b 0 - bl b 0 + 1) + (bh b 1 - bl b 1 + 1) + (bh b 2 - bl b 2 + 1) + (bh b 3 - bl b 3 + 1)).toNat
theorem Z3t {b : Box} (h : b.length = 8) : ∃ a0 a1 a2 a3 a4 a5 a6 a7, b = [a0, a1, a2, a3, a4, a5, a6, a7] := by
  match b, h with
  | [a0, a1, a2, a3, a4, a5, a6, a7], _ => exact ⟨a0, a1, a2, a3, a4, a5, a6, a7, rfl⟩
theorem Z3N {m : List Int} (h : m.length = 4) : ∃ a b c d, m = [a, b, c, d] := by
  match m, h with
  | [a, b, c, d], _ => exact ⟨a, b, c, d, rfl⟩
theorem lt4 {k : Nat} (h : k < 4) : k = 0 ∨ k = 1 ∨ k = 2 ∨ k = 3 := by omega
theorem Z4h {p : Nat → Prop} (h : ∀ k < 4, p k) : p 0 ∧ p 1 ∧ p 2 ∧ p 3 := ⟨h 0 (by omega), h 1 (by omega), h 2 (by omega), h 3 (by omega)⟩
theorem of4 {p : Nat → Prop} (h : p 0 ∧ p 1 ∧ p 2 ∧ p 3) : ∀ k < 4, p k := fun k hk => by
  obtain ⟨h0, h1, h2, h3⟩ := h
  rcases lt4 hk with rfl | rfl | rfl | rfl <;> assumption
theorem Z1h (b : Box) (k : Nat) (s : Int × Int) : (Z13 b k s).length = b.length := by simp [Z13]
theorem Z0N {b : Box} (hb : b.length = 8) {k j : Nat} (hk : k < 4) (hj : j < 4) (s : Int × Int) : bl (Z13 b k s) j = (bif k == j then s.1 else bl b j) ∧ bh (Z13 b k s) j = (bif k == j then s.2 else bh b j) := by
  obtain ⟨a0, a1, a2, a3, a4, a5, a6, a7, rfl⟩ := Z3t hb
  rcases lt4 hk with rfl | rfl | rfl | rfl <;> rcases lt4 hj with rfl | rfl | rfl | rfl <;> exact ⟨rfl, rfl⟩
theorem Z23 {l h l2 h2 : Int} : met l h l2 h2 = (1, 0) ∨ (met l h l2 h2 = (max l l2, min h h2) ∧ max l l2 ≤ min h h2) := by
  unfold met
  by_cases hc : min h h2 < max l l2
  · rw [decide_eq_true hc]; exact .inl rfl
  · rw [decide_eq_false hc]; exact .inr ⟨rfl, by omega⟩
theorem Zal {l h l2 h2 x : Int} (h1 : l ≤ x ∧ x ≤ h) (h2' : l2 ≤ x ∧ x ≤ h2) : met l h l2 h2 = (max l l2, min h h2) := by
  unfold met
  rw [decide_eq_false (by omega)]; rfl
theorem met_iff {l h l2 h2 x : Int} : ((met l h l2 h2).1 ≤ x ∧ x ≤ (met l h l2 h2).2) ↔ ((l ≤ x ∧ x ≤ h) ∧ (l2 ≤ x ∧ x ≤ h2)) := by
  rcases Z23 (l := l) (h := h) (l2 := l2) (h2 := h2) with e | ⟨e, h3⟩
  · rw [e]
    constructor
    · intro hx; have := hx.1; have := hx.2; simp only at *; omega
    · rintro ⟨h1, h4⟩
      rw [Zal h1 h4] at e
      simp only [Prod.mk.injEq] at e
      simp only; omega
  · rw [e]; simp only; omega
theorem Z8s {l h l2 h2 : Int} (hb : (l = 1 ∧ h = 0) ∨ (0 ≤ l ∧ l ≤ h ∧ h ≤ 40)) : ((met l h l2 h2).1 = 1 ∧ (met l h l2 h2).2 = 0) ∨ (0 ≤ (met l h l2 h2).1 ∧ (met l h l2 h2).1 ≤ (met l h l2 h2).2 ∧ (met l h l2 h2).2 ≤ 40) := by
  rcases Z23 (l := l) (h := h) (l2 := l2) (h2 := h2) with e | ⟨e, h3⟩
  · rw [e]; exact .inl ⟨rfl, rfl⟩
  · rw [e]; simp only; omega
theorem Bok.set {b : Box} (h : Bok b) {k : Nat} (hk : k < 4) {l2 h2 : Int} : Bok (Z13 b k (met (bl b k) (bh b k) l2 h2)) := by
  refine ⟨by rw [Z1h]; exact h.len, fun j hj => ?_⟩
  obtain ⟨e1, e2⟩ := Z0N h.len hk hj (met (bl b k) (bh b k) l2 h2)
  rw [e1, e2]
  by_cases hkj : k = j
  · subst hkj
    simp only [beq_self_eq_true, cond_true]
    exact Z8s (h.at_ k hk)
  · have : (k == j) = false := by simpa using hkj
    rw [this]; exact h.at_ j hj
theorem Mx.set {b : Box} (hb : b.length = 8) {k : Nat} (hk : k < 4) {l2 h2 : Int} {m : Mix} : Mx (Z13 b k (met (bl b k) (bh b k) l2 h2)) m ↔ (Mx b m ∧ l2 ≤ nn m k ∧ nn m k ≤ h2) := by
  constructor
  · rintro ⟨h1, h2', h3⟩
    have hk2 := h3 k hk
    obtain ⟨e1, e2⟩ := Z0N hb hk hk (met (bl b k) (bh b k) l2 h2)
    simp only [beq_self_eq_true, cond_true] at e1 e2
    rw [e1, e2, met_iff] at hk2
    refine ⟨⟨h1, h2', fun j hj => ?_⟩, hk2.2⟩
    by_cases hkj : k = j
    · subst hkj; exact hk2.1
    · have h4 := h3 j hj
      obtain ⟨e3, e4⟩ := Z0N hb hk hj (met (bl b k) (bh b k) l2 h2)
      have : (k == j) = false := by simpa using hkj
      rw [e3, e4, this] at h4
      exact h4
  · rintro ⟨⟨h1, h2', h3⟩, h4⟩
    refine ⟨h1, h2', fun j hj => ?_⟩
    obtain ⟨e3, e4⟩ := Z0N hb hk hj (met (bl b k) (bh b k) l2 h2)
    rw [e3, e4]
    by_cases hkj : k = j
    · subst hkj
      simp only [beq_self_eq_true, cond_true]
      exact met_iff.2 ⟨h3 k hk, h4⟩
    · have : (k == j) = false := by simpa using hkj
      rw [this]; exact h3 j hj
theorem Mx.oth {b : Box} {m : Mix} (h : Mx b m) {k : Nat} (hk : k < 4) : 40 - oth (bh b) k ≤ nn m k ∧ nn m k ≤ 40 - oth (bl b) k := by
  obtain ⟨h0, h1, h2, h3⟩ := Z4h h.at_
  have hs := h.sum
  unfold Z1X at hs
  rcases lt4 hk with rfl | rfl | rfl | rfl <;> simp [Go.Proofs.Ythhdgeibokecjaa.Gt.oth] <;> omega
theorem Z6t {b : Box} (hb : b.length = 8) {k : Nat} (hk : k < 4) {m : Mix} : Mx (Z13 b k (ZD b k)) m ↔ Mx b m := by
  unfold ZD
  rw [Mx.set hb hk]
  exact ⟨fun h => h.1, fun h => ⟨h, h.oth hk⟩⟩
theorem Z98 {b : Box} (hb : b.length = 8) {k : Nat} (hk : k < 4) (h : ZD b k = (1, 0)) {m : Mix} : ¬ Mx b m := fun hm => by
  have h1 := (Z6t hb hk).2 hm
  have h2 := h1.at_ k hk
  obtain ⟨e1, e2⟩ := Z0N hb hk hk (ZD b k)
  simp only [beq_self_eq_true, cond_true] at e1 e2
  rw [e1, e2, h] at h2
  have := h2.1; have := h2.2
  simp only at *; omega
theorem Z2M {b : Box} (hb : Bok b) : ∀ k, k ≤ 4 → match Z2G b k with
    | none => ∀ m, ¬ Mx b m
    | some c => Bok c ∧ (∀ m, Mx c m ↔ Mx b m) ∧ (∀ j < 4, bl b j ≤ bl c j ∧ bh c j ≤ bh b j) ∧ ∀ j < k, bl c j ≤ bh c j
  | 0, _ => ⟨hb, fun _ => Iff.rfl, fun _ _ => ⟨Int.le_refl _, Int.le_refl _⟩, fun j hj => by omega⟩
  | k + 1, hk => by
    have ih := Z2M hb k (by omega)
    unfold Z2G
    cases hr : Z2G b k with
    | none => rw [hr] at ih; exact ih
    | some c =>
      rw [hr] at ih
      obtain ⟨h1, h2, h3, h4⟩ := ih
      simp only
      by_cases hs : ZD c k = (1, 0)
      · have : (ZD c k == (1, 0)) = true := by simp [hs]
        rw [this]
        exact fun m hm => Z98 h1.len (by omega) hs ((h2 m).2 hm)
      · have : (ZD c k == (1, 0)) = false := by simpa using hs
        rw [this]
        simp only [cond_false]
        have h5 : ZD c k = (max (bl c k) (40 - oth (bh c) k), min (bh c k) (40 - oth (bl c) k)) ∧ max (bl c k) (40 - oth (bh c) k) ≤ min (bh c k) (40 - oth (bl c) k) := by
          unfold ZD at hs ⊢
          rcases Z23 (l := bl c k) (h := bh c k) (l2 := 40 - oth (bh c) k) (h2 := 40 - oth (bl c) k) with e | e
          · exact absurd e hs
          · exact e
        refine ⟨h1.set (by omega), fun m => (Z6t h1.len (by omega)).trans (h2 m), fun j hj => ?_, fun j hj => ?_⟩
        · obtain ⟨e1, e2⟩ := Z0N h1.len (k := k) (j := j) (by omega) hj (ZD c k)
          rw [e1, e2]
          have h6 := h3 j hj
          by_cases hkj : k = j
          · subst hkj; simp only [beq_self_eq_true, cond_true]; rw [h5.1]; simp only; omega
          · have : (k == j) = false := by simpa using hkj
            rw [this]; exact h6
        · obtain ⟨e1, e2⟩ := Z0N h1.len (k := k) (j := j) (by omega) (by omega) (ZD c k)
          rw [e1, e2]
          by_cases hkj : k = j
          · subst hkj; simp only [beq_self_eq_true, cond_true]; rw [h5.1]; exact h5.2
          · have : (k == j) = false := by simpa using hkj
            rw [this]; exact h4 j (by omega)
theorem Z6p {b c : Box} (hb : b.length = 8) (hc : c.length = 8) (h : ∀ k < 4, bl b k = bl c k ∧ bh b k = bh c k) : b = c := by
  obtain ⟨a0, a1, a2, a3, a4, a5, a6, a7, rfl⟩ := Z3t hb
  obtain ⟨b0, b1, b2, b3, b4, b5, b6, b7, rfl⟩ := Z3t hc
  obtain ⟨h0, h1, h2, h3⟩ := Z4h h
  simp [bl, bh, nn] at h0 h1 h2 h3
  simp [h0, h1, h2, h3]
theorem Z6V {b c : Box} (hb : Bok b) (h : Z2G b 4 = some c) (hne : c ≠ b) : wid c < wid b := by
  have h1 := Z2M hb 4 (by omega)
  rw [h] at h1
  obtain ⟨h2, _, h3, h4⟩ := h1
  have h5 : ¬ (∀ k < 4, bl c k = bl b k ∧ bh c k = bh b k) := fun h5 => hne (Z6p h2.len hb.len h5)
  obtain ⟨a0, a1, a2, a3⟩ := Z4h h3
  obtain ⟨c0, c1, c2, c3⟩ := Z4h h4
  have h6 : ¬ ((bl c 0 = bl b 0 ∧ bh c 0 = bh b 0) ∧ (bl c 1 = bl b 1 ∧ bh c 1 = bh b 1) ∧ (bl c 2 = bl b 2 ∧ bh c 2 = bh b 2) ∧ (bl c 3 = bl b 3 ∧ bh c 3 = bh b 3)) := fun h6 => h5 (of4 h6)
  unfold wid
  omega
theorem Zag {b : Box} (hb : Bok b) : wid b ≤ 164 := by
  obtain ⟨a0, a1, a2, a3⟩ := Z4h hb.at_
  unfold wid
  omega
theorem Z5v : ∀ {n : Nat} {b : Box}, Bok b → wid b < n → CloseR b (Z5j n b)
  | 0, b, _, h => by omega
  | n + 1, b, hb, h => by
    have h1 := Z2M hb 4 (by omega)
    unfold Z5j
    cases hr : Z2G b 4 with
    | none => exact .no hr
    | some c =>
      rw [hr] at h1
      simp only
      by_cases hc : c = b
      · subst hc; simp only [decide_true, cond_true]; exact .fix hr
      · simp only [hc, decide_false, cond_false]
        exact .go hr hc (Z5v h1.1 (by have := Z6V hb hr hc; omega))
theorem CloseR.uniq {b : Box} {r r' : Option Box} (h : CloseR b r) (h' : CloseR b r') : r = r' := by
  induction h with
  | no h => cases h' with
    | no _ => rfl
    | fix h2 => rw [h] at h2; cases h2
    | go h2 _ _ => rw [h] at h2; cases h2
  | fix h => cases h' with
    | no h2 => rw [h] at h2; cases h2
    | fix _ => rfl
    | go h2 hc _ => rw [h] at h2; cases h2; exact absurd rfl hc
  | go h hc hr ih => cases h' with
    | no h2 => rw [h] at h2; cases h2
    | fix h2 => rw [h] at h2; cases h2; exact absurd rfl hc
    | go h2 _ hr' => rw [h] at h2; cases h2; exact ih hr'
theorem Z8T {b : Box} (hb : Bok b) : CloseR b (clo b) := by unfold clo; exact Z5v hb (by have := Zag hb; omega)
theorem CloseR.clo {b : Box} {r : Option Box} (hb : Bok b) (h : CloseR b r) : clo b = r := (Z8T hb).uniq h
structure Tight (b : Box) : Prop where
  ok : Bok b
  fit : ∀ k < 4, bl b k ≤ bh b k ∧ 40 - oth (bh b) k ≤ bl b k ∧ bh b k ≤ 40 - oth (bl b) k
theorem Z9R {b : Box} (hb : Bok b) (h : Z2G b 4 = some b) : Tight b := by
  have key : ∀ k, k ≤ 4 → ∀ c, Z2G b k = some c → (c = b ∧ ∀ j < k, bl b j ≤ bh b j ∧ 40 - oth (bh b) j ≤ bl b j ∧ bh b j ≤ 40 - oth (bl b) j) ∨ wid c < wid b := by
    intro k
    induction k with
    | zero => intro _ c hc; cases hc; exact .inl ⟨rfl, fun j hj => by omega⟩
    | succ k ih =>
      intro hk d hd
      unfold Z2G at hd
      cases hr : Z2G b k with
      | none => rw [hr] at hd; cases hd
      | some c =>
        rw [hr] at hd
        have h1 := Z2M hb k (by omega)
        rw [hr] at h1
        obtain ⟨hc, _, hle, _⟩ := h1
        simp only at hd
        by_cases hs : ZD c k = (1, 0)
        · have : (ZD c k == (1, 0)) = true := by simp [hs]
          rw [this] at hd; cases hd
        · have : (ZD c k == (1, 0)) = false := by simpa using hs
          rw [this] at hd
          simp only [cond_false, Option.some.injEq] at hd
          have h5 : ZD c k = (max (bl c k) (40 - oth (bh c) k), min (bh c k) (40 - oth (bl c) k)) ∧ max (bl c k) (40 - oth (bh c) k) ≤ min (bh c k) (40 - oth (bl c) k) := by
            unfold ZD at hs ⊢
            rcases Z23 (l := bl c k) (h := bh c k) (l2 := 40 - oth (bh c) k) (h2 := 40 - oth (bl c) k) with e | e
            · exact absurd e hs
            · exact e
          subst hd
          have hat := fun j (hj : j < 4) => Z0N hc.len (k := k) (j := j) (by omega) hj (ZD c k)
          -- no wider than c, and as wide just if the same
          have hmon : wid (Z13 c k (ZD c k)) ≤ wid c ∧ (wid (Z13 c k (ZD c k)) = wid c → 40 - oth (bh c) k ≤ bl c k ∧ bh c k ≤ 40 - oth (bl c) k ∧ bl c k ≤ bh c k) := by
            obtain ⟨x0, x1, x2, x3⟩ := Z4h hat
            obtain ⟨a0, a1, a2, a3⟩ := Z4h hc.at_
            rw [h5.1] at x0 x1 x2 x3
            rcases lt4 (show k < 4 by omega) with rfl | rfl | rfl | rfl <;> simp at x0 x1 x2 x3 <;> rw [h5.1] <;> unfold wid <;> omega
          rcases ih (by omega) c hr with ⟨rfl, h6⟩ | h6
          · rcases Nat.lt_or_ge (wid (Z13 c k (ZD c k))) (wid c) with h7 | h7
            · exact .inr h7
            · have h8 := hmon.2 (by omega)
              refine .inl ⟨Z6p (by rw [Z1h]; exact hc.len) hc.len (fun j hj => ?_), fun j hj => ?_⟩
              · obtain ⟨e1, e2⟩ := hat j hj
                rw [e1, e2]
                by_cases hkj : k = j
                · subst hkj; simp only [beq_self_eq_true, cond_true]; rw [h5.1]; simp only; omega
                · have : (k == j) = false := by simpa using hkj
                  rw [this]; exact ⟨rfl, rfl⟩
              · by_cases hkj : k = j
                · subst hkj; omega
                · exact h6 j (by omega)
          · exact .inr (by omega)
  rcases key 4 (by omega) b h with ⟨_, h1⟩ | h1
  · exact ⟨hb, h1⟩
  · omega
def Zda (b : Box) : Option Box → Prop
  | none => ∀ m, ¬ Mx b m
  | some c => Tight c ∧ ∀ m, Mx c m ↔ Mx b m
theorem Z4U {b : Box} {r : Option Box} (h : CloseR b r) : Bok b → Zda b r := by
  induction h with
  | no h => intro hb; have := Z2M hb 4 (by omega); rw [h] at this; exact this
  | fix h => intro hb; exact ⟨Z9R hb h, fun _ => Iff.rfl⟩
  | go h hc hr ih =>
    rename_i b c r
    intro hb
    have h1 := Z2M hb 4 (by omega)
    rw [h] at h1
    obtain ⟨h2, h3, _⟩ := h1
    have h4 := ih h2
    cases r with
    | none => exact fun m hm => h4 m ((h3 m).2 hm)
    | some d => exact ⟨h4.1, fun m => (h4.2 m).trans (h3 m)⟩
theorem Z7S {b : Box} (hb : Bok b) (h : clo b = none) : ∀ m, ¬ Mx b m := by
  have := Z4U (Z8T hb) hb
  rw [h] at this; exact this
theorem Z5l {b c : Box} (hb : Bok b) (h : clo b = some c) : Tight c ∧ ∀ m, Mx c m ↔ Mx b m := by
  have := Z4U (Z8T hb) hb
  rw [h] at this; exact this
def Zd6 (b : Box) (m : Mix) (k : Nat) : Mix := m.set k (nn m k + min (bh b k - bl b k) (40 - Z1X m))
def ZcU (b : Box) : Nat → Mix
  | 0 => [bl b 0, bl b 1, bl b 2, bl b 3]
  | k + 1 => Zd6 b (ZcU b k) k
def Zd0 (b : Box) : Mix := ZcU b 4
structure Grd where
  corn : Int
  chaff : Int
  stones : Int
  damp : Int
  price : Int
  deriving DecidableEq, Repr
structure Hnd where
  spot : Int
  a : Int
  b : Int
  c : Int
  d : Int
  deriving DecidableEq, Repr
structure Crt where
  full : Int
  empty : Int
  hs : List Hnd
  deriving DecidableEq, Repr
structure Gat where
  err : Int
  miss : Int
  grs : List Grd
  deriving DecidableEq, Repr
@[reducible] def inb (n lo hi : Int) : Bool := decide (lo ≤ n) && decide (n ≤ hi)
def Grd.ns (x : Grd) : List Int := [x.corn, x.chaff, x.stones, x.damp]
def Hnd.gs (h : Hnd) : List Int := [h.a, h.b, h.c, h.d]
def Hnd.tot (h : Hnd) : Int := Z1X h.gs
def Z0q (l : List Grd) (i : Nat) : Bool := match l[i]?, l[i + 1]? with
  | some a, some b => decide (a.price < b.price)
  | _, _ => false
def Grd.fine (x : Grd) : Bool := inb x.price 0 100 && x.ns.all fun n => inb n 0 40
def Gat.check (g : Gat) : Int := bif decide (4 < g.grs.length) then 2 else bif !(inb g.err 0 50) || !(inb g.miss 0 20) then 3 else bif !(g.grs.all Grd.fine) then 3 else bif (List.range g.grs.length).any (Z0q g.grs) then 4 else 0
def Hnd.fine (h : Hnd) : Bool := inb h.spot 0 2 && h.gs.all fun n => inb n 0 200
def Crt.check (c : Crt) : Int := bif decide (6 < c.hs.length) then 2 else bif !(inb c.full 0 10000) || !(inb c.empty 0 10000) then 3 else bif !(c.hs.all Hnd.fine) then 3 else bif !(c.hs.all fun h => inb h.tot 10 200) then 8 else 0
def Z0z (g : Gat) (c : Crt) : Int := bif decide (g.check ≠ 0) then g.check else c.check
structure Hnd.ok (h : Hnd) : Prop where
  spot : 0 ≤ h.spot ∧ h.spot ≤ 2
  at_ : ∀ k < 4, 0 ≤ nn h.gs k ∧ nn h.gs k ≤ 200
  tot : 10 ≤ h.tot ∧ h.tot ≤ 200
structure Gat.ok (g : Gat) : Prop where
  many : g.grs.length ≤ 4
  err : 0 ≤ g.err ∧ g.err ≤ 50
  miss : 0 ≤ g.miss ∧ g.miss ≤ 20
  grs : ∀ x ∈ g.grs, (0 ≤ x.price ∧ x.price ≤ 100) ∧ ∀ k < 4, 0 ≤ nn x.ns k ∧ nn x.ns k ≤ 40
  ord : ∀ i, Z0q g.grs i = false
structure Crt.ok (c : Crt) : Prop where
  many : c.hs.length ≤ 6
  full : 0 ≤ c.full ∧ c.full ≤ 10000
  empty : 0 ≤ c.empty ∧ c.empty ≤ 10000
  hs : ∀ h ∈ c.hs, h.ok
theorem gat_ok {g : Gat} : g.check = 0 ↔ g.ok := by
  constructor
  · intro h
    unfold Gat.check at h
    cases h1 : decide (4 < g.grs.length) <;> rw [h1] at h
    case true => cases h
    cases h2 : !(inb g.err 0 50) || !(inb g.miss 0 20) <;> rw [h2] at h
    case true => cases h
    cases h3 : g.grs.all Grd.fine <;> rw [h3] at h
    case false => cases h
    cases h4 : (List.range g.grs.length).any (Z0q g.grs) <;> rw [h4] at h
    case true => cases h
    simp only [decide_eq_false_iff_not] at h1
    simp only [inb, Bool.or_eq_false_iff, Bool.not_eq_false', Bool.and_eq_true, decide_eq_true_eq] at h2
    refine ⟨by omega, h2.1, h2.2, fun x hx => ?_, fun i => ?_⟩
    · have := List.all_eq_true.1 h3 x hx
      simp only [Grd.fine, Grd.ns, inb, List.all_cons, List.all_nil, Bool.and_true, Bool.and_eq_true, decide_eq_true_eq] at this
      exact ⟨this.1, of4 ⟨this.2.1, this.2.2.1, this.2.2.2.1, this.2.2.2.2⟩⟩
    · rcases Nat.lt_or_ge i g.grs.length with hi | hi
      · have := List.any_eq_false.1 h4 i (List.mem_range.2 hi)
        simpa using this
      · simp [Z0q, List.getElem?_eq_none hi]
  · intro h
    unfold Gat.check
    have e1 := h.many
    have e2 : (!(inb g.err 0 50) || !(inb g.miss 0 20)) = false := by
      have := h.err; have := h.miss
      simp only [inb, Bool.or_eq_false_iff, Bool.not_eq_false', Bool.and_eq_true, decide_eq_true_eq]; omega
    have e3 : g.grs.all Grd.fine = true := List.all_eq_true.2 fun x hx => by
      obtain ⟨a, b⟩ := h.grs x hx
      obtain ⟨b0, b1, b2, b3⟩ := Z4h b
      simp only [nn, Grd.ns, List.getD_cons_zero, List.getD_cons_succ] at b0 b1 b2 b3
      simp only [Grd.fine, Grd.ns, inb, List.all_cons, List.all_nil, Bool.and_true, Bool.and_eq_true, decide_eq_true_eq]
      exact ⟨a, b0, b1, b2, b3⟩
    have e4 : (List.range g.grs.length).any (Z0q g.grs) = false := List.any_eq_false.2 fun i _ => by rw [h.ord i]; simp
    rw [decide_eq_false (by omega), e2, e3, e4]; rfl
theorem hnd_ok {h : Hnd} : (h.fine = true ∧ inb h.tot 10 200 = true) ↔ h.ok := by
  simp only [Hnd.fine, inb, Bool.and_eq_true, decide_eq_true_eq, Hnd.gs, List.all_cons, List.all_nil, Bool.and_true]
  constructor
  · rintro ⟨⟨a, b0, b1, b2, b3⟩, c⟩
    exact ⟨a, of4 ⟨b0, b1, b2, b3⟩, c⟩
  · rintro ⟨a, b, c⟩
    obtain ⟨b0, b1, b2, b3⟩ := Z4h b
    exact ⟨⟨a, b0, b1, b2, b3⟩, c⟩
theorem crt_ok {c : Crt} : c.check = 0 ↔ c.ok := by
  constructor
  · intro h
    unfold Crt.check at h
    cases h1 : decide (6 < c.hs.length) <;> rw [h1] at h
    case true => cases h
    cases h2 : !(inb c.full 0 10000) || !(inb c.empty 0 10000) <;> rw [h2] at h
    case true => cases h
    cases h3 : c.hs.all Hnd.fine <;> rw [h3] at h
    case false => cases h
    cases h4 : c.hs.all fun h => inb h.tot 10 200 <;> rw [h4] at h
    case false => cases h
    simp only [decide_eq_false_iff_not] at h1
    simp only [inb, Bool.or_eq_false_iff, Bool.not_eq_false', Bool.and_eq_true, decide_eq_true_eq] at h2
    exact ⟨by omega, h2.1, h2.2, fun x hx => hnd_ok.1 ⟨List.all_eq_true.1 h3 x hx, List.all_eq_true.1 h4 x hx⟩⟩
  · intro h
    unfold Crt.check
    have e1 := h.many
    have e2 : (!(inb c.full 0 10000) || !(inb c.empty 0 10000)) = false := by
      have := h.full; have := h.empty
      simp only [inb, Bool.or_eq_false_iff, Bool.not_eq_false', Bool.and_eq_true, decide_eq_true_eq]; omega
    have e3 : c.hs.all Hnd.fine = true := List.all_eq_true.2 fun x hx => (hnd_ok.2 (h.hs x hx)).1
    have e4 : (c.hs.all fun h => inb h.tot 10 200) = true := List.all_eq_true.2 fun x hx => (hnd_ok.2 (h.hs x hx)).2
    rw [decide_eq_false (by omega), e2, e3, e4]; rfl
def Z7O (miss : Int) (h : Hnd) (k : Nat) : Int × Int := (max 0 ((40 * (nn h.gs k - miss) + h.tot - 1).tdiv h.tot), min 40 ((40 * (nn h.gs k + miss)).tdiv h.tot))
def Za1 (miss : Int) (h : Hnd) (k : Nat) (x : Int) : Bool := decide (x * h.tot - 40 * nn h.gs k ≤ 40 * miss) && decide (-(x * h.tot - 40 * nn h.gs k) ≤ 40 * miss)
theorem Z5W {miss : Int} {h : Hnd} (hm : 0 ≤ miss) (hh : h.ok) {k : Nat} (hk : k < 4) {x : Int} (hx : 0 ≤ x ∧ x ≤ 40) : ((Z7O miss h k).1 ≤ x ∧ x ≤ (Z7O miss h k).2) ↔ Za1 miss h k x = true := by
  have ht := hh.tot
  have hg := hh.at_ k hk
  generalize hn : h.tot = n at *
  generalize hgr : nn h.gs k = y at *
  simp only [Z7O, Za1, hn, hgr, Bool.and_eq_true, decide_eq_true_eq]
  have e2 : (40 * (y + miss)).tdiv n = (40 * (y + miss)) / n := Int.tdiv_eq_ediv_of_nonneg (by omega)
  have h2 : x ≤ (40 * (y + miss)) / n ↔ x * n ≤ 40 * (y + miss) := Int.le_ediv_iff_mul_le (by omega)
  have h1 : (40 * (y - miss) + n - 1).tdiv n ≤ x ↔ 40 * (y - miss) ≤ x * n := by
    by_cases h0 : 0 ≤ 40 * (y - miss) + n - 1
    · rw [Int.tdiv_eq_ediv_of_nonneg h0]
      have h3 : (40 * (y - miss) + n - 1) / n < x + 1 ↔ 40 * (y - miss) + n - 1 < (x + 1) * n := Int.ediv_lt_iff_lt_mul (by omega)
      rw [Int.add_mul, Int.one_mul] at h3
      omega
    · have h3 : (40 * (y - miss) + n - 1).tdiv n ≤ 0 := by
        have h4 : (40 * (y - miss) + n - 1).tdiv n = -((-(40 * (y - miss) + n - 1)).tdiv n) := by rw [Int.neg_tdiv]; omega
        have h5 : 0 ≤ (-(40 * (y - miss) + n - 1)).tdiv n := Int.tdiv_nonneg (by omega) (by omega)
        omega
      have h6 : 0 ≤ x * n := Int.mul_nonneg hx.1 (by omega)
      omega
  rw [e2]
  omega
def Z7t (miss : Int) (h : Hnd) (m : Mix) : Bool := (List.range 4).all fun k => Za1 miss h k (nn m k)
def ZV (miss : Int) (hs : List Hnd) (f : Nat → Bool) (k : Nat) : Nat → Int × Int
  | 0 => (0, 40)
  | n + 1 => match hs[n]? with
    | some h => bif f n then met (ZV miss hs f k n).1 (ZV miss hs f k n).2 (Z7O miss h k).1 (Z7O miss h k).2 else ZV miss hs f k n
    | none => ZV miss hs f k n
def Z1V (miss : Int) (hs : List Hnd) (f : Nat → Bool) (k : Nat) : Int × Int := ZV miss hs f k hs.length
def Z3M (miss : Int) (hs : List Hnd) (f : Nat → Bool) : Box := [(Z1V miss hs f 0).1, (Z1V miss hs f 0).2, (Z1V miss hs f 1).1, (Z1V miss hs f 1).2, (Z1V miss hs f 2).1, (Z1V miss hs f 2).2, (Z1V miss hs f 3).1, (Z1V miss hs f 3).2]
theorem Z7k (miss : Int) (hs : List Hnd) (f : Nat → Bool) {k : Nat} (hk : k < 4) : bl (Z3M miss hs f) k = (Z1V miss hs f k).1 ∧ bh (Z3M miss hs f) k = (Z1V miss hs f k).2 := by
  rcases lt4 hk with rfl | rfl | rfl | rfl <;> exact ⟨rfl, rfl⟩
theorem Z52 {miss : Int} (hs : List Hnd) (f : Nat → Bool) (k : Nat) : ∀ n, ((ZV miss hs f k n).1 = 1 ∧ (ZV miss hs f k n).2 = 0) ∨ (0 ≤ (ZV miss hs f k n).1 ∧ (ZV miss hs f k n).1 ≤ (ZV miss hs f k n).2 ∧ (ZV miss hs f k n).2 ≤ 40)
  | 0 => .inr (by simp [ZV])
  | n + 1 => by
    have ih := Z52 (miss := miss) hs f k n
    unfold ZV
    cases hs[n]? with
    | none => exact ih
    | some h => cases f n with
      | false => exact ih
      | true => exact Z8s ih
theorem Z3K (miss : Int) (hs : List Hnd) (f : Nat → Bool) : Bok (Z3M miss hs f) := ⟨rfl, fun k hk => by
  obtain ⟨e1, e2⟩ := Z7k miss hs f hk
  rw [e1, e2]; exact Z52 hs f k _⟩
theorem Z3W {miss : Int} (hm : 0 ≤ miss) {hs : List Hnd} (hh : ∀ h ∈ hs, h.ok) (f : Nat → Bool) {k : Nat} (hk : k < 4) (x : Int) : ∀ n, ((ZV miss hs f k n).1 ≤ x ∧ x ≤ (ZV miss hs f k n).2) ↔ ((0 ≤ x ∧ x ≤ 40) ∧ ∀ i h, i < n → hs[i]? = some h → f i = true → Za1 miss h k x = true)
  | 0 => by simp [ZV]
  | n + 1 => by
    have ih := Z3W hm hh f hk x n
    unfold ZV
    cases hn : hs[n]? with
    | none =>
      simp only
      rw [ih]
      exact ⟨fun ⟨a, b⟩ => ⟨a, fun i h hi hg hf => by
        rcases Nat.lt_or_ge i n with h1 | h1
        · exact b i h h1 hg hf
        · obtain rfl : i = n := by omega
          rw [hn] at hg; cases hg⟩, fun ⟨a, b⟩ => ⟨a, fun i h hi => b i h (by omega)⟩⟩
    | some y =>
      simp only
      cases hf : f n with
      | false =>
        simp only [cond_false]
        rw [ih]
        exact ⟨fun ⟨a, b⟩ => ⟨a, fun i h hi hg hff => by
          rcases Nat.lt_or_ge i n with h1 | h1
          · exact b i h h1 hg hff
          · obtain rfl : i = n := by omega
            rw [hf] at hff; cases hff⟩, fun ⟨a, b⟩ => ⟨a, fun i h hi => b i h (by omega)⟩⟩
      | true =>
        simp only [cond_true]
        rw [met_iff, ih]
        constructor
        · rintro ⟨⟨a, b⟩, c⟩
          refine ⟨a, fun i h hi hg hff => ?_⟩
          rcases Nat.lt_or_ge i n with h1 | h1
          · exact b i h h1 hg hff
          · obtain rfl : i = n := by omega
            rw [hn] at hg; cases hg
            exact (Z5W hm (hh y (List.mem_of_getElem? hn)) hk a).1 c
        · rintro ⟨a, b⟩
          exact ⟨⟨a, fun i h hi => b i h (by omega)⟩, (Z5W hm (hh y (List.mem_of_getElem? hn)) hk a).2 (b n y (by omega) hn hf)⟩
structure Mxt (m : Mix) : Prop where
  len : m.length = 4
  sum : Z1X m = 40
  at_ : ∀ k < 4, 0 ≤ nn m k ∧ nn m k ≤ 40
theorem Z9f {miss : Int} (hm : 0 ≤ miss) {hs : List Hnd} (hh : ∀ h ∈ hs, h.ok) (f : Nat → Bool) (m : Mix) : Mx (Z3M miss hs f) m ↔ (Mxt m ∧ ∀ i h, hs[i]? = some h → f i = true → Z7t miss h m = true) := by
  have key : ∀ k < 4, (bl (Z3M miss hs f) k ≤ nn m k ∧ nn m k ≤ bh (Z3M miss hs f) k) ↔ ((0 ≤ nn m k ∧ nn m k ≤ 40) ∧ ∀ i h, hs[i]? = some h → f i = true → Za1 miss h k (nn m k) = true) := fun k hk => by
    obtain ⟨e1, e2⟩ := Z7k miss hs f hk
    rw [e1, e2]
    unfold Z1V
    rw [Z3W hm hh f hk]
    exact ⟨fun ⟨a, b⟩ => ⟨a, fun i h hg hf => b i h (List.getElem?_eq_some_iff.1 hg).1 hg hf⟩, fun ⟨a, b⟩ => ⟨a, fun i h _ => b i h⟩⟩
  constructor
  · rintro ⟨h1, h2, h3⟩
    refine ⟨⟨h1, h2, fun k hk => ((key k hk).1 (h3 k hk)).1⟩, fun i h hg hf => ?_⟩
    unfold Z7t
    rw [List.all_eq_true]
    intro k hk
    exact ((key k (List.mem_range.1 hk)).1 (h3 k (List.mem_range.1 hk))).2 i h hg hf
  · rintro ⟨⟨h1, h2, h3⟩, h4⟩
    refine ⟨h1, h2, fun k hk => (key k hk).2 ⟨h3 k hk, fun i h hg hf => ?_⟩⟩
    have := h4 i h hg hf
    unfold Z7t at this
    exact List.all_eq_true.1 this k (List.mem_range.2 hk)
def Grd.lo (x : Grd) (k : Nat) : Int := bif k == 0 then x.corn else 0
def Grd.hi (x : Grd) (k : Nat) : Int := bif k == 0 then 40 else nn x.ns k
def Z7V (b : Box) (x : Grd) : Nat → Box
  | 0 => b
  | k + 1 => Z13 (Z7V b x k) k (met (bl (Z7V b x k) k) (bh (Z7V b x k) k) (x.lo k) (x.hi k))
def Zbu (b : Box) (x : Grd) : Box := Z7V b x 4
def ZaH (x : Grd) (k : Nat) : Int × Int := bif k == 0 then (0, x.corn - 1) else (nn x.ns k + 1, 40)
def Z7R (b : Box) (x : Grd) (k : Nat) : Box := Z13 b k (met (bl b k) (bh b k) (ZaH x k).1 (ZaH x k).2)
def Z9V : List Grd → Box → Option Box
  | [], b => clo b
  | x :: l, b => match clo b with
    | none => none
    | some c => (((Z9V l (Z7R c x 0)).or (Z9V l (Z7R c x 1))).or (Z9V l (Z7R c x 2))).or (Z9V l (Z7R c x 3))
theorem Mx.bd {b : Box} (hb : Bok b) {m : Mix} (h : Mx b m) : Mxt m := ⟨h.len, h.sum, fun k hk => by
  have h1 := h.at_ k hk
  have h2 := hb.at_ k hk
  omega⟩
def Zci (l : List Grd) (b : Box) (gr : Int) : Option Box := bif decide (gr = -1) then Z9V l b else match l[gr.toNat]? with
  | some x => Z9V (l.take gr.toNat) (Zbu b x)
  | none => none
open Go
theorem Z7i : Z2x Try.prog 118 = some 5 := by kernel_rfl
theorem Z3T : Z2x Try.prog 121 = some 5 := by kernel_rfl
theorem Z4z : Z2x Try.prog 65 = some 4 := by kernel_rfl
theorem Z16 : arN Try.prog 65 = some (4, 1) := by kernel_rfl
theorem Zar : cal Try.prog 100 = true := by kernel_rfl
theorem Zb3 : cal Try.prog 101 = true := by kernel_rfl
theorem Z8y : cal Try.prog 102 = true := by kernel_rfl
theorem Zb1 : cal Try.prog 103 = true := by kernel_rfl
theorem ZaT : cal Try.prog 104 = true := by kernel_rfl
theorem ZaD : cal Try.prog 105 = true := by kernel_rfl
theorem Zam : cal Try.prog 106 = true := by kernel_rfl
theorem Zav : cal Try.prog 107 = true := by kernel_rfl
theorem Zaw : cal Try.prog 108 = true := by kernel_rfl
theorem Zan : cal Try.prog 109 = true := by kernel_rfl
theorem Z2k : cal Try.prog 58 = true := by kernel_rfl
theorem Z8P : cal Try.prog 64 = true := by kernel_rfl
theorem Z9K : cal Try.prog 82 = true := by kernel_rfl
theorem ZbI : cal Try.prog 91 = true := by kernel_rfl
theorem ZbB : cal Try.prog 92 = true := by kernel_rfl
theorem Za7 : cal Try.prog 93 = true := by kernel_rfl
theorem Zcp : cal Try.prog 94 = true := by kernel_rfl
theorem Zc1 : cal Try.prog 95 = true := by kernel_rfl
theorem Zbq : cal Try.prog 96 = true := by kernel_rfl
theorem Zcl : cal Try.prog 97 = true := by kernel_rfl
theorem ZaQ : cal Try.prog 98 = true := by kernel_rfl
theorem Zc2 : cal Try.prog 99 = true := by kernel_rfl
theorem Zcq : elN Try.prog 59 = some 5 := by kernel_rfl
theorem ZcK : elN Try.prog 62 = some 5 := by kernel_rfl
theorem Z4i : elN Try.prog 73 = some 1 := by kernel_rfl
theorem Z9P : Z00 Try.prog 118 0 = some 0 := by kernel_rfl
theorem Z9u : Z00 Try.prog 118 1 = some 1 := by kernel_rfl
theorem Z8J : Z00 Try.prog 118 2 = some 2 := by kernel_rfl
theorem Z9N : Z00 Try.prog 118 3 = some 3 := by kernel_rfl
theorem Z4o : Z00 Try.prog 118 4 = some 4 := by kernel_rfl
theorem Z9J : Z00 Try.prog 121 0 = some 0 := by kernel_rfl
theorem Z06 : Z00 Try.prog 121 1 = some 1 := by kernel_rfl
theorem Z75 : Z00 Try.prog 61 0 = some 0 := by kernel_rfl
theorem Z3Y : Z00 Try.prog 61 1 = some 1 := by kernel_rfl
theorem Z49 : Z00 Try.prog 61 2 = some 2 := by kernel_rfl
theorem Z4W : Z00 Try.prog 64 0 = some 0 := by kernel_rfl
theorem Z56 : Z00 Try.prog 64 1 = some 1 := by kernel_rfl
theorem Z30 : Z00 Try.prog 64 2 = some 2 := by kernel_rfl
theorem Z8Q : Z61 Try.prog 59 = true := by kernel_rfl
theorem Z9r : Z61 Try.prog 62 = true := by kernel_rfl
theorem Z1b : Z61 Try.prog 73 = true := by kernel_rfl
theorem ZbX : Z0Z Try.prog 159 = true := by kernel_rfl
theorem Zbk : Z0Z Try.prog 163 = true := by kernel_rfl
theorem sc3 : Z0Z Try.prog 3 = true := by kernel_rfl
theorem Zbb : Z0Z Try.prog 52 = true := by kernel_rfl
theorem Z7P : Z0Z Try.prog 59 = true := by kernel_rfl
theorem Z96 : Z0Z Try.prog 62 = true := by kernel_rfl
theorem Z2W : slE Try.prog 73 = some (3, 1) := by kernel_rfl
theorem zl3 : Zy Try.prog 3 = some ([.int .i64 0]) := by kernel_rfl
def Z3J (x : Grd) : List Value := [.int .i64 x.corn, .int .i64 x.chaff, .int .i64 x.stones, .int .i64 x.damp, .int .i64 x.price]
def grows (l : List Grd) : List (List Value) := l.map Z3J
def Z0K (h : Hnd) : List Value := [.int .i64 h.spot, .int .i64 h.a, .int .i64 h.b, .int .i64 h.c, .int .i64 h.d]
def hrows (l : List Hnd) : List (List Value) := l.map Z0K
def gtl (g : Gat) (sl : Value) : List Value := [.int .i64 g.err, .int .i64 g.miss, sl]
def Gat.v (g : Gat) (sl : Value) : Value := .agg (gtl g sl).toArray
def Gat.sl (g : Gat) (a : Option Addr) (c : Nat) : Value := .slice a g.grs.length c
def ctl (c : Crt) (sl : Value) : List Value := [.int .i64 c.full, .int .i64 c.empty, sl]
def Crt.v (c : Crt) (sl : Value) : Value := .agg (ctl c sl).toArray
def Crt.sl (c : Crt) (a : Option Addr) (cc : Nat) : Value := .slice a c.hs.length cc
def Z7B (g : Gat) (c : Crt) (sg sh : Value) : List Value := [.int .i64 c.full, .int .i64 c.empty, sh, .int .i64 g.err, .int .i64 g.miss, sg]
def Grd.v (x : Grd) : Value := .agg (Z3J x).toArray
def Hnd.v (h : Hnd) : Value := .agg (Z0K h).toArray
def spv (l h : Int) : Value := .agg #[.int .i64 l, .int .i64 h]
def bxv (b : Box) : Value := .agg (Zc b).toArray
abbrev Zv (l : List Int) : List (List Value) := l.map fun z => [.int .i64 z]
theorem Z8o {l : List Grd} {k : Nat} {x : Grd} (h : l[k]? = some x) : (grows l)[k]? = some (Z3J x) := by simp [grows, h]
theorem ZaP {l : List Hnd} {k : Nat} {x : Hnd} (h : l[k]? = some x) : (hrows l)[k]? = some (Z0K x) := by simp [hrows, h]
theorem ints_length (l : List Int) : (Zc l).length = l.length := by simp [Zc]
theorem ints_get {l : List Int} {k : Nat} {v : Int} (h : l[k]? = some v) : (Zc l)[k]? = some (.int .i64 v) := by simp [Zc, h]
theorem St.rows1 {b e : Nat} {h : Hnd} {H : Z7} {R : Z4} {w : World} (hs : St ((b, cel e (Z0K h)) :: H) R w) : St H (RowsA (some ⟨b, 1, none⟩) 1 (Zv h.gs) :: R) w := by
  have h1 := (St.freeze hs).also (f := RowsA (some ⟨b, 1, none⟩) 1 (Zv h.gs)) (fun w' hw => by
    have hb := hw (fun w => w.heap[b]? = some (cel e (Z0K h))) (by simp)
    have one : ∀ (i : Nat) (z : Int), (Z0K h)[1 + i]? = some (.int .i64 z) → ∀ j x, [Value.int .i64 z][j]? = some x → w'.cell? ⟨b, 1 + i * 1 + j, none⟩ = some x := fun i z hz j x hx => by
      match j, hx with
      | 0, hx => rw [Z17 hb, Nat.mul_one, Nat.add_zero]; simp only [List.getElem?_cons_zero] at hx; rw [← hx]; simpa using hz
    intro i row hi
    match i, hi with
    | 0, hi => cases hi; exact ⟨rfl, b, 1, rfl, one 0 h.a rfl⟩
    | 1, hi => cases hi; exact ⟨rfl, b, 1, rfl, one 1 h.b rfl⟩
    | 2, hi => cases hi; exact ⟨rfl, b, 1, rfl, one 2 h.c rfl⟩
    | 3, hi => cases hi; exact ⟨rfl, b, 1, rfl, one 3 h.d rfl⟩
    | i + 4, hi => cases hi)
  exact h1.facts (fun g hg => by rcases List.mem_cons.1 hg with h2 | h2 <;> simp [h2])
theorem ZZ {α : Type} {xs : List α} {p : α → Bool} {k : Nat} {x : α} (hx : xs[k]? = some x) (hn : ∀ y ∈ xs.take k, p y = false) (h : p x = true) : xs.findIdx? p = some k := by
  induction xs generalizing k with
  | nil => simp at hx
  | cons y ys ih =>
    cases k with
    | zero => simp only [List.getElem?_cons_zero, Option.some.injEq] at hx; subst hx; simp [List.findIdx?_cons, h]
    | succ k =>
      have hy := hn y (by simp)
      have := ih (by simpa using hx) (fun z hz => hn z (by simp [hz]))
      simp [List.findIdx?_cons, hy, this]
theorem ZL {α : Type} {xs : List α} {p : α → Bool} (hn : ∀ y ∈ xs, p y = false) : xs.findIdx? p = none := by
  rw [List.findIdx?_eq_none_iff]; exact hn
theorem Z0r {α : Type} {xs : List α} {p : α → Bool} {k : Nat} {x : α} (hx : xs[k]? = some x) (hn : ∀ y ∈ xs.take k, p y = false) (h : p x = false) : ∀ y ∈ xs.take (k + 1), p y = false := by
  intro y hy
  rw [List.take_add_one, hx] at hy
  rcases List.mem_append.1 hy with h1 | h1
  · exact hn y h1
  · simp only [Option.toList_some, List.mem_singleton] at h1; subst h1; exact h
theorem Z1C {α : Type} (xs : List α) (p : α → Bool) : Value.bool (decide (0 ≤ (match xs.findIdx? p with | some k => (k : Int) | none => -1))) = .bool (xs.any p) := by
  congr 1
  cases h : xs.findIdx? p with
  | none =>
    have := List.findIdx?_eq_none_iff.1 h
    have h2 : xs.any p = false := by simpa using this
    rw [h2]; rfl
  | some k =>
    have h2 : xs.any p = true := by
      rw [← Bool.not_eq_false]; intro h3
      have : xs.findIdx? p = none := List.findIdx?_eq_none_iff.2 (by simpa using h3)
      rw [this] at h; cases h
    rw [h2]; simp
theorem Z04 {α : Type} (xs : List α) (p : α → Bool) : Value.bool (!xs.any fun x => !p x) = .bool (xs.all p) := by
  congr 1
  induction xs with
  | nil => rfl
  | cons x xs ih => simp [← ih]
theorem Z5F {l : List Grd} {k : Nat} {x y : Grd} (hx : l[k]? = some x) (hy : l[k + 1]? = some y) (h : x.price < y.price) : (List.range l.length).any (Z0q l) = true := by
  rw [List.any_eq_true]
  refine ⟨k, List.mem_range.2 (List.getElem?_eq_some_iff.1 hx).1, ?_⟩
  unfold Z0q
  rw [hx, hy]; simpa using h
theorem Z7E {l : List Grd} (h : ∀ i, i + 1 < l.length → Z0q l i = false) : (List.range l.length).any (Z0q l) = false := by
  rw [List.any_eq_false]
  intro i _
  rw [Bool.not_eq_true]
  rcases Nat.lt_or_ge (i + 1) l.length with h1 | h1
  · exact h i h1
  · unfold Z0q
    rw [List.getElem?_eq_none (l := l) (i := i + 1) (by omega)]
    split <;> simp_all
theorem Z1B (n lo hi : Int) (H : Z7) (R : Z4) :
    FnV Try.prog 58 [.int .i64 n, .int .i64 lo, .int .i64 hi] H R (.bool (inb n lo hi)) := by
 refine Zb Try.func58 rfl Try.ntmps58 rfl ?_
 refine sqt 1 rfl (pur 1 rfl (sqt 9 rfl (pur 4 rfl ?_)))
 refine ZR 10 rfl ?_ ?_ <;> intro g10
 refine pur 5 rfl (Z1 ?_)
 exact rtA rfl rfl rfl ⟨by simp_all only [Zu, inb, ge_iff_le, Bool.true_and, Bool.false_and, cond_true, cond_false], rfl, rfl⟩ drp
 refine pur 5 rfl (Z1 ?_)
 exact rtA rfl rfl rfl ⟨by simp_all only [Zu, inb, ge_iff_le, Bool.true_and, Bool.false_and, cond_true, cond_false], rfl, rfl⟩ drp
theorem Z2u (xs : List Int) (a : Option Addr) (c g : Nat) (fst cap : List Value) (p : Int → Bool) (hg : cal Try.prog g = true) (hl : xs.length ≤ 9223372036854775807) (H : Z7) (R : Z4) [hR : MemRows a 1 (Zv xs) R] (hp : ∀ x, x ∈ xs → FnV Try.prog g (fst ++ [.int .i64 x] ++ cap) H R (.bool (p x))) :
    FnV Try.prog 82 [.slice a xs.length c, .func (.func g) fst.toArray cap.toArray] H R (.int .i64 (match xs.findIdx? p with | some k => (k : Int) | none => -1)) := by
 refine Zb Try.func82 rfl Try.ntmps82 rfl ?_
 refine sqt 1 rfl (pur 1 rfl (Z0 (sqt 3 rfl (pur 1 rfl (sp rfl (PE.lenSl Z1b rfl) rfl (pur 1 rfl (Z3 ?_)))))))
 refine Zj (ι := {k : Nat // k ≤ xs.length ∧ ∀ x ∈ xs.take k, p x = false}) (fun k => ⟨[(0, .slice a xs.length c), (1, .func (.func g) fst.toArray cap.toArray), (7, .int .i64 xs.length), (8, .int .i64 k.1)], H, R⟩) (fun k => xs.length - k.1) ⟨0, by simp⟩ ?_ (fun k => ?_)
 exact Zr idH
 obtain ⟨k, hk, hn⟩ := k
 dsimp only
 refine sqt 1 rfl (pur 1 rfl (Z0 ?_))
 refine Z2 rfl ?_ ?_ <;> intro hc0
 simp only [cS] at hc0
 obtain ⟨x, hx⟩ : ∃ x, xs[k]? = some x := ⟨_, List.getElem?_eq_getElem (by omega)⟩
 have hxm := List.mem_of_getElem? hx
 refine ZE (a := a) (sz := 1) (rows := Zv xs) (by cases xs <;> simp_all [Zv]) (fun b off he => ?_)
 subst he
 refine Z5 (Z0 (Z3 (sqt 2 rfl (pur 2 rfl (sqt 6 rfl (pur 3 rfl (sp rfl (PE.indexAddr Z4i rfl rfl (by omega) (by omega)) rfl (spL rfl rfl (lf0 sc3 (by simp [Zv, hx]; rfl) rfl) rfl ?_))))))))
 refine Z5C rfl rfl (hg) rfl rfl (hp x hxm) ?_
 refine Z2 rfl ?_ ?_ <;> intro hc1
 refine sqt 2 rfl (pur 2 rfl (Z1 ?_))
 first | (exact rtA rfl rfl rfl ⟨by rw [ZZ hx hn hc1]; rfl, rfl, rfl⟩ idH) | (exact rtA rfl rfl rfl ⟨by rw [ZL (by simpa using hn)]; rfl, rfl, rfl⟩ idH)
 refine Z5 (sqr 2 rfl (sp rfl (PE.add rfl rfl (by omega)) rfl (pur 1 rfl ?_)))
 exact ZC ⟨k + 1, by omega, Z0r hx hn hc1⟩ idH
 simp only [cS] at hc0
 obtain rfl : k = xs.length := by omega
 refine Zg (Zh (Zh (ZJ (sqt 1 rfl (pur 1 rfl (Z1 ?_))))))
 first | (exact rtA rfl rfl rfl ⟨by rw [ZZ hx hn hc1]; rfl, rfl, rfl⟩ idH) | (exact rtA rfl rfl rfl ⟨by rw [ZL (by simpa using hn)]; rfl, rfl, rfl⟩ idH)
theorem Z2s (xs : List Int) (a : Option Addr) (c g : Nat) (fst cap : List Value) (p : Int → Bool) (hg : cal Try.prog g = true) (hl : xs.length ≤ 9223372036854775807) (H : Z7) (R : Z4) [hR : MemRows a 1 (Zv xs) R] (hp : ∀ x, x ∈ xs → FnV Try.prog g (fst ++ [.int .i64 x] ++ cap) H R (.bool (p x))) :
    FnV Try.prog 64 [.slice a xs.length c, .func (.func g) fst.toArray cap.toArray] H R (.bool (xs.any p)) := by
 refine Zb Try.func64 rfl Try.ntmps64 rfl ?_
 refine sqt 1 rfl (pur 1 rfl (sqt 5 rfl (pur 2 rfl ?_)))
 refine clV rfl Z9K rfl rfl (Z2u xs a c g fst cap p hg hl _ _ hp) ?_
 refine pur 2 rfl (Z1 ?_)
 exact rtA rfl rfl rfl ⟨by simp only [Zu]; exact Z1C _ _, rfl, rfl⟩ drp
theorem Z2y (x : Int) (g bf : Nat) (fst cap : List Value) (p : Bool) (hg : cal Try.prog g = true) (H : Z7) (R : Z4) [hM : Mem1 bf (cel 52 [.func (.func g) fst.toArray cap.toArray]) H] (hp : FnV Try.prog g (fst ++ [.int .i64 x] ++ cap) H R (.bool p)) :
    FnV Try.prog 105 [.int .i64 x, .pointer (some ⟨bf, 0, none⟩)] H R (.bool !p) := by
 refine Zb Try.func105 rfl Try.ntmps105 rfl ?_
 refine sqt 1 rfl (pur 1 rfl (sqt 5 rfl (spL rfl rfl (lh Zbb rfl rfl) rfl (pur 1 rfl ?_))))
 refine Z5C rfl rfl (hg) rfl rfl (hp) ?_
 refine pur 2 rfl (Z1 ?_)
 exact rtA rfl rfl rfl ⟨rfl, rfl, rfl⟩ drp
theorem Z0e (xs : List Int) (a : Option Addr) (c g : Nat) (fst cap : List Value) (p : Int → Bool) (hg : cal Try.prog g = true) (hl : xs.length ≤ 9223372036854775807) (H : Z7) (R : Z4) [hR : MemRows a 1 (Zv xs) R] (hp : ∀ b x, x ∈ xs → FnV Try.prog g (fst ++ [.int .i64 x] ++ cap) ((b, cel 52 [.func (.func g) fst.toArray cap.toArray]) :: H) R (.bool (p x))) :
    FnV Try.prog 93 [.slice a xs.length c, .func (.func g) fst.toArray cap.toArray] H R (.bool (xs.all p)) := by
 refine Zb Try.func93 rfl Try.ntmps93 rfl ?_
 refine sqt 2 rfl (bx rfl rfl rfl (fun b3 => pur 1 rfl (sqt 5 rfl (pur 1 rfl (sp rfl (PE.makeFunc rfl rfl) rfl ?_)))))
 refine clV rfl Z8P rfl rfl (Z2s xs a c 105 [] [_] (fun x => !p x) ZaD hl _ _ (hp := fun x hx => Z2y x g _ fst cap (p x) hg _ _ (hp := hp _ x hx))) ?_
 refine pur 2 rfl (Z1 ?_)
 exact rtA rfl rfl rfl ⟨by simp only [Zu]; rw [Z04], rfl, rfl⟩ drp
theorem Z6l (xs : List Grd) (a : Option Addr) (c g : Nat) (fst cap : List Value) (p : Grd → Bool) (hg : cal Try.prog g = true) (hl : xs.length ≤ 9223372036854775807) (H : Z7) (R : Z4) [hR : MemRows a 5 (grows xs) R] (hp : ∀ x, x ∈ xs → FnV Try.prog g (fst ++ [.agg (Z3J x).toArray] ++ cap) H R (.bool (p x))) :
    FnV Try.prog 108 [.slice a xs.length c, .func (.func g) fst.toArray cap.toArray] H R (.int .i64 (match xs.findIdx? p with | some k => (k : Int) | none => -1)) := by
 refine Zb Try.func108 rfl Try.ntmps108 rfl ?_
 refine sqt 1 rfl (pur 1 rfl (Z0 (sqt 3 rfl (pur 1 rfl (sp rfl (PE.lenSl Z8Q rfl) rfl (pur 1 rfl (Z3 ?_)))))))
 refine Zj (ι := {k : Nat // k ≤ xs.length ∧ ∀ x ∈ xs.take k, p x = false}) (fun k => ⟨[(0, .slice a xs.length c), (1, .func (.func g) fst.toArray cap.toArray), (7, .int .i64 xs.length), (8, .int .i64 k.1)], H, R⟩) (fun k => xs.length - k.1) ⟨0, by simp⟩ ?_ (fun k => ?_)
 exact Zr idH
 obtain ⟨k, hk, hn⟩ := k
 dsimp only
 refine sqt 1 rfl (pur 1 rfl (Z0 ?_))
 refine Z2 rfl ?_ ?_ <;> intro hc0
 simp only [cS] at hc0
 obtain ⟨x, hx⟩ : ∃ x, xs[k]? = some x := ⟨_, List.getElem?_eq_getElem (by omega)⟩
 have hxm := List.mem_of_getElem? hx
 refine ZE (a := a) (sz := 5) (rows := grows xs) (by cases xs <;> simp_all [grows]) (fun b off he => ?_)
 subst he
 refine Z5 (Z0 (Z3 (sqt 2 rfl (pur 2 rfl (sqt 6 rfl (pur 3 rfl (sp rfl (PE.indexAddr Zcq rfl rfl (by omega) (by omega)) rfl (spL rfl rfl (lfA Z7i (row := Z3J x) (by simp [grows, hx]) rfl) rfl ?_))))))))
 refine Z5C rfl rfl (hg) rfl rfl (hp x hxm) ?_
 refine Z2 rfl ?_ ?_ <;> intro hc1
 refine sqt 2 rfl (pur 2 rfl (Z1 ?_))
 first | (exact rtA rfl rfl rfl ⟨by rw [ZZ hx hn hc1]; rfl, rfl, rfl⟩ idH) | (exact rtA rfl rfl rfl ⟨by rw [ZL (by simpa using hn)]; rfl, rfl, rfl⟩ idH)
 refine Z5 (sqr 2 rfl (sp rfl (PE.add rfl rfl (by omega)) rfl (pur 1 rfl ?_)))
 exact ZC ⟨k + 1, by omega, Z0r hx hn hc1⟩ idH
 simp only [cS] at hc0
 obtain rfl : k = xs.length := by omega
 refine Zg (Zh (Zh (ZJ (sqt 1 rfl (pur 1 rfl (Z1 ?_))))))
 first | (exact rtA rfl rfl rfl ⟨by rw [ZZ hx hn hc1]; rfl, rfl, rfl⟩ idH) | (exact rtA rfl rfl rfl ⟨by rw [ZL (by simpa using hn)]; rfl, rfl, rfl⟩ idH)
theorem Z72 (xs : List Grd) (a : Option Addr) (c g : Nat) (fst cap : List Value) (p : Grd → Bool) (hg : cal Try.prog g = true) (hl : xs.length ≤ 9223372036854775807) (H : Z7) (R : Z4) [hR : MemRows a 5 (grows xs) R] (hp : ∀ x, x ∈ xs → FnV Try.prog g (fst ++ [.agg (Z3J x).toArray] ++ cap) H R (.bool (p x))) :
    FnV Try.prog 103 [.slice a xs.length c, .func (.func g) fst.toArray cap.toArray] H R (.bool (xs.any p)) := by
 refine Zb Try.func103 rfl Try.ntmps103 rfl ?_
 refine sqt 1 rfl (pur 1 rfl (sqt 5 rfl (pur 2 rfl ?_)))
 refine clV rfl Zaw rfl rfl (Z6l xs a c g fst cap p hg hl _ _ hp) ?_
 refine pur 2 rfl (Z1 ?_)
 exact rtA rfl rfl rfl ⟨by simp only [Zu]; exact Z1C _ _, rfl, rfl⟩ drp
theorem Z6w (x : Grd) (g bf : Nat) (fst cap : List Value) (p : Bool) (hg : cal Try.prog g = true) (H : Z7) (R : Z4) [hM : Mem1 bf (cel 159 [.func (.func g) fst.toArray cap.toArray]) H] (hp : ∀ b, FnV Try.prog g (fst ++ [.agg (Z3J x).toArray] ++ cap) ((b, cel 118 (Z3J x)) :: H) R (.bool p)) :
    FnV Try.prog 104 [.agg (Z3J x).toArray, .pointer (some ⟨bf, 0, none⟩)] H R (.bool !p) := by
 refine Zb Try.func104 rfl Try.ntmps104 rfl ?_
 refine sqt 2 rfl (bx rfl rfl rfl (fun b2 => pur 1 rfl (sqt 5 rfl (spL rfl rfl (lh ZbX rfl rfl) rfl (spL rfl rfl (lhA [_, _, _, _, _] Z7i rfl rfl rfl) rfl ?_)))))
 refine Z5C rfl rfl (hg) rfl rfl (hp _) ?_
 refine pur 2 rfl (Z1 ?_)
 exact rtA rfl rfl rfl ⟨rfl, rfl, rfl⟩ drp
theorem Z4T (xs : List Grd) (a : Option Addr) (c g : Nat) (fst cap : List Value) (p : Grd → Bool) (hg : cal Try.prog g = true) (hl : xs.length ≤ 9223372036854775807) (H : Z7) (R : Z4) [hR : MemRows a 5 (grows xs) R] (hp : ∀ b b2 x, x ∈ xs → FnV Try.prog g (fst ++ [.agg (Z3J x).toArray] ++ cap) ((b2, cel 118 (Z3J x)) :: (b, cel 159 [.func (.func g) fst.toArray cap.toArray]) :: H) R (.bool (p x))) :
    FnV Try.prog 91 [.slice a xs.length c, .func (.func g) fst.toArray cap.toArray] H R (.bool (xs.all p)) := by
 refine Zb Try.func91 rfl Try.ntmps91 rfl ?_
 refine sqt 2 rfl (bx rfl rfl rfl (fun b3 => pur 1 rfl (sqt 5 rfl (pur 1 rfl (sp rfl (PE.makeFunc rfl rfl) rfl ?_)))))
 refine clV rfl Zb1 rfl rfl (Z72 xs a c 104 [] [_] (fun x => !p x) ZaT hl _ _ (hp := fun x hx => Z6w x g _ fst cap (p x) hg _ _ (hp := fun b => hp _ _ x hx))) ?_
 refine pur 2 rfl (Z1 ?_)
 exact rtA rfl rfl rfl ⟨by simp only [Zu]; rw [Z04], rfl, rfl⟩ drp
theorem Z73 (xs : List Hnd) (a : Option Addr) (c g : Nat) (fst cap : List Value) (p : Hnd → Bool) (hg : cal Try.prog g = true) (hl : xs.length ≤ 9223372036854775807) (H : Z7) (R : Z4) [hR : MemRows a 5 (hrows xs) R] (hp : ∀ x, x ∈ xs → FnV Try.prog g (fst ++ [.agg (Z0K x).toArray] ++ cap) H R (.bool (p x))) :
    FnV Try.prog 109 [.slice a xs.length c, .func (.func g) fst.toArray cap.toArray] H R (.int .i64 (match xs.findIdx? p with | some k => (k : Int) | none => -1)) := by
 refine Zb Try.func109 rfl Try.ntmps109 rfl ?_
 refine sqt 1 rfl (pur 1 rfl (Z0 (sqt 3 rfl (pur 1 rfl (sp rfl (PE.lenSl Z9r rfl) rfl (pur 1 rfl (Z3 ?_)))))))
 refine Zj (ι := {k : Nat // k ≤ xs.length ∧ ∀ x ∈ xs.take k, p x = false}) (fun k => ⟨[(0, .slice a xs.length c), (1, .func (.func g) fst.toArray cap.toArray), (7, .int .i64 xs.length), (8, .int .i64 k.1)], H, R⟩) (fun k => xs.length - k.1) ⟨0, by simp⟩ ?_ (fun k => ?_)
 exact Zr idH
 obtain ⟨k, hk, hn⟩ := k
 dsimp only
 refine sqt 1 rfl (pur 1 rfl (Z0 ?_))
 refine Z2 rfl ?_ ?_ <;> intro hc0
 simp only [cS] at hc0
 obtain ⟨x, hx⟩ : ∃ x, xs[k]? = some x := ⟨_, List.getElem?_eq_getElem (by omega)⟩
 have hxm := List.mem_of_getElem? hx
 refine ZE (a := a) (sz := 5) (rows := hrows xs) (by cases xs <;> simp_all [hrows]) (fun b off he => ?_)
 subst he
 refine Z5 (Z0 (Z3 (sqt 2 rfl (pur 2 rfl (sqt 6 rfl (pur 3 rfl (sp rfl (PE.indexAddr ZcK rfl rfl (by omega) (by omega)) rfl (spL rfl rfl (lfA Z3T (row := Z0K x) (by simp [hrows, hx]) rfl) rfl ?_))))))))
 refine Z5C rfl rfl (hg) rfl rfl (hp x hxm) ?_
 refine Z2 rfl ?_ ?_ <;> intro hc1
 refine sqt 2 rfl (pur 2 rfl (Z1 ?_))
 first | (exact rtA rfl rfl rfl ⟨by rw [ZZ hx hn hc1]; rfl, rfl, rfl⟩ idH) | (exact rtA rfl rfl rfl ⟨by rw [ZL (by simpa using hn)]; rfl, rfl, rfl⟩ idH)
 refine Z5 (sqr 2 rfl (sp rfl (PE.add rfl rfl (by omega)) rfl (pur 1 rfl ?_)))
 exact ZC ⟨k + 1, by omega, Z0r hx hn hc1⟩ idH
 simp only [cS] at hc0
 obtain rfl : k = xs.length := by omega
 refine Zg (Zh (Zh (ZJ (sqt 1 rfl (pur 1 rfl (Z1 ?_))))))
 first | (exact rtA rfl rfl rfl ⟨by rw [ZZ hx hn hc1]; rfl, rfl, rfl⟩ idH) | (exact rtA rfl rfl rfl ⟨by rw [ZL (by simpa using hn)]; rfl, rfl, rfl⟩ idH)
theorem Z6F (xs : List Hnd) (a : Option Addr) (c g : Nat) (fst cap : List Value) (p : Hnd → Bool) (hg : cal Try.prog g = true) (hl : xs.length ≤ 9223372036854775807) (H : Z7) (R : Z4) [hR : MemRows a 5 (hrows xs) R] (hp : ∀ x, x ∈ xs → FnV Try.prog g (fst ++ [.agg (Z0K x).toArray] ++ cap) H R (.bool (p x))) :
    FnV Try.prog 106 [.slice a xs.length c, .func (.func g) fst.toArray cap.toArray] H R (.bool (xs.any p)) := by
 refine Zb Try.func106 rfl Try.ntmps106 rfl ?_
 refine sqt 1 rfl (pur 1 rfl (sqt 5 rfl (pur 2 rfl ?_)))
 refine clV rfl Zan rfl rfl (Z73 xs a c g fst cap p hg hl _ _ hp) ?_
 refine pur 2 rfl (Z1 ?_)
 exact rtA rfl rfl rfl ⟨by simp only [Zu]; exact Z1C _ _, rfl, rfl⟩ drp
theorem Z6h (x : Hnd) (g bf : Nat) (fst cap : List Value) (p : Bool) (hg : cal Try.prog g = true) (H : Z7) (R : Z4) [hM : Mem1 bf (cel 163 [.func (.func g) fst.toArray cap.toArray]) H] (hp : ∀ b, FnV Try.prog g (fst ++ [.agg (Z0K x).toArray] ++ cap) ((b, cel 121 (Z0K x)) :: H) R (.bool p)) :
    FnV Try.prog 107 [.agg (Z0K x).toArray, .pointer (some ⟨bf, 0, none⟩)] H R (.bool !p) := by
 refine Zb Try.func107 rfl Try.ntmps107 rfl ?_
 refine sqt 2 rfl (bx rfl rfl rfl (fun b2 => pur 1 rfl (sqt 5 rfl (spL rfl rfl (lh Zbk rfl rfl) rfl (spL rfl rfl (lhA [_, _, _, _, _] Z3T rfl rfl rfl) rfl ?_)))))
 refine Z5C rfl rfl (hg) rfl rfl (hp _) ?_
 refine pur 2 rfl (Z1 ?_)
 exact rtA rfl rfl rfl ⟨rfl, rfl, rfl⟩ drp
theorem Z2z (xs : List Hnd) (a : Option Addr) (c g : Nat) (fst cap : List Value) (p : Hnd → Bool) (hg : cal Try.prog g = true) (hl : xs.length ≤ 9223372036854775807) (H : Z7) (R : Z4) [hR : MemRows a 5 (hrows xs) R] (hp : ∀ b b2 x, x ∈ xs → FnV Try.prog g (fst ++ [.agg (Z0K x).toArray] ++ cap) ((b2, cel 121 (Z0K x)) :: (b, cel 163 [.func (.func g) fst.toArray cap.toArray]) :: H) R (.bool (p x))) :
    FnV Try.prog 98 [.slice a xs.length c, .func (.func g) fst.toArray cap.toArray] H R (.bool (xs.all p)) := by
 refine Zb Try.func98 rfl Try.ntmps98 rfl ?_
 refine sqt 2 rfl (bx rfl rfl rfl (fun b3 => pur 1 rfl (sqt 5 rfl (pur 1 rfl (sp rfl (PE.makeFunc rfl rfl) rfl ?_)))))
 refine clV rfl Zam rfl rfl (Z6F xs a c 107 [] [_] (fun x => !p x) Zav hl _ _ (hp := fun x hx => Z6h x g _ fst cap (p x) hg _ _ (hp := fun b => hp _ _ x hx))) ?_
 refine pur 2 rfl (Z1 ?_)
 exact rtA rfl rfl rfl ⟨by simp only [Zu]; rw [Z04], rfl, rfl⟩ drp
theorem Z6s (a b c d : Int) (hb : ∀ x ∈ [a, b, c, d], -1000000 ≤ x ∧ x ≤ 1000000000000000) (H : Z7) (R : Z4) :
    FnV Try.prog 102 [.agg (Zc [a, b, c, d]).toArray] H R (.int .i64 (a + b + c + d)) := by
 have ha := hb a (by simp)
 have hb1 := hb b (by simp)
 have hc := hb c (by simp)
 have hd := hb d (by simp)
 clear hb
 refine Zb Try.func102 rfl Try.ntmps102 rfl ?_
 refine sqt 2 rfl (bx rfl rfl rfl (fun b1 => pur 1 rfl (sqt 12 rfl (sp rfl (PE.indexArr Z16 rfl rfl (by omega) (by omega)) rfl (spL rfl rfl (lh sc3 rfl rfl) rfl (sp rfl (PE.indexArr Z16 rfl rfl (by omega) (by omega)) rfl (spL rfl rfl (lh sc3 rfl rfl) rfl (sp rfl (PE.add rfl rfl (by omega)) rfl (sp rfl (PE.indexArr Z16 rfl rfl (by omega) (by omega)) rfl (spL rfl rfl (lh sc3 rfl rfl) rfl (sp rfl (PE.add rfl rfl (by omega)) rfl (sp rfl (PE.indexArr Z16 rfl rfl (by omega) (by omega)) rfl (spL rfl rfl (lh sc3 rfl rfl) rfl (sp rfl (PE.add rfl rfl (by omega)) rfl (pur 1 rfl ?_)))))))))))))))
 refine Z1 ?_
 exact rtA rfl rfl rfl ⟨rfl, rfl, rfl⟩ drp
theorem Z6M (x : Grd) (H : Z7) (R : Z4) :
    Fn Try.prog 94 [.agg (Z3J x).toArray] H R (fun v H' R' => ∃ b, v = .slice (some ⟨b, 0, none⟩) 4 4 ∧ H' = H ∧ R' = RowsA (some ⟨b, 0, none⟩) 1 (Zv x.ns) :: R) := by
 refine Zb Try.func94 rfl Try.ntmps94 rfl ?_
 refine sqt 2 rfl (bx rfl rfl rfl (fun b1 => pur 1 rfl (sqt 10 rfl (sp rfl (PE.fA Z9P rfl) rfl (spL rfl rfl (lh sc3 rfl rfl) rfl (sp rfl (PE.fA Z9u rfl) rfl (spL rfl rfl (lh sc3 rfl rfl) rfl (sp rfl (PE.fA Z8J rfl) rfl (spL rfl rfl (lh sc3 rfl rfl) rfl (sp rfl (PE.fA Z9N rfl) rfl (spL rfl rfl (lh sc3 rfl rfl) rfl ?_)))))))))))
 refine bsl (out := [_, _, _, _]) rfl Z2W zl3 rfl rfl rfl rfl rfl rfl (fun b11 => ?_)
 refine pur 1 rfl (Z1 ?_)
 refine Sy.heap (fun w h => St.intRows (l := x.ns) h) ?_
 exact rtA rfl rfl rfl ⟨_, rfl, rfl, rfl⟩ drp
theorem Z5w (xs : List Int) (a : Option Addr) (c : Nat) (hl : xs.length ≤ 9223372036854775807) (H : Z7) (R : Z4) [hR : MemRows a 1 (Zv xs) R] :
    FnV Try.prog 79 [.slice a xs.length c] H R (.int .i64 (xs.foldl max 0)) := by
 refine Zb Try.func79 rfl Try.ntmps79 rfl ?_
 refine sqt 1 rfl (pur 1 rfl (sqt 1 rfl (pur 1 rfl (Z0 (sqt 3 rfl (pur 1 rfl (sp rfl (PE.lenSl Z1b rfl) rfl (pur 1 rfl (Z3 ?_)))))))))
 refine Zj (ι := {k : Nat // k ≤ xs.length}) (fun k => ⟨[(3, .int .i64 ((xs.take k.1).foldl max 0)), (6, .slice a xs.length c), (7, .int .i64 xs.length), (8, .int .i64 k.1)], H, R⟩) (fun k => xs.length - k.1) ⟨0, by simp⟩ ?_ (fun k => ?_)
 exact Zr idH
 obtain ⟨k, hk⟩ := k
 dsimp only
 refine sqt 1 rfl (pur 1 rfl (Z0 ?_))
 refine Z2 rfl ?_ ?_ <;> intro hc0 <;> try simp only [cS] at hc0
 obtain ⟨x, hx⟩ : ∃ x, xs[k]? = some x := ⟨_, List.getElem?_eq_getElem (by omega)⟩
 have hst : (xs.take (k + 1)).foldl max 0 = max ((xs.take k).foldl max 0) x := by rw [List.take_add_one, hx, List.foldl_append]; rfl
 refine ZE (a := a) (sz := 1) (rows := Zv xs) (by cases xs <;> simp_all [Zv]) (fun b off he => ?_)
 subst he
 refine Z5 (Z0 (Z3 (sqt 3 rfl (sp rfl (PE.indexAddr Z4i rfl rfl (by omega) (by omega)) rfl (spL rfl rfl (lf0 sc3 (by simp [Zv, hx]; rfl) rfl) rfl (pur 1 rfl (sqr 4 rfl (pur 2 rfl (sp rfl (PE.max rfl rfl) rfl (pur 1 rfl (sqr 2 rfl (sp rfl (PE.add rfl rfl (by omega)) rfl (pur 1 rfl ?_)))))))))))))
 exact Zt ⟨k + 1, by omega⟩ (by dsimp only; omega) (by dsimp only; rw [hst]; exact (by repeat' first | exact Sub.nil | apply Sub.cons | rfl | (simp [lk]; omega))) idH
 obtain rfl : k = xs.length := by omega
 rw [List.take_length]
 refine Zg (Zh (Zh (ZJ (sqt 2 rfl (pur 2 rfl (Z1 ?_))))))
 exact rtA rfl rfl rfl ⟨rfl, rfl, rfl⟩ drp
theorem Z0A (x : Int) (b : Nat) (H : Z7) (R : Z4) {T : Z7} [pl : Pull b (cel 3 [.int .i64 x]) H T] : FnV Try.prog 79 [.slice (some ⟨b, 0, none⟩) 1 1] H R (.int .i64 (max 0 x)) :=
  FnV.lend (pl := pl) (sz := 1) (rows := Zv [x]) (junk := []) (by simp) (fun B => Z5w [x] (some ⟨b, 0, none⟩) 1 (by simp) T _)
theorem Z8N (n : Int) (H : Z7) (R : Z4) :
    FnV Try.prog 95 [.int .i64 n] H R (.bool (inb n 0 40)) := by
 refine Zb Try.func95 rfl Try.ntmps95 rfl ?_
 refine sqt 1 rfl (pur 1 rfl (sqt 3 rfl (pur 1 rfl ?_)))
 refine clV rfl Z2k rfl rfl (Z1B _ _ _ _ _) ?_
 refine pur 1 rfl (Z1 ?_)
 exact rtA rfl rfl rfl ⟨rfl, rfl, rfl⟩ drp
theorem Z71 (x : Grd) (H : Z7) (R : Z4) :
    FnV Try.prog 92 [.agg (Z3J x).toArray] H R (.bool x.fine) := by
 refine Zb Try.func92 rfl Try.ntmps92 rfl ?_
 refine sqt 2 rfl (bx rfl rfl rfl (fun b1 => pur 1 rfl (sqt 9 rfl (sp rfl (PE.fA Z4o rfl) rfl (spL rfl rfl (lh sc3 rfl rfl) rfl ?_)))))
 refine clV rfl Z2k rfl rfl (Z1B _ _ _ _ _) ?_
 refine pur 1 rfl ?_
 refine ZR 6 rfl ?_ ?_ <;> intro g6
 refine Z3F rfl rfl rfl rfl rfl (lhA [_, _, _, _, _] Z7i rfl rfl rfl) rfl ?_
 refine clG rfl rfl rfl rfl Zcp rfl rfl (Z6M x _ _) ?_
 rintro _ _ _ ⟨bn, rfl, rfl, rfl⟩
 refine Z1M rfl rfl rfl rfl Za7 rfl rfl (Z0e x.ns (some ⟨bn, 0, none⟩) 4 95 [] [] (fun n => inb n 0 40) Zc1 (by simp [Grd.ns]) _ _ (fun _ y _ => Z8N y _ _)) ?_
 refine pur 2 rfl (Z1 ?_)
 exact rtA rfl rfl rfl ⟨by simp_all only [Zu, Grd.fine, Bool.true_and, Bool.false_and, cond_true, cond_false], rfl, rfl⟩ drp
 refine pur 5 rfl (Z1 ?_)
 exact rtA rfl rfl rfl ⟨by simp_all only [Zu, Grd.fine, Bool.true_and, Bool.false_and, cond_true, cond_false], rfl, rfl⟩ drp
theorem Z6q (x y : Grd) (hb : -9223372036854775808 ≤ y.price - x.price ∧ y.price - x.price ≤ 9223372036854775807) (H : Z7) (R : Z4) :
    FnV Try.prog 97 [.agg (Z3J x).toArray, .agg (Z3J y).toArray] H R (.int .i64 (y.price - x.price)) := by
 refine Zb Try.func97 rfl Try.ntmps97 rfl ?_
 refine sqt 3 rfl (bx rfl rfl rfl (fun b2 => bx rfl rfl rfl (fun b3 => pur 1 rfl (sqt 6 rfl (sp rfl (PE.fA Z4o rfl) rfl (spL rfl rfl (lh sc3 rfl rfl) rfl (sp rfl (PE.fA Z4o rfl) rfl (spL rfl rfl (lh sc3 rfl rfl) rfl (sp rfl (PE.sub rfl rfl (by omega)) rfl (pur 1 rfl (Z1 ?_)))))))))))
 exact rtA rfl rfl rfl ⟨rfl, rfl, rfl⟩ drp
theorem Z7N (xs : List Grd) (a : Option Addr) (c : Nat) (hl : xs.length ≤ 9223372036854775807) (hb : ∀ x ∈ xs, 0 ≤ x.price ∧ x.price ≤ 100) (H : Z7) (R : Z4) [hR : MemRows a 5 (grows xs) R] :
    FnV Try.prog 96 [.slice a xs.length c, .func (.func 97) #[] #[]] H R (.bool (!((List.range xs.length).any (Z0q xs)))) := by
 refine Zb Try.func96 rfl Try.ntmps96 rfl ?_
 refine sqt 1 rfl (pur 1 rfl (Z0 (sqt 4 rfl (pur 1 rfl (sp rfl (PE.lenSl Z8Q rfl) rfl (sp rfl (PE.sub rfl rfl (by omega)) rfl (pur 1 rfl (Z3 ?_))))))))
 refine Zj (ι := {k : Nat // k ≤ xs.length ∧ ∀ i, k ≤ i + 1 → i + 1 < xs.length → Z0q xs i = false}) (fun k => ⟨[(0, .slice a xs.length c), (1, .func (.func 97) #[] #[]), (5, .int .i64 ((k.1 : Int) - 1))], H, R⟩) (fun k => k.1) ⟨xs.length, by omega, fun i h1 h2 => by omega⟩ ?_ (fun k => ?_)
 exact Zr idH
 obtain ⟨k, hk, hn⟩ := k
 dsimp only
 refine Z0 (sqt 2 rfl (pur 2 rfl ?_))
 refine Z2 rfl ?_ ?_ <;> intro hc0 <;> try simp only [cS] at hc0
 obtain ⟨k, rfl⟩ : ∃ j, k = j + 2 := ⟨k - 2, by omega⟩
 obtain ⟨y, hy⟩ : ∃ y, xs[k + 1]? = some y := ⟨_, List.getElem?_eq_getElem (by omega)⟩
 obtain ⟨x, hx⟩ : ∃ x, xs[k]? = some x := ⟨_, List.getElem?_eq_getElem (by omega)⟩
 have hbx := hb x (List.mem_of_getElem? hx)
 have hby := hb y (List.mem_of_getElem? hy)
 rw [show (((k + 2 : Nat) : Int) - 1) = (k + 1 : Nat) from by omega]
 refine ZE (a := a) (sz := 5) (rows := grows xs) (by cases xs <;> simp_all [grows]) (fun b off he => ?_)
 subst he
 refine Z5 (Z0 (Z3 (Z0 ?_)))
 refine Z8 [0, 0, 0, 6, 14, 0, 0, 64, 224, 480, 1023, 2047] (tks 0 4 (.ld 4 (tks 5 4 (.ld 9 (.big 10 (.tk 11 .done)))))) Zk (by kernel_rfl) ?_
 refine Za 3 rfl (tk rfl (PE.indexAddr Zcq rfl rfl (by omega) (by omega)) rfl (ld rfl rfl (lfA Z7i (row := Z3J y) (Z8o (by simpa using hy)) rfl) rfl (Za 2 rfl (tk rfl (PE.sub rfl rfl (by omega)) rfl (tk rfl (PE.indexAddr Zcq rfl rfl (by omega) (by omega)) rfl (ld rfl rfl (lfA Z7i (row := Z3J x) (Z8o (by rw [show (((k + 1 : Nat) : Int) - 1).toNat = k from by omega]; exact hx)) rfl) rfl ?_))))))
 refine Z5C rfl rfl (Zcl) rfl rfl (Z6q y x (by omega) _ _) ?_
 refine bgT (Za 1 rfl ?_)
 refine Z2 rfl ?_ ?_ <;> intro hc1 <;> try simp only [cS] at hc1
 have hbn := Z5F hx hy (by omega)
 refine sqt 1 rfl (pur 1 rfl (Z1 ?_))
 exact rtA rfl rfl rfl ⟨by simp only [Zu]; rw [hbn]; rfl, rfl, rfl⟩ drp
 refine Z5 (sqr 3 rfl (pur 1 rfl (sp rfl (PE.sub rfl rfl (by omega)) rfl (pur 1 rfl ?_))))
 refine Zt ⟨k + 1, by omega, fun i h1 h2 => ?_⟩ (by dsimp only; omega) (by dsimp only; rw [show ((k + 1 : Nat) : Int) - 1 = ((k + 1 : Nat) : Int) - 1 from rfl]; exact (by repeat' first | exact Sub.nil | apply Sub.cons | rfl | (simp [lk]; omega))) idH
 rcases Nat.lt_or_ge k i with h3 | h3
 · exact hn i (by omega) h2
 · obtain rfl : i = k := by omega
   unfold Z0q
   rw [hx, hy]
   simp only [decide_eq_false_iff_not]
   omega
 have hbn := Z7E (l := xs) (fun i hi => hn i (by omega) hi)
 refine Zg (Zh (Zh (ZJ (sqt 1 rfl (pur 1 rfl (Z1 ?_))))))
 exact rtA rfl rfl rfl ⟨by simp only [Zu]; rw [hbn]; rfl, rfl, rfl⟩ drp
theorem Z4p (g : Gat) (ag : Option Addr) (cg : Nat) (hlg : g.grs.length ≤ 9223372036854775807) (H : Z7) (R : Z4) [hG : MemRows ag 5 (grows g.grs) R] :
    FnV Try.prog 86 [g.v (g.sl ag cg)] H R (.int .i64 g.check) := by
 refine Zb Try.func86 rfl Try.ntmps86 rfl ?_
 refine sqt 2 rfl (bx rfl rfl rfl (fun b1 => pur 1 rfl (Z0 (Z3 (sqt 5 rfl (sp rfl (PE.fA Z49 rfl) rfl (spL rfl rfl (lh Z7P rfl rfl) rfl (sp rfl (PE.lenSl Z8Q rfl) rfl (pur 2 rfl ?_)))))))))
 refine Z2 rfl ?_ ?_ <;> intro hc0
 have h8 : decide (4 < g.grs.length) = true := by simp only [decide_eq_true_eq] at hc0 ⊢; omega
 refine sqt 1 rfl (pur 1 rfl (Z1 ?_))
 exact rtA rfl rfl rfl ⟨congrArg (Value.int .i64) (by simp_all only [Zu, Gat.check, inb, cond_true, cond_false, Bool.not_true, Bool.not_false, Bool.not_eq_true', Bool.not_eq_false', Bool.true_or, Bool.or_true, Bool.false_or, Bool.or_false, gt_iff_lt]), rfl, rfl⟩ drp
 have h8 : decide (4 < g.grs.length) = false := by simp only [decide_eq_false_iff_not] at hc0 ⊢; omega
 refine sqt 11 rfl (sp rfl (PE.fA Z75 rfl) rfl (spL rfl rfl (lh sc3 rfl rfl) rfl ?_))
 refine clV rfl Z2k rfl rfl (Z1B _ _ _ _ _) ?_
 refine pur 2 rfl ?_
 refine ZR 13 rfl ?_ ?_ <;> intro g13
 refine pur 6 rfl ?_
 refine Zw rfl ?_
 refine sqt 1 rfl (pur 1 rfl (Z1 ?_))
 exact rtA rfl rfl rfl ⟨congrArg (Value.int .i64) (by simp_all only [Zu, Gat.check, inb, cond_true, cond_false, Bool.not_true, Bool.not_false, Bool.not_eq_true', Bool.not_eq_false', Bool.true_or, Bool.or_true, Bool.false_or, Bool.or_false, gt_iff_lt]), rfl, rfl⟩ drp
 refine spG rfl rfl rfl rfl (PE.fA Z3Y rfl) rfl ?_
 refine Z3F rfl rfl rfl rfl rfl (lh sc3 rfl rfl) rfl ?_
 refine Z1M rfl rfl rfl rfl Z2k rfl rfl (Z1B _ _ _ _ _) ?_
 refine pur 3 rfl ?_
 refine Z2 rfl ?_ ?_ <;> intro hc1
 refine sqt 1 rfl (pur 1 rfl (Z1 ?_))
 exact rtA rfl rfl rfl ⟨congrArg (Value.int .i64) (by simp_all only [Zu, Gat.check, inb, cond_true, cond_false, Bool.not_true, Bool.not_false, Bool.not_eq_true', Bool.not_eq_false', Bool.true_or, Bool.or_true, Bool.false_or, Bool.or_false, gt_iff_lt]), rfl, rfl⟩ drp
 refine sqt 5 rfl (sp rfl (PE.fA Z49 rfl) rfl (spL rfl rfl (lh Z7P rfl rfl) rfl ?_))
 refine clV rfl ZbI rfl rfl (Z4T g.grs ag cg 92 [] [] Grd.fine ZbB (by omega) _ _ (fun _ _ x _ => Z71 x _ _)) ?_
 refine pur 2 rfl ?_
 refine Z2 rfl ?_ ?_ <;> intro hc2
 refine sqt 1 rfl (pur 1 rfl (Z1 ?_))
 exact rtA rfl rfl rfl ⟨congrArg (Value.int .i64) (by simp_all only [Zu, Gat.check, inb, cond_true, cond_false, Bool.not_true, Bool.not_false, Bool.not_eq_true', Bool.not_eq_false', Bool.true_or, Bool.or_true, Bool.false_or, Bool.or_false, gt_iff_lt]), rfl, rfl⟩ drp
 have hfi : g.grs.all Grd.fine = true := by rw [← Bool.not_eq_false']; exact hc2
 refine sqt 5 rfl (sp rfl (PE.fA Z49 rfl) rfl (spL rfl rfl (lh Z7P rfl rfl) rfl ?_))
 refine clV rfl Zbq rfl rfl (Z7N g.grs ag cg (by omega) (fun x hx => by have := List.all_eq_true.1 hfi x hx; simp only [Grd.fine, inb, Bool.and_eq_true, decide_eq_true_eq] at this; exact this.1) _ _) ?_
 refine pur 2 rfl ?_
 refine Z2 rfl ?_ ?_ <;> intro hc3
 refine sqt 1 rfl (pur 1 rfl (Z1 ?_))
 exact rtA rfl rfl rfl ⟨congrArg (Value.int .i64) (by simp_all only [Zu, Gat.check, inb, cond_true, cond_false, Bool.not_true, Bool.not_false, Bool.not_eq_true', Bool.not_eq_false', Bool.true_or, Bool.or_true, Bool.false_or, Bool.or_false, gt_iff_lt]), rfl, rfl⟩ drp
 refine Z5 (sqt 1 rfl (pur 1 rfl (Z1 ?_)))
 exact rtA rfl rfl rfl ⟨congrArg (Value.int .i64) (by simp_all only [Zu, Gat.check, inb, cond_true, cond_false, Bool.not_true, Bool.not_false, Bool.not_eq_true', Bool.not_eq_false', Bool.true_or, Bool.or_true, Bool.false_or, Bool.or_false, gt_iff_lt]), rfl, rfl⟩ drp
theorem Z9n (n : Int) (H : Z7) (R : Z4) :
    FnV Try.prog 100 [.int .i64 n] H R (.bool (inb n 0 200)) := by
 refine Zb Try.func100 rfl Try.ntmps100 rfl ?_
 refine sqt 1 rfl (pur 1 rfl (sqt 3 rfl (pur 1 rfl ?_)))
 refine clV rfl Z2k rfl rfl (Z1B _ _ _ _ _) ?_
 refine pur 1 rfl (Z1 ?_)
 exact rtA rfl rfl rfl ⟨rfl, rfl, rfl⟩ drp
theorem Zay (h : Hnd) (H : Z7) (R : Z4) :
    FnV Try.prog 99 [.agg (Z0K h).toArray] H R (.bool h.fine) := by
 refine Zb Try.func99 rfl Try.ntmps99 rfl ?_
 refine sqt 2 rfl (bx rfl rfl rfl (fun b1 => pur 1 rfl (sqt 9 rfl (sp rfl (PE.fA Z9J rfl) rfl (spL rfl rfl (lh sc3 rfl rfl) rfl ?_)))))
 refine clV rfl Z2k rfl rfl (Z1B _ _ _ _ _) ?_
 refine pur 1 rfl ?_
 refine ZR 6 rfl ?_ ?_ <;> intro g6
 refine spG rfl rfl rfl rfl (PE.fA Z06 rfl) rfl ?_
 refine spG rfl rfl rfl rfl (PE.slArr Z16 rfl) rfl ?_
 refine Sy.heap (fun w h => St.rows1 h) ?_
 refine Z1M rfl rfl rfl rfl Za7 rfl rfl (Z0e h.gs (some ⟨b1, 1, none⟩) 4 100 [] [] (fun n => inb n 0 200) Zar (by simp [Hnd.gs]) _ _ (fun _ y _ => Z9n y _ _)) ?_
 refine pur 2 rfl (Z1 ?_)
 exact rtA rfl rfl rfl ⟨by simp_all only [Zu, Hnd.fine, Bool.true_and, Bool.false_and, cond_true, cond_false], rfl, rfl⟩ drp
 refine pur 5 rfl (Z1 ?_)
 exact rtA rfl rfl rfl ⟨by simp_all only [Zu, Hnd.fine, Bool.true_and, Bool.false_and, cond_true, cond_false], rfl, rfl⟩ drp
theorem ZaF (h : Hnd) (hf : h.fine = true) (H : Z7) (R : Z4) :
    FnV Try.prog 101 [.agg (Z0K h).toArray] H R (.bool (inb h.tot 10 200)) := by
 refine Zb Try.func101 rfl Try.ntmps101 rfl ?_
 refine sqt 2 rfl (bx rfl rfl rfl (fun b1 => pur 1 rfl (sqt 5 rfl (sp rfl (PE.fA Z06 rfl) rfl (spL rfl rfl (lhA [.int .i64 h.a, .int .i64 h.b, .int .i64 h.c, .int .i64 h.d] Z4z rfl rfl rfl) rfl ?_)))))
 refine clV rfl Z8y rfl rfl (Z6s h.a h.b h.c h.d (by simp only [Hnd.fine, Hnd.gs, inb, List.all_cons, List.all_nil, Bool.and_true, Bool.and_eq_true, decide_eq_true_eq] at hf; intro x hx; simp only [List.mem_cons, List.not_mem_nil, or_false] at hx; rcases hx with rfl | rfl | rfl | rfl <;> omega) _ _) ?_
 refine clV rfl Z2k rfl rfl (Z1B _ _ _ _ _) ?_
 refine pur 1 rfl (Z1 ?_)
 exact rtA rfl rfl rfl ⟨rfl, rfl, rfl⟩ drp
theorem Z4D (c : Crt) (ah : Option Addr) (ch : Nat) (hlh : c.hs.length ≤ 9223372036854775807) (H : Z7) (R : Z4) [hA : MemRows ah 5 (hrows c.hs) R] :
    FnV Try.prog 87 [c.v (c.sl ah ch)] H R (.int .i64 c.check) := by
 refine Zb Try.func87 rfl Try.ntmps87 rfl ?_
 refine sqt 2 rfl (bx rfl rfl rfl (fun b1 => pur 1 rfl (Z0 (Z3 (sqt 5 rfl (sp rfl (PE.fA Z30 rfl) rfl (spL rfl rfl (lh Z96 rfl rfl) rfl (sp rfl (PE.lenSl Z9r rfl) rfl (pur 2 rfl ?_)))))))))
 refine Z2 rfl ?_ ?_ <;> intro hc0
 have h8 : decide (6 < c.hs.length) = true := by simp only [decide_eq_true_eq] at hc0 ⊢; omega
 refine sqt 1 rfl (pur 1 rfl (Z1 ?_))
 exact rtA rfl rfl rfl ⟨congrArg (Value.int .i64) (by simp_all only [Zu, Crt.check, inb, cond_true, cond_false, Bool.not_true, Bool.not_false, Bool.not_eq_true', Bool.not_eq_false', Bool.true_or, Bool.or_true, Bool.false_or, Bool.or_false, gt_iff_lt]), rfl, rfl⟩ drp
 have h8 : decide (6 < c.hs.length) = false := by simp only [decide_eq_false_iff_not] at hc0 ⊢; omega
 refine sqt 11 rfl (sp rfl (PE.fA Z4W rfl) rfl (spL rfl rfl (lh sc3 rfl rfl) rfl ?_))
 refine clV rfl Z2k rfl rfl (Z1B _ _ _ _ _) ?_
 refine pur 2 rfl ?_
 refine ZR 13 rfl ?_ ?_ <;> intro g13
 refine pur 6 rfl ?_
 refine Zw rfl ?_
 refine sqt 1 rfl (pur 1 rfl (Z1 ?_))
 exact rtA rfl rfl rfl ⟨congrArg (Value.int .i64) (by simp_all only [Zu, Crt.check, inb, cond_true, cond_false, Bool.not_true, Bool.not_false, Bool.not_eq_true', Bool.not_eq_false', Bool.true_or, Bool.or_true, Bool.false_or, Bool.or_false, gt_iff_lt]), rfl, rfl⟩ drp
 refine spG rfl rfl rfl rfl (PE.fA Z56 rfl) rfl ?_
 refine Z3F rfl rfl rfl rfl rfl (lh sc3 rfl rfl) rfl ?_
 refine Z1M rfl rfl rfl rfl Z2k rfl rfl (Z1B _ _ _ _ _) ?_
 refine pur 3 rfl ?_
 refine Z2 rfl ?_ ?_ <;> intro hc1
 refine sqt 1 rfl (pur 1 rfl (Z1 ?_))
 exact rtA rfl rfl rfl ⟨congrArg (Value.int .i64) (by simp_all only [Zu, Crt.check, inb, cond_true, cond_false, Bool.not_true, Bool.not_false, Bool.not_eq_true', Bool.not_eq_false', Bool.true_or, Bool.or_true, Bool.false_or, Bool.or_false, gt_iff_lt]), rfl, rfl⟩ drp
 refine sqt 5 rfl (sp rfl (PE.fA Z30 rfl) rfl (spL rfl rfl (lh Z96 rfl rfl) rfl ?_))
 refine clV rfl ZaQ rfl rfl (Z2z c.hs ah ch 99 [] [] Hnd.fine Zc2 (by omega) _ _ (fun _ _ x _ => Zay x _ _)) ?_
 refine pur 2 rfl ?_
 refine Z2 rfl ?_ ?_ <;> intro hc2
 refine sqt 1 rfl (pur 1 rfl (Z1 ?_))
 exact rtA rfl rfl rfl ⟨congrArg (Value.int .i64) (by simp_all only [Zu, Crt.check, inb, cond_true, cond_false, Bool.not_true, Bool.not_false, Bool.not_eq_true', Bool.not_eq_false', Bool.true_or, Bool.or_true, Bool.false_or, Bool.or_false, gt_iff_lt]), rfl, rfl⟩ drp
 have hfi : c.hs.all Hnd.fine = true := by rw [← Bool.not_eq_false']; exact hc2
 refine sqt 5 rfl (sp rfl (PE.fA Z30 rfl) rfl (spL rfl rfl (lh Z96 rfl rfl) rfl ?_))
 refine clV rfl ZaQ rfl rfl (Z2z c.hs ah ch 101 [] [] (fun h => inb h.tot 10 200) Zb3 (by omega) _ _ (fun _ _ x hx => ZaF x (List.all_eq_true.1 hfi x hx) _ _)) ?_
 refine pur 2 rfl ?_
 refine Z2 rfl ?_ ?_ <;> intro hc3
 refine sqt 1 rfl (pur 1 rfl (Z1 ?_))
 exact rtA rfl rfl rfl ⟨congrArg (Value.int .i64) (by simp_all only [Zu, Crt.check, inb, cond_true, cond_false, Bool.not_true, Bool.not_false, Bool.not_eq_true', Bool.not_eq_false', Bool.true_or, Bool.or_true, Bool.false_or, Bool.or_false, gt_iff_lt]), rfl, rfl⟩ drp
 refine Z5 (sqt 1 rfl (pur 1 rfl (Z1 ?_)))
 exact rtA rfl rfl rfl ⟨congrArg (Value.int .i64) (by simp_all only [Zu, Crt.check, inb, cond_true, cond_false, Bool.not_true, Bool.not_false, Bool.not_eq_true', Bool.not_eq_false', Bool.true_or, Bool.or_true, Bool.false_or, Bool.or_false, gt_iff_lt]), rfl, rfl⟩ drp
theorem Z0v : Z2x Try.prog 125 = some 8 := by kernel_rfl
theorem Z5R : Z2x Try.prog 61 = some 3 := by kernel_rfl
theorem Z5D : Z2x Try.prog 64 = some 3 := by kernel_rfl
theorem Z3O : Z2x Try.prog 69 = some 2 := by kernel_rfl
theorem Z1e : arN Try.prog 125 = some (4, 2) := by kernel_rfl
theorem ZaV : arE Try.prog 125 = some (4, 69) := by kernel_rfl
theorem Z4F : cal Try.prog 79 = true := by kernel_rfl
theorem ZbF : cal Try.prog 86 = true := by kernel_rfl
theorem Zcb : cal Try.prog 87 = true := by kernel_rfl
theorem Zah : cal Try.prog 88 = true := by kernel_rfl
theorem Zcw : cal Try.prog 89 = true := by kernel_rfl
theorem Z7X : ZK Try.prog 121 = some 5 := by kernel_rfl
theorem Z18 : ZK Try.prog 125 = some 8 := by kernel_rfl
theorem Z29 : ZK Try.prog 69 = some 2 := by kernel_rfl
theorem Zaq : eqB Try.prog 10000 125 = some (true, 8) := by kernel_rfl
theorem Zb7 : eqB Try.prog 10000 69 = some (true, 2) := by kernel_rfl
theorem Zas : Try.prog.eqGuardType Try.prog.depth 125 = false := by kernel_rfl
theorem Zbm : Try.prog.eqGuardType Try.prog.depth 69 = false := by kernel_rfl
theorem Z9q : Z00 Try.prog 144 0 = some 0 := by kernel_rfl
theorem Z4I : Z00 Try.prog 148 0 = some 0 := by kernel_rfl
theorem Z3c : Z00 Try.prog 148 1 = some 3 := by kernel_rfl
theorem Z0o : Z00 Try.prog 69 0 = some 0 := by kernel_rfl
theorem Z0w : Z00 Try.prog 69 1 = some 1 := by kernel_rfl
theorem ZcB : ZU Try.prog 148 = some [(0, 3), (3, 3)] := by kernel_rfl
theorem Z4N : ZU Try.prog 69 = some [(0, 1), (1, 1)] := by kernel_rfl
theorem Z68 : Zy Try.prog 121 = some ([.int .i64 0, .int .i64 0, .int .i64 0, .int .i64 0, .int .i64 0]) := by kernel_rfl
theorem Z1J : Zy Try.prog 125 = some ([.int .i64 0, .int .i64 0, .int .i64 0, .int .i64 0, .int .i64 0, .int .i64 0, .int .i64 0, .int .i64 0]) := by kernel_rfl
theorem ZbG : Zy Try.prog 148 = some ([.int .i64 0, .int .i64 0, .slice none 0 0, .int .i64 0, .int .i64 0, .slice none 0 0]) := by kernel_rfl
theorem Z1G : Zy Try.prog 69 = some ([.int .i64 0, .int .i64 0]) := by kernel_rfl
theorem Z7w {b : Box} (hb : b.length = 8) {k : Nat} (hk : k < 4) : (Zc b).drop (0 + ((k : Nat) : Int).toNat * 2) = [.int .i64 (bl b k), .int .i64 (bh b k)] ++ (Zc b).drop (2 * k + 2) := by
  obtain ⟨a0, a1, a2, a3, a4, a5, a6, a7, rfl⟩ := Z3t hb
  rcases lt4 hk with rfl | rfl | rfl | rfl <;> rfl
theorem Z2i {b : Box} (hb : b.length = 8) {k : Nat} (hk : k < 4) (s : Int × Int) : (Zc (Z13 b k s)).drop (0 + ((k : Nat) : Int).toNat * 2) = [.int .i64 s.1, .int .i64 s.2] ++ (Zc b).drop (2 * k + 2) := by
  obtain ⟨a0, a1, a2, a3, a4, a5, a6, a7, rfl⟩ := Z3t hb
  rcases lt4 hk with rfl | rfl | rfl | rfl <;> rfl
theorem Z4G {b : Box} (hb : b.length = 8) {k : Nat} (hk : k < 4) (x y : Int) : spl (Zc b) (0 + ((k : Nat) : Int).toNat * 2) [.int .i64 x, .int .i64 y] = Zc (Z13 b k (x, y)) := by
  obtain ⟨a0, a1, a2, a3, a4, a5, a6, a7, rfl⟩ := Z3t hb
  rcases lt4 hk with rfl | rfl | rfl | rfl <;> rfl
theorem Z6S {b : Box} (hb : b.length = 8) {k : Nat} (hk : k < 4) (s t : Int × Int) : Z13 (Z13 b k s) k t = Z13 b k t := by
  obtain ⟨a0, a1, a2, a3, a4, a5, a6, a7, rfl⟩ := Z3t hb
  rcases lt4 hk with rfl | rfl | rfl | rfl <;> rfl
theorem Z7Z {b : Box} (hb : b.length = 8) {k : Nat} (hk : k < 4) : (b.drop (k * 2)).take 2 = [bl b k, bh b k] := by
  obtain ⟨a0, a1, a2, a3, a4, a5, a6, a7, rfl⟩ := Z3t hb
  rcases lt4 hk with rfl | rfl | rfl | rfl <;> rfl
theorem Z77 {h : Hnd} {k : Nat} (hk : k < 4) : (Z0K h)[0 + 1 + ((k : Nat) : Int).toNat * 1]? = some (.int .i64 (nn h.gs k)) := by
  rcases lt4 hk with rfl | rfl | rfl | rfl <;> rfl
theorem mix_at {m : List Int} (hm : m.length = 4) {k : Nat} (hk : k < 4) : (Zc m)[0 + ((k : Nat) : Int).toNat * 1]? = some (.int .i64 (nn m k)) := by
  obtain ⟨a, b, c, d, rfl⟩ := Z3N hm
  rcases lt4 hk with rfl | rfl | rfl | rfl <;> rfl
theorem Z3H {m : List Int} (hm : m.length = 4) {k : Nat} (hk : k < 4) (v : Int) : spl (Zc m) (0 + ((k : Nat) : Int).toNat * 1) [.int .i64 v] = Zc (m.set k v) := by
  obtain ⟨a, b, c, d, rfl⟩ := Z3N hm
  rcases lt4 hk with rfl | rfl | rfl | rfl <;> rfl
theorem Z4w {m n : Int} (hm : -1000000 ≤ m ∧ m ≤ 1000000) (hn : 1 ≤ n) : IntKind.i64.wrap (m.tdiv n) = m.tdiv n := by
  have h : -1000000 ≤ m.tdiv n ∧ m.tdiv n ≤ 1000000 := by
    by_cases h0 : 0 ≤ m
    · rw [Int.tdiv_eq_ediv_of_nonneg h0]
      have := Int.ediv_le_self (a := m) n h0
      have := Int.ediv_nonneg h0 (show 0 ≤ n by omega)
      omega
    · have h4 : m.tdiv n = -((-m).tdiv n) := by rw [Int.neg_tdiv]; omega
      have h5 : 0 ≤ (-m).tdiv n := Int.tdiv_nonneg (by omega) (by omega)
      have h6 : (-m).tdiv n ≤ -m := by rw [Int.tdiv_eq_ediv_of_nonneg (by omega)]; exact Int.ediv_le_self n (by omega)
      omega
  exact Z27 (by omega) (by omega)
def Z8u (miss : Int) (hs : List Hnd) (f : Nat → Bool) : Nat → Box
  | 0 => [0, 0, 0, 0, 0, 0, 0, 0]
  | k + 1 => Z13 (Z8u miss hs f k) k (Z1V miss hs f k)
theorem Z53 (miss : Int) (hs : List Hnd) (f : Nat → Bool) : ∀ k, (Z8u miss hs f k).length = 8
  | 0 => rfl
  | k + 1 => by unfold Z8u; rw [Z1h, Z53 miss hs f k]
theorem Z7z (miss : Int) (hs : List Hnd) (f : Nat → Bool) : Z8u miss hs f 4 = Z3M miss hs f := rfl
theorem Z6f {miss : Int} {hs : List Hnd} {f : Nat → Bool} {k n : Nat} {h : Hnd} (hh : hs[n]? = some h) (hf : f n = true) : ZV miss hs f k (n + 1) = met (ZV miss hs f k n).1 (ZV miss hs f k n).2 (Z7O miss h k).1 (Z7O miss h k).2 := by
  rw [ZV, hh]; simp only [hf, cond_true]
theorem Z5y {miss : Int} {hs : List Hnd} {f : Nat → Bool} {k n : Nat} {h : Hnd} (hh : hs[n]? = some h) (hf : f n = false) : ZV miss hs f k (n + 1) = ZV miss hs f k n := by
  rw [ZV, hh]; simp only [hf, cond_false]
def Z2l (f : Nat → Int) (k : Nat) : Nat → Int
  | 0 => 0
  | j + 1 => Z2l f k j + bif j == k then 0 else f j
theorem Z5Y (f : Nat → Int) {k : Nat} (hk : k < 4) : Z2l f k 4 = oth f k := by
  rcases lt4 hk with rfl | rfl | rfl | rfl <;> simp [Z2l, oth]
theorem Z6x {b : Box} (hb : Bok b) (k : Nat) : ∀ j, j ≤ 4 → (0 ≤ Z2l (bl b) k j ∧ Z2l (bl b) k j ≤ 40 * j) ∧ (0 ≤ Z2l (bh b) k j ∧ Z2l (bh b) k j ≤ 40 * j)
  | 0, _ => by simp [Z2l]
  | j + 1, hj => by
    have ih := Z6x hb k j (by omega)
    have h := hb.at_ j (by omega)
    unfold Z2l
    cases j == k <;> simp only [cond_true, cond_false] <;> omega
theorem Z6b {b : Box} {k : Nat} : ∀ {j : Nat}, Z2G b k = none → k ≤ j → Z2G b j = none
  | 0, h, hj => by
    have : k = 0 := by omega
    subst this; exact h
  | j + 1, h, hj => by
    rcases Nat.lt_or_ge j k with h1 | h1
    · obtain rfl : k = j + 1 := by omega
      exact h
    · unfold Z2G; rw [Z6b h h1]
theorem Z0V (g : Gat) (ag : Option Addr) (cg : Nat) (hlg : g.grs.length ≤ 9223372036854775807) (c : Crt) (ah : Option Addr) (ch : Nat) (hlh : c.hs.length ≤ 9223372036854775807) (H : Z7) (R : Z4) [hG : MemRows ag 5 (grows g.grs) R] [hA : MemRows ah 5 (hrows c.hs) R] :
    Fn Try.prog 75 [g.v (g.sl ag cg), c.v (c.sl ah ch)] H R (fun v H' R' => H' = H ∧ ((Z0z g c ≠ 0 ∧ v = .tuple #[.pointer none, .int .i64 (Z0z g c)] ∧ R' = R) ∨ (g.ok ∧ c.ok ∧ Z0z g c = 0 ∧ ∃ bw, v = .tuple #[.pointer (some ⟨bw, 0, none⟩), .int .i64 0] ∧ R' = RowsA (some ⟨bw, 0, none⟩) 6 [Z7B g c (g.sl ag cg) (c.sl ah ch)] :: R))) := by
 refine Zb Try.func75 rfl Try.ntmps75 rfl ?_
 refine sqt 4 rfl (bx rfl rfl rfl (fun b2 => bx rfl rfl rfl (fun b3 => pur 2 rfl (Z0 (sqt 3 rfl (spL rfl rfl (lhA [_, _, _] Z5R rfl rfl rfl) rfl ?_))))))
 refine clV rfl ZbF rfl rfl (Z4p g ag cg hlg _ _) ?_
 refine pur 1 rfl (sqt 2 rfl (pur 2 rfl ?_))
 refine Z2 rfl ?_ ?_ <;> intro hc0
 have e : Z0z g c = g.check := by simp [Z0z, hc0]
 have hne : Z0z g c ≠ 0 := by rw [e]; simpa using hc0
 refine sqt 3 rfl (pur 3 rfl (Z1 ?_))
 first
   | (rw [h1] at e; refine Sy.heap (fun w h => St.rows (sz := 6) (rows := [Z7B g c (g.sl ag cg) (c.sl ah ch)]) (rest := []) h (by intro r hr; obtain rfl := List.mem_singleton.1 hr; rfl)) ?_; exact rtB rfl rfl rfl rfl ⟨rfl, .inr ⟨gat_ok.1 h0, crt_ok.1 h1, e, _, rfl, rfl⟩⟩ drp)
   | (rw [← e]; exact rtB rfl rfl rfl rfl ⟨rfl, .inl ⟨hne, rfl, rfl⟩⟩ drp)
 have h0 : g.check = 0 := by simpa using hc0
 have e : Z0z g c = c.check := by simp [Z0z, h0]
 refine Z5 (Z0 (sqt 3 rfl (spL rfl rfl (lhA [_, _, _] Z5D rfl rfl rfl) rfl ?_)))
 refine clV rfl Zcb rfl rfl (Z4D c ah ch hlh _ _) ?_
 refine pur 1 rfl (sqt 2 rfl (pur 2 rfl ?_))
 refine Z2 rfl ?_ ?_ <;> intro hc1
 have hne : Z0z g c ≠ 0 := by rw [e]; simpa using hc1
 refine sqt 3 rfl (pur 3 rfl (Z1 ?_))
 first
   | (rw [h1] at e; refine Sy.heap (fun w h => St.rows (sz := 6) (rows := [Z7B g c (g.sl ag cg) (c.sl ah ch)]) (rest := []) h (by intro r hr; obtain rfl := List.mem_singleton.1 hr; rfl)) ?_; exact rtB rfl rfl rfl rfl ⟨rfl, .inr ⟨gat_ok.1 h0, crt_ok.1 h1, e, _, rfl, rfl⟩⟩ drp)
   | (rw [← e]; exact rtB rfl rfl rfl rfl ⟨rfl, .inl ⟨hne, rfl, rfl⟩⟩ drp)
 have h1 : c.check = 0 := by simpa using hc1
 refine Z5 (sqt 6 rfl (spL rfl rfl (lhA [_, _, _] Z5D rfl rfl rfl) rfl (spL rfl rfl (lhA [_, _, _] Z5R rfl rfl rfl) rfl (sp rfl (PE.build (out := Z7B g c (g.sl ag cg) (c.sl ah ch)) ZcB ZbG rfl rfl) rfl (bx rfl rfl rfl (fun b21 => pur 2 rfl (Z1 ?_)))))))
 first
   | (rw [h1] at e; refine Sy.heap (fun w h => St.rows (sz := 6) (rows := [Z7B g c (g.sl ag cg) (c.sl ah ch)]) (rest := []) h (by intro r hr; obtain rfl := List.mem_singleton.1 hr; rfl)) ?_; exact rtB rfl rfl rfl rfl ⟨rfl, .inr ⟨gat_ok.1 h0, crt_ok.1 h1, e, _, rfl, rfl⟩⟩ drp)
   | (rw [← e]; exact rtB rfl rfl rfl rfl ⟨rfl, .inl ⟨hne, rfl, rfl⟩⟩ drp)
theorem Z9A (g : Gat) (hg : g.ok) (ag : Option Addr) (cg : Nat) (c : Crt) (hc : c.ok) (ah : Option Addr) (ch : Nat) (bw : Nat) (H : Z7) (R : Z4) [hW : MemRows (some ⟨bw, 0, none⟩) 6 [Z7B g c (g.sl ag cg) (c.sl ah ch)] R] [hG : MemRows ag 5 (grows g.grs) R] [hA : MemRows ah 5 (hrows c.hs) R] :
    FnV Try.prog 59 [.pointer (some ⟨bw, 0, none⟩)] H R (spv (max 0 (c.full - c.empty - 2 * g.err)) (max 0 (c.full - c.empty + 2 * g.err))) := by
 refine Zb Try.func59 rfl Try.ntmps59 rfl ?_
 refine sqt 1 rfl (alc rfl Z1G rfl (fun b2 => Z0 ?_))
 refine Z8 [0, 1, 3, 7, 15, 0, 32, 96, 224, 480, 1023, 2047] (tks 0 4 (.ld 4 (tks 5 4 (.ld 9 (.tk 10 (.tk 11 .done)))))) Zk (by kernel_rfl) ?_
 refine Za 1 rfl (tk rfl (PE.nilCheck rfl) rfl (tk rfl (PE.fA Z4I rfl) rfl (tk rfl (PE.fA Z4W rfl) rfl (ld rfl rfl (lfB (sz := 6) sc3 rfl) rfl (Za 1 rfl (tk rfl (PE.nilCheck rfl) rfl (tk rfl (PE.fA Z4I rfl) rfl (tk rfl (PE.fA Z56 rfl) rfl (ld rfl rfl (lfB (sz := 6) sc3 rfl) rfl (tk rfl (PE.sub rfl rfl (by have := hc.full; have := hc.empty; have := hg.err; omega)) rfl (Za 1 rfl (Z0 ?_))))))))))))
 refine Z8 [0, 0, 2, 6, 14, 30, 62, 127, 255, 511, 0, 0, 2048, 6144, 14336, 30720, 63488, 130048, 261120, 524287, 1048575, 2097151] (tks 0 5 (.ld 5 (.tk 6 (.tk 7 (tks 10 5 (.ld 15 (.tk 16 (.tk 17 (.any (.alt 8 (.any (.alt 9 (.big 18 (.big 19 (.tk 20 (.big 21 .done)))) (.alt 18 (.big 9 (.big 19 (.tk 20 (.big 21 .done)))) .stop))) (.alt 18 (.big 8 (.big 9 (.big 19 (.tk 20 (.big 21 .done))))) .stop))))))))))) Zk (by kernel_rfl) ?_
 refine Za 2 rfl (tk rfl (PE.nilCheck rfl) rfl (tk rfl (PE.fA Z3c rfl) rfl (tk rfl (PE.fA Z75 rfl) rfl (ld rfl rfl (lfB (sz := 6) sc3 rfl) rfl (tk rfl (PE.mul rfl rfl (by have := hc.full; have := hc.empty; have := hg.err; omega)) rfl (tk rfl (PE.sub rfl rfl (by have := hc.full; have := hc.empty; have := hg.err; omega)) rfl (Za 2 rfl (tk rfl (PE.nilCheck rfl) rfl (tk rfl (PE.fA Z3c rfl) rfl (tk rfl (PE.fA Z75 rfl) rfl (ld rfl rfl (lfB (sz := 6) sc3 rfl) rfl (tk rfl (PE.mul rfl rfl (by have := hc.full; have := hc.empty; have := hg.err; omega)) rfl (tk rfl (PE.add rfl rfl (by have := hc.full; have := hc.empty; have := hg.err; omega)) rfl ?_)))))))))))))
 refine Z12 ?_ ?_
 refine bsl (out := [_]) rfl Z2W zl3 rfl rfl rfl rfl rfl rfl (fun b23 => ?_)
 refine bg (fun w hs => ⟨(lfB (sz := 6) sc3 rfl) w hs, trivial, trivial⟩) ?_
 refine Z12 ?_ ?_
 refine clV rfl Z4F rfl rfl (Z0A _ b23 _ _) ?_
 refine bg (fun w hs => ⟨(lfB (sz := 6) sc3 rfl) w hs, trivial⟩) ?_
 refine bsl (out := [_]) rfl Z2W zl3 rfl rfl rfl rfl rfl rfl (fun b33 => ?_)
 refine bgT ?_
 refine clV rfl Z4F rfl rfl (Z0A _ b33 _ _) ?_
 refine bgT (tk rfl (PE.build (out := [_, _]) Z4N Z1G rfl rfl) rfl ?_)
 refine sto rfl rfl rfl Z29 rfl rfl rfl rfl ?_
 refine bgT (Z1 ?_)
 exact Z6 (vs := [_]) rfl (.cons (RV.cell rfl (lhA [_, _] Z3O rfl rfl rfl)) .nil) rfl ⟨rfl, rfl, rfl⟩ drp
 refine Z12 ?_ ?_
 refine bsl (out := [_]) rfl Z2W zl3 rfl rfl rfl rfl rfl rfl (fun b33 => ?_)
 refine bgT ?_
 refine clV rfl Z4F rfl rfl (Z0A _ b23 _ _) ?_
 refine bgT ?_
 refine clV rfl Z4F rfl rfl (Z0A _ b33 _ _) ?_
 refine bgT (tk rfl (PE.build (out := [_, _]) Z4N Z1G rfl rfl) rfl ?_)
 refine sto rfl rfl rfl Z29 rfl rfl rfl rfl ?_
 refine bgT (Z1 ?_)
 exact Z6 (vs := [_]) rfl (.cons (RV.cell rfl (lhA [_, _] Z3O rfl rfl rfl)) .nil) rfl ⟨rfl, rfl, rfl⟩ drp
 exact Z26
 refine Z12 ?_ ?_
 refine bsl (out := [_]) rfl Z2W zl3 rfl rfl rfl rfl rfl rfl (fun b33 => ?_)
 refine bg (fun w hs => ⟨trivial, (lfB (sz := 6) sc3 rfl) w hs, trivial⟩) ?_
 refine bsl (out := [_]) rfl Z2W zl3 rfl rfl rfl rfl rfl rfl (fun b23 => ?_)
 refine bgT ?_
 refine clV rfl Z4F rfl rfl (Z0A _ b23 _ _) ?_
 refine bgT ?_
 refine clV rfl Z4F rfl rfl (Z0A _ b33 _ _) ?_
 refine bgT (tk rfl (PE.build (out := [_, _]) Z4N Z1G rfl rfl) rfl ?_)
 refine sto rfl rfl rfl Z29 rfl rfl rfl rfl ?_
 refine bgT (Z1 ?_)
 exact Z6 (vs := [_]) rfl (.cons (RV.cell rfl (lhA [_, _] Z3O rfl rfl rfl)) .nil) rfl ⟨rfl, rfl, rfl⟩ drp
 exact Z26
theorem Za3 (g : Gat) (hg : g.ok) (ag : Option Addr) (cg : Nat) (c : Crt) (hc : c.ok) (ah : Option Addr) (ch : Nat) (bw : Nat) (h : Hnd) (hh : h.ok) (k : Nat) (hk : k < 4) (H : Z7) (R : Z4) [hW : MemRows (some ⟨bw, 0, none⟩) 6 [Z7B g c (g.sl ag cg) (c.sl ah ch)] R] [hG : MemRows ag 5 (grows g.grs) R] [hA : MemRows ah 5 (hrows c.hs) R] :
    FnV Try.prog 89 [.pointer (some ⟨bw, 0, none⟩), .agg (Z0K h).toArray, .int .i64 k] H R (spv (Z7O g.miss h k).1 (Z7O g.miss h k).2) := by
 have hm := hg.miss
 have ht := hh.tot
 have hgr := hh.at_ k hk
 have hab : ∀ x ∈ [h.a, h.b, h.c, h.d], -1000000 ≤ x ∧ x ≤ 1000000000000000 := fun x hx => by
   obtain ⟨a0, a1, a2, a3⟩ := Z4h hh.at_
   simp only [nn, Hnd.gs, List.getD_cons_zero, List.getD_cons_succ] at a0 a1 a2 a3
   simp only [List.mem_cons, List.not_mem_nil, or_false] at hx
   rcases hx with rfl | rfl | rfl | rfl <;> omega
 refine Zb Try.func89 rfl Try.ntmps89 rfl ?_
 refine sqt 2 rfl (bx rfl rfl rfl (fun b4 => alc rfl Z1G rfl (fun b6 => Z0 ?_)))
 refine Z8 [0, 1, 3, 0, 0, 24, 56, 7, 255] (.tk 0 (.ld 1 (tks 3 3 (.ld 6 (.big 2 (.tk 7 (.tk 8 .done))))))) Zk (by kernel_rfl) ?_
 refine tk rfl (PE.fA Z06 rfl) rfl (ld rfl rfl (lhA [.int .i64 h.a, .int .i64 h.b, .int .i64 h.c, .int .i64 h.d] Z4z rfl rfl rfl) rfl (Za 1 rfl (tk rfl (PE.fA Z06 rfl) rfl (tk rfl (PE.indexArr Z16 rfl rfl (by omega) (by omega)) rfl (ld rfl rfl (lh sc3 rfl (Z77 hk)) rfl ?_)))))
 refine clV rfl Z8y rfl rfl (Z6s h.a h.b h.c h.d hab _ _) ?_
 refine bg (fun w hs => ⟨(lh sc3 rfl (Z77 hk)) w hs, trivial, trivial⟩) ?_
 refine Za 2 rfl (Z0 ?_)
 refine Z8 [0, 0, 2, 6, 14, 30, 63, 127, 0, 0, 512, 1536, 3584, 7680, 16128, 32512, 255, 131071] (tks 0 5 (.ld 5 (tks 6 7 (.ld 13 (tks 14 4 .done))))) Zk (by kernel_rfl) ?_
 rw [show h.a + h.b + h.c + h.d = h.tot from rfl]
 refine Za 2 rfl (tk rfl (PE.nilCheck rfl) rfl (tk rfl (PE.fA Z3c rfl) rfl (tk rfl (PE.fA Z3Y rfl) rfl (ld rfl rfl (lfB (sz := 6) sc3 rfl) rfl (tk rfl (PE.sub rfl rfl (by omega)) rfl (tk rfl (PE.mul rfl rfl (by omega)) rfl (Za 2 rfl (tk rfl (PE.nilCheck rfl) rfl (tk rfl (PE.fA Z3c rfl) rfl (tk rfl (PE.fA Z3Y rfl) rfl (ld rfl rfl (lfB (sz := 6) sc3 rfl) rfl (tk rfl (PE.add rfl rfl (by omega)) rfl (tk rfl (PE.mul rfl rfl (by omega)) rfl (Za 2 rfl (Z0 ?_)))))))))))))))
 refine Z8 [0, 0, 3, 7, 0, 31, 63, 127, 0, 0, 768, 1792, 4095, 8191] (tks 0 6 (tks 8 4 (.big 6 (.big 7 (.tk 12 (.big 13 .done)))))) Zk (by kernel_rfl) ?_
 refine Za 2 rfl (tk rfl (PE.add rfl rfl (by omega)) rfl (tk rfl (PE.sub rfl rfl (by omega)) rfl (Za 1 rfl ?_)))
 refine tk rfl ((PE.quoW rfl rfl (by omega)).to (by rw [Z4w (by omega) (by omega)])) rfl ?_
 refine Za 2 rfl ?_
 refine tk rfl ((PE.quoW rfl rfl (by omega)).to (by rw [Z4w (by omega) (by omega)])) rfl ?_
 refine tk rfl (PE.min rfl rfl) rfl ?_
 refine bsl (out := [_]) rfl Z2W zl3 rfl rfl rfl rfl rfl rfl (fun b40 => ?_)
 refine bgT ?_
 refine clV rfl Z4F rfl rfl (Z0A _ b40 _ _) ?_
 refine bgT (tk rfl (PE.build (out := [_, _]) Z4N Z1G rfl rfl) rfl ?_)
 refine sto rfl rfl rfl Z29 rfl rfl rfl rfl ?_
 refine bgT (Z1 ?_)
 exact Z6 (vs := [_]) rfl (.cons (RV.cell rfl (lhA [_, _] Z3O rfl rfl rfl)) .nil) rfl ⟨rfl, rfl, rfl⟩ drp
theorem Zai (l h l2 h2 : Int) (H : Z7) (R : Z4) :
    FnV Try.prog 88 [spv l h, spv l2 h2] H R (spv (met l h l2 h2).1 (met l h l2 h2).2) := by
 refine Zb Try.func88 rfl Try.ntmps88 rfl ?_
 refine sqt 3 rfl (bx rfl rfl rfl (fun b2 => bx rfl rfl rfl (fun b3 => alc rfl Z1G rfl (fun b4 => sqt 13 rfl (sp rfl (PE.fA Z0o rfl) rfl (spL rfl rfl (lh sc3 rfl rfl) rfl (sp rfl (PE.fA Z0o rfl) rfl (spL rfl rfl (lh sc3 rfl rfl) rfl (sp rfl (PE.max rfl rfl) rfl (sp rfl (PE.fA Z0w rfl) rfl (spL rfl rfl (lh sc3 rfl rfl) rfl (sp rfl (PE.fA Z0w rfl) rfl (spL rfl rfl (lh sc3 rfl rfl) rfl (sp rfl (PE.min rfl rfl) rfl (sp rfl (PE.build (out := [_, _]) Z4N Z1G rfl rfl) rfl ?_)))))))))))))))
 refine alc rfl Z1G rfl (fun b5 => ?_)
 refine sto rfl rfl rfl Z29 rfl rfl rfl rfl ?_
 refine Z0 (sqt 5 rfl (sp rfl (PE.fA Z0o rfl) rfl (spL rfl rfl (lh sc3 rfl rfl) rfl (sp rfl (PE.fA Z0w rfl) rfl (spL rfl rfl (lh sc3 rfl rfl) rfl (pur 1 rfl ?_))))))
 refine Z2 rfl ?_ ?_ <;> intro hc0
 have e : met l h l2 h2 = (1, 0) := by unfold met; rw [dT (show min h h2 < max l l2 by simpa using hc0)]; rfl
 refine sqt 2 rfl (sp rfl (PE.build (out := [_, _]) Z4N Z1G rfl rfl) rfl ?_)
 refine sto rfl rfl rfl Z29 rfl rfl rfl rfl ?_
 refine Z1 ?_
 rw [e]
 exact Z6 (vs := [_]) rfl (.cons (RV.cell rfl (lhA [_, _] Z3O rfl rfl rfl)) .nil) rfl ⟨rfl, rfl, rfl⟩ drp
 have e : met l h l2 h2 = (max l l2, min h h2) := by unfold met; rw [dF (show ¬ min h h2 < max l l2 by simpa using hc0)]; rfl
 refine Z5 (sqt 2 rfl (spL rfl rfl (lhA [_, _] Z3O rfl rfl rfl) rfl ?_))
 refine sto rfl rfl rfl Z29 rfl rfl rfl rfl ?_
 refine Z1 ?_
 rw [e]
 exact Z6 (vs := [_]) rfl (.cons (RV.cell rfl (lhA [_, _] Z3O rfl rfl rfl)) .nil) rfl ⟨rfl, rfl, rfl⟩ drp
theorem Zbn (g : Gat) (hg : g.ok) (ag : Option Addr) (cg : Nat) (c : Crt) (hc : c.ok) (ah : Option Addr) (ch : Nat) (bw : Nat) (gf : Nat) (cap : List Value) (f : Nat → Bool) (hgf : cal Try.prog gf = true) (H : Z7) (R : Z4) [hW : MemRows (some ⟨bw, 0, none⟩) 6 [Z7B g c (g.sl ag cg) (c.sl ah ch)] R] [hG : MemRows ag 5 (grows g.grs) R] [hA : MemRows ah 5 (hrows c.hs) R] (hf : ∀ (G : Z7) (i : Nat), i < c.hs.length → FnV Try.prog gf ([.int .i64 i] ++ cap) (G ++ H) R (.bool (f i))) :
    FnV Try.prog 76 [.pointer (some ⟨bw, 0, none⟩), .agg #[.func (.func gf) #[] cap.toArray]] H R (bxv (Z3M g.miss c.hs f)) := by
 refine Zb Try.func76 rfl Try.ntmps76 rfl ?_
 refine sqt 2 rfl (bx rfl rfl rfl (fun b3 => alc rfl Z1J rfl (fun b4 => sqt 1 rfl (alc rfl Z1J rfl (fun b5 => Z0 (sqt 1 rfl (pur 1 rfl (Z3 ?_))))))))
 refine Zj (ι := {k : Nat // k ≤ 4}) (fun k => ⟨[(0, .pointer (some ⟨bw, 0, none⟩)), (3, .pointer (some ⟨b3, 0, none⟩)), (4, .pointer (some ⟨b4, 0, none⟩)), (5, .pointer (some ⟨b5, 0, none⟩)), (9, .int .i64 k.1)], (b5, cel 125 (Zc (Z8u g.miss c.hs f k.1))) :: (b4, cel 125 (Zc [0, 0, 0, 0, 0, 0, 0, 0])) :: (b3, cel 144 [.func (.func gf) #[] cap.toArray]) :: H, R⟩) (fun k => 4 - k.1) ⟨0, by omega⟩ ?_ (fun k => ?_)
 exact Zr idH
 obtain ⟨k, hk⟩ := k
 dsimp only at hk ⊢
 refine sqt 1 rfl (pur 1 rfl (Z0 ?_))
 refine Z2 rfl ?_ ?_ <;> intro hc0 <;> try simp only [cS] at hc0
 have hk4 : k < 4 := by omega
 have hbl := Z53 g.miss c.hs f k
 refine Z5 (Z0 (Z3 (sqt 2 rfl (pur 2 rfl (sqt 4 rfl (pur 1 rfl (sp rfl (PE.build (out := [_, _]) Z4N Z1G rfl rfl) rfl (sp rfl (PE.indexArr Z1e rfl rfl (by omega) (by omega)) rfl ?_))))))))
 refine Z1S (l' := Zc (Z13 (Z8u g.miss c.hs f k) k (0, 40))) rfl rfl rfl Z29 rfl rfl rfl (Z4G hbl hk4 0 40) (by rw [ints_length, hbl]; show 0 + ((k : Nat) : Int).toNat * 2 + 2 ≤ 8; omega) ?_
 refine sqt 7 rfl (pur 1 rfl (sp rfl (PE.nilCheck rfl) rfl (sp rfl (PE.fA Z4I rfl) rfl (sp rfl (PE.fA Z30 rfl) rfl (spL rfl rfl (lfB (sz := 6) Z96 rfl) rfl (sp rfl (PE.lenSl Z9r rfl) rfl (pur 1 rfl (Z3 ?_))))))))
 refine Zj (ι := {i : Nat // i ≤ c.hs.length}) (fun i => ⟨[(0, .pointer (some ⟨bw, 0, none⟩)), (3, .pointer (some ⟨b3, 0, none⟩)), (4, .pointer (some ⟨b4, 0, none⟩)), (5, .pointer (some ⟨b5, 0, none⟩)), (9, .int .i64 k), (6, .int .i64 k), (19, c.sl ah ch), (20, .int .i64 c.hs.length), (21, .int .i64 i.1)], (b5, cel 125 (Zc (Z13 (Z8u g.miss c.hs f k) k (ZV g.miss c.hs f k i.1)))) :: (b4, cel 125 (Zc [0, 0, 0, 0, 0, 0, 0, 0])) :: (b3, cel 144 [.func (.func gf) #[] cap.toArray]) :: H, R⟩) (fun i => c.hs.length - i.1) ⟨0, by omega⟩ ?_ (fun i => ?_)
 exact Zr idH
 obtain ⟨i, hi⟩ := i
 dsimp only at hi ⊢
 have hmany := hc.many
 refine sqt 1 rfl (pur 1 rfl (Z0 ?_))
 refine Z2 rfl ?_ ?_ <;> intro hc1 <;> try simp only [cS] at hc1
 obtain ⟨h, hh⟩ : ∃ h, c.hs[i]? = some h := ⟨_, List.getElem?_eq_getElem (by omega)⟩
 have hok := hc.hs h (List.mem_of_getElem? hh)
 refine ZE (a := ah) (sz := 5) (rows := hrows c.hs) (by intro h0; simp [hrows] at h0; simp [h0] at hh) (fun ba oa he => ?_)
 subst he
 refine Z5 (Z0 (Z3 (sqt 6 rfl (pur 1 rfl (sp rfl (PE.indexAddr ZcK rfl rfl (by omega) (by omega)) rfl (spL rfl rfl (lfA Z3T (row := Z0K h) (ZaP (by simpa using hh)) rfl) rfl (alc rfl Z68 rfl (fun b8 => pur 1 rfl ?_))))))))
 refine sto rfl rfl rfl Z7X rfl rfl rfl rfl ?_
 refine sqt 4 rfl (sp rfl (PE.fA Z9q rfl) rfl (spL rfl rfl (lh Zbb rfl rfl) rfl (pur 1 rfl ?_)))
 refine Z5C rfl rfl (hgf) rfl rfl (hf [_, _, _, _] i (by omega)) ?_
 refine Z2 rfl ?_ ?_ <;> intro hc2
 have hst := Z6f (miss := g.miss) (k := k) hh hc2
 refine Z8 [0, 0, 2, 6, 0, 0, 0, 112, 254, 511, 1023] (tks 0 3 (.ld 3 (.tk 4 (.ld 5 (.tk 6 (.big 7 (.big 8 (.tk 9 (.big 10 .done))))))))) Zk (by kernel_rfl) ?_
 refine Za 2 rfl (tk rfl (PE.indexArr Z1e rfl rfl (by omega) (by omega)) rfl (ld rfl rfl (lhA [.int .i64 (ZV g.miss c.hs f k i).1, .int .i64 (ZV g.miss c.hs f k i).2] Z3O rfl (Z2i hbl hk4 _) rfl) rfl (Za 1 rfl (ld rfl rfl (lhA [_, _, _, _, _] Z3T rfl rfl rfl) rfl (Za 1 rfl ?_)))))
 refine clV rfl Zcw rfl rfl (Za3 g hg ag cg c hc (some ⟨ba, oa, none⟩) ch bw h hok k hk4 _ _) ?_
 refine bg (fun w hs => ⟨trivial, (lhA [.int .i64 (ZV g.miss c.hs f k i).1, .int .i64 (ZV g.miss c.hs f k i).2] Z3O rfl (Z2i hbl hk4 _) rfl) w hs, trivial⟩) ?_
 refine clV rfl Zah rfl rfl (Zai _ _ _ _ _ _) ?_
 refine bgT (tk rfl (PE.indexArr Z1e rfl rfl (by omega) (by omega)) rfl ?_)
 rw [← hst]
 refine Z1S (l' := Zc (Z13 (Z8u g.miss c.hs f k) k (ZV g.miss c.hs f k (i + 1)))) rfl rfl rfl Z29 rfl rfl rfl (by show spl _ _ [.int .i64 _, .int .i64 _] = _; rw [Z4G (by rw [Z1h]; exact hbl) hk4, Z6S hbl hk4]) (by rw [ints_length, Z1h, hbl]; show 0 + ((k : Nat) : Int).toNat * 2 + 2 ≤ 8; omega) ?_
 refine bgT (sqr 2 rfl (sp rfl (PE.add rfl rfl (by omega)) rfl (pur 1 rfl ?_)))
 first
   | exact ZG ⟨i + 1, by omega⟩ (by dsimp only; omega) (fun w h => h.del b8)
   | exact ZG ⟨i + 1, by omega⟩ (by dsimp only; omega) (fun w h => by dsimp only; rw [hst]; exact h.del b8)
 have hst := Z5y (miss := g.miss) (k := k) hh hc2
 refine Z5 (sqr 2 rfl (sp rfl (PE.add rfl rfl (by omega)) rfl (pur 1 rfl ?_)))
 first
   | exact ZG ⟨i + 1, by omega⟩ (by dsimp only; omega) (fun w h => h.del b8)
   | exact ZG ⟨i + 1, by omega⟩ (by dsimp only; omega) (fun w h => by dsimp only; rw [hst]; exact h.del b8)
 obtain rfl : i = c.hs.length := by omega
 refine Zg (Zh (Zh (ZJ (sqr 2 rfl (sp rfl (PE.add rfl rfl (by omega)) rfl (pur 1 rfl ?_))))))
 exact ZC ⟨k + 1, by omega⟩ idH
 obtain rfl : k = 4 := by omega
 rw [Z7z]
 refine Zg (Zh (Zh (ZJ (sqt 2 rfl (spL rfl rfl (lhA [_, _, _, _, _, _, _, _] Z0v rfl rfl rfl) rfl ?_)))))
 refine sto rfl rfl rfl Z18 rfl rfl rfl rfl ?_
 refine Z1 ?_
 exact Z6 (vs := [_]) rfl (.cons (RV.cell rfl (lhA [_, _, _, _, _, _, _, _] Z0v rfl rfl rfl)) .nil) rfl ⟨rfl, rfl, rfl⟩ drp
theorem Z7F (b : Box) (hb : Bok b) (H : Z7) (R : Z4) :
    Fn Try.prog 78 [bxv b] H R (fun v H' R' => H' = H ∧ R' = R ∧ ∃ c, c.length = 8 ∧ v = .tuple #[bxv c, .bool (clo b).isSome] ∧ ((clo b).isSome = true → clo b = some c)) := by
 refine Zb Try.func78 rfl Try.ntmps78 rfl ?_
 refine sqt 3 rfl (bx rfl rfl rfl (fun b1 => alc rfl Z1J rfl (fun b2 => pur 1 rfl (sqt 3 rfl (sp rfl (PE.build (out := [_, _]) Z4N Z1G rfl rfl) rfl (alc rfl Z1G rfl (fun b4 => ?_)))))))
 refine sto rfl rfl rfl Z29 rfl rfl rfl rfl ?_
 refine Z3 ?_
 refine Zj (ι := {d : Box // Bok d ∧ ∀ r, CloseR d r → CloseR b r}) (fun d => ⟨[(1, .pointer (some ⟨b1, 0, none⟩)), (2, .pointer (some ⟨b2, 0, none⟩)), (4, .pointer (some ⟨b4, 0, none⟩))], (b1, cel 125 (Zc d.1)) :: (b4, cel 69 (Zc [1, 0])) :: (b2, cel 125 (Zc [0, 0, 0, 0, 0, 0, 0, 0])) :: H, R⟩) (fun d => wid d.1) ⟨b, hb, fun _ h => h⟩ ?_ (fun d => ?_)
 exact Zr (fun _ h => St.sub (((h.pull b2).pull b4).pull b1))
 obtain ⟨d, hd, hdr⟩ := d
 dsimp only at hd hdr ⊢
 refine Z3 (sqt 3 rfl (spL rfl rfl (lhA (Zc d) Z0v rfl (rest := []) (by simp) (by rw [ints_length]; exact hd.len)) rfl (alc rfl Z1J rfl (fun b5 => ?_))))
 refine Z2H rfl rfl rfl Z18 rfl (by rw [ints_length]; exact hd.len) rfl (Zq _) ?_
 refine Z0 (sqt 1 rfl (pur 1 rfl (Z3 ?_)))
 refine Zj (ι := {x : Nat × Box // x.1 ≤ 4 ∧ Z2G d x.1 = some x.2 ∧ Bok x.2}) (fun x => ⟨[(1, .pointer (some ⟨b1, 0, none⟩)), (2, .pointer (some ⟨b2, 0, none⟩)), (4, .pointer (some ⟨b4, 0, none⟩)), (5, .pointer (some ⟨b5, 0, none⟩)), (13, .int .i64 x.1.1)], (b5, cel 125 (Zc d)) :: (b1, cel 125 (Zc x.1.2)) :: (b4, cel 69 (Zc [1, 0])) :: (b2, cel 125 (Zc [0, 0, 0, 0, 0, 0, 0, 0])) :: H, R⟩) (fun x => 4 - x.1.1) ⟨(0, d), by omega, rfl, hd⟩ ?_ (fun x => ?_)
 exact Zr idH
 obtain ⟨⟨k, e⟩, hk, hr, he⟩ := x
 dsimp only at hk hr he ⊢
 refine sqt 1 rfl (pur 1 rfl (Z0 ?_))
 refine Z2 rfl ?_ ?_ <;> intro hc0 <;> try simp only [cS] at hc0
 have hk4 : k < 4 := by omega
 refine Z5 (Z0 (Z3 (sqt 2 rfl (pur 2 rfl (sqt 2 rfl (pur 2 rfl (Z0 (sqt 2 rfl (spL rfl rfl (lhA (Zc e) Z0v rfl (rest := []) (by simp) (by rw [ints_length]; exact he.len)) rfl (pur 1 rfl (Z3 ?_)))))))))))
 refine Zj (ι := {j : Nat // j ≤ 4}) (fun j => ⟨[(1, .pointer (some ⟨b1, 0, none⟩)), (2, .pointer (some ⟨b2, 0, none⟩)), (4, .pointer (some ⟨b4, 0, none⟩)), (5, .pointer (some ⟨b5, 0, none⟩)), (6, .int .i64 k), (7, .int .i64 (Z2l (bl e) k j.1)), (8, .int .i64 (Z2l (bh e) k j.1)), (13, .int .i64 k), (16, bxv e), (17, .int .i64 j.1)], (b5, cel 125 (Zc d)) :: (b1, cel 125 (Zc e)) :: (b4, cel 69 (Zc [1, 0])) :: (b2, cel 125 (Zc [0, 0, 0, 0, 0, 0, 0, 0])) :: H, R⟩) (fun j => 4 - j.1) ⟨0, by omega⟩ ?_ (fun j => ?_)
 exact Zr idH
 obtain ⟨j, hj⟩ := j
 dsimp only at hj ⊢
 have hob := Z6x he k j hj
 refine sqt 1 rfl (pur 1 rfl (Z0 ?_))
 refine Z2 rfl ?_ ?_ <;> intro hc1 <;> try simp only [cS] at hc1
 have hj4 : j < 4 := by omega
 have hej := he.at_ j hj4
 refine Z5 (Z0 (Z3 (sqt 5 rfl (pur 1 rfl ?_))))
 refine sp rfl ((PE.indexI (l := e) ZaV (Z0p 10000 69 true 2 Zb7) (by simp) rfl rfl hj4 (by rw [he.len]; omega)).to (by rw [Z7Z he.len hj4])) rfl ?_
 refine alc rfl Z1G rfl (fun b10 => pur 1 rfl ?_)
 refine sto rfl rfl rfl Z29 rfl rfl rfl rfl ?_
 refine sqt 3 rfl (pur 3 rfl ?_)
 refine Z2 rfl ?_ ?_ <;> intro hc2 <;> try simp only [cS] at hc2
 have e1 : Z2l (bl e) k (j + 1) = Z2l (bl e) k j + bl e j := by rw [Z2l, show (j == k) = false from by simp; omega]; rfl
 have e2 : Z2l (bh e) k (j + 1) = Z2l (bh e) k j + bh e j := by rw [Z2l, show (j == k) = false from by simp; omega]; rfl
 refine Z8 [0, 0, 2, 7, 0, 0, 32, 112, 15, 511] (.tk 0 (.tk 1 (.ld 2 (tks 3 3 (.ld 6 (tks 7 3 .done)))))) Zk (by kernel_rfl) ?_
 refine Za 1 rfl (tk rfl (PE.fA Z0o rfl) rfl (ld rfl rfl (lh sc3 rfl rfl) rfl (tk rfl (PE.add rfl rfl (by omega)) rfl (Za 1 rfl (tk rfl (PE.fA Z0w rfl) rfl (ld rfl rfl (lh sc3 rfl rfl) rfl (tk rfl (PE.add rfl rfl (by omega)) rfl (Za 2 rfl (sqr 2 rfl (sp rfl (PE.add rfl rfl (by omega)) rfl (pur 1 rfl ?_)))))))))))
 exact Zt ⟨j + 1, by omega⟩ (by dsimp only; omega) (by dsimp only; rw [e1, e2]; exact (by repeat' first | exact Sub.nil | apply Sub.cons | rfl | (simp [lk]; omega))) (fun w h => h.del b10)
 have e1 : Z2l (bl e) k (j + 1) = Z2l (bl e) k j := by rw [Z2l, show (j == k) = true from by simp; omega]; simp
 have e2 : Z2l (bh e) k (j + 1) = Z2l (bh e) k j := by rw [Z2l, show (j == k) = true from by simp; omega]; simp
 refine Z5 (sqr 2 rfl (sp rfl (PE.add rfl rfl (by omega)) rfl (pur 1 rfl ?_)))
 exact Zt ⟨j + 1, by omega⟩ (by dsimp only; omega) (by dsimp only; rw [e1, e2]; exact (by repeat' first | exact Sub.nil | apply Sub.cons | rfl | (simp [lk]; omega))) (fun w h => h.del b10)
 obtain rfl : j = 4 := by omega
 rw [Z5Y _ hk4, Z5Y _ hk4] at *
 refine Zg (Zh (Zh (ZJ (sqt 12 rfl (pur 2 rfl (sp rfl (PE.indexArr Z1e rfl rfl (by omega) (by omega)) rfl (spL rfl rfl (lhA [.int .i64 (bl e k), .int .i64 (bh e k)] Z3O rfl (Z7w he.len hk4) rfl) rfl (pur 1 rfl (sp rfl (PE.sub rfl rfl (by omega)) rfl (pur 1 rfl (sp rfl (PE.sub rfl rfl (by omega)) rfl (sp rfl (PE.build (out := [_, _]) Z4N Z1G rfl rfl) rfl ?_))))))))))))
 refine clV rfl Zah rfl rfl (Zai _ _ _ _ _ _) ?_
 refine sp rfl (PE.indexArr Z1e rfl rfl (by omega) (by omega)) rfl ?_
 refine Z1S (l' := Zc (Z13 e k (ZD e k))) rfl rfl rfl Z29 rfl rfl rfl (Z4G he.len hk4 _ _) (by rw [ints_length, he.len]; show 0 + ((k : Nat) : Int).toNat * 2 + 2 ≤ 8; omega) ?_
 have hbk : Bok (Z13 e k (ZD e k)) := he.set hk4
 refine Z0 ?_
 refine Z8 [0, 1, 3, 0, 15] (.tk 0 (.tk 1 (.ld 2 (.ld 3 (.tk 4 .done))))) Zk (by kernel_rfl) ?_
 refine Za 1 rfl (tk rfl (PE.indexArr Z1e rfl rfl (by omega) (by omega)) rfl (ld rfl rfl (lhA [.int .i64 (ZD e k).1, .int .i64 (ZD e k).2] Z3O rfl (Z2i he.len hk4 _) rfl) rfl (ld rfl rfl (lhA [_, _] Z3O rfl rfl rfl) rfl (tk rfl (PE.eqlAgg [(ZD e k).1, (ZD e k).2] [1, 0] (Z0p 10000 69 true 2 Zb7) Zbm rfl rfl rfl rfl) rfl ?_))))
 refine Z2 rfl ?_ ?_ <;> intro hc3
 have hs1 : ZD e k = (1, 0) := by simpa [Prod.ext_iff] using hc3
 have hrn : Z2G d 4 = none := Z6b (k := k + 1) (by unfold Z2G; rw [hr]; simp [hs1]) (by omega)
 have hcl := (hdr _ (.no hrn)).clo hb
 refine sqt 3 rfl (spL rfl rfl (lhA (Zc (Z13 e k (ZD e k))) Z0v rfl (rest := []) (by simp) (by rw [ints_length]; exact hbk.len)) rfl ?_)
 refine Z2H rfl rfl rfl Z18 rfl (by rw [ints_length]; exact hbk.len) rfl (Zq _) ?_
 refine pur 1 rfl (Z1 ?_)
 rw [hcl]
 first
   | exact Z6 (vs := [_, _]) rfl (.cons (RV.cell rfl (lhA (Zc e) Z0v rfl (rest := []) (by simp) (by rw [ints_length]; exact he.len))) (.cons (RV.tmp rfl) .nil)) rfl ⟨rfl, rfl, e, he.len, rfl, fun _ => rfl⟩ (fun w h => ((h.del b5).del b1).tail.tail)
   | exact Z6 (vs := [_, _]) rfl (.cons (RV.cell rfl (lhA (Zc (Z13 e k (ZD e k))) Z0v rfl (rest := []) (by simp) (by rw [ints_length]; exact hbk.len))) (.cons (RV.tmp rfl) .nil)) rfl ⟨rfl, rfl, Z13 e k (ZD e k), hbk.len, rfl, fun h => by cases h⟩ (fun w h => ((h.del b5).del b1).tail.tail)
 have hs1 : ZD e k ≠ (1, 0) := by simpa [Prod.ext_iff] using hc3
 have hrn : Z2G d (k + 1) = some (Z13 e k (ZD e k)) := by
   unfold Z2G
   rw [hr]
   show (bif ZD e k == (1, 0) then none else some (Z13 e k (ZD e k))) = _
   rw [show (ZD e k == (1, 0)) = false from by rw [beq_eq_false_iff_ne]; exact hs1]
   rfl
 refine Z5 (sqr 2 rfl (sp rfl (PE.add rfl rfl (by omega)) rfl (pur 1 rfl ?_)))
 exact ZC ⟨(k + 1, Z13 e k (ZD e k)), by omega, hrn, hbk⟩ idH
 obtain rfl : k = 4 := by omega
 refine Zg (Zh (Zh (ZJ (sqt 3 rfl (spL rfl rfl (lhA (Zc e) Z0v rfl (rest := []) (by simp) (by rw [ints_length]; exact he.len)) rfl (spL rfl rfl (lhA (Zc d) Z0v rfl (rest := []) (by simp) (by rw [ints_length]; exact hd.len)) rfl (sp rfl (PE.eqlAgg e d (Z0p 10000 125 true 8 Zaq) Zas rfl rfl he.len hd.len) rfl ?_)))))))
 refine Z2 rfl ?_ ?_ <;> intro hc4
 obtain rfl : e = d := by simpa using hc4
 have hcl := (hdr _ (.fix hr)).clo hb
 refine sqt 3 rfl (spL rfl rfl (lhA (Zc e) Z0v rfl (rest := []) (by simp) (by rw [ints_length]; exact he.len)) rfl ?_)
 refine Z2H rfl rfl rfl Z18 rfl (by rw [ints_length]; exact he.len) rfl (Zq _) ?_
 refine pur 1 rfl (Z1 ?_)
 rw [hcl]
 first
   | exact Z6 (vs := [_, _]) rfl (.cons (RV.cell rfl (lhA (Zc e) Z0v rfl (rest := []) (by simp) (by rw [ints_length]; exact he.len))) (.cons (RV.tmp rfl) .nil)) rfl ⟨rfl, rfl, e, he.len, rfl, fun _ => rfl⟩ (fun w h => ((h.del b5).del b1).tail.tail)
   | exact Z6 (vs := [_, _]) rfl (.cons (RV.cell rfl (lhA (Zc (Z13 e k (ZD e k))) Z0v rfl (rest := []) (by simp) (by rw [ints_length]; exact hbk.len))) (.cons (RV.tmp rfl) .nil)) rfl ⟨rfl, rfl, Z13 e k (ZD e k), hbk.len, rfl, fun h => by cases h⟩ (fun w h => ((h.del b5).del b1).tail.tail)
 have hne : e ≠ d := by simpa using hc4
 refine Z5 ?_
 exact ZG ⟨e, he, fun r h => hdr r (.go hr hne h)⟩ (Z6V hd hr hne) (fun w h => h.del b5)
theorem Zby : Z2x Try.prog 144 = some 1 := by kernel_rfl
theorem Zce : cal Try.prog 75 = true := by kernel_rfl
theorem Zc6 : cal Try.prog 76 = true := by kernel_rfl
theorem Zc7 : cal Try.prog 77 = true := by kernel_rfl
theorem Zck : cal Try.prog 78 = true := by kernel_rfl
theorem Zcf : cal Try.prog 90 = true := by kernel_rfl
theorem Zcj : ZK Try.prog 144 = some 1 := by kernel_rfl
theorem ZbE : ZU Try.prog 144 = some [(0, 1)] := by kernel_rfl
theorem Zae : Zy Try.prog 144 = some ([.nilFunc]) := by kernel_rfl
theorem Z11 {l : List Int} {i j : Nat} {v : Int} (h : i < l.length) : nn (l.set i v) j = bif i == j then v else nn l j := by
  unfold nn
  simp only [List.getD_eq_getElem?_getD, List.getElem?_set]
  by_cases hij : i = j
  · subst hij; simp [h]
  · have : (i == j) = false := by simpa using hij
    simp [hij, this]
theorem Z1I {l : List Int} (h : l.length = 4) {i : Nat} (hi : i < 4) (v : Int) : Z1X (l.set i v) = Z1X l + v - nn l i := by
  obtain ⟨a, b, c, d, rfl⟩ := Z3N h
  rcases lt4 hi with rfl | rfl | rfl | rfl <;> simp [Z1X, nn] <;> omega
def Z09 (g : Gat) (c : Crt) (bad : Bool) : Int := bif decide (Z0z g c ≠ 0) then Z0z g c else bif bad then 1 else bif (clo (Z3M g.miss c.hs fun _ => true)).isNone then 7 else 0
def zbx : Box := [0, 0, 0, 0, 0, 0, 0, 0]
theorem ZbH (H : Z7) (R : Z4) :
    FnV Try.prog 77 [] H R (.agg #[.func (.func 90) #[] #[]]) := by
 refine Zb Try.func77 rfl Try.ntmps77 rfl ?_
 refine sqt 1 rfl (alc rfl Zae rfl (fun b0 => sqt 2 rfl (sp rfl (PE.build (out := [_]) ZbE Zae rfl rfl) rfl ?_)))
 refine sto rfl rfl rfl Zcj rfl rfl rfl rfl ?_
 refine Z1 ?_
 exact Z6 (vs := [_]) rfl (.cons (RV.cell rfl (lhA [_] Zby rfl rfl rfl)) .nil) rfl ⟨rfl, rfl, rfl⟩ drp
theorem ZaO (i : Int) (H : Z7) (R : Z4) :
    FnV Try.prog 90 [.int .i64 i] H R (.bool true) := by
 refine Zb Try.func90 rfl Try.ntmps90 rfl ?_
 refine sqt 1 rfl (pur 1 rfl (sqt 1 rfl (pur 1 rfl (Z1 ?_))))
 exact rtA rfl rfl rfl ⟨rfl, rfl, rfl⟩ drp
theorem Z7o (g : Gat) (ag : Option Addr) (cg : Nat) (hlg : g.grs.length ≤ 9223372036854775807) (c : Crt) (ah : Option Addr) (ch : Nat) (hlh : c.hs.length ≤ 9223372036854775807) (bad : Bool) (H : Z7) (R : Z4) [hG : MemRows ag 5 (grows g.grs) R] [hA : MemRows ah 5 (hrows c.hs) R] :
    Fn Try.prog 57 [g.v (g.sl ag cg), c.v (c.sl ah ch), .bool bad] H R (fun v H' R' => H' = H ∧ ((Z09 g c bad ≠ 0 ∧ v = .tuple #[.pointer none, bxv zbx, .int .i64 (Z09 g c bad)] ∧ R' = R) ∨ (Z09 g c bad = 0 ∧ g.ok ∧ c.ok ∧ ∃ bw b, clo (Z3M g.miss c.hs fun _ => true) = some b ∧ v = .tuple #[.pointer (some ⟨bw, 0, none⟩), bxv b, .int .i64 0] ∧ R' = RowsA (some ⟨bw, 0, none⟩) 6 [Z7B g c (g.sl ag cg) (c.sl ah ch)] :: R))) := by
 refine Zb Try.func57 rfl Try.ntmps57 rfl ?_
 refine sqt 5 rfl (bx rfl rfl rfl (fun b3 => bx rfl rfl rfl (fun b4 => pur 1 rfl (alc rfl Z1J rfl (fun b7 => pur 1 rfl (sqt 8 rfl (spL rfl rfl (lhA [_, _, _] Z5R rfl rfl rfl) rfl (spL rfl rfl (lhA [_, _, _] Z5D rfl rfl rfl) rfl ?_))))))))
 refine cl rfl Zce rfl rfl (Z0V g ag cg hlg c ah ch hlh _ _) ?_
 rintro _ _ _ ⟨rfl, ho⟩
 rcases ho with ⟨hne, rfl, rfl⟩ | ⟨hg, hc, h0, bw, rfl, rfl⟩
 refine pur 5 rfl (Z0 (Z3 (sqt 3 rfl (pur 3 rfl ?_))))
 refine Z2 rfl ?_ ?_ <;> intro hc0
 have e : Z09 g c bad = Z0z g c := by simp [Z09, hne]
 refine sqt 5 rfl (sp rfl (PE.zero (.inr (by rw [Z1e]; rfl)) Z1J) rfl (pur 2 rfl ?_))
 refine sto rfl rfl rfl Z18 rfl rfl rfl rfl ?_
 refine pur 1 rfl (Z1 ?_)
 rw [← e]
 rw [← e] at hne
 exact Z6 (vs := [_, _, _]) rfl (.cons (RV.tmp rfl) (.cons (RV.cell rfl (lhA (Zc zbx) Z0v rfl rfl rfl)) (.cons (RV.tmp rfl) .nil))) rfl ⟨rfl, .inl ⟨hne, rfl, rfl⟩⟩ drp
 exact absurd hc0 (by simp [hne])
 refine pur 5 rfl (Z0 (Z3 (sqt 3 rfl (pur 3 rfl ?_))))
 refine Z2 rfl ?_ ?_ <;> intro hc0
 exact absurd hc0 (by simp)
 refine sqt 2 rfl (pur 2 rfl ?_)
 refine Z2 rfl ?_ ?_ <;> intro hc1
 have e : Z09 g c bad = 1 := by simp [Z09, h0, hc1]
 have hne : Z09 g c bad ≠ 0 := by omega
 refine sqt 4 rfl (sp rfl (PE.zero (.inr (by rw [Z1e]; rfl)) Z1J) rfl (pur 1 rfl ?_))
 refine sto rfl rfl rfl Z18 rfl rfl rfl rfl ?_
 refine pur 1 rfl (Z1 ?_)
 first
   | exact Z6 (vs := [_, _, _]) rfl (.cons (RV.tmp rfl) (.cons (RV.cell rfl (lhA (Zc b) Z0v rfl (rest := []) (by rw [List.append_nil]; rfl) (by rw [ints_length]; exact hbl))) (.cons (RV.tmp rfl) .nil))) rfl ⟨rfl, .inr ⟨e, hg, hc, bw, b, hb, rfl, rfl⟩⟩ drp
   | (rw [e] at *; exact Z6 (vs := [_, _, _]) rfl (.cons (RV.tmp rfl) (.cons (RV.cell rfl (lhA (Zc zbx) Z0v rfl rfl rfl)) (.cons (RV.tmp rfl) .nil))) rfl ⟨rfl, .inl ⟨hne, rfl, rfl⟩⟩ drp)
 subst hc1
 refine Z5 (sqt 10 rfl (pur 1 rfl ?_))
 refine clV rfl Zc7 rfl rfl (ZbH _ _) ?_
 refine clV rfl Zc6 rfl rfl (Zbn g hg ag cg c hc ah ch bw 90 [] (fun _ => true) Zcf _ _ (fun G i _ => ZaO i _ _)) ?_
 refine cl rfl Zck rfl rfl (Z7F (Z3M g.miss c.hs fun _ => true) (Z3K _ _ _) _ _) ?_
 rintro _ _ _ ⟨rfl, rfl, b, hbl, rfl, hcl⟩
 refine pur 3 rfl (alc rfl Z1J rfl (fun b11 => ?_))
 refine Z2H rfl rfl rfl Z18 rfl (by rw [ints_length]; exact hbl) rfl (Zq _) ?_
 refine pur 1 rfl (Z0 (sqt 2 rfl (pur 2 rfl ?_)))
 refine Z2 rfl ?_ ?_ <;> intro hc2
 have hn : clo (Z3M g.miss c.hs fun _ => true) = none := by simpa using hc2
 have e : Z09 g c false = 7 := by simp [Z09, h0, hn]
 have hne : Z09 g c false ≠ 0 := by omega
 refine sqt 4 rfl (sp rfl (PE.zero (.inr (by rw [Z1e]; rfl)) Z1J) rfl (pur 1 rfl ?_))
 refine sto rfl rfl rfl Z18 rfl rfl rfl rfl ?_
 refine pur 1 rfl (Z1 ?_)
 first
   | exact Z6 (vs := [_, _, _]) rfl (.cons (RV.tmp rfl) (.cons (RV.cell rfl (lhA (Zc b) Z0v rfl (rest := []) (by rw [List.append_nil]; rfl) (by rw [ints_length]; exact hbl))) (.cons (RV.tmp rfl) .nil))) rfl ⟨rfl, .inr ⟨e, hg, hc, bw, b, hb, rfl, rfl⟩⟩ drp
   | (rw [e] at *; exact Z6 (vs := [_, _, _]) rfl (.cons (RV.tmp rfl) (.cons (RV.cell rfl (lhA (Zc zbx) Z0v rfl rfl rfl)) (.cons (RV.tmp rfl) .nil))) rfl ⟨rfl, .inl ⟨hne, rfl, rfl⟩⟩ drp)
 have hs : (clo (Z3M g.miss c.hs fun _ => true)).isSome = true := by simpa using hc2
 have hb := hcl hs
 have e : Z09 g c false = 0 := by simp [Z09, h0, hb]
 refine Z5 (Z0 ?_)
 refine Z8 [0, 0, 1, 7, 15] (.tk 0 (.ld 1 (.tk 2 (.big 3 (.tk 4 .done))))) Zk (by kernel_rfl) ?_
 refine Za 1 rfl (ld rfl rfl (lhA (Zc b) Z0v rfl (rest := []) (by rw [List.append_nil]; rfl) (by rw [ints_length]; exact hbl)) rfl (Za 1 rfl ?_))
 refine Z2H rfl rfl rfl Z18 rfl (by rw [ints_length]; exact hbl) rfl (Zq _) ?_
 refine bgT (Za 1 rfl (Z1 ?_))
 first
   | exact Z6 (vs := [_, _, _]) rfl (.cons (RV.tmp rfl) (.cons (RV.cell rfl (lhA (Zc b) Z0v rfl (rest := []) (by rw [List.append_nil]; rfl) (by rw [ints_length]; exact hbl))) (.cons (RV.tmp rfl) .nil))) rfl ⟨rfl, .inr ⟨e, hg, hc, bw, b, hb, rfl, rfl⟩⟩ drp
   | (rw [e] at *; exact Z6 (vs := [_, _, _]) rfl (.cons (RV.tmp rfl) (.cons (RV.cell rfl (lhA (Zc zbx) Z0v rfl rfl rfl)) (.cons (RV.tmp rfl) .nil))) rfl ⟨rfl, .inl ⟨hne, rfl, rfl⟩⟩ drp)
def netP (g : Gat) (c : Crt) : Int × Int := (max 0 (c.full - c.empty - 2 * g.err), max 0 (c.full - c.empty + 2 * g.err))
def ZcW (g : Gat) (c : Crt) : Value := bif decide (Z0z g c ≠ 0) then .tuple #[spv 0 0, .int .i64 (Z0z g c)] else .tuple #[spv (netP g c).1 (netP g c).2, .int .i64 0]
def Zbf (g : Gat) (c : Crt) : Box := bif decide (Z09 g c false ≠ 0) then zbx else (clo (Z3M g.miss c.hs fun _ => true)).getD zbx
theorem Z1D {g : Gat} {c : Crt} {b : Box} (h : clo (Z3M g.miss c.hs fun _ => true) = some b) : Tight b := (Z5l (Z3K _ _ _) h).1
theorem Yd.ftail {P : Program} {l : Nat} {a : List Value} {H : Z7} {R : Z4} {f : World → Prop} {Q : Value → Z7 → Z4 → Prop} (h : Yd P l a H R Q) : Yd P l a H (f :: R) Q := fun w hs => h w hs.ftail
def mxv (b : Box) : Value := .agg (Zc (Zd0 b)).toArray
structure KOk (l : List Grd) (b : Box) (k : Nat) (kv : KV) : Prop where
  one : ∀ e ∈ kv, e.1.length = 1
  at_ : ∀ j : Int, kv.get [j] = bif decide (-1 ≤ j) && decide (j < (k : Int) - 1) then (Zci l b j).map mxv else none
theorem KOk.nil (l : List Grd) (b : Box) : KOk l b 0 [] := ⟨by simp, fun j => by
  have : (decide (-1 ≤ j) && decide (j < ((0 : Nat) : Int) - 1)) = false := by rw [← Bool.decide_and]; exact decide_eq_false (by omega)
  rw [this]; rfl⟩
theorem KOk.skip {l : List Grd} {b : Box} {k : Nat} {kv : KV} (h : KOk l b k kv) (hn : Zci l b ((k : Int) - 1) = none) : KOk l b (k + 1) kv := ⟨h.one, fun j => by
  rw [h.at_ j]
  by_cases hj : j = (k : Int) - 1
  · subst hj
    have e1 : (decide (-1 ≤ (k : Int) - 1) && decide ((k : Int) - 1 < (k : Int) - 1)) = false := by rw [← Bool.decide_and]; exact decide_eq_false (by omega)
    rw [e1, hn]; cases decide (-1 ≤ (k : Int) - 1) && decide ((k : Int) - 1 < ((k + 1 : Nat) : Int) - 1) <;> rfl
  · have e1 : (decide (-1 ≤ j) && decide (j < (k : Int) - 1)) = (decide (-1 ≤ j) && decide (j < ((k + 1 : Nat) : Int) - 1)) := by
      rw [← Bool.decide_and, ← Bool.decide_and]; exact decide_eq_decide.2 (by omega)
    rw [e1]⟩
theorem KOk.put {l : List Grd} {b x : Box} {k : Nat} {kv : KV} (h : KOk l b k kv) (hn : Zci l b ((k : Int) - 1) = some x) : KOk l b (k + 1) (kv.put [(k : Int) - 1] (mxv x)) := ⟨fun e he => by
  rcases KV.put_mem he with rfl | he
  · rfl
  · exact h.one e he, fun j => by
  rw [KV.get_put]
  by_cases hj : (k : Int) - 1 = j
  · subst hj
    have e1 : (decide (-1 ≤ (k : Int) - 1) && decide ((k : Int) - 1 < ((k + 1 : Nat) : Int) - 1)) = true := by rw [← Bool.decide_and]; exact decide_eq_true (by omega)
    rw [e1, hn]; simp
  · have e0 : decide (([(k : Int) - 1] : List Int) = [j]) = false := by simpa using hj
    have e1 : (decide (-1 ≤ j) && decide (j < (k : Int) - 1)) = (decide (-1 ≤ j) && decide (j < ((k + 1 : Nat) : Int) - 1)) := by
      rw [← Bool.decide_and, ← Bool.decide_and]; exact decide_eq_decide.2 (by omega)
    rw [e0, h.at_ j, e1]; rfl⟩
theorem Z9v : cal Try.prog 57 = true := by kernel_rfl
theorem Z9l : cal Try.prog 59 = true := by kernel_rfl
theorem Z5b {g : Gat} {c : Crt} {b : Box} (h0 : Z09 g c false = 0) (hb : clo (Z3M g.miss c.hs fun _ => true) = some b) : Zbf g c = b := by
  unfold Zbf; rw [decide_eq_false (by omega), hb]; rfl
theorem Z78 {g : Gat} {c : Crt} (hg : g.ok) (hc : c.ok) : (0 ≤ (netP g c).1 ∧ (netP g c).1 ≤ 10100) ∧ (0 ≤ (netP g c).2 ∧ (netP g c).2 ≤ 10100) := by
  have := hg.err; have := hc.full; have := hc.empty
  unfold netP; simp only; omega
theorem mul_b {a b A B : Int} (h1 : 0 ≤ a) (h2 : a ≤ A) (h3 : 0 ≤ b) (h4 : b ≤ B) : 0 ≤ a * b ∧ a * b ≤ A * B := by
  have e1 := Int.mul_nonneg h1 h3
  have e2 := Int.mul_le_mul h2 h4 h3 (by omega)
  exact ⟨e1, e2⟩
def Z88 (g : Gat) (c : Crt) (k : Int) : Value := bif decide (Z09 g c (!(inb k 0 3)) ≠ 0) then .tuple #[spv 0 0, .int .i64 (Z09 g c (!(inb k 0 3)))] else .tuple #[spv ((netP g c).1 * bl (Zbf g c) k.toNat / 40) ((netP g c).2 * bh (Zbf g c) k.toNat / 40), .int .i64 0]
theorem Z3n {g : Gat} {c : Crt} (h : Z09 g c true = 0) : False := by
  unfold Z09 at h
  cases hb : decide (Z0z g c ≠ 0) with
  | true => rw [hb] at h; simp only [cond_true] at h; have := of_decide_eq_true hb; omega
  | false => rw [hb] at h; cases h
theorem Z3g {b : Box} (hb : b.length = 8) {k : Nat} (hk : k < 4) : (Zc b)[0 + ((k : Nat) : Int).toNat * 2 + 0]? = some (.int .i64 (bl b k)) ∧ (Zc b)[0 + ((k : Nat) : Int).toNat * 2 + 1]? = some (.int .i64 (bh b k)) := by
  obtain ⟨a0, a1, a2, a3, a4, a5, a6, a7, rfl⟩ := Z3t hb
  rcases lt4 hk with rfl | rfl | rfl | rfl <;> exact ⟨rfl, rfl⟩
theorem c_Weight (g : Gat) (ag : Option Addr) (cg : Nat) (hlg : g.grs.length ≤ 9223372036854775807) (c : Crt) (ah : Option Addr) (ch : Nat) (hlh : c.hs.length ≤ 9223372036854775807) (k : Int) (H : Z7) (R : Z4) [hG : MemRows ag 5 (grows g.grs) R] [hA : MemRows ah 5 (hrows c.hs) R] :
    FnV Try.prog 24 [g.v (g.sl ag cg), c.v (c.sl ah ch), .int .i64 k] H R (Z88 g c k) := by
 refine Zb Try.func24 rfl Try.ntmps24 rfl ?_
 refine sqt 4 rfl (bx rfl rfl rfl (fun b3 => bx rfl rfl rfl (fun b4 => alc rfl Z1G rfl (fun b6 => pur 1 rfl (Z0 ?_)))))
 refine Z8 [0, 0, 0, 4, 12, 31, 63, 127, 127, 127, 0, 1279, 3583, 8191] (.ld 0 (.ld 1 (.tk 2 (.any (.alt 3 (.tk 4 (.any (.alt 5 (tks 6 4 (.big 10 (.tk 11 (.big 12 (.tk 13 .done))))) (.alt 10 (.big 5 (tks 6 4 (.tk 11 (.big 12 (.tk 13 .done))))) .stop)))) (.alt 10 (.big 3 (.tk 4 (.big 5 (tks 6 4 (.tk 11 (.big 12 (.tk 13 .done))))))) .stop)))))) Zk (by kernel_rfl) ?_
 refine ld rfl rfl (lhA [_, _, _] Z5R rfl rfl rfl) rfl (ld rfl rfl (lhA [_, _, _] Z5D rfl rfl rfl) rfl (Za 1 rfl ?_))
 refine Z12 ?_ ?_
 refine clV rfl Z2k rfl rfl (Z1B _ _ _ _ _) ?_
 refine bg (fun w hs => ⟨(lhA [_, _, _] Z5D rfl rfl rfl) w hs, (lhA [_, _, _] Z5R rfl rfl rfl) w hs, trivial⟩) ?_
 refine Za 1 rfl ?_
 refine Z12 ?_ ?_
 refine cl rfl Z9v rfl rfl (Z7o g ag cg hlg c ah ch hlh (!(inb k 0 3)) _ _) ?_
 rintro _ _ _ ⟨rfl, hT⟩
 rcases hT with ⟨hne, rfl, rfl⟩ | ⟨h0, hg, hc, bw, b, hb, rfl, rfl⟩
 refine bgT (Za 4 rfl (alc rfl Z1J rfl (fun b9 => bgT (Za 1 rfl ?_))))
 refine Z2H rfl rfl rfl Z18 rfl (by rw [ints_length]; exact rfl) rfl (Zq _) ?_
 refine bgT (Za 1 rfl (Z0 (sqt 2 rfl (pur 2 rfl ?_))))
 refine Z2 rfl ?_ ?_ <;> intro hc0
 refine sqt 4 rfl (sp rfl (PE.build (out := [_, _]) Z4N Z1G rfl rfl) rfl (pur 1 rfl ?_))
 refine sto rfl rfl rfl Z29 rfl rfl rfl rfl ?_
 refine pur 1 rfl (Z1 ?_)
 exact Z6 (vs := [_, _]) rfl (.cons (RV.cell rfl (lhA [_, _] Z3O rfl rfl rfl)) (.cons (RV.tmp rfl) .nil)) (by unfold Z88; rw [dT hne]; rfl) ⟨rfl, rfl, rfl⟩ drp
 exact absurd hc0 (by rw [dT hne]; simp)
 refine bgT ?_
 have hbt := Z1D hb
 have hbl := hbt.ok.len
 have hin : inb k 0 3 = true := by
   cases hin : inb k 0 3 with
   | true => rfl
   | false => rw [hin] at h0; exact (Z3n h0).elim
 have h00 : Z09 g c false = 0 := by rw [hin] at h0; exact h0
 have hbd := Z5b h00 hb
 simp only [inb, Bool.and_eq_true, decide_eq_true_eq] at hin
 obtain ⟨q, rfl⟩ : ∃ q : Nat, k = q := ⟨k.toNat, by omega⟩
 have hq4 : q < 4 := by omega
 obtain ⟨hn1, hn2⟩ := Z78 hg hc
 have hbq := hbt.ok.at_ q hq4
 have hbf := hbt.fit q hq4
 have hm1 := mul_b hn1.1 hn1.2 (show 0 ≤ bl b q by omega) (show bl b q ≤ 40 by omega)
 have hm2 := mul_b hn2.1 hn2.2 (show 0 ≤ bh b q by omega) (show bh b q ≤ 40 by omega)
 obtain ⟨hx1, hx2⟩ := Z3g hbl hq4
 simp only [netP] at hm1 hm2
 refine Za 4 rfl (alc rfl Z1J rfl (fun b9 => bgT (Za 1 rfl ?_)))
 refine Z2H rfl rfl rfl Z18 rfl (by rw [ints_length]; exact hbl) rfl (Zq _) ?_
 refine bgT (Za 1 rfl (Z0 (sqt 2 rfl (pur 2 rfl ?_))))
 refine Z2 rfl ?_ ?_ <;> intro hc0
 exact absurd hc0 (by simp)
 refine Z5 (sqt 4 rfl (pur 1 rfl ?_))
 refine clV rfl Z9l rfl rfl (Z9A g hg ag cg c hc ah ch bw _ _) ?_
 refine alc rfl Z1G rfl (fun b11 => ?_)
 refine sto rfl rfl rfl Z29 rfl rfl rfl rfl ?_
 refine Z0 ?_
 refine Z8 [0, 1, 0, 4, 12, 28, 63, 127, 0, 256, 0, 1024, 3072, 7168, 16128, 32512, 65535, 131071, 262143] (.tk 0 (.ld 1 (tks 2 3 (.ld 5 (tks 6 3 (.ld 9 (tks 10 3 (.ld 13 (tks 14 3 (.big 17 (.tk 18 .done))))))))))) Zk (by kernel_rfl) ?_
 refine tk rfl (PE.fA Z0o rfl) rfl (ld rfl rfl (lh sc3 rfl rfl) rfl (Za 1 rfl (tk rfl (PE.indexArr Z1e rfl rfl (by omega) (by omega)) rfl (tk rfl (PE.fA Z0o rfl) rfl (ld rfl rfl (lh sc3 rfl hx1) rfl (tk rfl (PE.mul rfl rfl (by omega)) rfl (tk rfl (PE.quo rfl rfl (by omega)) rfl (tk rfl (PE.fA Z0w rfl) rfl (ld rfl rfl (lh sc3 rfl rfl) rfl (Za 1 rfl (tk rfl (PE.indexArr Z1e rfl rfl (by omega) (by omega)) rfl (tk rfl (PE.fA Z0w rfl) rfl (ld rfl rfl (lh sc3 rfl hx2) rfl (tk rfl (PE.mul rfl rfl (by omega)) rfl (tk rfl (PE.quo rfl rfl (by omega)) rfl ?_)))))))))))))))
 refine tk rfl (PE.build (out := [_, _]) Z4N Z1G rfl rfl) rfl ?_
 refine sto rfl rfl rfl Z29 rfl rfl rfl rfl ?_
 refine bgT (Za 1 rfl (Z1 ?_))
 exact Z6 (vs := [_, _]) rfl (.cons (RV.cell rfl (lhA [_, _] Z3O rfl rfl rfl)) (.cons (RV.tmp rfl) .nil)) (by unfold Z88; rw [dF (by omega), hbd]; rfl) ⟨rfl, rfl, rfl⟩ drp
 refine Z12 ?_ ?_
 refine alc rfl Z1J rfl (fun b9 => ?_)
 refine bg (fun w hs => ⟨(lhA [_, _, _] Z5D rfl rfl rfl) w hs, (lhA [_, _, _] Z5R rfl rfl rfl) w hs, trivial⟩) ?_
 refine cl rfl Z9v rfl rfl (Z7o g ag cg hlg c ah ch hlh (!(inb k 0 3)) _ _) ?_
 rintro _ _ _ ⟨rfl, hT⟩
 rcases hT with ⟨hne, rfl, rfl⟩ | ⟨h0, hg, hc, bw, b, hb, rfl, rfl⟩
 refine bgT (Za 5 rfl ?_)
 refine Z2H rfl rfl rfl Z18 rfl (by rw [ints_length]; exact rfl) rfl (Zq _) ?_
 refine bgT (Za 1 rfl (Z0 (sqt 2 rfl (pur 2 rfl ?_))))
 refine Z2 rfl ?_ ?_ <;> intro hc0
 refine sqt 4 rfl (sp rfl (PE.build (out := [_, _]) Z4N Z1G rfl rfl) rfl (pur 1 rfl ?_))
 refine sto rfl rfl rfl Z29 rfl rfl rfl rfl ?_
 refine pur 1 rfl (Z1 ?_)
 exact Z6 (vs := [_, _]) rfl (.cons (RV.cell rfl (lhA [_, _] Z3O rfl rfl rfl)) (.cons (RV.tmp rfl) .nil)) (by unfold Z88; rw [dT hne]; rfl) ⟨rfl, rfl, rfl⟩ drp
 exact absurd hc0 (by rw [dT hne]; simp)
 refine bgT ?_
 have hbt := Z1D hb
 have hbl := hbt.ok.len
 have hin : inb k 0 3 = true := by
   cases hin : inb k 0 3 with
   | true => rfl
   | false => rw [hin] at h0; exact (Z3n h0).elim
 have h00 : Z09 g c false = 0 := by rw [hin] at h0; exact h0
 have hbd := Z5b h00 hb
 simp only [inb, Bool.and_eq_true, decide_eq_true_eq] at hin
 obtain ⟨q, rfl⟩ : ∃ q : Nat, k = q := ⟨k.toNat, by omega⟩
 have hq4 : q < 4 := by omega
 obtain ⟨hn1, hn2⟩ := Z78 hg hc
 have hbq := hbt.ok.at_ q hq4
 have hbf := hbt.fit q hq4
 have hm1 := mul_b hn1.1 hn1.2 (show 0 ≤ bl b q by omega) (show bl b q ≤ 40 by omega)
 have hm2 := mul_b hn2.1 hn2.2 (show 0 ≤ bh b q by omega) (show bh b q ≤ 40 by omega)
 obtain ⟨hx1, hx2⟩ := Z3g hbl hq4
 simp only [netP] at hm1 hm2
 refine Za 5 rfl ?_
 refine Z2H rfl rfl rfl Z18 rfl (by rw [ints_length]; exact hbl) rfl (Zq _) ?_
 refine bgT (Za 1 rfl (Z0 (sqt 2 rfl (pur 2 rfl ?_))))
 refine Z2 rfl ?_ ?_ <;> intro hc0
 exact absurd hc0 (by simp)
 refine Z5 (sqt 4 rfl (pur 1 rfl ?_))
 refine clV rfl Z9l rfl rfl (Z9A g hg ag cg c hc ah ch bw _ _) ?_
 refine alc rfl Z1G rfl (fun b11 => ?_)
 refine sto rfl rfl rfl Z29 rfl rfl rfl rfl ?_
 refine Z0 ?_
 refine Z8 [0, 1, 0, 4, 12, 28, 63, 127, 0, 256, 0, 1024, 3072, 7168, 16128, 32512, 65535, 131071, 262143] (.tk 0 (.ld 1 (tks 2 3 (.ld 5 (tks 6 3 (.ld 9 (tks 10 3 (.ld 13 (tks 14 3 (.big 17 (.tk 18 .done))))))))))) Zk (by kernel_rfl) ?_
 refine tk rfl (PE.fA Z0o rfl) rfl (ld rfl rfl (lh sc3 rfl rfl) rfl (Za 1 rfl (tk rfl (PE.indexArr Z1e rfl rfl (by omega) (by omega)) rfl (tk rfl (PE.fA Z0o rfl) rfl (ld rfl rfl (lh sc3 rfl hx1) rfl (tk rfl (PE.mul rfl rfl (by omega)) rfl (tk rfl (PE.quo rfl rfl (by omega)) rfl (tk rfl (PE.fA Z0w rfl) rfl (ld rfl rfl (lh sc3 rfl rfl) rfl (Za 1 rfl (tk rfl (PE.indexArr Z1e rfl rfl (by omega) (by omega)) rfl (tk rfl (PE.fA Z0w rfl) rfl (ld rfl rfl (lh sc3 rfl hx2) rfl (tk rfl (PE.mul rfl rfl (by omega)) rfl (tk rfl (PE.quo rfl rfl (by omega)) rfl ?_)))))))))))))))
 refine tk rfl (PE.build (out := [_, _]) Z4N Z1G rfl rfl) rfl ?_
 refine sto rfl rfl rfl Z29 rfl rfl rfl rfl ?_
 refine bgT (Za 1 rfl (Z1 ?_))
 exact Z6 (vs := [_, _]) rfl (.cons (RV.cell rfl (lhA [_, _] Z3O rfl rfl rfl)) (.cons (RV.tmp rfl) .nil)) (by unfold Z88; rw [dF (by omega), hbd]; rfl) ⟨rfl, rfl, rfl⟩ drp
 exact Z26
 refine Z12 ?_ ?_
 refine alc rfl Z1J rfl (fun b9 => ?_)
 refine bg (fun w hs => ⟨(lhA [_, _, _] Z5D rfl rfl rfl) w hs, (lhA [_, _, _] Z5R rfl rfl rfl) w hs, trivial⟩) ?_
 refine clV rfl Z2k rfl rfl (Z1B _ _ _ _ _) ?_
 refine bg (fun w hs => ⟨(lhA [_, _, _] Z5D rfl rfl rfl) w hs, (lhA [_, _, _] Z5R rfl rfl rfl) w hs, trivial⟩) ?_
 refine Za 1 rfl ?_
 refine cl rfl Z9v rfl rfl (Z7o g ag cg hlg c ah ch hlh (!(inb k 0 3)) _ _) ?_
 rintro _ _ _ ⟨rfl, hT⟩
 rcases hT with ⟨hne, rfl, rfl⟩ | ⟨h0, hg, hc, bw, b, hb, rfl, rfl⟩
 refine bgT (Za 5 rfl ?_)
 refine Z2H rfl rfl rfl Z18 rfl (by rw [ints_length]; exact rfl) rfl (Zq _) ?_
 refine bgT (Za 1 rfl (Z0 (sqt 2 rfl (pur 2 rfl ?_))))
 refine Z2 rfl ?_ ?_ <;> intro hc0
 refine sqt 4 rfl (sp rfl (PE.build (out := [_, _]) Z4N Z1G rfl rfl) rfl (pur 1 rfl ?_))
 refine sto rfl rfl rfl Z29 rfl rfl rfl rfl ?_
 refine pur 1 rfl (Z1 ?_)
 exact Z6 (vs := [_, _]) rfl (.cons (RV.cell rfl (lhA [_, _] Z3O rfl rfl rfl)) (.cons (RV.tmp rfl) .nil)) (by unfold Z88; rw [dT hne]; rfl) ⟨rfl, rfl, rfl⟩ drp
 exact absurd hc0 (by rw [dT hne]; simp)
 refine bgT ?_
 have hbt := Z1D hb
 have hbl := hbt.ok.len
 have hin : inb k 0 3 = true := by
   cases hin : inb k 0 3 with
   | true => rfl
   | false => rw [hin] at h0; exact (Z3n h0).elim
 have h00 : Z09 g c false = 0 := by rw [hin] at h0; exact h0
 have hbd := Z5b h00 hb
 simp only [inb, Bool.and_eq_true, decide_eq_true_eq] at hin
 obtain ⟨q, rfl⟩ : ∃ q : Nat, k = q := ⟨k.toNat, by omega⟩
 have hq4 : q < 4 := by omega
 obtain ⟨hn1, hn2⟩ := Z78 hg hc
 have hbq := hbt.ok.at_ q hq4
 have hbf := hbt.fit q hq4
 have hm1 := mul_b hn1.1 hn1.2 (show 0 ≤ bl b q by omega) (show bl b q ≤ 40 by omega)
 have hm2 := mul_b hn2.1 hn2.2 (show 0 ≤ bh b q by omega) (show bh b q ≤ 40 by omega)
 obtain ⟨hx1, hx2⟩ := Z3g hbl hq4
 simp only [netP] at hm1 hm2
 refine Za 5 rfl ?_
 refine Z2H rfl rfl rfl Z18 rfl (by rw [ints_length]; exact hbl) rfl (Zq _) ?_
 refine bgT (Za 1 rfl (Z0 (sqt 2 rfl (pur 2 rfl ?_))))
 refine Z2 rfl ?_ ?_ <;> intro hc0
 exact absurd hc0 (by simp)
 refine Z5 (sqt 4 rfl (pur 1 rfl ?_))
 refine clV rfl Z9l rfl rfl (Z9A g hg ag cg c hc ah ch bw _ _) ?_
 refine alc rfl Z1G rfl (fun b11 => ?_)
 refine sto rfl rfl rfl Z29 rfl rfl rfl rfl ?_
 refine Z0 ?_
 refine Z8 [0, 1, 0, 4, 12, 28, 63, 127, 0, 256, 0, 1024, 3072, 7168, 16128, 32512, 65535, 131071, 262143] (.tk 0 (.ld 1 (tks 2 3 (.ld 5 (tks 6 3 (.ld 9 (tks 10 3 (.ld 13 (tks 14 3 (.big 17 (.tk 18 .done))))))))))) Zk (by kernel_rfl) ?_
 refine tk rfl (PE.fA Z0o rfl) rfl (ld rfl rfl (lh sc3 rfl rfl) rfl (Za 1 rfl (tk rfl (PE.indexArr Z1e rfl rfl (by omega) (by omega)) rfl (tk rfl (PE.fA Z0o rfl) rfl (ld rfl rfl (lh sc3 rfl hx1) rfl (tk rfl (PE.mul rfl rfl (by omega)) rfl (tk rfl (PE.quo rfl rfl (by omega)) rfl (tk rfl (PE.fA Z0w rfl) rfl (ld rfl rfl (lh sc3 rfl rfl) rfl (Za 1 rfl (tk rfl (PE.indexArr Z1e rfl rfl (by omega) (by omega)) rfl (tk rfl (PE.fA Z0w rfl) rfl (ld rfl rfl (lh sc3 rfl hx2) rfl (tk rfl (PE.mul rfl rfl (by omega)) rfl (tk rfl (PE.quo rfl rfl (by omega)) rfl ?_)))))))))))))))
 refine tk rfl (PE.build (out := [_, _]) Z4N Z1G rfl rfl) rfl ?_
 refine sto rfl rfl rfl Z29 rfl rfl rfl rfl ?_
 refine bgT (Za 1 rfl (Z1 ?_))
 exact Z6 (vs := [_, _]) rfl (.cons (RV.cell rfl (lhA [_, _] Z3O rfl rfl rfl)) (.cons (RV.tmp rfl) .nil)) (by unfold Z88; rw [dF (by omega), hbd]; rfl) ⟨rfl, rfl, rfl⟩ drp
 exact Z26
end Go.Proofs.Ythhdgeibokecjaa.Gt
namespace Go.Proofs.Ythhdgeibokecjaa.Gt
set_option linter.unusedSimpArgs false
set_option linter.unusedVariables false
def g0 (n : Int) (m : Mix) (k : Nat) : Int := n * nn m k / 40
def Z1K (n : Int) (m : Mix) : Nat → List Int × Int
  | 0 => ([0, 0, 0, 0], n)
  | k + 1 => ((Z1K n m k).1.set k (g0 n m k), (Z1K n m k).2 - g0 n m k)
def Z4Y (n : Int) (m : Mix) (s : List Int × Int) (k : Nat) : Bool := decide (0 < s.2) && decide (0 < n * nn m k % 40)
def Z0i (n : Int) (m : Mix) : Nat → List Int × Int
  | 0 => Z1K n m 4
  | k + 1 => bif Z4Y n m (Z0i n m k) k then ((Z0i n m k).1.set k (nn (Z0i n m k).1 k + 1), (Z0i n m k).2 - 1) else Z0i n m k
theorem Zcd {n : Int} {m : Mix} (hm : Mxt m) : n * nn m 0 + n * nn m 1 + n * nn m 2 + n * nn m 3 = 40 * n := by
  have := hm.sum
  unfold Z1X at this
  rw [← Int.mul_add, ← Int.mul_add, ← Int.mul_add, this, Int.mul_comm]
theorem Z0H {n : Int} {m : Mix} (hm : Mxt m) (hn : 0 ≤ n ∧ n ≤ 200) {k : Nat} (hk : k < 4) : 0 ≤ n * nn m k ∧ n * nn m k ≤ 8000 ∧ n * nn m k ≤ 40 * n := by
  have h := hm.at_ k hk
  have h1 := Int.mul_nonneg hn.1 h.1
  have h2 := Int.mul_le_mul_of_nonneg_left h.2 hn.1
  omega
theorem Z4R {n : Int} {m : Mix} (hm : Mxt m) (hn : 0 ≤ n ∧ n ≤ 200) : ∀ k, k ≤ 4 → (Z1K n m k).1.length = 4 ∧ Z1X (Z1K n m k).1 + (Z1K n m k).2 = n ∧ (∀ j < k, nn (Z1K n m k).1 j = g0 n m j) ∧ (∀ j, k ≤ j → nn (Z1K n m k).1 j = 0) ∧ (Z1K n m k).2 ≤ n ∧ -1000 * k ≤ (Z1K n m k).2
  | 0, _ => ⟨rfl, by simp [Z1K, Z1X, nn], fun j hj => by omega, fun j _ => by
      show nn [0, 0, 0, 0] j = 0
      unfold nn
      match j with
      | 0 => rfl
      | 1 => rfl
      | 2 => rfl
      | 3 => rfl
      | j + 4 => rfl, Int.le_refl _, by show -1000 * ((0 : Nat) : Int) ≤ n; omega⟩
  | k + 1, hk => by
    obtain ⟨h1, h2, h3, h4, h5, h6⟩ := Z4R hm hn k (by omega)
    have hb := Z0H hm hn (k := k) (by omega)
    have hg : 0 ≤ g0 n m k ∧ g0 n m k ≤ 200 := by unfold g0; omega
    refine ⟨by simp [Z1K, h1], ?_, fun j hj => ?_, fun j hj => ?_, ?_, ?_⟩
    · show Z1X ((Z1K n m k).1.set k _) + ((Z1K n m k).2 - g0 n m k) = n
      rw [Z1I h1 (by omega), h4 k (Nat.le_refl _)]; omega
    · show nn ((Z1K n m k).1.set k _) j = _
      rw [Z11 (by omega)]
      by_cases hkj : k = j
      · subst hkj; simp
      · have : (k == j) = false := by simpa using hkj
        rw [this]; exact h3 j (by omega)
    · show nn ((Z1K n m k).1.set k _) j = _
      rw [Z11 (by omega)]
      have : (k == j) = false := by simp; omega
      rw [this]; exact h4 j (by omega)
    · show (Z1K n m k).2 - g0 n m k ≤ n; omega
    · show -1000 * ((k + 1 : Nat) : Int) ≤ (Z1K n m k).2 - g0 n m k; omega
def rst (n : Int) (m : Mix) (k : Nat) : Int := (bif decide (k ≤ 0) then n * nn m 0 % 40 else 0) + (bif decide (k ≤ 1) then n * nn m 1 % 40 else 0) + (bif decide (k ≤ 2) then n * nn m 2 % 40 else 0) + (bif decide (k ≤ 3) then n * nn m 3 % 40 else 0)
theorem Z7M {n : Int} {m : Mix} {k : Nat} (hk : k < 4) : rst n m k = n * nn m k % 40 + rst n m (k + 1) := by
  rcases lt4 hk with rfl | rfl | rfl | rfl <;> simp [rst] <;> omega
theorem Z9t (n : Int) (m : Mix) (k : Nat) : 0 ≤ rst n m k := by
  unfold rst
  cases decide (k ≤ 0) <;> cases decide (k ≤ 1) <;> cases decide (k ≤ 2) <;> cases decide (k ≤ 3) <;> simp only [cond_true, cond_false] <;> omega
structure TakP (n : Int) (m : Mix) (k : Nat) (s : List Int × Int) : Prop where
  len : s.1.length = 4
  sum : Z1X s.1 + s.2 = n
  lo : 0 ≤ s.2
  hi : 40 * s.2 ≤ rst n m k
  at_ : ∀ j < 4, g0 n m j ≤ nn s.1 j ∧ nn s.1 j ≤ g0 n m j + 1 ∧ (n * nn m j % 40 = 0 → nn s.1 j = g0 n m j)
  new : ∀ j < 4, k ≤ j → nn s.1 j = g0 n m j
theorem Z4l {n : Int} {m : Mix} (hm : Mxt m) (hn : 0 ≤ n ∧ n ≤ 200) : ∀ k, k ≤ 4 → TakP n m k (Z0i n m k)
  | 0, _ => by
    obtain ⟨h1, h2, h3, _, _, _⟩ := Z4R hm hn 4 (by omega)
    have hs := Zcd (n := n) hm
    have e : Z1X (Z1K n m 4).1 = n * nn m 0 / 40 + n * nn m 1 / 40 + n * nn m 2 / 40 + n * nn m 3 / 40 := by
      unfold Z1X
      rw [h3 0 (by omega), h3 1 (by omega), h3 2 (by omega), h3 3 (by omega)]; rfl
    refine ⟨h1, h2, ?_, ?_, fun j hj => ?_, fun j hj _ => h3 j hj⟩
    · show 0 ≤ (Z1K n m 4).2; omega
    · show 40 * (Z1K n m 4).2 ≤ _
      have : rst n m 0 = n * nn m 0 % 40 + n * nn m 1 % 40 + n * nn m 2 % 40 + n * nn m 3 % 40 := by simp [rst]
      rw [this]; omega
    · show _ ≤ nn (Z1K n m 4).1 j ∧ _
      rw [show (Z0i n m 0) = Z1K n m 4 from rfl, h3 j hj]; omega
  | k + 1, hk => by
    have ih := Z4l hm hn k (by omega)
    have hr := Z7M (n := n) (m := m) (k := k) (by omega)
    have hp := Z9t n m (k + 1)
    have hnew := ih.new k (by omega) (Nat.le_refl _)
    have hlo := ih.lo
    have hhi := ih.hi
    unfold Z0i
    cases hc : Z4Y n m (Z0i n m k) k with
    | true =>
      simp only [Z4Y, Bool.and_eq_true, decide_eq_true_eq] at hc
      simp only [cond_true]
      have hset : ∀ j, nn ((Z0i n m k).1.set k (nn (Z0i n m k).1 k + 1)) j = bif k == j then nn (Z0i n m k).1 k + 1 else nn (Z0i n m k).1 j := fun j => Z11 (by rw [ih.len]; omega)
      refine ⟨by simp [ih.len], ?_, by simp only; omega, by simp only; omega, fun j hj => ?_, fun j hj hkj => ?_⟩
      · have := ih.sum
        simp only
        rw [Z1I ih.len (by omega)]; omega
      · simp only
        rw [hset]
        by_cases hkj : k = j
        · subst hkj; simp only [beq_self_eq_true, cond_true]; omega
        · have : (k == j) = false := by simpa using hkj
          rw [this]; exact ih.at_ j hj
      · simp only
        rw [hset]
        have : (k == j) = false := by simp; omega
        rw [this]; exact ih.new j hj (by omega)
    | false =>
      simp only [cond_false]
      have h5 : ¬ (0 < (Z0i n m k).2 ∧ 0 < n * nn m k % 40) := fun h => by
        have : Z4Y n m (Z0i n m k) k = true := by simp [Z4Y, h.1, h.2]
        rw [this] at hc; cases hc
      exact ⟨ih.len, ih.sum, hlo, by omega, ih.at_, fun j hj hkj => ih.new j hj (by omega)⟩
theorem Z7f {n : Int} {m : Mix} (hm : Mxt m) (hn : 0 ≤ n ∧ n ≤ 200) : (Z0i n m 4).1.length = 4 ∧ Z1X (Z0i n m 4).1 = n ∧ ∀ j < 4, g0 n m j ≤ nn (Z0i n m 4).1 j ∧ nn (Z0i n m 4).1 j ≤ g0 n m j + 1 ∧ (n * nn m j % 40 = 0 → nn (Z0i n m 4).1 j = g0 n m j) := by
  have h := Z4l hm hn 4 (by omega)
  have h1 := h.hi
  have h2 := h.lo
  have h3 := h.sum
  have : rst n m 4 = 0 := by simp [rst]
  exact ⟨h.len, by omega, h.at_⟩
def tkM (l : List Int) (a b : Nat) (t : Int) : List Int := bif a == b then l else (l.set a (nn l a - t)).set b (nn l b + t)
theorem Z8t {l : List Int} (h : l.length = 4) {a b : Nat} (ha : a < 4) (hb : b < 4) (t : Int) : (tkM l a b t).length = 4 ∧ Z1X (tkM l a b t) = Z1X l ∧ ∀ j < 4, nn (tkM l a b t) j = nn l j ∨ (j = a ∧ nn (tkM l a b t) j = nn l a - t) ∨ (j = b ∧ nn (tkM l a b t) j = nn l b + t) := by
  unfold tkM
  by_cases hab : a = b
  · have : (a == b) = true := by simpa using hab
    rw [this]; exact ⟨h, rfl, fun j _ => .inl rfl⟩
  · have : (a == b) = false := by simpa using hab
    rw [this]
    simp only [cond_false]
    refine ⟨by simp [h], ?_, fun j hj => ?_⟩
    · rw [Z1I (by simp [h]) hb, Z1I h ha, Z11 (by omega), this]
      simp only [cond_false]; omega
    · rw [Z11 (by simp; omega), Z11 (by omega)]
      by_cases h1 : b = j
      · subst h1; simp
      · by_cases h2 : a = j
        · subst h2
          have : (b == a) = false := by simpa using h1
          simp [this]
        · have e1 : (b == j) = false := by simpa using h1
          have e2 : (a == j) = false := by simpa using h2
          simp [e1, e2]
theorem Z6Z {n miss t : Int} {m : Mix} {a b : Nat} {spot : Int} (hm : Mxt m) (hn : 10 ≤ n ∧ n ≤ 200) (hs : 0 ≤ spot ∧ spot ≤ 2) (hmi : 0 ≤ miss) (h0 : miss = 0 → ∃ j : Int, n = 40 * j) (ha : a < 4) (hb : b < 4) (ht : 0 ≤ t ∧ t ≤ nn (Z0i n m 4).1 a ∧ (t = 0 ∨ t < miss)) {x0 x1 x2 x3 : Int}
    (hx : tkM (Z0i n m 4).1 a b t = [x0, x1, x2, x3]) : Hnd.ok ⟨spot, x0, x1, x2, x3⟩ ∧ Z7t miss ⟨spot, x0, x1, x2, x3⟩ m = true := by
  obtain ⟨h1, h2, h3⟩ := Z7f hm (n := n) (by omega)
  obtain ⟨k1, k2, k3⟩ := Z8t h1 ha hb t
  rw [hx] at k2 k3
  have htot : Hnd.tot ⟨spot, x0, x1, x2, x3⟩ = n := by
    show Z1X [x0, x1, x2, x3] = n
    rw [k2, h2]
  have hgs : Hnd.gs ⟨spot, x0, x1, x2, x3⟩ = [x0, x1, x2, x3] := rfl
  have hz : ∀ k < 4, miss = 0 → n * nn m k % 40 = 0 := fun k _ h => by
    obtain ⟨j, rfl⟩ := h0 h
    rw [Int.mul_assoc]; omega
  have hall : ∀ k < 4, 0 ≤ nn [x0, x1, x2, x3] k ∧ (nn [x0, x1, x2, x3] k * 40 - n * nn m k ≤ 40 * miss ∧ n * nn m k - nn [x0, x1, x2, x3] k * 40 ≤ 40 * miss) := fun k hk => by
    have hb1 := Z0H hm (n := n) (by omega) hk
    have h4 := h3 k hk
    have h4a := h3 a ha
    have h4b := h3 b hb
    have hza := hz k hk
    unfold g0 at h4 h4a h4b
    have hb2 := Z0H hm (n := n) (by omega) ha
    have hb3 := Z0H hm (n := n) (by omega) hb
    rcases k3 k hk with h5 | ⟨rfl, h5⟩ | ⟨rfl, h5⟩ <;> omega
  have hsum : x0 + x1 + x2 + x3 = n := htot
  obtain ⟨p0, p1, p2, p3⟩ := Z4h hall
  simp only [nn, List.getD_cons_zero, List.getD_cons_succ] at p0 p1 p2 p3
  refine ⟨⟨hs, ?_, by rw [htot]; omega⟩, ?_⟩
  · rw [hgs]
    exact of4 ⟨by simp [nn]; omega, by simp [nn]; omega, by simp [nn]; omega, by simp [nn]; omega⟩
  · unfold Z7t
    rw [List.all_eq_true]
    intro k hk
    have hk := List.mem_range.1 hk
    have := (hall k hk).2
    simp only [Za1, htot, hgs, Bool.and_eq_true, decide_eq_true_eq]
    rw [Int.mul_comm (nn m k) n]
    omega
end Go.Proofs.Ythhdgeibokecjaa.Gt
