/- Walks of the functions of the program, and the laws that join them: what the last theorem of this claim needs, in order. -/
import Derived.Test.YtjoajfdnlomapaaGreatPt1
namespace Go.Proofs.YtjoajfdnlomapaaGreat
set_option linter.unusedSimpArgs false
set_option linter.unusedVariables false
open Go
section pe
variable {P : Program} {L : Zj} {d : Option Tmp} {ty : TypeId} {pos : String} {af : Array Edge} {g : Option (Nat × Bool)}
theorem Z7Y {P : Program} {T m n : Nat} (h : arN P T = some (m, n)) : ∃ e i, P.underlying T = some (.array m e) ∧ P.info? e = some i ∧ i.size = n := by
  unfold arN at h
  split at h
  · rename_i k e hu
    rw [Option.map_eq_some_iff] at h
    obtain ⟨i, hi, he⟩ := h
    cases he
    exact ⟨e, i, hu, hi, rfl⟩
  · cases h
theorem PE.slArr {T m n b off : Nat} {x : Operand} (hT : arN P T = some (m, n)) (hx : ev L x = some (.pointer (some ⟨b, off, none⟩))) :
    PE P L ⟨d, .slice T x none none none, ty, pos, af, g⟩ (.slice (some ⟨b, off, none⟩) m m) := fun ρ hρ w => by
  obtain ⟨e, i, hu, hi, rfl⟩ := Z7Y hT
  have ha : (⟨b, off, none⟩ : Addr).add (0 * i.size) = ⟨b, off, none⟩ := by rw [ZQ]; simp
  simp only [execOp, hρ _ _ hx, Option.map_none, Instr.sliceAt, Sem.run_bind, run_underlying hu, Result.andThen, Instr.sureAddr, Sem.run_pure, Instr.sliceBounds, sizeOf, typeInfo, program, hi, Sem.run]
  rw [ha]
  by_cases h : m = 0 <;> simp [h]
end pe
section steps
variable {P : Program} {r : Option Nat} {ops : Array Oper} {n : Nat} {L : Zj} {D : List Deferred} {H : Z7} {R : Z5} {K : Act → World → Prop}
  {i d : Nat} {ty : TypeId} {pos : String} {af : Array Edge}
theorem Z1v {P : Program} {T e s : Nat} (h : slE P T = some (e, s)) : ∃ i, P.underlying T = some (.slice e) ∧ P.info? e = some i ∧ i.size = s := by
  unfold slE at h
  split at h
  · rename_i e' hu
    rw [Option.map_eq_some_iff] at h
    obtain ⟨i, hi, he⟩ := h
    cases he
    exact ⟨i, hu, hi, rfl⟩
  · cases h
theorem Z3k {P : Program} {b e : Nat} {l vs : List Value} (h1 : vs.all (·.oneCell') = true) (hb : vs.length ≤ l.length) {w : World} (h : w.heap[b]? = some (cel e l)) :
    (storeCells ⟨b, 0, none⟩ vs).run P w = .ok () { w with heap := w.heap.setIfInBounds b (cel e (spl l 0 vs)) } := by
  have := run_storeCells_at (P := P) b 0 e vs 0 l.toArray w h (by simpa using hb) (fun x hx => List.all_eq_true.1 h1 x hx)
  rw [Z0p h] at this
  simpa [spl] using this
theorem cpy {T T2 e s : Nat} {x y : Operand} {b bs os dl dc sl sc e2 : Nat} {l : List Value} (cs : List Value) {H' : Z7}
    (ho : ops[i]? = some ⟨some d, .call { callee := .builtin .copy, args := #[x, y], argTypes := #[T, T2] }, ty, pos, af, none⟩) (hT : slE P T = some (e, s))
    (hx : ev L x = some (.slice (some ⟨b, 0, none⟩) dl dc)) (hy : ev L y = some (.slice (some ⟨bs, os, none⟩) sl sc)) (hn : cs.length = Nat.min sl dl * s)
    (hsrc : ∀ w, St H R w → ∀ j v, cs[j]? = some v → w.cell? ⟨bs, os + j, none⟩ = some v) (h1 : cs.all (·.oneCell') = true) (hb : cs.length ≤ l.length) (hd : Nat.blt d n = true)
    [m : Mem1 b (cel e2 l) H] [rp : Rep [(b, cel e2 l)] [(b, cel e2 (spl l 0 cs))] H H']
    (h : Sy n ((d, .int .i64 (Nat.min sl dl : Nat)) :: L) D H' R K) : Sy n L D H R (stp P r ops i K) := fun a w ha hD hs => by
  obtain ⟨ie, hu, hi, rfl⟩ := Z1v hT
  have hl := run_loadCells_list (P := P) w ⟨bs, os, none⟩ cs (fun j v hj => by rw [ZQ]; exact hsrc w hs j v hj)
  have hst := Z3k (P := P) (e := e2) h1 hb (hs.held _ m.mem)
  refine Zs ho (Ze _ rfl _) (v := .int .i64 (Nat.min sl dl : Nat)) (w' := { w with heap := w.heap.setIfInBounds b (cel e2 (spl l 0 cs)) }) ?_
    (h _ _ (ha.put (by simpa using hd) _) hD (hs.rep (F := [(b, cel e2 l)]) (F' := [(b, cel e2 (spl l 0 cs))]) fun T hT => St.set hT))
  simp only [execOp, resolve, invoke, builtin, Sem.run_bind, Sem.run_pure, Result.andThen, List.map_toArray, List.map_cons, List.map_nil, ha.reads _ _ hx, ha.reads _ _ hy]
  have e1 : (Builtin.copy_ #[T, T2] ty #[.slice (some ⟨b, 0, none⟩) dl dc, .slice (some ⟨bs, os, none⟩) sl sc]).run P w = .ok (goInt (Nat.min sl dl : Nat)) { w with heap := w.heap.setIfInBounds b (cel e2 (spl l 0 cs)) } := by
    simp [Builtin.copy_, run_underlying hu, Builtin.lenOf, Builtin.firstCells, sizeOf, typeInfo, hi, ← hn, hl, hst]
  rw [e1]
  rfl
end steps
def Z9e (b : Nat) (o : Obj) (R : Z5) : World → Prop := fun w => w.heap[b]? = some o ∧ ∀ f ∈ R, ∀ w', Keep [b] w w' → f w'
theorem St.lend {b : Nat} {o : Obj} {T : Z7} {R : Z5} {w : World} (h : St ((b, o) :: T) R w) : St T (Z9e b o R :: R) w where
  nd := (List.nodup_cons.1 h.nd).2
  held p hp := h.held p (by simp [hp])
  fact f hf w' k := by
    have hb : b ∉ ids T := (List.nodup_cons.1 h.nd).1
    have hlt : b < w.heap.size := h.lt (by simp)
    rcases List.mem_cons.1 hf with h1 | h1
    · subst h1
      refine ⟨(k.block b hlt hb).trans (h.held (b, o) (by simp)), fun g hg w'' k2 => ?_⟩
      exact h.fact g hg w'' ((k.mono (D' := ids ((b, o) :: T)) (fun i _ hi => by simp [hi])).trans (k2.mono (fun i _ hi => by simp at hi; simp [hi])))
    · exact h.fact f h1 w' (k.mono (fun i _ hi => by simp [hi]))
theorem St.unlend {b : Nat} {o : Obj} {T : Z7} {R R' : Z5} {w : World} (h : St T (Z9e b o R :: R') w) (hb : b ∉ ids T) : St ((b, o) :: T) R w where
  nd := List.nodup_cons.2 ⟨hb, h.nd⟩
  held p hp := by
    rcases List.mem_cons.1 hp with h1 | h1
    · subst h1; exact (h.now (f := Z9e b o R) (by simp)).1
    · exact h.held p h1
  fact f hf w' k := by
    have h0 := (h.now (f := Z9e b o R) (by simp)).1
    have hlt : b < w.heap.size := (Array.getElem?_eq_some_iff.1 h0).1
    have hlt' : b < w'.heap.size := Nat.lt_of_lt_of_le hlt k.size
    have k1 : Keep (ids T) w { w' with heap := w'.heap.setIfInBounds b o } := ⟨k.os, k.tape, k.output, by simpa using k.size, fun i hi hn => by
      show (w'.heap.setIfInBounds b o)[i]? = _
      by_cases e : b = i
      · subst e
        rw [Array.getElem?_setIfInBounds_self_of_lt hlt', h0]
      · rw [Array.getElem?_setIfInBounds_ne e]
        exact k.block i hi (by simp; exact ⟨fun h => e h.symm, hn⟩)⟩
    have h2 := h.fact (Z9e b o R) (by simp) _ k1
    refine h2.2 f hf w' ⟨rfl, rfl, rfl, by simp, fun i _ hn => ?_⟩
    show _ = (w'.heap.setIfInBounds b o)[i]?
    rw [Array.getElem?_setIfInBounds_ne (fun e => hn (by simp [e]))]
theorem Z6F {b e sz : Nat} {rows : List (List Value)} {junk : List Value} {w : World} (h : w.heap[b]? = some (cel e (rows.flatten ++ junk))) (hs : ∀ r ∈ rows, r.length = sz) : RowsA (some ⟨b, 0, none⟩) sz rows w := fun i row hi => by
  refine ⟨hs row (List.mem_of_getElem? hi), b, 0, rfl, fun j x hx => ?_⟩
  rw [Nat.zero_add, Z1s h]
  have := Z1M hs hi hx
  rw [List.getElem?_toArray, List.getElem?_append_left (List.getElem?_eq_some_iff.1 this).1]
  exact this
theorem FnV.lend {P : Program} {f : FuncId} {args : List Value} {v : Value} {b e sz : Nat} {rows : List (List Value)} {junk : List Value} {H T : Z7} {R : Z5} [pl : Pull b (cel e (rows.flatten ++ junk)) H T] (hs : ∀ r ∈ rows, r.length = sz)
    (h : ∀ B : World → Prop, FnV P f args T (RowsA (some ⟨b, 0, none⟩) sz rows :: B :: R) v) : FnV P f args H R v := fun w hw => by
  have h1 := hw.perm pl.perm
  have hb : b ∉ ids T := (List.nodup_cons.1 h1.nd).1
  have h3 : St T (RowsA (some ⟨b, 0, none⟩) sz rows :: Z9e b (cel e (rows.flatten ++ junk)) R :: R) w :=
    St.also h1.lend (fun w' hg => Z6F (hg (Z9e b (cel e (rows.flatten ++ junk)) R) (by simp)).1 hs)
  refine CallsIn.mono (h _ w h3) ?_
  rintro e' w' ⟨u, H', R', ⟨rfl, rfl, rfl⟩, he, hs'⟩
  exact ⟨_, H, R, ⟨rfl, rfl, rfl⟩, he, (St.unlend hs'.ftail hb).perm pl.perm.symm⟩
theorem St.pullG {H : Z7} {R : Z5} {w : World} (F : Z7) {C : Z7 → Z7} [r : RepF F H C] (h : St H R w) : St (F ++ C []) R w := by
  obtain ⟨T, h1, h2⟩ := r.rep
  exact h.perm (h1.trans (List.Perm.append_left F (h2 [])))
theorem Z2N {P : Program} {k : IntKind} {i : Int} {y : Nat} {c : BoundsCode} (h : 0 ≤ i ∧ i ≤ y) (w : World) : (Instr.sliceBound (.int k i) y c).run P w = .ok i.toNat w := by
  unfold Instr.sliceBound
  simp only [asIntOf, Sem.run_bind, Sem.run_pure, Result.andThen]
  rw [if_pos h]; rfl
section pe
variable {P : Program} {L : Zj} {d : Option Tmp} {ty : TypeId} {pos : String} {af : Array Edge} {g : Option (Nat × Bool)}
theorem PE.slHi {T e s : Nat} {x y : Operand} {a : Option Addr} {len cap h : Nat} {k : IntKind} (hT : slE P T = some (e, s)) (hx : ev L x = some (.slice a len cap)) (hy : ev L y = some (.int k h)) (hh : h ≤ cap) :
    PE P L ⟨d, .slice T x none (some y) none, ty, pos, af, g⟩ (.slice a h cap) := fun ρ hρ w => by
  obtain ⟨i, hu, hi, _⟩ := Z1v hT
  have hb : ∀ c w, (Instr.sliceBound (.int k (h : Int)) cap c).run P w = .ok h w := fun c w => by rw [Z2N (by omega)]; simp
  have e1 : (if cap = 0 then a else a.map (·.add (0 * i.size))) = a := by
    have : a.map (·.add (0 * i.size)) = a := by
      cases a with
      | none => rfl
      | some ad => simp [Addr.add]
    rw [this]; split <;> rfl
  simp only [execOp, hρ _ _ hx, hρ _ _ hy, Option.map_none, Option.map_some, Instr.sliceAt, Instr.slice, Sem.run_bind, run_underlying hu, Result.andThen, Sem.run_pure, Instr.sliceBounds, hb, sizeOf, typeInfo, program, hi, Sem.run]
  rw [e1]; simp
theorem PE.slLo {T e s : Nat} {x z : Operand} {b off len cap l : Nat} {k2 : IntKind} (hT : slE P T = some (e, s)) (hx : ev L x = some (.slice (some ⟨b, off, none⟩) len cap)) (hz : ev L z = some (.int k2 l)) (hl : l ≤ len) (hlc : l < cap) :
    PE P L ⟨d, .slice T x (some z) none none, ty, pos, af, g⟩ (.slice (some ⟨b, off + l * s, none⟩) (len - l) (cap - l)) := fun ρ hρ w => by
  obtain ⟨i, hu, hi, rfl⟩ := Z1v hT
  have hb2 : ∀ c w, (Instr.sliceBound (.int k2 (l : Int)) len c).run P w = .ok l w := fun c w => by rw [Z2N (by omega)]; simp
  simp only [execOp, hρ _ _ hx, hρ _ _ hz, Option.map_none, Option.map_some, Instr.sliceAt, Instr.slice, Sem.run_bind, run_underlying hu, Result.andThen, Sem.run_pure, Instr.sliceBounds, hb2, sizeOf, typeInfo, program, hi, Sem.run]
  rw [if_neg (by omega)]
  simp [ZQ]
def arE (P : Program) (T : Nat) : Option (Nat × Nat) := match P.underlying T with | some (.array n e) => some (n, e) | _ => none
end pe
theorem Z8S {a : Option Addr} {sz : Nat} {rows : List (List Value)} {w : World} (h : RowsA a sz rows w) (n : Nat) : RowsA a sz (rows.take n) w := fun i row hi => by
  rw [List.getElem?_take] at hi
  split at hi
  · exact h i row hi
  · cases hi
theorem St.rowsTake {a : Option Addr} {sz : Nat} {rows : List (List Value)} {H : Z7} {R : Z5} {w : World} [m : MemRows a sz rows R] (h : St H R w) (n : Nat) : St H (RowsA a sz (rows.take n) :: R) w := h.also fun _ hg => Z8S (hg _ m.mem) n
section calls
variable {P : Program} {r : Option Nat} {ops : Array Oper} {n : Nat} {L : Zj} {D : List Deferred} {H : Z7} {R : Z5} {K : Act → World → Prop}
  {i : Nat} {ty : TypeId} {pos : String} {af : Array Edge}
end calls
theorem FnV.app {P : Program} {f : FuncId} {a : List Value} {G G2 H : Z7} {R : Z5} {v : Value} (h : FnV P f a ((G ++ G2) ++ H) R v) : FnV P f a (G ++ (G2 ++ H)) R v := by rw [← List.append_assoc]; exact h
theorem Yd.app {P : Program} {l : Nat} {a : List Value} {G G2 H : Z7} {R : Z5} {Q : Value → Z7 → Z5 → Prop} (h : Yd P l a ((G ++ G2) ++ H) R Q) : Yd P l a (G ++ (G2 ++ H)) R Q := by rw [← List.append_assoc]; exact h
theorem Yd.mono {P : Program} {l : Nat} {a : List Value} {H : Z7} {R : Z5} {Q Q' : Value → Z7 → Z5 → Prop} (h : Yd P l a H R Q) (hq : ∀ v H' R', Q v H' R' → Q' v H' R') : Yd P l a H R Q' := fun w hs => by
  obtain ⟨f, tm, asg, bo, h1, h2⟩ := h w hs
  exact ⟨f, tm, asg, bo, h1, RoundIn.mono h2 fun e w' ⟨v, H', R', q, he, hs'⟩ => ⟨v, H', R', hq _ _ _ q, he, hs'⟩⟩
theorem Z1N (n : Int) : 0 ≤ IntKind.u32.wrap n ∧ IntKind.u32.wrap n ≤ 4294967295 := by
  have e : IntKind.u32.wrap n = n % 4294967296 := rfl
  rw [e]; omega
theorem Z51 {n : Int} (h0 : 0 ≤ n) (h1 : n ≤ 4294967295) : IntKind.u32.wrap n = n := by
  have e : IntKind.u32.wrap n = n % 4294967296 := rfl
  rw [e]; omega
theorem ZI {n : Int} (h0 : -9223372036854775808 ≤ n) (h1 : n ≤ 9223372036854775807) : IntKind.i64.wrap n = n := by
  have e : IntKind.i64.wrap n = if n % 18446744073709551616 ≥ 9223372036854775808 then n % 18446744073709551616 - 18446744073709551616 else n % 18446744073709551616 := by
    unfold IntKind.wrap
    simp [IntKind.signed, IntKind.bits]
  rw [e]
  split <;> omega
def U32 (m : Int) (v : Value) : Prop := ∃ x : Int, v = .int .u32 x ∧ 0 ≤ x ∧ x ≤ m
section pe
variable {P : Program} {L : Zj} {d : Option Tmp} {ty : TypeId} {pos : String} {af : Array Edge} {g : Option (Nat × Bool)}
theorem Z9E {op : BinOp} {T : TypeId} {k : IntKind} {m n : Int} (hop : op = .and ∨ op = .or ∨ op = .xor ∨ op = .andNot) : binOp op T (.int k m) (.int k n) = Op.intBits op k m n := by
  rcases hop with rfl | rfl | rfl | rfl <;> simp [binOp]
theorem PE.bits {op : BinOp} {T U : TypeId} {x y : Operand} {k : IntKind} {m n : Int} {v : Value} (hop : op = .and ∨ op = .or ∨ op = .xor ∨ op = .andNot) (hx : ev L x = some (.int k m)) (hy : ev L y = some (.int k n))
    (h : ∀ w, (Op.intBits op k m n).run P w = .ok v w) : PE P L ⟨d, .binOp op T x y U, ty, pos, af, g⟩ v := fun ρ hρ w => by
  have hg : ∀ w, (eqGuard op T x y (.int k m) (.int k n)).run P w = .ok () w := fun w => by rcases hop with rfl | rfl | rfl | rfl <;> rfl
  simp only [execOp, hρ _ _ hx, hρ _ _ hy, Sem.run_bind, hg, Z9E hop, h, Result.andThen, Sem.run_pure]
theorem PE.xorU {T U : TypeId} {x y : Operand} {m n : Int} (hx : ev L x = some (.int .u32 m)) (hy : ev L y = some (.int .u32 n)) : ∃ v, PE P L ⟨d, .binOp .xor T x y U, ty, pos, af, g⟩ v ∧ U32 4294967295 v :=
  ⟨_, PE.bits (by simp) hx hy (fun w => rfl), _, rfl, Z1N _⟩
theorem PE.mulU {T U : TypeId} {x y : Operand} {m n : Int} (hx : ev L x = some (.int .u32 m)) (hy : ev L y = some (.int .u32 n)) : ∃ v, PE P L ⟨d, .binOp .mul T x y U, ty, pos, af, g⟩ v ∧ U32 4294967295 v := ⟨_, PE.mulW hx hy, _, rfl, Z1N _⟩
theorem PE.addU {T U : TypeId} {x y : Operand} {m n : Int} (hx : ev L x = some (.int .u32 m)) (hy : ev L y = some (.int .u32 n)) : ∃ v, PE P L ⟨d, .binOp .add T x y U, ty, pos, af, g⟩ v ∧ U32 4294967295 v := ⟨_, PE.addW hx hy, _, rfl, Z1N _⟩
theorem PE.convU {S T : TypeId} {x : Operand} {k : IntKind} {m : Int} (hS : (P.underlying S).isSome = true) (hT : Z6S P T = some .u32) (hx : ev L x = some (.int k m)) : ∃ v, PE P L ⟨d, .convert S T x, ty, pos, af, g⟩ v ∧ U32 4294967295 v := ⟨_, PE.convert hS hT hx, _, rfl, Z1N _⟩
theorem PE.conv64 {S T : TypeId} {x : Operand} {k : IntKind} {m : Int} (hS : (P.underlying S).isSome = true) (hT : Z6S P T = some .i64) (hx : ev L x = some (.int k m)) (h0 : -9223372036854775808 ≤ m ∧ m ≤ 9223372036854775807) : PE P L ⟨d, .convert S T x, ty, pos, af, g⟩ (.int .i64 m) := by
  have := PE.convert (P := P) (L := L) (d := d) (ty := ty) (pos := pos) (af := af) (g := g) hS hT hx
  rwa [ZI h0.1 h0.2] at this
theorem PE.andU {T U : TypeId} {x y : Operand} {m n : Int} (hx : ev L x = some (.int .u32 m)) (hy : ev L y = some (.int .u32 n)) (h0 : 0 ≤ n) (h1 : n ≤ 4294967295) : ∃ v, PE P L ⟨d, .binOp .and T x y U, ty, pos, af, g⟩ v ∧ U32 n v := by
  refine ⟨_, PE.bits (by simp) hx hy (fun w => rfl), _, rfl, (Z1N _).1, ?_⟩
  have hb : (BitVec.ofInt 32 n).toNat = n.toNat := by
    rw [BitVec.toNat_ofInt]; omega
  have hle : (BitVec.ofInt 32 m &&& BitVec.ofInt 32 n).toNat ≤ n.toNat := by
    rw [BitVec.toNat_and, hb]; exact Nat.and_le_right
  show IntKind.u32.wrap ((BitVec.ofInt 32 m &&& BitVec.ofInt 32 n).toNat : Int) ≤ n
  rw [Z51 (by omega) (by omega)]
  omega
theorem PE.shrU {T U : TypeId} {x y : Operand} {q : IntKind} {m n : Int} (hx : ev L x = some (.int .u32 m)) (hy : ev L y = some (.int q n)) (hn : 0 ≤ n) (h0 : 0 ≤ m) (h1 : m ≤ 4294967295) : ∃ v, PE P L ⟨d, .binOp .shr T x y U, ty, pos, af, g⟩ v ∧ U32 4294967295 v := by
  refine ⟨.int .u32 (m.fdiv (2 ^ (Min.min n.toNat 32))), fun ρ hρ w => ?_, _, rfl, ?_, ?_⟩
  · have hg : ∀ w, (eqGuard .shr T x y (.int .u32 m) (.int q n)).run P w = .ok () w := fun w => rfl
    have hb : binOp .shr T (.int .u32 m) (.int q n) = Op.shift .shr .u32 m q n := by simp [binOp]
    have hs : ∀ w, (Op.shift .shr .u32 m q n).run P w = .ok (.int .u32 (m.fdiv (2 ^ (Min.min n.toNat 32)))) w := fun w => by
      unfold Op.shift
      rw [if_neg (by omega)]
      rfl
    simp only [execOp, hρ _ _ hx, hρ _ _ hy, Sem.run_bind, hg, hb, hs, Result.andThen, Sem.run_pure]
  · rw [Int.fdiv_eq_ediv_of_nonneg _ (Int.pow_nonneg (by omega))]
    exact Int.ediv_nonneg h0 (Int.pow_nonneg (by omega))
  · rw [Int.fdiv_eq_ediv_of_nonneg _ (Int.pow_nonneg (by omega))]
    have := Int.ediv_le_self (a := m) (2 ^ (Min.min n.toNat 32)) h0
    omega
end pe
section steps
variable {P : Program} {r : Option Nat} {ops : Array Oper} {n : Nat} {L : Zj} {D : List Deferred} {H : Z7} {R : Z5} {K : Act → World → Prop}
  {bm : List Nat} {X : Act → World → Prop} {p : Plan} {pend : Z2o}
  {i d : Nat} {op : Op} {ty : TypeId} {pos : String} {af : Array Edge}
theorem spE {q : Value → Prop} (ho : ops[i]? = some ⟨some d, op, ty, pos, af, none⟩) (hv : ∃ v, PE P L ⟨some d, op, ty, pos, af, none⟩ v ∧ q v) (hd : Nat.blt d n = true)
    (h : ∀ v, q v → Sy n ((d, v) :: L) D H R K) : Sy n L D H R (stp P r ops i K) := by
  obtain ⟨v, hv, hq⟩ := hv
  exact sp ho hv hd (h v hq)
theorem tkE {q : Value → Prop} (ho : ops[i]? = some ⟨some d, op, ty, pos, af, none⟩) (hv : ∃ v, PE P L ⟨some d, op, ty, pos, af, none⟩ v ∧ q v) (hd : Nat.blt d n = true)
    (h : ∀ v, q v → Sy n ((d, v) :: L) D H R (Dv P r ops bm X p pend)) : Sy n L D H R (Dv P r ops bm X (.tk i p) pend) := by
  obtain ⟨v, hv, hq⟩ := hv
  exact tk ho hv hd (h v hq)
end steps
section pe
variable {P : Program} {L : Zj} {d : Option Tmp} {ty : TypeId} {pos : String} {af : Array Edge} {g : Option (Nat × Bool)}
theorem PE.shlN {T U : TypeId} {x y : Operand} {m : Nat} {k : Int} {n : Nat} {q : IntKind} (hx : ev L x = some (.int .i64 k)) (hy : ev L y = some (.int q (n : Int))) (hk : k = (m : Int)) (hn : n ≤ 62) (hb : m * 2 ^ n ≤ 9223372036854775807) :
    PE P L ⟨d, .binOp .shl T x y U, ty, pos, af, g⟩ (.int .i64 ((m * 2 ^ n : Nat) : Int)) := fun ρ hρ w => by
  subst hk
  have hg : ∀ w, (eqGuard .shl T x y (.int .i64 (m : Int)) (.int q (n : Int))).run P w = .ok () w := fun w => rfl
  have hbo : binOp .shl T (.int .i64 (m : Int)) (.int q (n : Int)) = Op.shift .shl .i64 m q n := by simp [binOp]
  have hs : ∀ w, (Op.shift .shl .i64 (m : Int) q (n : Int)).run P w = .ok (.int .i64 ((m * 2 ^ n : Nat) : Int)) w := fun w => by
    unfold Op.shift
    rw [if_neg (by omega)]
    have e : Min.min ((n : Int).toNat) (IntKind.i64.bits) = n := by
      have : IntKind.i64.bits = 64 := rfl
      rw [this, Int.toNat_natCast]; omega
    have e2 : ((m : Int) * 2 ^ n) = ((m * 2 ^ n : Nat) : Int) := by push_cast; rfl
    show Result.ok (Value.int .i64 (IntKind.i64.wrap ((m : Int) * 2 ^ (Min.min ((n : Int).toNat) (IntKind.i64.bits))))) w = _
    rw [e, e2, ZI (by omega) (by omega)]
  simp only [execOp, hρ _ _ hx, hρ _ _ hy, Sem.run_bind, hg, hbo, hs, Result.andThen, Sem.run_pure]
theorem PE.shrN {T U : TypeId} {x y : Operand} {m n : Nat} {q : IntKind} (hx : ev L x = some (.int .i64 (m : Int))) (hy : ev L y = some (.int q (n : Int))) (hn : n ≤ 64) :
    PE P L ⟨d, .binOp .shr T x y U, ty, pos, af, g⟩ (.int .i64 ((m >>> n : Nat) : Int)) := fun ρ hρ w => by
  have hg : ∀ w, (eqGuard .shr T x y (.int .i64 (m : Int)) (.int q (n : Int))).run P w = .ok () w := fun w => rfl
  have hbo : binOp .shr T (.int .i64 (m : Int)) (.int q (n : Int)) = Op.shift .shr .i64 m q n := by simp [binOp]
  have hs : ∀ w, (Op.shift .shr .i64 (m : Int) q (n : Int)).run P w = .ok (.int .i64 ((m >>> n : Nat) : Int)) w := fun w => by
    unfold Op.shift
    rw [if_neg (by omega)]
    have e : Min.min ((n : Int).toNat) (IntKind.i64.bits) = n := by
      have : IntKind.i64.bits = 64 := rfl
      rw [this, Int.toNat_natCast]; omega
    show Result.ok (Value.int .i64 ((m : Int).fdiv (2 ^ (Min.min ((n : Int).toNat) (IntKind.i64.bits))))) w = _
    rw [e, Int.fdiv_eq_ediv_of_nonneg _ (Int.pow_nonneg (by omega)), Nat.shiftRight_eq_div_pow]
    congr 2
  simp only [execOp, hρ _ _ hx, hρ _ _ hy, Sem.run_bind, hg, hbo, hs, Result.andThen, Sem.run_pure]
theorem Z0j {m : Nat} (h : m ≤ 9223372036854775807) : (BitVec.ofInt 64 (m : Int)).toNat = m := by
  rw [BitVec.toNat_ofInt]; omega
theorem PE.andN {T U : TypeId} {x y : Operand} {m n : Nat} {k : Int} (hx : ev L x = some (.int .i64 (m : Int))) (hy : ev L y = some (.int .i64 k)) (hk : k = (n : Int)) (hm : m ≤ 9223372036854775807) (hn : n ≤ 9223372036854775807) :
    PE P L ⟨d, .binOp .and T x y U, ty, pos, af, g⟩ (.int .i64 ((m &&& n : Nat) : Int)) := by
  subst hk
  refine PE.bits (by simp) hx hy (fun w => ?_)
  show Result.ok (Value.int .i64 (IntKind.i64.wrap ((BitVec.ofInt 64 (m : Int) &&& BitVec.ofInt 64 (n : Int)).toNat : Int))) w = _
  have : m &&& n ≤ m := Nat.and_le_left
  rw [BitVec.toNat_and, Z0j hm, Z0j hn, ZI (by omega) (by omega)]
theorem PE.orN {T U : TypeId} {x y : Operand} {m n : Nat} (hx : ev L x = some (.int .i64 (m : Int))) (hy : ev L y = some (.int .i64 (n : Int))) (hm : m < 2 ^ 62) (hn : n < 2 ^ 62) :
    PE P L ⟨d, .binOp .or T x y U, ty, pos, af, g⟩ (.int .i64 ((m ||| n : Nat) : Int)) := by
  refine PE.bits (by simp) hx hy (fun w => ?_)
  show Result.ok (Value.int .i64 (IntKind.i64.wrap ((BitVec.ofInt 64 (m : Int) ||| BitVec.ofInt 64 (n : Int)).toNat : Int))) w = _
  have : m ||| n < 2 ^ 62 := Nat.or_lt_two_pow hm hn
  rw [BitVec.toNat_or, Z0j (by omega), Z0j (by omega), ZI (by omega) (by omega)]
theorem Z8f (m k : Nat) : decide (((((m >>> k) &&& 1 : Nat)) : Int) = 1) = m.testBit k := by
  rw [Nat.testBit, Nat.and_comm]
  have : 1 &&& (m >>> k) = (m >>> k) % 2 := by rw [Nat.and_comm, Nat.and_one_is_mod]
  rw [this]
  have h2 := Nat.mod_lt (m >>> k) (show 0 < 2 by decide)
  rcases Nat.lt_or_ge ((m >>> k) % 2) 1 with h | h
  · have : (m >>> k) % 2 = 0 := by omega
    rw [this]; rfl
  · have : (m >>> k) % 2 = 1 := by omega
    rw [this]; rfl
end pe
section look
variable {P : Program} {r : Option Nat} {ops : Array Oper} {n : Nat} {L : Zj} {D : List Deferred} {H : Z7} {R : Z5} {K : Act → World → Prop}
  {bm : List Nat} {X : Act → World → Prop} {p : Plan} {pend : Z2o} {i d : Nat} {ty : TypeId} {pos : String} {af : Array Edge}
theorem Zhq {T : TypeId} {x y : Operand} {vx vy v : Value} {c : Bool} {j t : Nat} {b : Bool} {oj : Oper} (ho : ops[i]? = some ⟨some d, .lookup T x y c, ty, pos, af, some (j, b)⟩) (hj : ops[j]? = some oj) (ht : oj.dst = some t) (hb : lk L t = some (.bool b)) (hx : ev L x = some vx) (hy : ev L y = some vy)
    (hl : ∀ w, St H R w → Lkp P T vx vy c v w) (hd : Nat.blt d n = true) (h : Sy n ((d, v) :: L) D H R K) : Sy n L D H R (stp P r ops i K) := fun a w ha hD hs =>
  Zs ho (by simp [Region.wanted, ZG ha hj ht hb]) (Z0e ha.reads hx hy (hl w hs)) (h _ w (ha.put (by simpa using hd) v) hD hs)
theorem ZhV {T : TypeId} {x y : Operand} {vx vy v : Value} {c : Bool} {j t : Nat} {b : Bool} {oj : Oper} (ho : ops[i]? = some ⟨some d, .lookup T x y c, ty, pos, af, some (j, b)⟩) (hj : ops[j]? = some oj) (ht : oj.dst = some t) (hb : lk L t = some (.bool b)) (hx : ev L x = some vx) (hy : ev L y = some vy)
    (hl : ∀ w, St H R w → Lkp P T vx vy c v w) (hd : Nat.blt d n = true) (h : Sy n ((d, v) :: L) D H R (Dv P r ops bm X p ((i, Lkp P T vx vy c v) :: pend))) : Sy n L D H R (Dv P r ops bm X (.ld i p) pend) := fun a w ha hD hs =>
  ⟨_, v, Lkp P T vx vy c v, ho, .inl ⟨by simp [Region.wanted, ZG ha hj ht hb], fun w hw => ZZ (Z0e ha.reads hx hy hw) (by simp)⟩, hl w hs, h _ w (ha.put (by simpa using hd) v) hD hs⟩
theorem mpi {T KT E s m : Nat} {x y z : Operand} {b : Bool} (l : KV) (k : List Int) {v : Value} {H' : Z7} (ho : ops[i]? = some ⟨none, .insert T x y z, ty, pos, af, none⟩)
    (hT : Z1k P T = some (KT, E)) (hK : KeyT P b KT s) (hx : ev L x = some (.map (some m))) (hy : ev L y = some (mkv b k)) (hz : ev L z = some v) (hk : k.length = s) (hl : ∀ e ∈ l, e.1.length = s)
    [mm : Mem1 m (ZU b l) H] [rp : Rep [(m, ZU b l)] [(m, ZU b (l.put k v))] H H']
    (h : Sy n L D H' R K) : Sy n L D H R (stp P r ops i K) := fun a w ha hD hs => by
  have h1 := Z3j (P := P) (v := v) hT hK hk hl (hs.held _ mm.mem)
  refine Z1D ho (Ze _ rfl _) (w' := { w with heap := w.heap.setIfInBounds m (ZU b (l.put k v)) }) ?_ ?_
  · simp only [execOp, ha.reads _ _ hx, ha.reads _ _ hy, ha.reads _ _ hz, Sem.run_bind, h1, Result.andThen, Sem.run_pure]
  · exact h _ _ (ha.putNone undef) hD (hs.rep (F := [(m, ZU b l)]) (F' := [(m, ZU b (l.put k v))]) fun T hT => St.set hT)
theorem Zbz {T KT E s m : Nat} {b : Bool} (l : KV) (k : List Int) {zv : Value} (hT : Z1k P T = some (KT, E)) (hK : KeyT P b KT s) (hz : ∀ w, (zeroValue E).run P w = .ok zv w) (hk : k.length = s) (hl : ∀ e ∈ l, e.1.length = s)
    (hm : ∀ w, St H R w → w.heap[m]? = some (ZU b l)) (c : Bool) : ∀ w, St H R w → Lkp P T (.map (some m)) (mkv b k) c (bif c then .tuple #[(l.get k).getD zv, .bool (l.get k).isSome] else (l.get k).getD zv) w := fun w hs => by
  unfold Z1k at hT
  split at hT <;> cases hT
  rename_i hu
  have h1 := Z0x (P := P) (hm w hs)
  have h3 := Z0I hK k hk l hl w
  unfold Lkp Instr.lookup
  simp only [Sem.run_bind, run_underlying hu, Result.andThen, h1, ZU, hK.ck _ k hk, h3, Sem.run_pure]
  rw [← Z3O]
  cases hf : l.findIdx? fun e => decide (e.1 = k) with
  | none => simp only [Option.map_none, Sem.run_bind, hz, Result.andThen, Sem.run_pure]; cases c <;> rfl
  | some j => simp only [Option.map_some, Sem.run_pure]; cases c <;> rfl
end look
section nested
variable {P : Program} {n : Nat} {L : Zj} {D : List Deferred} {H : Z7} {R : Z5} {Q : Exit → Act → World → Prop}
end nested
theorem Z5U {P : Program} {ax : Option Addr} {s dl sc : Nat} {rows : List (List Value)} {w : World} (hr : RowsA ax s rows w) (hl : ∀ q ∈ rows, q.length = s) (hle : rows.length ≤ dl) :
    (Builtin.firstCells s (Nat.min rows.length dl) (.slice ax rows.length sc)).run P w = .ok rows.flatten.toArray w := by
  rw [show Nat.min rows.length dl = rows.length from Nat.min_eq_left hle]
  have hf := Z00 hl
  match ax, hr with
  | none, hr =>
    match rows, hr with
    | [], _ => rfl
    | q :: qs, hr =>
      obtain ⟨_, b, off, h, _⟩ := hr 0 q rfl
      cases h
  | some a, hr =>
    have hc : ∀ j v, rows.flatten[j]? = some v → w.cell? (a.add j) = some v := by
      match rows, hr with
      | [], _ => intro j v h; simp at h
      | q :: qs, hr =>
        obtain ⟨_, b, off, h, _⟩ := hr 0 q rfl
        cases h
        intro j v h
        rw [ZQ]; exact Z2W hr j v h
    have := run_loadCells_list (P := P) w a rows.flatten hc
    rw [hf] at this
    exact this
section steps
variable {P : Program} {r : Option Nat} {ops : Array Oper} {n : Nat} {L : Zj} {D : List Deferred} {H : Z7} {R : Z5} {K : Act → World → Prop}
  {i d : Nat} {ty : TypeId} {pos : String} {af : Array Edge}
theorem Zic {T T2 e s : Nat} {x y : Operand} {b dl dc sc e2 : Nat} {l : List Value} {ax : Option Addr} {rows : List (List Value)} {H' : Z7}
    (ho : ops[i]? = some ⟨some d, .call { callee := .builtin .copy, args := #[x, y], argTypes := #[T, T2] }, ty, pos, af, none⟩) (hT : slE P T = some (e, s))
    (hx : ev L x = some (.slice (some ⟨b, 0, none⟩) dl dc)) (hy : ev L y = some (.slice ax rows.length sc)) [mr : MemRows ax s rows R] (hl : ∀ q ∈ rows, q.length = s) (hle : rows.length ≤ dl)
    (h1 : rows.flatten.all (·.oneCell') = true) (hb : rows.flatten.length ≤ l.length) (hd : Nat.blt d n = true)
    [m : Mem1 b (cel e2 l) H] [rp : Rep [(b, cel e2 l)] [(b, cel e2 (spl l 0 rows.flatten))] H H']
    (h : Sy n ((d, .int .i64 rows.length) :: L) D H' R K) : Sy n L D H R (stp P r ops i K) := fun a w ha hD hs => by
  obtain ⟨ie, hu, hi, rfl⟩ := Z1v hT
  have hr := Z5U (P := P) (sc := sc) (hs.now mr.mem) hl hle
  have hst : (storeCells ⟨b, 0, none⟩ rows.flatten).run P w = .ok () { w with heap := w.heap.setIfInBounds b (cel e2 (spl l 0 rows.flatten)) } := Z3k (P := P) (e := e2) h1 hb (hs.held _ m.mem)
  refine Zs ho (Ze _ rfl _) (v := .int .i64 rows.length) (w' := { w with heap := w.heap.setIfInBounds b (cel e2 (spl l 0 rows.flatten)) }) ?_
    (h _ _ (ha.put (by simpa using hd) _) hD (hs.rep (F := [(b, cel e2 l)]) (F' := [(b, cel e2 (spl l 0 rows.flatten))]) fun T hT => St.set hT))
  simp only [execOp, resolve, invoke, builtin, Sem.run_bind, Sem.run_pure, Result.andThen, List.map_toArray, List.map_cons, List.map_nil, ha.reads _ _ hx, ha.reads _ _ hy]
  have e1 : (Builtin.copy_ #[T, T2] ty #[.slice (some ⟨b, 0, none⟩) dl dc, .slice ax rows.length sc]).run P w = .ok (goInt (rows.length : Nat)) { w with heap := w.heap.setIfInBounds b (cel e2 (spl l 0 rows.flatten)) } := by
    have e3 : (Builtin.firstCells ie.size rows.length (.slice ax rows.length sc)).run P w = .ok rows.flatten.toArray w := by
      rw [show Nat.min rows.length dl = rows.length from Nat.min_eq_left hle] at hr; exact hr
    simp [Builtin.copy_, run_underlying hu, Builtin.lenOf, sizeOf, typeInfo, hi, e3, hst, Nat.min_eq_left hle]
  rw [e1]
  rfl
end steps
def Z9x (P : Program) (T : Nat) : Bool := match P.underlying T with | some .string => true | _ => false
def U8 (v : Value) : Prop := ∃ x : Int, v = .int .u8 x ∧ 0 ≤ x ∧ x ≤ 255
theorem Z24 {n : Int} (h0 : 0 ≤ n) (h1 : n ≤ 255) : IntKind.u8.wrap n = n := by
  have e : IntKind.u8.wrap n = n % 256 := rfl
  rw [e]; omega
theorem Z0J {n : Int} (h0 : 0 ≤ n) (h1 : n ≤ 18446744073709551615) : IntKind.u64.wrap n = n := by
  have e : IntKind.u64.wrap n = n % 18446744073709551616 := rfl
  rw [e]; omega
section pe
variable {P : Program} {L : Zj} {d : Option Tmp} {ty : TypeId} {pos : String} {af : Array Edge} {g : Option (Nat × Bool)}
theorem PE.slLoA {T e s : Nat} {x z : Operand} {a : Option Addr} {len cap l : Nat} {k2 : IntKind} (hT : slE P T = some (e, s)) (hx : ev L x = some (.slice a len cap)) (hz : ev L z = some (.int k2 l)) (hl : l ≤ len) :
    PE P L ⟨d, .slice T x (some z) none none, ty, pos, af, g⟩ (.slice (if cap = l then a else a.map (·.add (l * s))) (len - l) (cap - l)) := fun ρ hρ w => by
  obtain ⟨i, hu, hi, rfl⟩ := Z1v hT
  have hb2 : ∀ c w, (Instr.sliceBound (.int k2 (l : Int)) len c).run P w = .ok l w := fun c w => by rw [Z2N (by omega)]; simp
  simp only [execOp, hρ _ _ hx, hρ _ _ hz, Option.map_none, Option.map_some, Instr.sliceAt, Instr.slice, Sem.run_bind, run_underlying hu, Result.andThen, Sem.run_pure, Instr.sliceBounds, hb2, sizeOf, typeInfo, program, hi, Sem.run]
theorem PE.indexS {T : TypeId} {x y : Operand} {k : IntKind} {s : ByteArray} {i m : Nat} (hT : Z9x P T = true) (hx : ev L x = some (.string s)) (hy : ev L y = some (.int k i)) (hz : s.size = m) (hi : i < m) :
    ∃ v, PE P L ⟨d, .index T x y, ty, pos, af, g⟩ v ∧ U8 v := by
  have hu : P.underlying T = some .string := by
    unfold Z9x at hT
    split at hT
    · assumption
    · cases hT
  refine ⟨.int .u8 (s[i]'(by omega)).toNat, fun ρ hρ w => ?_, _, rfl, by omega, ?_⟩
  · have e1 : s[i]? = some (s[i]'(by omega)) := getElem?_pos s i (by omega)
    simp only [execOp, hρ _ _ hx, hρ _ _ hy, Instr.index, asIntOf, Sem.run_bind, Sem.run_pure, run_underlying hu, Result.andThen]
    rw [if_pos (by omega), Int.toNat_natCast, e1]
    rfl
  · have := UInt8.toNat_lt (s[i]'(by omega)); omega
end pe
theorem Z3p {P : Program} {b e od : Nat} {l vs : List Value} (h1 : vs.all (·.oneCell') = true) (hb : od + vs.length ≤ l.length) {w : World} (h : w.heap[b]? = some (cel e l)) :
    (storeCells ⟨b, od, none⟩ vs).run P w = .ok () { w with heap := w.heap.setIfInBounds b (cel e (spl l od vs)) } := by
  have := run_storeCells_at (P := P) b od e vs 0 l.toArray w h (by simpa using hb) (fun x hx => List.all_eq_true.1 h1 x hx)
  rw [Z0p h] at this
  simpa [spl] using this
section steps
variable {P : Program} {r : Option Nat} {ops : Array Oper} {n : Nat} {L : Zj} {D : List Deferred} {H : Z7} {R : Z5} {K : Act → World → Prop}
  {i d : Nat} {ty : TypeId} {pos : String} {af : Array Edge}
theorem Zi5 {T e s : Nat} {x : Operand} {b od k c e2 : Nat} {l z : List Value} {H' : Z7} {dd : Option Nat} (ho : ops[i]? = some ⟨dd, .call { callee := .builtin .clear, args := #[x], argTypes := #[T] }, ty, pos, af, none⟩) (hdd : dd = none) (hT : slE P T = some (e, s))
    (hz : Zy P e = some z) (hzs : z.length = s) (hz1 : z.all (·.oneCell') = true) (hx : ev L x = some (.slice (some ⟨b, od, none⟩) k c)) (hb : od + k * s ≤ l.length)
    [m : Mem1 b (cel e2 l) H] [rp : Rep [(b, cel e2 l)] [(b, cel e2 (spl l od (Z0Y k z)))] H H'] (h : Sy n L D H' R K) : Sy n L D H R (stp P r ops i K) := fun a w ha hD hs => by
  subst hdd
  obtain ⟨ie, hu, hi, rfl⟩ := Z1v hT
  obtain ⟨zv, hzv1, hzv2⟩ := Z1S hz
  have hlz : ∀ r ∈ List.replicate k z, r.length = ie.size := fun r hr => by rw [(List.mem_replicate.1 hr).2]; exact hzs
  have hr : (Z0Y k z).length = k * ie.size := by rw [← Z1z, Z00 hlz]; simp
  have hst := Z3p (P := P) (e := e2) (l := l) (vs := Z0Y k z) (by
    rw [← Z1z]
    refine List.all_eq_true.2 fun v hv => ?_
    obtain ⟨q, hq, hvq⟩ := List.mem_flatten.1 hv
    rw [(List.mem_replicate.1 hq).2] at hvq
    exact List.all_eq_true.1 hz1 v hvq) (by rw [hr]; exact hb) (hs.held _ m.mem)
  have hzc : (Builtin.zeroCells zv.cells k).toList = Z0Y k z := by rw [hzv1]; simp [Builtin.zeroCells, Z0Y]
  refine Zs ho (Ze _ rfl _) (v := .tuple #[]) (w' := { w with heap := w.heap.setIfInBounds b (cel e2 (spl l od (Z0Y k z))) }) ?_ (h _ _ (ha.putNone _) hD (hs.rep (F := [(b, cel e2 l)]) (F' := [(b, cel e2 (spl l od (Z0Y k z)))]) fun T hT => St.set hT))
  simp only [execOp, resolve, invoke, builtin, Sem.run_bind, Sem.run_pure, Result.andThen, List.map_toArray, List.map_cons, List.map_nil, ha.reads _ _ hx]
  have e3 : (Builtin.clear_ #[T] ty #[.slice (some ⟨b, od, none⟩) k c]).run P w = .ok (.tuple #[]) { w with heap := w.heap.setIfInBounds b (cel e2 (spl l od (Z0Y k z))) } := by
    rcases Nat.eq_zero_or_pos k with h0 | h0
    · subst h0
      have h4 : spl l od (Z0Y 0 z) = l := by simp [spl, Z0Y]
      have h5 : w.heap.setIfInBounds b (cel e2 l) = w.heap := by
        apply Array.ext_getElem?
        intro j
        by_cases e : b = j
        · subst e
          have hlt : b < w.heap.size := hs.lt (Z4U m.mem)
          rw [Array.getElem?_setIfInBounds_self_of_lt hlt]; exact (hs.held _ m.mem).symm
        · rw [Array.getElem?_setIfInBounds_ne e]
      rw [h4, h5]
      simp [Builtin.clear_, run_underlying hu]
    · obtain ⟨q, rfl⟩ : ∃ q, k = q + 1 := ⟨k - 1, by omega⟩
      simp only [Builtin.clear_, Sem.run_bind, run_underlying hu, Result.andThen, hzv2, hzc, hst, Sem.run_pure, List.getElem?_toArray, List.getElem?_cons_zero]
  rw [e3]
end steps
section dag
variable {P : Program} {r : Option Nat} {ops : Array Oper} {bm : List Nat} {X : Act → World → Prop} {n : Nat} {L : Zj} {D : List Deferred} {H : Z7} {R : Z5} {p : Plan} {pend : Z2o}
end dag
section pe
variable {P : Program} {L : Zj} {d : Option Tmp} {ty : TypeId} {pos : String} {af : Array Edge} {g : Option (Nat × Bool)}
end pe
section steps
variable {P : Program} {r : Option Nat} {ops : Array Oper} {n : Nat} {L : Zj} {D : List Deferred} {H : Z7} {R : Z5} {K : Act → World → Prop}
  {i d : Nat} {ty : TypeId} {pos : String} {af : Array Edge}
end steps
def AllS : List Nat → (Nat → Prop) → Prop
  | [], _ => True
  | i :: l, p => p i ∧ AllS l p
theorem AllS.all {p : Nat → Prop} : ∀ {l : List Nat}, AllS l p → ∀ i ∈ l, p i
  | [], _, i, h => by cases h
  | j :: l, h, i, hi => by
    rcases List.mem_cons.1 hi with rfl | hi
    · exact h.1
    · exact AllS.all h.2 i hi
section free
variable {P : Program} {r : Option Nat} {ops : Array Oper} {n : Nat} {L : Zj} {D : List Deferred} {H : Z7} {R : Z5}
end free
def pvl (L : Zj) : Op → Option Value
  | .move x => ev L x
  | .assign x => ev L x
  | .pick c x y => match ev L c with
    | some (.bool b) => match ev L x with
      | some u => match ev L y with
        | some v => some (bif b then u else v)
        | none => none
      | none => none
    | _ => none
  | .extract x k => match ev L x with
    | some (.tuple l) => l.toList[k]?
    | _ => none
  | .unOp .not _ x => match ev L x with
    | some (.bool b) => some (.bool !b)
    | _ => none
  | .binOp .lss _ x y _ => match ev L x with
    | some (.int .i64 m) => match ev L y with
      | some (.int .i64 n) => some (.bool (decide (m < n)))
      | _ => none
    | _ => none
  | .binOp .leq _ x y _ => match ev L x with
    | some (.int .i64 m) => match ev L y with
      | some (.int .i64 n) => some (.bool (decide (m ≤ n)))
      | _ => none
    | _ => none
  | .binOp .gtr _ x y _ => match ev L x with
    | some (.int .i64 m) => match ev L y with
      | some (.int .i64 n) => some (.bool (decide (n < m)))
      | _ => none
    | _ => none
  | .binOp .geq _ x y _ => match ev L x with
    | some (.int .i64 m) => match ev L y with
      | some (.int .i64 n) => some (.bool (decide (n ≤ m)))
      | _ => none
    | _ => none
  | .binOp .eql _ x y _ => match ev L x with
    | some (.int .i64 m) => match ev L y with
      | some (.int .i64 n) => some (.bool (decide (m = n)))
      | _ => none
    | _ => none
  | .binOp .neq _ x y _ => match ev L x with
    | some (.int .i64 m) => match ev L y with
      | some (.int .i64 n) => some (.bool (decide (m ≠ n)))
      | _ => none
    | _ => none
  | _ => none
theorem Z5J {P : Program} {L : Zj} {o : Oper} {v : Value} (h : pvl L o.op = some v) : PE P L o v := by
  obtain ⟨d, op, ty, pos, af, g⟩ := o
  dsimp only at h
  unfold pvl at h
  split at h
  · exact PE.move h
  · exact PE.assign h
  · split at h
    · rename_i b hb
      split at h
      · rename_i u hu
        split at h
        · rename_i w hw
          obtain rfl := Option.some.inj h
          exact PE.pick hb hu hw
        · cases h
      · cases h
    · cases h
  · split at h
    · rename_i l hl
      exact PE.extract (l := l.toList) hl h
    · cases h
  · split at h
    · rename_i b hb
      obtain rfl := Option.some.inj h
      exact PE.not hb
    · cases h
  · split at h
    · rename_i m hm
      split at h
      · rename_i k hk
        obtain rfl := Option.some.inj h
        exact PE.lss hm hk
      · cases h
    · cases h
  · split at h
    · rename_i m hm
      split at h
      · rename_i k hk
        obtain rfl := Option.some.inj h
        exact PE.leq hm hk
      · cases h
    · cases h
  · split at h
    · rename_i m hm
      split at h
      · rename_i k hk
        obtain rfl := Option.some.inj h
        exact PE.gtr hm hk
      · cases h
    · cases h
  · split at h
    · rename_i m hm
      split at h
      · rename_i k hk
        obtain rfl := Option.some.inj h
        exact PE.geq hm hk
      · cases h
    · cases h
  · split at h
    · rename_i m hm
      split at h
      · rename_i k hk
        obtain rfl := Option.some.inj h
        exact PE.eql hm hk
      · cases h
    · cases h
  · split at h
    · rename_i m hm
      split at h
      · rename_i k hk
        obtain rfl := Option.some.inj h
        exact PE.neq hm hk
      · cases h
    · cases h
  · cases h
def gok (ops : Array Oper) (L : Zj) : Option (Nat × Bool) → Option Bool
  | none => some true
  | some (j, b) => match ops[j]? with
    | some oj => match oj.dst with
      | some t => match lk L t with
        | some (.bool c) => some (b == c)
        | _ => none
      | none => none
    | none => none
def prS (ops : Array Oper) (n : Nat) (L : Zj) (i : Nat) : Option Zj := match ops[i]? with
  | some o => match o.dst with
    | some d => bif Nat.blt d n then
        match gok ops L o.guard with
        | some true => match pvl L o.op with
          | some v => some ((d, v) :: L)
          | none => none
        | some false => some ((d, undef) :: L)
        | none => none
      else none
    | none => none
  | none => none
section ops
variable {P : Program} {r : Option Nat} {ops : Array Oper} {n : Nat} {L L' : Zj} {D : List Deferred} {H : Z7} {R : Z5} {K : Act → World → Prop}
  {bm : List Nat} {X : Act → World → Prop} {p p' : Plan} {pend : Z2o} {i : Nat}
theorem Z4I (h : prS ops n L i = some L') : ∃ o d, ops[i]? = some o ∧ o.dst = some d ∧ Nat.blt d n = true ∧
    ((∃ v, pvl L o.op = some v ∧ L' = (d, v) :: L ∧ (o.guard = none ∨ ∃ j b oj t, o.guard = some (j, b) ∧ ops[j]? = some oj ∧ oj.dst = some t ∧ lk L t = some (.bool b))) ∨
     (L' = (d, undef) :: L ∧ ∃ j b oj t c, o.guard = some (j, b) ∧ ops[j]? = some oj ∧ oj.dst = some t ∧ lk L t = some (.bool c) ∧ b = !c)) := by
  unfold prS at h
  split at h
  · rename_i o ho
    split at h
    · rename_i d hd
      cases hb : Nat.blt d n with
      | false => rw [hb] at h; cases h
      | true =>
        rw [hb, cond_true] at h
        refine ⟨o, d, ho, hd, hb, ?_⟩
        have hg : ∀ x, gok ops L o.guard = some x → (o.guard = none ∧ x = true) ∨ ∃ j b oj t c, o.guard = some (j, b) ∧ ops[j]? = some oj ∧ oj.dst = some t ∧ lk L t = some (.bool c) ∧ x = (b == c) := by
          intro x hx
          unfold gok at hx
          split at hx
          · rename_i h0; exact .inl ⟨h0, (Option.some.inj hx).symm⟩
          · rename_i j b h0
            split at hx
            · rename_i oj hj
              split at hx
              · rename_i t ht
                split at hx
                · rename_i c hc
                  exact .inr ⟨j, b, oj, t, c, h0, hj, ht, hc, (Option.some.inj hx).symm⟩
                · cases hx
              · cases hx
            · cases hx
        split at h
        · rename_i h0
          split at h
          · rename_i v hv
            refine .inl ⟨v, hv, (Option.some.inj h).symm, ?_⟩
            rcases hg _ h0 with ⟨h1, _⟩ | ⟨j, b, oj, t, c, h1, h2, h3, h4, h5⟩
            · exact .inl h1
            · obtain rfl := eq_of_beq h5.symm
              exact .inr ⟨j, b, oj, t, h1, h2, h3, h4⟩
          · cases h
        · rename_i h0
          refine .inr ⟨(Option.some.inj h).symm, ?_⟩
          rcases hg _ h0 with ⟨_, h1⟩ | ⟨j, b, oj, t, c, h1, h2, h3, h4, h5⟩
          · cases h1
          · exact ⟨j, b, oj, t, c, h1, h2, h3, h4, by cases b <;> cases c <;> first | rfl | cases h5⟩
        · cases h
    · cases h
  · cases h
theorem Zer (h : prS ops n L i = some L') (hk : Sy n L' D H R K) : Sy n L D H R (stp P r ops i K) := by
  obtain ⟨⟨dst, op, ty, pos, af, g⟩, d, ho, hd, hb, h1⟩ := Z4I h
  dsimp only at hd h1
  subst hd
  rcases h1 with ⟨v, hv, rfl, rfl | ⟨j, b, oj, t, rfl, hj, ht, hl⟩⟩ | ⟨rfl, j, b, oj, t, c, hg, hj, ht, hl, hbc⟩
  · exact sp ho (Z5J hv) hb hk
  · exact spG ho hj ht hl (Z5J hv) hb hk
  · exact spN ho hg hj ht hl hbc rfl hb hk
theorem Zf5 (h : prS ops n L i = some L') (hk : Sy n L' D H R (Dv P r ops bm X p pend)) : Sy n L D H R (Dv P r ops bm X (.tk i p) pend) := by
  obtain ⟨⟨dst, op, ty, pos, af, g⟩, d, ho, hd, hb, h1⟩ := Z4I h
  dsimp only at hd h1
  subst hd
  rcases h1 with ⟨v, hv, rfl, rfl | ⟨j, b, oj, t, rfl, hj, ht, hl⟩⟩ | ⟨rfl, j, b, oj, t, c, hg, hj, ht, hl, hbc⟩
  · exact tk ho (Z5J hv) hb hk
  · exact tkG ho hj ht hl (Z5J hv) hb hk
  · exact tkN ho hg hj ht hl hbc rfl hb hk
def prK (ops : Array Oper) (n : Nat) : Nat → List Nat → Zj → Option (List Nat × Zj)
  | 0, l, L => some (l, L)
  | _ + 1, [], _ => none
  | k + 1, i :: l, L => match prS ops n L i with
    | some L' => prK ops n k l L'
    | none => none
theorem pur (k : Nat) {l l' : List Nat} (h : prK ops n k l L = some (l', L')) (hk : Sy n L' D H R (Z3A P r ops X l')) : Sy n L D H R (Z3A P r ops X l) := by
  induction k generalizing l L with
  | zero =>
    simp only [prK, Option.some.injEq, Prod.mk.injEq] at h
    obtain ⟨rfl, rfl⟩ := h
    exact hk
  | succ k ih =>
    cases l with
    | nil => cases h
    | cons i l =>
      unfold prK at h
      split at h
      · rename_i L1 h1
        exact Zer h1 (ih h)
      · cases h
def prP (ops : Array Oper) (n : Nat) : Nat → Plan → Zj → Option (Plan × Zj)
  | 0, p, L => some (p, L)
  | k + 1, .tk i p, L => match prS ops n L i with
    | some L' => prP ops n k p L'
    | none => none
  | _ + 1, _, _ => none
theorem Zd (k : Nat) (h : prP ops n k p L = some (p', L')) (hk : Sy n L' D H R (Dv P r ops bm X p' pend)) : Sy n L D H R (Dv P r ops bm X p pend) := by
  induction k generalizing p L with
  | zero =>
    simp only [prP, Option.some.injEq, Prod.mk.injEq] at h
    obtain ⟨rfl, rfl⟩ := h
    exact hk
  | succ k ih =>
    cases p with
    | tk i p =>
      unfold prP at h
      split at h
      · rename_i L1 h1
        exact Zf5 h1 (ih h)
      · cases h
    | done => cases h
    | ld i p => cases h
    | big i p => cases h
    | any p => cases h
    | alt i p q => cases h
    | stop => cases h
theorem Zk {X : Act → World → Prop} (t : Nat) {b : Bool} (hb : lk L t = some (.bool b)) (h1 : b = true → Sy n ((t, .bool true) :: L) D H R X) (h0 : b = false → Sy n ((t, .bool false) :: L) D H R X) : Sy n L D H R X := ZcH hb h1 h0
theorem bgT (h : Sy n L D H R (Dv P r ops bm X p (keepP bm i pend))) (hp : ∀ w, St H R w → ZY bm i pend w := by intro w hs; repeat' first | exact trivial | constructor) : Sy n L D H R (fun a w => ZY bm i pend w ∧ Dv P r ops bm X p (keepP bm i pend) a w) := bg hp h
theorem PE.fA {ty : TypeId} {pos : String} {af : Array Edge} {g : Option (Nat × Bool)} {d : Option Tmp} {T k o b off : Nat} {x : Operand} (ho : ZF P T k = some o) (hx : ev L x = some (.pointer (some ⟨b, off, none⟩))) : PE P L ⟨d, .fieldAddr T x k, ty, pos, af, g⟩ (.pointer (some ⟨b, off + o, none⟩)) := PE.fieldAddr ho hx
end ops
theorem cS : (∀ (p : Prop) [Decidable p], (decide p = true) = p) ∧ (∀ (p : Prop) [Decidable p], (decide p = false) = ¬ p) ∧ (∀ a b : Bool, ((a && b) = true) = (a = true ∧ b = true)) ∧ (∀ a b : Bool, ((a || b) = true) = (a = true ∨ b = true)) ∧ (∀ b : Bool, ((!b) = true) = (b = false)) ∧ (∀ a b : Int, (¬ a ≤ b) = (b < a)) ∧ (∀ a b : Int, (¬ a < b) = (b ≤ a)) :=
  ⟨fun _ _ => decide_eq_true_eq, fun p _ => propext decide_eq_false_iff_not, fun a b => by simp, fun a b => by simp, fun b => by simp, fun a b => propext Int.not_le, fun a b => propext Int.not_lt⟩
def tks : Nat → Nat → Plan → Plan
  | _, 0, p => p
  | i, k + 1, p => .tk i (tks (i + 1) k p)
theorem idH {H : Z7} {R : Z5} : ∀ w, St H R w → St H R w := fun _ h => h
theorem ne0 {α : Type} {l : List α} (h : l.length ≠ 0) : l ≠ [] := fun e => h (by rw [e]; rfl)
theorem nl {m n : Nat} (h : Nat.ble m n = true) : m ≤ n := Nat.le_of_ble_eq_true h
theorem dF {p : Prop} [i : Decidable p] (h : ¬ p) : decide p = false := decide_eq_false h
theorem dT {p : Prop} [i : Decidable p] (h : p) : decide p = true := decide_eq_true h
section steps
variable {P : Program} {r : Option Nat} {n : Nat} {L : Zj} {D : List Deferred} {H : Z7} {R : Z5} {Q : Exit → Act → World → Prop}
theorem Zf {ι : Type} {inv : ι → Head} {j : ι} (hH : ∀ w, St H R w → St (inv j).H (inv j).R w) (hL : Sub (inv j).L L := by repeat' first | exact Sub.nil | apply Sub.cons | rfl | (simp [lk]; omega)) : Sy n L D H R (Z3t n D inv j) := ZcE hL hH
theorem Zr {ι : Type} {inv : ι → Head} {μ : ι → Nat} {i : ι} (j : ι) (hm : μ j < μ i) (hH : ∀ w, St H R w → St (inv j).H (inv j).R w) (hL : Sub (inv j).L L := by repeat' first | exact Sub.nil | apply Sub.cons | rfl | (simp [lk]; omega)) : Sy n L D H R (Z8Y n D inv μ i) := Z0s j hm hL hH
theorem Z6 {ι : Type} {inv : ι → Head} {μ : ι → Nat} {i : ι} (j : ι) (hH : ∀ w, St H R w → St (inv j).H (inv j).R w) (hm : μ j < μ i := by dsimp only; omega) (hL : Sub (inv j).L L := by repeat' first | exact Sub.nil | apply Sub.cons | rfl | (simp [lk]; omega)) : Sy n L D H R (Z8Y n D inv μ i) := Z0s j hm hL hH
theorem Zq {ι : Type} {hd : ι → Head} (j : ι) (hH : ∀ w, St H R w → St (hd j).H (hd j).R w) (hL : Sub (hd j).L L := by repeat' first | exact Sub.nil | apply Sub.cons | rfl | (simp [lk]; omega)) : Sy n L D H R (Zce n D hd .normal) := Z8c j hL hH
theorem Z1c {ι : Type} {hd : ι → Head} (j : ι) (hH : ∀ w, St H R w → St (hd j).H (hd j).R w) (hL : Sub (hd j).L L := by repeat' first | exact Sub.nil | apply Sub.cons | rfl | (simp [lk]; omega)) : Sy n L D H R (Z7N n D hd Q .normal) := Zcm j hL hH
def rg : Nat → Nat → List Nat
  | _, 0 => []
  | i, k + 1 => i :: rg (i + 1) k
theorem sqt {id : Nat} {ops : Array Oper} {y : Code} (k : Nat) (hl : List.range ops.size = rg 0 k) (h : Sy n L D H R (Z3A P r ops (wpc P r y Q) (rg 0 k))) : Sy n L D H R (wpc P r (.seq (.region id ops false) y) Q) :=
  Z0 (ZaI _ hl h)
theorem sqr {id : Nat} {ops : Array Oper} (k : Nat) (hl : List.range ops.size = rg 0 k) (h : Sy n L D H R (Z3A P r ops (Q .normal) (rg 0 k))) : Sy n L D H R (wpc P r (.region id ops false) Q) := ZaI _ hl h
variable {fn : Func} {G : Value → Z7 → Z5 → Prop} {H' : Z7} {R' : Z5}
theorem rtA {t : Nat} {v u : Value} (hr : fn.results = #[.tmp t]) (hv : lk L t = some v) (he : ZA [v] = u) (hq : G u H' R') (hs : ∀ w, St H R w → St H' R' w) : Sy n L [] H R (Ret P fn G .ret) := Zu (vs := [v]) hr (.cons (RV.tmp hv) .nil) he hq hs
theorem rtB {t t2 : Nat} {v x u : Value} (hr : fn.results = #[.tmp t, .tmp t2]) (hv : lk L t = some v) (hx : lk L t2 = some x) (he : ZA [v, x] = u) (hq : G u H' R') (hs : ∀ w, St H R w → St H' R' w) : Sy n L [] H R (Ret P fn G .ret) := Zu (vs := [v, x]) hr (.cons (RV.tmp hv) (.cons (RV.tmp hx) .nil)) he hq hs
end steps
theorem Zo : Tryz.prog.follows .mixedOrders = true := by kernel_rfl
end Go.Proofs.YtjoajfdnlomapaaGreat
namespace Go.Proofs.YtjoajfdnlomapaaGreat.Gt
set_option linter.unusedSimpArgs false
set_option linter.unusedVariables false
abbrev Box := List Int
abbrev Mix := List Int
def nn (l : List Int) (k : Nat) : Int := l.getD k 0
@[reducible] def bl (b : Box) (k : Nat) : Int := nn b (2 * k)
@[reducible] def bh (b : Box) (k : Nat) : Int := nn b (2 * k + 1)
def met (l h l2 h2 : Int) : Int × Int := bif decide (min h h2 < max l l2) then (1, 0) else (max l l2, min h h2)
def Z9g (b : Box) (k : Nat) (s : Int × Int) : Box := (b.set (2 * k) s.1).set (2 * k + 1) s.2
def oth (f : Nat → Int) (k : Nat) : Int := (bif k == 0 then 0 else f 0) + (bif k == 1 then 0 else f 1) + (bif k == 2 then 0 else f 2) + (bif k == 3 then 0 else f 3)
def Z26 (b : Box) (k : Nat) : Int × Int := met (bl b k) (bh b k) (40 - oth (bh b) k) (40 - oth (bl b) k)
def Z9d (b : Box) : Nat → Option Box
  | 0 => some b
  | k + 1 => match Z9d b k with
    | none => none
    | some c => bif Z26 c k == (1, 0) then none else some (Z9g c k (Z26 c k))
inductive CloseR : Box → Option Box → Prop where
  | no {b : Box} (h : Z9d b 4 = none) : CloseR b none
  | fix {b : Box} (h : Z9d b 4 = some b) : CloseR b (some b)
  | go {b c : Box} {r : Option Box} (h : Z9d b 4 = some c) (hc : c ≠ b) (hr : CloseR c r) : CloseR b r
def Z5R : Nat → Box → Option Box
  | 0, _ => none
  | n + 1, b => match Z9d b 4 with
    | none => none
    | some c => bif decide (c = b) then some b else Z5R n c
@[irreducible] def clo (b : Box) : Option Box := Z5R 200 b
def Z9B (m : List Int) : Int := nn m 0 + nn m 1 + nn m 2 + nn m 3
structure Mx (b : Box) (m : Mix) : Prop where
  len : m.length = 4
  sum : Z9B m = 40
  at_ : ∀ k < 4, bl b k ≤ nn m k ∧ nn m k ≤ bh b k
structure Bok (b : Box) : Prop where
  len : b.length = 8
  at_ : ∀ k < 4, (bl b k = 1 ∧ bh b k = 0) ∨ (0 ≤ bl b k ∧ bl b k ≤ bh b k ∧ bh b k ≤ 40)
def wid (b : Box) : Nat := ((bh b 0 - bl b 0 + 1) + (bh b 1 - bl b 1 + 1) + (bh b 2 - bl b 2 + 1) + (bh b 3 - bl b 3 + 1)).toNat
theorem ZbW {b : Box} (h : b.length = 8) : ∃ a0 a1 a2 a3 a4 a5 a6 a7, b = [a0, a1, a2, a3, a4, a5, a6, a7] := by
  match b, h with
  | [a0, a1, a2, a3, a4, a5, a6, a7], _ => exact ⟨a0, a1, a2, a3, a4, a5, a6, a7, rfl⟩
theorem Zh3 {m : List Int} (h : m.length = 4) : ∃ a b c d, m = [a, b, c, d] := by
  match m, h with
  | [a, b, c, d], _ => exact ⟨a, b, c, d, rfl⟩
theorem lt4 {k : Nat} (h : k < 4) : k = 0 ∨ k = 1 ∨ k = 2 ∨ k = 3 := by omega
theorem ZbE {p : Nat → Prop} (h : ∀ k < 4, p k) : p 0 ∧ p 1 ∧ p 2 ∧ p 3 := ⟨h 0 (by omega), h 1 (by omega), h 2 (by omega), h 3 (by omega)⟩
theorem of4 {p : Nat → Prop} (h : p 0 ∧ p 1 ∧ p 2 ∧ p 3) : ∀ k < 4, p k := fun k hk => by
  obtain ⟨h0, h1, h2, h3⟩ := h
  rcases lt4 hk with rfl | rfl | rfl | rfl <;> assumption
theorem Z9p (b : Box) (k : Nat) (s : Int × Int) : (Z9g b k s).length = b.length := by simp [Z9g]
theorem Z1t {b : Box} (hb : b.length = 8) {k j : Nat} (hk : k < 4) (hj : j < 4) (s : Int × Int) : bl (Z9g b k s) j = (bif k == j then s.1 else bl b j) ∧ bh (Z9g b k s) j = (bif k == j then s.2 else bh b j) := by
  obtain ⟨a0, a1, a2, a3, a4, a5, a6, a7, rfl⟩ := ZbW hb
  rcases lt4 hk with rfl | rfl | rfl | rfl <;> rcases lt4 hj with rfl | rfl | rfl | rfl <;> exact ⟨rfl, rfl⟩
theorem Z45 {l h l2 h2 : Int} : met l h l2 h2 = (1, 0) ∨ (met l h l2 h2 = (max l l2, min h h2) ∧ max l l2 ≤ min h h2) := by
  unfold met
  by_cases hc : min h h2 < max l l2
  · rw [decide_eq_true hc]; exact .inl rfl
  · rw [decide_eq_false hc]; exact .inr ⟨rfl, by omega⟩
theorem Zdo {l h l2 h2 x : Int} (h1 : l ≤ x ∧ x ≤ h) (h2' : l2 ≤ x ∧ x ≤ h2) : met l h l2 h2 = (max l l2, min h h2) := by
  unfold met
  rw [decide_eq_false (by omega)]; rfl
theorem met_iff {l h l2 h2 x : Int} : ((met l h l2 h2).1 ≤ x ∧ x ≤ (met l h l2 h2).2) ↔ ((l ≤ x ∧ x ≤ h) ∧ (l2 ≤ x ∧ x ≤ h2)) := by
  rcases Z45 (l := l) (h := h) (l2 := l2) (h2 := h2) with e | ⟨e, h3⟩
  · rw [e]
    constructor
    · intro hx; have := hx.1; have := hx.2; simp only at *; omega
    · rintro ⟨h1, h4⟩
      rw [Zdo h1 h4] at e
      simp only [Prod.mk.injEq] at e
      simp only; omega
  · rw [e]; simp only; omega
theorem Zdj {l h l2 h2 : Int} (hb : (l = 1 ∧ h = 0) ∨ (0 ≤ l ∧ l ≤ h ∧ h ≤ 40)) : ((met l h l2 h2).1 = 1 ∧ (met l h l2 h2).2 = 0) ∨ (0 ≤ (met l h l2 h2).1 ∧ (met l h l2 h2).1 ≤ (met l h l2 h2).2 ∧ (met l h l2 h2).2 ≤ 40) := by
  rcases Z45 (l := l) (h := h) (l2 := l2) (h2 := h2) with e | ⟨e, h3⟩
  · rw [e]; exact .inl ⟨rfl, rfl⟩
  · rw [e]; simp only; omega
theorem Bok.set {b : Box} (h : Bok b) {k : Nat} (hk : k < 4) {l2 h2 : Int} : Bok (Z9g b k (met (bl b k) (bh b k) l2 h2)) := by
  refine ⟨by rw [Z9p]; exact h.len, fun j hj => ?_⟩
  obtain ⟨e1, e2⟩ := Z1t h.len hk hj (met (bl b k) (bh b k) l2 h2)
  rw [e1, e2]
  by_cases hkj : k = j
  · subst hkj
    simp only [beq_self_eq_true, cond_true]
    exact Zdj (h.at_ k hk)
  · have : (k == j) = false := by simpa using hkj
    rw [this]; exact h.at_ j hj
theorem Mx.set {b : Box} (hb : b.length = 8) {k : Nat} (hk : k < 4) {l2 h2 : Int} {m : Mix} : Mx (Z9g b k (met (bl b k) (bh b k) l2 h2)) m ↔ (Mx b m ∧ l2 ≤ nn m k ∧ nn m k ≤ h2) := by
  constructor
  · rintro ⟨h1, h2', h3⟩
    have hk2 := h3 k hk
    obtain ⟨e1, e2⟩ := Z1t hb hk hk (met (bl b k) (bh b k) l2 h2)
    simp only [beq_self_eq_true, cond_true] at e1 e2
    rw [e1, e2, met_iff] at hk2
    refine ⟨⟨h1, h2', fun j hj => ?_⟩, hk2.2⟩
    by_cases hkj : k = j
    · subst hkj; exact hk2.1
    · have h4 := h3 j hj
      obtain ⟨e3, e4⟩ := Z1t hb hk hj (met (bl b k) (bh b k) l2 h2)
      have : (k == j) = false := by simpa using hkj
      rw [e3, e4, this] at h4
      exact h4
  · rintro ⟨⟨h1, h2', h3⟩, h4⟩
    refine ⟨h1, h2', fun j hj => ?_⟩
    obtain ⟨e3, e4⟩ := Z1t hb hk hj (met (bl b k) (bh b k) l2 h2)
    rw [e3, e4]
    by_cases hkj : k = j
    · subst hkj
      simp only [beq_self_eq_true, cond_true]
      exact met_iff.2 ⟨h3 k hk, h4⟩
    · have : (k == j) = false := by simpa using hkj
      rw [this]; exact h3 j hj
theorem Mx.oth {b : Box} {m : Mix} (h : Mx b m) {k : Nat} (hk : k < 4) : 40 - oth (bh b) k ≤ nn m k ∧ nn m k ≤ 40 - oth (bl b) k := by
  obtain ⟨h0, h1, h2, h3⟩ := ZbE h.at_
  have hs := h.sum
  unfold Z9B at hs
  rcases lt4 hk with rfl | rfl | rfl | rfl <;> simp [Go.Proofs.YtjoajfdnlomapaaGreat.Gt.oth] <;> omega
theorem Z73 {b : Box} (hb : b.length = 8) {k : Nat} (hk : k < 4) {m : Mix} : Mx (Z9g b k (Z26 b k)) m ↔ Mx b m := by
  unfold Z26
  rw [Mx.set hb hk]
  exact ⟨fun h => h.1, fun h => ⟨h, h.oth hk⟩⟩
theorem Zcr {b : Box} (hb : b.length = 8) {k : Nat} (hk : k < 4) (h : Z26 b k = (1, 0)) {m : Mix} : ¬ Mx b m := fun hm => by
  have h1 := (Z73 hb hk).2 hm
  have h2 := h1.at_ k hk
  obtain ⟨e1, e2⟩ := Z1t hb hk hk (Z26 b k)
  simp only [beq_self_eq_true, cond_true] at e1 e2
  rw [e1, e2, h] at h2
  have := h2.1; have := h2.2
  simp only at *; omega
theorem Z8K {b : Box} (hb : Bok b) : ∀ k, k ≤ 4 → match Z9d b k with
    | none => ∀ m, ¬ Mx b m
    | some c => Bok c ∧ (∀ m, Mx c m ↔ Mx b m) ∧ (∀ j < 4, bl b j ≤ bl c j ∧ bh c j ≤ bh b j) ∧ ∀ j < k, bl c j ≤ bh c j
  | 0, _ => ⟨hb, fun _ => Iff.rfl, fun _ _ => ⟨Int.le_refl _, Int.le_refl _⟩, fun j hj => by omega⟩
  | k + 1, hk => by
    have ih := Z8K hb k (by omega)
    unfold Z9d
    cases hr : Z9d b k with
    | none => rw [hr] at ih; exact ih
    | some c =>
      rw [hr] at ih
      obtain ⟨h1, h2, h3, h4⟩ := ih
      simp only
      by_cases hs : Z26 c k = (1, 0)
      · have : (Z26 c k == (1, 0)) = true := by simp [hs]
        rw [this]
        exact fun m hm => Zcr h1.len (by omega) hs ((h2 m).2 hm)
      · have : (Z26 c k == (1, 0)) = false := by simpa using hs
        rw [this]
        simp only [cond_false]
        have h5 : Z26 c k = (max (bl c k) (40 - oth (bh c) k), min (bh c k) (40 - oth (bl c) k)) ∧ max (bl c k) (40 - oth (bh c) k) ≤ min (bh c k) (40 - oth (bl c) k) := by
          unfold Z26 at hs ⊢
          rcases Z45 (l := bl c k) (h := bh c k) (l2 := 40 - oth (bh c) k) (h2 := 40 - oth (bl c) k) with e | e
          · exact absurd e hs
          · exact e
        refine ⟨h1.set (by omega), fun m => (Z73 h1.len (by omega)).trans (h2 m), fun j hj => ?_, fun j hj => ?_⟩
        · obtain ⟨e1, e2⟩ := Z1t h1.len (k := k) (j := j) (by omega) hj (Z26 c k)
          rw [e1, e2]
          have h6 := h3 j hj
          by_cases hkj : k = j
          · subst hkj; simp only [beq_self_eq_true, cond_true]; rw [h5.1]; simp only; omega
          · have : (k == j) = false := by simpa using hkj
            rw [this]; exact h6
        · obtain ⟨e1, e2⟩ := Z1t h1.len (k := k) (j := j) (by omega) (by omega) (Z26 c k)
          rw [e1, e2]
          by_cases hkj : k = j
          · subst hkj; simp only [beq_self_eq_true, cond_true]; rw [h5.1]; exact h5.2
          · have : (k == j) = false := by simpa using hkj
            rw [this]; exact h4 j (by omega)
theorem Zcw {b c : Box} (hb : b.length = 8) (hc : c.length = 8) (h : ∀ k < 4, bl b k = bl c k ∧ bh b k = bh c k) : b = c := by
  obtain ⟨a0, a1, a2, a3, a4, a5, a6, a7, rfl⟩ := ZbW hb
  obtain ⟨b0, b1, b2, b3, b4, b5, b6, b7, rfl⟩ := ZbW hc
  obtain ⟨h0, h1, h2, h3⟩ := ZbE h
  simp [bl, bh, nn] at h0 h1 h2 h3
  simp [h0, h1, h2, h3]
theorem ZbQ {b c : Box} (hb : Bok b) (h : Z9d b 4 = some c) (hne : c ≠ b) : wid c < wid b := by
  have h1 := Z8K hb 4 (by omega)
  rw [h] at h1
  obtain ⟨h2, _, h3, h4⟩ := h1
  have h5 : ¬ (∀ k < 4, bl c k = bl b k ∧ bh c k = bh b k) := fun h5 => hne (Zcw h2.len hb.len h5)
  obtain ⟨a0, a1, a2, a3⟩ := ZbE h3
  obtain ⟨c0, c1, c2, c3⟩ := ZbE h4
  have h6 : ¬ ((bl c 0 = bl b 0 ∧ bh c 0 = bh b 0) ∧ (bl c 1 = bl b 1 ∧ bh c 1 = bh b 1) ∧ (bl c 2 = bl b 2 ∧ bh c 2 = bh b 2) ∧ (bl c 3 = bl b 3 ∧ bh c 3 = bh b 3)) := fun h6 => h5 (of4 h6)
  unfold wid
  omega
theorem ZfC {b : Box} (hb : Bok b) : wid b ≤ 164 := by
  obtain ⟨a0, a1, a2, a3⟩ := ZbE hb.at_
  unfold wid
  omega
theorem Z6i : ∀ {n : Nat} {b : Box}, Bok b → wid b < n → CloseR b (Z5R n b)
  | 0, b, _, h => by omega
  | n + 1, b, hb, h => by
    have h1 := Z8K hb 4 (by omega)
    unfold Z5R
    cases hr : Z9d b 4 with
    | none => exact .no hr
    | some c =>
      rw [hr] at h1
      simp only
      by_cases hc : c = b
      · subst hc; simp only [decide_true, cond_true]; exact .fix hr
      · simp only [hc, decide_false, cond_false]
        exact .go hr hc (Z6i h1.1 (by have := ZbQ hb hr hc; omega))
theorem CloseR.uniq {b : Box} {r r' : Option Box} (h : CloseR b r) (h' : CloseR b r') : r = r' := by
  induction h with
  | no h => cases h' with
    | no _ => rfl
    | fix h2 => rw [h] at h2; cases h2
    | go h2 _ _ => rw [h] at h2; cases h2
  | fix h => cases h' with
    | no h2 => rw [h] at h2; cases h2
    | fix _ => rfl
    | go h2 hc _ => rw [h] at h2; cases h2; exact absurd rfl hc
  | go h hc hr ih => cases h' with
    | no h2 => rw [h] at h2; cases h2
    | fix h2 => rw [h] at h2; cases h2; exact absurd rfl hc
    | go h2 _ hr' => rw [h] at h2; cases h2; exact ih hr'
theorem Zhx {b : Box} (hb : Bok b) : CloseR b (clo b) := by unfold clo; exact Z6i hb (by have := ZfC hb; omega)
theorem CloseR.clo {b : Box} {r : Option Box} (hb : Bok b) (h : CloseR b r) : clo b = r := (Zhx hb).uniq h
def Zi4 (b : Box) (m : Mix) (k : Nat) : Mix := m.set k (nn m k + min (bh b k - bl b k) (40 - Z9B m))
def ZhA (b : Box) : Nat → Mix
  | 0 => [bl b 0, bl b 1, bl b 2, bl b 3]
  | k + 1 => Zi4 b (ZhA b k) k
def Zib (b : Box) : Mix := ZhA b 4
structure Grd where
  corn : Int
  chaff : Int
  stones : Int
  damp : Int
  price : Int
  deriving DecidableEq, Repr
structure Hnd where
  spot : Int
  a : Int
  b : Int
  c : Int
  d : Int
  deriving DecidableEq, Repr
structure Crt where
  full : Int
  empty : Int
  hs : List Hnd
  deriving DecidableEq, Repr
structure Gat where
  err : Int
  miss : Int
  grs : List Grd
  deriving DecidableEq, Repr
@[reducible] def inb (n lo hi : Int) : Bool := decide (lo ≤ n) && decide (n ≤ hi)
def Grd.ns (x : Grd) : List Int := [x.corn, x.chaff, x.stones, x.damp]
def Hnd.gs (h : Hnd) : List Int := [h.a, h.b, h.c, h.d]
def Hnd.tot (h : Hnd) : Int := Z9B h.gs
def Z0L (l : List Grd) (i : Nat) : Bool := match l[i]?, l[i + 1]? with
  | some a, some b => decide (a.price < b.price)
  | _, _ => false
def Grd.fine (x : Grd) : Bool := inb x.price 0 100 && x.ns.all fun n => inb n 0 40
def Gat.check (g : Gat) : Int := bif decide (4 < g.grs.length) then 2 else bif !(inb g.err 0 50) || !(inb g.miss 0 20) then 3 else bif !(g.grs.all Grd.fine) then 3 else bif (List.range g.grs.length).any (Z0L g.grs) then 4 else 0
def Hnd.fine (h : Hnd) : Bool := inb h.spot 0 2 && h.gs.all fun n => inb n 0 200
def Crt.check (c : Crt) : Int := bif decide (6 < c.hs.length) then 2 else bif !(inb c.full 0 10000) || !(inb c.empty 0 10000) then 3 else bif !(c.hs.all Hnd.fine) then 3 else bif !(c.hs.all fun h => inb h.tot 10 200) then 8 else 0
def Z2E (g : Gat) (c : Crt) : Int := bif decide (g.check ≠ 0) then g.check else c.check
structure Hnd.ok (h : Hnd) : Prop where
  spot : 0 ≤ h.spot ∧ h.spot ≤ 2
  at_ : ∀ k < 4, 0 ≤ nn h.gs k ∧ nn h.gs k ≤ 200
  tot : 10 ≤ h.tot ∧ h.tot ≤ 200
structure Gat.ok (g : Gat) : Prop where
  many : g.grs.length ≤ 4
  err : 0 ≤ g.err ∧ g.err ≤ 50
  miss : 0 ≤ g.miss ∧ g.miss ≤ 20
  grs : ∀ x ∈ g.grs, (0 ≤ x.price ∧ x.price ≤ 100) ∧ ∀ k < 4, 0 ≤ nn x.ns k ∧ nn x.ns k ≤ 40
  ord : ∀ i, Z0L g.grs i = false
structure Crt.ok (c : Crt) : Prop where
  many : c.hs.length ≤ 6
  full : 0 ≤ c.full ∧ c.full ≤ 10000
  empty : 0 ≤ c.empty ∧ c.empty ≤ 10000
  hs : ∀ h ∈ c.hs, h.ok
theorem gat_ok {g : Gat} : g.check = 0 ↔ g.ok := by
  constructor
  · intro h
    unfold Gat.check at h
    cases h1 : decide (4 < g.grs.length) <;> rw [h1] at h
    case true => cases h
    cases h2 : !(inb g.err 0 50) || !(inb g.miss 0 20) <;> rw [h2] at h
    case true => cases h
    cases h3 : g.grs.all Grd.fine <;> rw [h3] at h
    case false => cases h
    cases h4 : (List.range g.grs.length).any (Z0L g.grs) <;> rw [h4] at h
    case true => cases h
    simp only [decide_eq_false_iff_not] at h1
    simp only [inb, Bool.or_eq_false_iff, Bool.not_eq_false', Bool.and_eq_true, decide_eq_true_eq] at h2
    refine ⟨by omega, h2.1, h2.2, fun x hx => ?_, fun i => ?_⟩
    · have := List.all_eq_true.1 h3 x hx
      simp only [Grd.fine, Grd.ns, inb, List.all_cons, List.all_nil, Bool.and_true, Bool.and_eq_true, decide_eq_true_eq] at this
      exact ⟨this.1, of4 ⟨this.2.1, this.2.2.1, this.2.2.2.1, this.2.2.2.2⟩⟩
    · rcases Nat.lt_or_ge i g.grs.length with hi | hi
      · have := List.any_eq_false.1 h4 i (List.mem_range.2 hi)
        simpa using this
      · simp [Z0L, List.getElem?_eq_none hi]
  · intro h
    unfold Gat.check
    have e1 := h.many
    have e2 : (!(inb g.err 0 50) || !(inb g.miss 0 20)) = false := by
      have := h.err; have := h.miss
      simp only [inb, Bool.or_eq_false_iff, Bool.not_eq_false', Bool.and_eq_true, decide_eq_true_eq]; omega
    have e3 : g.grs.all Grd.fine = true := List.all_eq_true.2 fun x hx => by
      obtain ⟨a, b⟩ := h.grs x hx
      obtain ⟨b0, b1, b2, b3⟩ := ZbE b
      simp only [nn, Grd.ns, List.getD_cons_zero, List.getD_cons_succ] at b0 b1 b2 b3
      simp only [Grd.fine, Grd.ns, inb, List.all_cons, List.all_nil, Bool.and_true, Bool.and_eq_true, decide_eq_true_eq]
      exact ⟨a, b0, b1, b2, b3⟩
    have e4 : (List.range g.grs.length).any (Z0L g.grs) = false := List.any_eq_false.2 fun i _ => by rw [h.ord i]; simp
    rw [decide_eq_false (by omega), e2, e3, e4]; rfl
theorem hnd_ok {h : Hnd} : (h.fine = true ∧ inb h.tot 10 200 = true) ↔ h.ok := by
  simp only [Hnd.fine, inb, Bool.and_eq_true, decide_eq_true_eq, Hnd.gs, List.all_cons, List.all_nil, Bool.and_true]
  constructor
  · rintro ⟨⟨a, b0, b1, b2, b3⟩, c⟩
    exact ⟨a, of4 ⟨b0, b1, b2, b3⟩, c⟩
  · rintro ⟨a, b, c⟩
    obtain ⟨b0, b1, b2, b3⟩ := ZbE b
    exact ⟨⟨a, b0, b1, b2, b3⟩, c⟩
theorem crt_ok {c : Crt} : c.check = 0 ↔ c.ok := by
  constructor
  · intro h
    unfold Crt.check at h
    cases h1 : decide (6 < c.hs.length) <;> rw [h1] at h
    case true => cases h
    cases h2 : !(inb c.full 0 10000) || !(inb c.empty 0 10000) <;> rw [h2] at h
    case true => cases h
    cases h3 : c.hs.all Hnd.fine <;> rw [h3] at h
    case false => cases h
    cases h4 : c.hs.all fun h => inb h.tot 10 200 <;> rw [h4] at h
    case false => cases h
    simp only [decide_eq_false_iff_not] at h1
    simp only [inb, Bool.or_eq_false_iff, Bool.not_eq_false', Bool.and_eq_true, decide_eq_true_eq] at h2
    exact ⟨by omega, h2.1, h2.2, fun x hx => hnd_ok.1 ⟨List.all_eq_true.1 h3 x hx, List.all_eq_true.1 h4 x hx⟩⟩
  · intro h
    unfold Crt.check
    have e1 := h.many
    have e2 : (!(inb c.full 0 10000) || !(inb c.empty 0 10000)) = false := by
      have := h.full; have := h.empty
      simp only [inb, Bool.or_eq_false_iff, Bool.not_eq_false', Bool.and_eq_true, decide_eq_true_eq]; omega
    have e3 : c.hs.all Hnd.fine = true := List.all_eq_true.2 fun x hx => (hnd_ok.2 (h.hs x hx)).1
    have e4 : (c.hs.all fun h => inb h.tot 10 200) = true := List.all_eq_true.2 fun x hx => (hnd_ok.2 (h.hs x hx)).2
    rw [decide_eq_false (by omega), e2, e3, e4]; rfl
structure Mxt (m : Mix) : Prop where
  len : m.length = 4
  sum : Z9B m = 40
  at_ : ∀ k < 4, 0 ≤ nn m k ∧ nn m k ≤ 40
def Grd.lo (x : Grd) (k : Nat) : Int := bif k == 0 then x.corn else 0
def Grd.hi (x : Grd) (k : Nat) : Int := bif k == 0 then 40 else nn x.ns k
def Za7 (b : Box) (x : Grd) : Nat → Box
  | 0 => b
  | k + 1 => Z9g (Za7 b x k) k (met (bl (Za7 b x k) k) (bh (Za7 b x k) k) (x.lo k) (x.hi k))
def Zhy (b : Box) (x : Grd) : Box := Za7 b x 4
def Zel (x : Grd) (k : Nat) : Int × Int := bif k == 0 then (0, x.corn - 1) else (nn x.ns k + 1, 40)
def Za5 (b : Box) (x : Grd) (k : Nat) : Box := Z9g b k (met (bl b k) (bh b k) (Zel x k).1 (Zel x k).2)
def Zd1 : List Grd → Box → Option Box
  | [], b => clo b
  | x :: l, b => match clo b with
    | none => none
    | some c => (((Zd1 l (Za5 c x 0)).or (Zd1 l (Za5 c x 1))).or (Zd1 l (Za5 c x 2))).or (Zd1 l (Za5 c x 3))
theorem Mx.bd {b : Box} (hb : Bok b) {m : Mix} (h : Mx b m) : Mxt m := ⟨h.len, h.sum, fun k hk => by
  have h1 := h.at_ k hk
  have h2 := hb.at_ k hk
  omega⟩
def Zhs (l : List Grd) (b : Box) (gr : Int) : Option Box := bif decide (gr = -1) then Zd1 l b else match l[gr.toNat]? with
  | some x => Zd1 (l.take gr.toNat) (Zhy b x)
  | none => none
open Go
theorem ZhJ : Z0Z Tryz.prog 31 = some 4 := by kernel_rfl
theorem ZhK : Z0Z Tryz.prog 38 = some 5 := by kernel_rfl
theorem Zeg : Z0Z Tryz.prog 99 = some 5 := by kernel_rfl
theorem ZcS : arN Tryz.prog 31 = some (4, 1) := by kernel_rfl
theorem ZeL : cal Tryz.prog 141 = true := by kernel_rfl
theorem ZdB : cal Tryz.prog 142 = true := by kernel_rfl
theorem Z8J : cal Tryz.prog 143 = true := by kernel_rfl
theorem ZfN : cal Tryz.prog 144 = true := by kernel_rfl
theorem Zfm : cal Tryz.prog 148 = true := by kernel_rfl
theorem Zfg : cal Tryz.prog 149 = true := by kernel_rfl
theorem Zda : cal Tryz.prog 150 = true := by kernel_rfl
theorem ZdV : cal Tryz.prog 151 = true := by kernel_rfl
theorem ZfF : cal Tryz.prog 152 = true := by kernel_rfl
theorem Zeu : cal Tryz.prog 153 = true := by kernel_rfl
theorem Zf2 : cal Tryz.prog 191 = true := by kernel_rfl
theorem Z9a : cal Tryz.prog 192 = true := by kernel_rfl
theorem ZeM : cal Tryz.prog 193 = true := by kernel_rfl
theorem Zfi : cal Tryz.prog 194 = true := by kernel_rfl
theorem Zeh : cal Tryz.prog 222 = true := by kernel_rfl
theorem Z3W : cal Tryz.prog 33 = true := by kernel_rfl
theorem Zev : cal Tryz.prog 66 = true := by kernel_rfl
theorem Zgz : cal Tryz.prog 67 = true := by kernel_rfl
theorem ZdT : cal Tryz.prog 68 = true := by kernel_rfl
theorem Zhe : cal Tryz.prog 69 = true := by kernel_rfl
theorem ZgW : cal Tryz.prog 70 = true := by kernel_rfl
theorem Zhb : cal Tryz.prog 71 = true := by kernel_rfl
theorem ZgZ : elN Tryz.prog 25 = some 5 := by kernel_rfl
theorem Zip : elN Tryz.prog 28 = some 5 := by kernel_rfl
theorem ZM : elN Tryz.prog 47 = some 1 := by kernel_rfl
theorem Z7c : ZF Tryz.prog 27 0 = some 0 := by kernel_rfl
theorem ZdK : ZF Tryz.prog 27 1 = some 1 := by kernel_rfl
theorem Z8X : ZF Tryz.prog 27 2 = some 2 := by kernel_rfl
theorem Zap : ZF Tryz.prog 30 0 = some 0 := by kernel_rfl
theorem Zaz : ZF Tryz.prog 30 1 = some 1 := by kernel_rfl
theorem Z81 : ZF Tryz.prog 30 2 = some 2 := by kernel_rfl
theorem Zem : ZF Tryz.prog 38 0 = some 0 := by kernel_rfl
theorem ZaV : ZF Tryz.prog 38 1 = some 1 := by kernel_rfl
theorem Zd9 : ZF Tryz.prog 99 0 = some 0 := by kernel_rfl
theorem Ze3 : ZF Tryz.prog 99 1 = some 1 := by kernel_rfl
theorem Zfz : ZF Tryz.prog 99 2 = some 2 := by kernel_rfl
theorem Ze2 : ZF Tryz.prog 99 3 = some 3 := by kernel_rfl
theorem Z74 : ZF Tryz.prog 99 4 = some 4 := by kernel_rfl
theorem ZbU : Z1W Tryz.prog 25 = true := by kernel_rfl
theorem ZeZ : Z1W Tryz.prog 28 = true := by kernel_rfl
theorem Z0i : Z1W Tryz.prog 47 = true := by kernel_rfl
theorem Z4l : Z07 Tryz.prog 112 = true := by kernel_rfl
theorem Zh9 : Z07 Tryz.prog 155 = true := by kernel_rfl
theorem Zgd : Z07 Tryz.prog 234 = true := by kernel_rfl
theorem Zgc : Z07 Tryz.prog 25 = true := by kernel_rfl
theorem Zgi : Z07 Tryz.prog 28 = true := by kernel_rfl
theorem sc3 : Z07 Tryz.prog 3 = true := by kernel_rfl
theorem Z2r : slE Tryz.prog 47 = some (3, 1) := by kernel_rfl
theorem zl3 : Zy Tryz.prog 3 = some ([.int .i64 0]) := by kernel_rfl
def Z49 (x : Grd) : List Value := [.int .i64 x.corn, .int .i64 x.chaff, .int .i64 x.stones, .int .i64 x.damp, .int .i64 x.price]
def grows (l : List Grd) : List (List Value) := l.map Z49
def Z5m (h : Hnd) : List Value := [.int .i64 h.spot, .int .i64 h.a, .int .i64 h.b, .int .i64 h.c, .int .i64 h.d]
def hrows (l : List Hnd) : List (List Value) := l.map Z5m
def gtl (g : Gat) (sl : Value) : List Value := [.int .i64 g.err, .int .i64 g.miss, sl]
def Gat.v (g : Gat) (sl : Value) : Value := .agg (gtl g sl).toArray
def Gat.sl (g : Gat) (a : Option Addr) (c : Nat) : Value := .slice a g.grs.length c
def ctl (c : Crt) (sl : Value) : List Value := [.int .i64 c.full, .int .i64 c.empty, sl]
def Crt.v (c : Crt) (sl : Value) : Value := .agg (ctl c sl).toArray
def Crt.sl (c : Crt) (a : Option Addr) (cc : Nat) : Value := .slice a c.hs.length cc
def ZcW (g : Gat) (c : Crt) (sg sh : Value) : List Value := [.int .i64 c.full, .int .i64 c.empty, sh, .int .i64 g.err, .int .i64 g.miss, sg]
def Grd.v (x : Grd) : Value := .agg (Z49 x).toArray
def Hnd.v (h : Hnd) : Value := .agg (Z5m h).toArray
def spv (l h : Int) : Value := .agg #[.int .i64 l, .int .i64 h]
abbrev irows (l : List Int) : List (List Value) := l.map fun z => [.int .i64 z]
theorem Zar {l : List Grd} {k : Nat} {x : Grd} (h : l[k]? = some x) : (grows l)[k]? = some (Z49 x) := by simp [grows, h]
theorem ints_length (l : List Int) : (Zh l).length = l.length := by simp [Zh]
theorem St.rows1 {b e : Nat} {h : Hnd} {H : Z7} {R : Z5} {w : World} (hs : St ((b, cel e (Z5m h)) :: H) R w) : St H (RowsA (some ⟨b, 1, none⟩) 1 (irows h.gs) :: R) w := by
  have h1 := (St.freeze hs).also (f := RowsA (some ⟨b, 1, none⟩) 1 (irows h.gs)) (fun w' hw => by
    have hb := hw (fun w => w.heap[b]? = some (cel e (Z5m h))) (by simp)
    have one : ∀ (i : Nat) (z : Int), (Z5m h)[1 + i]? = some (.int .i64 z) → ∀ j x, [Value.int .i64 z][j]? = some x → w'.cell? ⟨b, 1 + i * 1 + j, none⟩ = some x := fun i z hz j x hx => by
      match j, hx with
      | 0, hx => rw [Z1s hb, Nat.mul_one, Nat.add_zero]; simp only [List.getElem?_cons_zero] at hx; rw [← hx]; simpa using hz
    intro i row hi
    match i, hi with
    | 0, hi => cases hi; exact ⟨rfl, b, 1, rfl, one 0 h.a rfl⟩
    | 1, hi => cases hi; exact ⟨rfl, b, 1, rfl, one 1 h.b rfl⟩
    | 2, hi => cases hi; exact ⟨rfl, b, 1, rfl, one 2 h.c rfl⟩
    | 3, hi => cases hi; exact ⟨rfl, b, 1, rfl, one 3 h.d rfl⟩
    | i + 4, hi => cases hi)
  exact h1.facts (fun g hg => by rcases List.mem_cons.1 hg with h2 | h2 <;> simp [h2])
theorem Zm {α : Type} {xs : List α} {p : α → Bool} {k : Nat} {x : α} (hx : xs[k]? = some x) (hn : ∀ y ∈ xs.take k, p y = false) (h : p x = true) : xs.findIdx? p = some k := by
  induction xs generalizing k with
  | nil => simp at hx
  | cons y ys ih =>
    cases k with
    | zero => simp only [List.getElem?_cons_zero, Option.some.injEq] at hx; subst hx; simp [List.findIdx?_cons, h]
    | succ k =>
      have hy := hn y (by simp)
      have := ih (by simpa using hx) (fun z hz => hn z (by simp [hz]))
      simp [List.findIdx?_cons, hy, this]
theorem Zi {α : Type} {xs : List α} {p : α → Bool} (hn : ∀ y ∈ xs, p y = false) : xs.findIdx? p = none := by
  rw [List.findIdx?_eq_none_iff]; exact hn
theorem ZB {α : Type} {xs : List α} {p : α → Bool} {k : Nat} {x : α} (hx : xs[k]? = some x) (hn : ∀ y ∈ xs.take k, p y = false) (h : p x = false) : ∀ y ∈ xs.take (k + 1), p y = false := by
  intro y hy
  rw [List.take_add_one, hx] at hy
  rcases List.mem_append.1 hy with h1 | h1
  · exact hn y h1
  · simp only [Option.toList_some, List.mem_singleton] at h1; subst h1; exact h
theorem ZT {α : Type} (xs : List α) (p : α → Bool) : Value.bool (decide (0 ≤ (match xs.findIdx? p with | some k => (k : Int) | none => -1))) = .bool (xs.any p) := by
  congr 1
  cases h : xs.findIdx? p with
  | none =>
    have := List.findIdx?_eq_none_iff.1 h
    have h2 : xs.any p = false := by simpa using this
    rw [h2]; rfl
  | some k =>
    have h2 : xs.any p = true := by
      rw [← Bool.not_eq_false]; intro h3
      have : xs.findIdx? p = none := List.findIdx?_eq_none_iff.2 (by simpa using h3)
      rw [this] at h; cases h
    rw [h2]; simp
theorem Zw {α : Type} (xs : List α) (p : α → Bool) : Value.bool (!xs.any fun x => !p x) = .bool (xs.all p) := by
  congr 1
  induction xs with
  | nil => rfl
  | cons x xs ih => simp [← ih]
theorem Z6P {l : List Grd} {k : Nat} {x y : Grd} (hx : l[k]? = some x) (hy : l[k + 1]? = some y) (h : x.price < y.price) : (List.range l.length).any (Z0L l) = true := by
  rw [List.any_eq_true]
  refine ⟨k, List.mem_range.2 (List.getElem?_eq_some_iff.1 hx).1, ?_⟩
  unfold Z0L
  rw [hx, hy]; simpa using h
theorem Z9U {l : List Grd} (h : ∀ i, i + 1 < l.length → Z0L l i = false) : (List.range l.length).any (Z0L l) = false := by
  rw [List.any_eq_false]
  intro i _
  rw [Bool.not_eq_true]
  rcases Nat.lt_or_ge (i + 1) l.length with h1 | h1
  · exact h i h1
  · unfold Z0L
    rw [List.getElem?_eq_none (l := l) (i := i + 1) (by omega)]
    split <;> simp_all
theorem Z2P (n lo hi : Int) (H : Z7) (R : Z5) :
    FnV Tryz.prog 33 [.int .i64 n, .int .i64 lo, .int .i64 hi] H R (.bool (inb n lo hi)) := by
 refine Z8 Tryz.func33 rfl Tryz.ntmps33 rfl ?_
 refine sqt 1 rfl (pur 1 rfl (sqt 9 rfl (pur 4 rfl ?_)))
 refine Zk 10 rfl ?_ ?_ <;> intro g10
 refine pur 5 rfl (Z4 ?_)
 exact rtA rfl rfl rfl ⟨by simp_all only [ZA, inb, ge_iff_le, Bool.true_and, Bool.false_and, cond_true, cond_false], rfl, rfl⟩ drp
 refine pur 5 rfl (Z4 ?_)
 exact rtA rfl rfl rfl ⟨by simp_all only [ZA, inb, ge_iff_le, Bool.true_and, Bool.false_and, cond_true, cond_false], rfl, rfl⟩ drp
theorem Z2L (xs : List Int) (a : Option Addr) (c g : Nat) (fst cap : List Value) (p : Int → Bool) (hg : cal Tryz.prog g = true) (hl : xs.length ≤ 9223372036854775807) (H : Z7) (R : Z5) [hR : MemRows a 1 (irows xs) R] (hp : ∀ x, x ∈ xs → FnV Tryz.prog g (fst ++ [.int .i64 x] ++ cap) H R (.bool (p x))) :
    FnV Tryz.prog 192 [.slice a xs.length c, .func (.func g) fst.toArray cap.toArray] H R (.int .i64 (match xs.findIdx? p with | some k => (k : Int) | none => -1)) := by
 refine Z8 Tryz.func192 rfl Tryz.ntmps192 rfl ?_
 refine sqt 1 rfl (pur 1 rfl (Z0 (sqt 3 rfl (pur 1 rfl (sp rfl (PE.lenSl Z0i rfl) rfl (pur 1 rfl (Z2 ?_)))))))
 refine Zb (ι := {k : Nat // k ≤ xs.length ∧ ∀ x ∈ xs.take k, p x = false}) (fun k => ⟨[(0, .slice a xs.length c), (1, .func (.func g) fst.toArray cap.toArray), (7, .int .i64 xs.length), (8, .int .i64 k.1)], H, R⟩) (fun k => xs.length - k.1) ⟨0, by simp⟩ ?_ (fun k => ?_)
 exact Zf idH
 obtain ⟨k, hk, hn⟩ := k
 dsimp only
 refine sqt 1 rfl (pur 1 rfl (Z0 ?_))
 refine Z1 rfl ?_ ?_ <;> intro hc0
 simp only [cS] at hc0
 obtain ⟨x, hx⟩ : ∃ x, xs[k]? = some x := ⟨_, List.getElem?_eq_getElem (by omega)⟩
 have hxm := List.mem_of_getElem? hx
 refine Zg (a := a) (sz := 1) (rows := irows xs) (by cases xs <;> simp_all [irows]) (fun b off he => ?_)
 subst he
 refine Z3 (Z0 (Z2 (sqt 2 rfl (pur 2 rfl (sqt 6 rfl (pur 3 rfl (sp rfl (PE.indexAddr ZM rfl rfl (by omega) (by omega)) rfl (spL rfl rfl (lf0 sc3 (by simp [irows, hx]; rfl) rfl) rfl ?_))))))))
 refine Z1x rfl rfl (hg) rfl rfl (hp x hxm) ?_
 refine Z1 rfl ?_ ?_ <;> intro hc1
 refine sqt 2 rfl (pur 2 rfl (Z4 ?_))
 first | (exact rtA rfl rfl rfl ⟨by rw [Zm hx hn hc1]; rfl, rfl, rfl⟩ idH) | (exact rtA rfl rfl rfl ⟨by rw [Zi (by simpa using hn)]; rfl, rfl, rfl⟩ idH)
 refine Z3 (sqr 2 rfl (sp rfl (PE.add rfl rfl (by omega)) rfl (pur 1 rfl ?_)))
 exact Z6 ⟨k + 1, by omega, ZB hx hn hc1⟩ idH
 simp only [cS] at hc0
 obtain rfl : k = xs.length := by omega
 refine Z9 (Za (Za (Zl (sqt 1 rfl (pur 1 rfl (Z4 ?_))))))
 first | (exact rtA rfl rfl rfl ⟨by rw [Zm hx hn hc1]; rfl, rfl, rfl⟩ idH) | (exact rtA rfl rfl rfl ⟨by rw [Zi (by simpa using hn)]; rfl, rfl, rfl⟩ idH)
theorem Z2X (xs : List Int) (a : Option Addr) (c g : Nat) (fst cap : List Value) (p : Int → Bool) (hg : cal Tryz.prog g = true) (hl : xs.length ≤ 9223372036854775807) (H : Z7) (R : Z5) [hR : MemRows a 1 (irows xs) R] (hp : ∀ x, x ∈ xs → FnV Tryz.prog g (fst ++ [.int .i64 x] ++ cap) H R (.bool (p x))) :
    FnV Tryz.prog 143 [.slice a xs.length c, .func (.func g) fst.toArray cap.toArray] H R (.bool (xs.any p)) := by
 refine Z8 Tryz.func143 rfl Tryz.ntmps143 rfl ?_
 refine sqt 1 rfl (pur 1 rfl (sqt 5 rfl (pur 2 rfl ?_)))
 refine clV rfl Z9a rfl rfl (Z2L xs a c g fst cap p hg hl _ _ hp) ?_
 refine pur 2 rfl (Z4 ?_)
 exact rtA rfl rfl rfl ⟨by simp only [ZA]; exact ZT _ _, rfl, rfl⟩ drp
theorem Z31 (x : Int) (g bf : Nat) (fst cap : List Value) (p : Bool) (hg : cal Tryz.prog g = true) (H : Z7) (R : Z5) [hM : Mem1 bf (cel 112 [.func (.func g) fst.toArray cap.toArray]) H] (hp : FnV Tryz.prog g (fst ++ [.int .i64 x] ++ cap) H R (.bool p)) :
    FnV Tryz.prog 144 [.int .i64 x, .pointer (some ⟨bf, 0, none⟩)] H R (.bool !p) := by
 refine Z8 Tryz.func144 rfl Tryz.ntmps144 rfl ?_
 refine sqt 1 rfl (pur 1 rfl (sqt 5 rfl (spL rfl rfl (lh Z4l rfl rfl) rfl (pur 1 rfl ?_))))
 refine Z1x rfl rfl (hg) rfl rfl (hp) ?_
 refine pur 2 rfl (Z4 ?_)
 exact rtA rfl rfl rfl ⟨rfl, rfl, rfl⟩ drp
theorem Z06 (xs : List Int) (a : Option Addr) (c g : Nat) (fst cap : List Value) (p : Int → Bool) (hg : cal Tryz.prog g = true) (hl : xs.length ≤ 9223372036854775807) (H : Z7) (R : Z5) [hR : MemRows a 1 (irows xs) R] (hp : ∀ b x, x ∈ xs → FnV Tryz.prog g (fst ++ [.int .i64 x] ++ cap) ((b, cel 112 [.func (.func g) fst.toArray cap.toArray]) :: H) R (.bool (p x))) :
    FnV Tryz.prog 68 [.slice a xs.length c, .func (.func g) fst.toArray cap.toArray] H R (.bool (xs.all p)) := by
 refine Z8 Tryz.func68 rfl Tryz.ntmps68 rfl ?_
 refine sqt 2 rfl (bx rfl rfl rfl (fun b3 => pur 1 rfl (sqt 5 rfl (pur 1 rfl (sp rfl (PE.makeFunc rfl rfl) rfl ?_)))))
 refine clV rfl Z8J rfl rfl (Z2X xs a c 144 [] [_] (fun x => !p x) ZfN hl _ _ (hp := fun x hx => Z31 x g _ fst cap (p x) hg _ _ (hp := hp _ x hx))) ?_
 refine pur 2 rfl (Z4 ?_)
 exact rtA rfl rfl rfl ⟨by simp only [ZA]; rw [Zw], rfl, rfl⟩ drp
theorem Z80 (xs : List Grd) (a : Option Addr) (c g : Nat) (fst cap : List Value) (p : Grd → Bool) (hg : cal Tryz.prog g = true) (hl : xs.length ≤ 9223372036854775807) (H : Z7) (R : Z5) [hR : MemRows a 5 (grows xs) R] (hp : ∀ x, x ∈ xs → FnV Tryz.prog g (fst ++ [.agg (Z49 x).toArray] ++ cap) H R (.bool (p x))) :
    FnV Tryz.prog 222 [.slice a xs.length c, .func (.func g) fst.toArray cap.toArray] H R (.int .i64 (match xs.findIdx? p with | some k => (k : Int) | none => -1)) := by
 refine Z8 Tryz.func222 rfl Tryz.ntmps222 rfl ?_
 refine sqt 1 rfl (pur 1 rfl (Z0 (sqt 3 rfl (pur 1 rfl (sp rfl (PE.lenSl ZbU rfl) rfl (pur 1 rfl (Z2 ?_)))))))
 refine Zb (ι := {k : Nat // k ≤ xs.length ∧ ∀ x ∈ xs.take k, p x = false}) (fun k => ⟨[(0, .slice a xs.length c), (1, .func (.func g) fst.toArray cap.toArray), (7, .int .i64 xs.length), (8, .int .i64 k.1)], H, R⟩) (fun k => xs.length - k.1) ⟨0, by simp⟩ ?_ (fun k => ?_)
 exact Zf idH
 obtain ⟨k, hk, hn⟩ := k
 dsimp only
 refine sqt 1 rfl (pur 1 rfl (Z0 ?_))
 refine Z1 rfl ?_ ?_ <;> intro hc0
 simp only [cS] at hc0
 obtain ⟨x, hx⟩ : ∃ x, xs[k]? = some x := ⟨_, List.getElem?_eq_getElem (by omega)⟩
 have hxm := List.mem_of_getElem? hx
 refine Zg (a := a) (sz := 5) (rows := grows xs) (by cases xs <;> simp_all [grows]) (fun b off he => ?_)
 subst he
 refine Z3 (Z0 (Z2 (sqt 2 rfl (pur 2 rfl (sqt 6 rfl (pur 3 rfl (sp rfl (PE.indexAddr ZgZ rfl rfl (by omega) (by omega)) rfl (spL rfl rfl (lfA Zeg (row := Z49 x) (by simp [grows, hx]) rfl) rfl ?_))))))))
 refine Z1x rfl rfl (hg) rfl rfl (hp x hxm) ?_
 refine Z1 rfl ?_ ?_ <;> intro hc1
 refine sqt 2 rfl (pur 2 rfl (Z4 ?_))
 first | (exact rtA rfl rfl rfl ⟨by rw [Zm hx hn hc1]; rfl, rfl, rfl⟩ idH) | (exact rtA rfl rfl rfl ⟨by rw [Zi (by simpa using hn)]; rfl, rfl, rfl⟩ idH)
 refine Z3 (sqr 2 rfl (sp rfl (PE.add rfl rfl (by omega)) rfl (pur 1 rfl ?_)))
 exact Z6 ⟨k + 1, by omega, ZB hx hn hc1⟩ idH
 simp only [cS] at hc0
 obtain rfl : k = xs.length := by omega
 refine Z9 (Za (Za (Zl (sqt 1 rfl (pur 1 rfl (Z4 ?_))))))
 first | (exact rtA rfl rfl rfl ⟨by rw [Zm hx hn hc1]; rfl, rfl, rfl⟩ idH) | (exact rtA rfl rfl rfl ⟨by rw [Zi (by simpa using hn)]; rfl, rfl, rfl⟩ idH)
theorem Z82 (xs : List Grd) (a : Option Addr) (c g : Nat) (fst cap : List Value) (p : Grd → Bool) (hg : cal Tryz.prog g = true) (hl : xs.length ≤ 9223372036854775807) (H : Z7) (R : Z5) [hR : MemRows a 5 (grows xs) R] (hp : ∀ x, x ∈ xs → FnV Tryz.prog g (fst ++ [.agg (Z49 x).toArray] ++ cap) H R (.bool (p x))) :
    FnV Tryz.prog 193 [.slice a xs.length c, .func (.func g) fst.toArray cap.toArray] H R (.bool (xs.any p)) := by
 refine Z8 Tryz.func193 rfl Tryz.ntmps193 rfl ?_
 refine sqt 1 rfl (pur 1 rfl (sqt 5 rfl (pur 2 rfl ?_)))
 refine clV rfl Zeh rfl rfl (Z80 xs a c g fst cap p hg hl _ _ hp) ?_
 refine pur 2 rfl (Z4 ?_)
 exact rtA rfl rfl rfl ⟨by simp only [ZA]; exact ZT _ _, rfl, rfl⟩ drp
theorem Z7A (x : Grd) (g bf : Nat) (fst cap : List Value) (p : Bool) (hg : cal Tryz.prog g = true) (H : Z7) (R : Z5) [hM : Mem1 bf (cel 234 [.func (.func g) fst.toArray cap.toArray]) H] (hp : ∀ b, FnV Tryz.prog g (fst ++ [.agg (Z49 x).toArray] ++ cap) ((b, cel 99 (Z49 x)) :: H) R (.bool p)) :
    FnV Tryz.prog 194 [.agg (Z49 x).toArray, .pointer (some ⟨bf, 0, none⟩)] H R (.bool !p) := by
 refine Z8 Tryz.func194 rfl Tryz.ntmps194 rfl ?_
 refine sqt 2 rfl (bx rfl rfl rfl (fun b2 => pur 1 rfl (sqt 5 rfl (spL rfl rfl (lh Zgd rfl rfl) rfl (spL rfl rfl (lhA [_, _, _, _, _] Zeg rfl rfl rfl) rfl ?_)))))
 refine Z1x rfl rfl (hg) rfl rfl (hp _) ?_
 refine pur 2 rfl (Z4 ?_)
 exact rtA rfl rfl rfl ⟨rfl, rfl, rfl⟩ drp
theorem Z5w (xs : List Grd) (a : Option Addr) (c g : Nat) (fst cap : List Value) (p : Grd → Bool) (hg : cal Tryz.prog g = true) (hl : xs.length ≤ 9223372036854775807) (H : Z7) (R : Z5) [hR : MemRows a 5 (grows xs) R] (hp : ∀ b b2 x, x ∈ xs → FnV Tryz.prog g (fst ++ [.agg (Z49 x).toArray] ++ cap) ((b2, cel 99 (Z49 x)) :: (b, cel 234 [.func (.func g) fst.toArray cap.toArray]) :: H) R (.bool (p x))) :
    FnV Tryz.prog 148 [.slice a xs.length c, .func (.func g) fst.toArray cap.toArray] H R (.bool (xs.all p)) := by
 refine Z8 Tryz.func148 rfl Tryz.ntmps148 rfl ?_
 refine sqt 2 rfl (bx rfl rfl rfl (fun b3 => pur 1 rfl (sqt 5 rfl (pur 1 rfl (sp rfl (PE.makeFunc rfl rfl) rfl ?_)))))
 refine clV rfl ZeM rfl rfl (Z82 xs a c 194 [] [_] (fun x => !p x) Zfi hl _ _ (hp := fun x hx => Z7A x g _ fst cap (p x) hg _ _ (hp := fun b => hp _ _ x hx))) ?_
 refine pur 2 rfl (Z4 ?_)
 exact rtA rfl rfl rfl ⟨by simp only [ZA]; rw [Zw], rfl, rfl⟩ drp
theorem Z6Y (xs : List Hnd) (a : Option Addr) (c g : Nat) (fst cap : List Value) (p : Hnd → Bool) (hg : cal Tryz.prog g = true) (hl : xs.length ≤ 9223372036854775807) (H : Z7) (R : Z5) [hR : MemRows a 5 (hrows xs) R] (hp : ∀ x, x ∈ xs → FnV Tryz.prog g (fst ++ [.agg (Z5m x).toArray] ++ cap) H R (.bool (p x))) :
    FnV Tryz.prog 191 [.slice a xs.length c, .func (.func g) fst.toArray cap.toArray] H R (.int .i64 (match xs.findIdx? p with | some k => (k : Int) | none => -1)) := by
 refine Z8 Tryz.func191 rfl Tryz.ntmps191 rfl ?_
 refine sqt 1 rfl (pur 1 rfl (Z0 (sqt 3 rfl (pur 1 rfl (sp rfl (PE.lenSl ZeZ rfl) rfl (pur 1 rfl (Z2 ?_)))))))
 refine Zb (ι := {k : Nat // k ≤ xs.length ∧ ∀ x ∈ xs.take k, p x = false}) (fun k => ⟨[(0, .slice a xs.length c), (1, .func (.func g) fst.toArray cap.toArray), (7, .int .i64 xs.length), (8, .int .i64 k.1)], H, R⟩) (fun k => xs.length - k.1) ⟨0, by simp⟩ ?_ (fun k => ?_)
 exact Zf idH
 obtain ⟨k, hk, hn⟩ := k
 dsimp only
 refine sqt 1 rfl (pur 1 rfl (Z0 ?_))
 refine Z1 rfl ?_ ?_ <;> intro hc0
 simp only [cS] at hc0
 obtain ⟨x, hx⟩ : ∃ x, xs[k]? = some x := ⟨_, List.getElem?_eq_getElem (by omega)⟩
 have hxm := List.mem_of_getElem? hx
 refine Zg (a := a) (sz := 5) (rows := hrows xs) (by cases xs <;> simp_all [hrows]) (fun b off he => ?_)
 subst he
 refine Z3 (Z0 (Z2 (sqt 2 rfl (pur 2 rfl (sqt 6 rfl (pur 3 rfl (sp rfl (PE.indexAddr Zip rfl rfl (by omega) (by omega)) rfl (spL rfl rfl (lfA ZhK (row := Z5m x) (by simp [hrows, hx]) rfl) rfl ?_))))))))
 refine Z1x rfl rfl (hg) rfl rfl (hp x hxm) ?_
 refine Z1 rfl ?_ ?_ <;> intro hc1
 refine sqt 2 rfl (pur 2 rfl (Z4 ?_))
 first | (exact rtA rfl rfl rfl ⟨by rw [Zm hx hn hc1]; rfl, rfl, rfl⟩ idH) | (exact rtA rfl rfl rfl ⟨by rw [Zi (by simpa using hn)]; rfl, rfl, rfl⟩ idH)
 refine Z3 (sqr 2 rfl (sp rfl (PE.add rfl rfl (by omega)) rfl (pur 1 rfl ?_)))
 exact Z6 ⟨k + 1, by omega, ZB hx hn hc1⟩ idH
 simp only [cS] at hc0
 obtain rfl : k = xs.length := by omega
 refine Z9 (Za (Za (Zl (sqt 1 rfl (pur 1 rfl (Z4 ?_))))))
 first | (exact rtA rfl rfl rfl ⟨by rw [Zm hx hn hc1]; rfl, rfl, rfl⟩ idH) | (exact rtA rfl rfl rfl ⟨by rw [Zi (by simpa using hn)]; rfl, rfl, rfl⟩ idH)
theorem Z8I (xs : List Hnd) (a : Option Addr) (c g : Nat) (fst cap : List Value) (p : Hnd → Bool) (hg : cal Tryz.prog g = true) (hl : xs.length ≤ 9223372036854775807) (H : Z7) (R : Z5) [hR : MemRows a 5 (hrows xs) R] (hp : ∀ x, x ∈ xs → FnV Tryz.prog g (fst ++ [.agg (Z5m x).toArray] ++ cap) H R (.bool (p x))) :
    FnV Tryz.prog 141 [.slice a xs.length c, .func (.func g) fst.toArray cap.toArray] H R (.bool (xs.any p)) := by
 refine Z8 Tryz.func141 rfl Tryz.ntmps141 rfl ?_
 refine sqt 1 rfl (pur 1 rfl (sqt 5 rfl (pur 2 rfl ?_)))
 refine clV rfl Zf2 rfl rfl (Z6Y xs a c g fst cap p hg hl _ _ hp) ?_
 refine pur 2 rfl (Z4 ?_)
 exact rtA rfl rfl rfl ⟨by simp only [ZA]; exact ZT _ _, rfl, rfl⟩ drp
theorem Z88 (x : Hnd) (g bf : Nat) (fst cap : List Value) (p : Bool) (hg : cal Tryz.prog g = true) (H : Z7) (R : Z5) [hM : Mem1 bf (cel 155 [.func (.func g) fst.toArray cap.toArray]) H] (hp : ∀ b, FnV Tryz.prog g (fst ++ [.agg (Z5m x).toArray] ++ cap) ((b, cel 38 (Z5m x)) :: H) R (.bool p)) :
    FnV Tryz.prog 142 [.agg (Z5m x).toArray, .pointer (some ⟨bf, 0, none⟩)] H R (.bool !p) := by
 refine Z8 Tryz.func142 rfl Tryz.ntmps142 rfl ?_
 refine sqt 2 rfl (bx rfl rfl rfl (fun b2 => pur 1 rfl (sqt 5 rfl (spL rfl rfl (lh Zh9 rfl rfl) rfl (spL rfl rfl (lhA [_, _, _, _, _] ZhK rfl rfl rfl) rfl ?_)))))
 refine Z1x rfl rfl (hg) rfl rfl (hp _) ?_
 refine pur 2 rfl (Z4 ?_)
 exact rtA rfl rfl rfl ⟨rfl, rfl, rfl⟩ drp
theorem Z2K (xs : List Hnd) (a : Option Addr) (c g : Nat) (fst cap : List Value) (p : Hnd → Bool) (hg : cal Tryz.prog g = true) (hl : xs.length ≤ 9223372036854775807) (H : Z7) (R : Z5) [hR : MemRows a 5 (hrows xs) R] (hp : ∀ b b2 x, x ∈ xs → FnV Tryz.prog g (fst ++ [.agg (Z5m x).toArray] ++ cap) ((b2, cel 38 (Z5m x)) :: (b, cel 155 [.func (.func g) fst.toArray cap.toArray]) :: H) R (.bool (p x))) :
    FnV Tryz.prog 66 [.slice a xs.length c, .func (.func g) fst.toArray cap.toArray] H R (.bool (xs.all p)) := by
 refine Z8 Tryz.func66 rfl Tryz.ntmps66 rfl ?_
 refine sqt 2 rfl (bx rfl rfl rfl (fun b3 => pur 1 rfl (sqt 5 rfl (pur 1 rfl (sp rfl (PE.makeFunc rfl rfl) rfl ?_)))))
 refine clV rfl ZeL rfl rfl (Z8I xs a c 142 [] [_] (fun x => !p x) ZdB hl _ _ (hp := fun x hx => Z88 x g _ fst cap (p x) hg _ _ (hp := fun b => hp _ _ x hx))) ?_
 refine pur 2 rfl (Z4 ?_)
 exact rtA rfl rfl rfl ⟨by simp only [ZA]; rw [Zw], rfl, rfl⟩ drp
theorem ZgV (a b c d : Int) (hb : ∀ x ∈ [a, b, c, d], -1000000 ≤ x ∧ x ≤ 1000000000000000) (H : Z7) (R : Z5) :
    FnV Tryz.prog 71 [.agg (Zh [a, b, c, d]).toArray] H R (.int .i64 (a + b + c + d)) := by
 have ha := hb a (by simp)
 have hb1 := hb b (by simp)
 have hc := hb c (by simp)
 have hd := hb d (by simp)
 clear hb
 refine Z8 Tryz.func71 rfl Tryz.ntmps71 rfl ?_
 refine sqt 2 rfl (bx rfl rfl rfl (fun b1 => pur 1 rfl (sqt 12 rfl (sp rfl (PE.indexArr ZcS rfl rfl (by omega) (by omega)) rfl (spL rfl rfl (lh sc3 rfl rfl) rfl (sp rfl (PE.indexArr ZcS rfl rfl (by omega) (by omega)) rfl (spL rfl rfl (lh sc3 rfl rfl) rfl (sp rfl (PE.add rfl rfl (by omega)) rfl (sp rfl (PE.indexArr ZcS rfl rfl (by omega) (by omega)) rfl (spL rfl rfl (lh sc3 rfl rfl) rfl (sp rfl (PE.add rfl rfl (by omega)) rfl (sp rfl (PE.indexArr ZcS rfl rfl (by omega) (by omega)) rfl (spL rfl rfl (lh sc3 rfl rfl) rfl (sp rfl (PE.add rfl rfl (by omega)) rfl (pur 1 rfl ?_)))))))))))))))
 refine Z4 ?_
 exact rtA rfl rfl rfl ⟨rfl, rfl, rfl⟩ drp
theorem Z8u (x : Grd) (H : Z7) (R : Z5) :
    Fn Tryz.prog 150 [.agg (Z49 x).toArray] H R (fun v H' R' => ∃ b, v = .slice (some ⟨b, 0, none⟩) 4 4 ∧ H' = H ∧ R' = RowsA (some ⟨b, 0, none⟩) 1 (irows x.ns) :: R) := by
 refine Z8 Tryz.func150 rfl Tryz.ntmps150 rfl ?_
 refine sqt 2 rfl (bx rfl rfl rfl (fun b1 => pur 1 rfl (sqt 10 rfl (sp rfl (PE.fA Zd9 rfl) rfl (spL rfl rfl (lh sc3 rfl rfl) rfl (sp rfl (PE.fA Ze3 rfl) rfl (spL rfl rfl (lh sc3 rfl rfl) rfl (sp rfl (PE.fA Zfz rfl) rfl (spL rfl rfl (lh sc3 rfl rfl) rfl (sp rfl (PE.fA Ze2 rfl) rfl (spL rfl rfl (lh sc3 rfl rfl) rfl ?_)))))))))))
 refine bsl (out := [_, _, _, _]) rfl Z2r zl3 rfl rfl rfl rfl rfl rfl (fun b11 => ?_)
 refine pur 1 rfl (Z4 ?_)
 refine Sy.heap (fun w h => St.intRows (l := x.ns) h) ?_
 exact rtA rfl rfl rfl ⟨_, rfl, rfl, rfl⟩ drp
theorem Z6N (xs : List Int) (a : Option Addr) (c : Nat) (hl : xs.length ≤ 9223372036854775807) (H : Z7) (R : Z5) [hR : MemRows a 1 (irows xs) R] :
    FnV Tryz.prog 75 [.slice a xs.length c] H R (.int .i64 (xs.foldl max 0)) := by
 refine Z8 Tryz.func75 rfl Tryz.ntmps75 rfl ?_
 refine sqt 1 rfl (pur 1 rfl (sqt 1 rfl (pur 1 rfl (Z0 (sqt 3 rfl (pur 1 rfl (sp rfl (PE.lenSl Z0i rfl) rfl (pur 1 rfl (Z2 ?_)))))))))
 refine Zb (ι := {k : Nat // k ≤ xs.length}) (fun k => ⟨[(3, .int .i64 ((xs.take k.1).foldl max 0)), (6, .slice a xs.length c), (7, .int .i64 xs.length), (8, .int .i64 k.1)], H, R⟩) (fun k => xs.length - k.1) ⟨0, by simp⟩ ?_ (fun k => ?_)
 exact Zf idH
 obtain ⟨k, hk⟩ := k
 dsimp only
 refine sqt 1 rfl (pur 1 rfl (Z0 ?_))
 refine Z1 rfl ?_ ?_ <;> intro hc0 <;> try simp only [cS] at hc0
 obtain ⟨x, hx⟩ : ∃ x, xs[k]? = some x := ⟨_, List.getElem?_eq_getElem (by omega)⟩
 have hst : (xs.take (k + 1)).foldl max 0 = max ((xs.take k).foldl max 0) x := by rw [List.take_add_one, hx, List.foldl_append]; rfl
 refine Zg (a := a) (sz := 1) (rows := irows xs) (by cases xs <;> simp_all [irows]) (fun b off he => ?_)
 subst he
 refine Z3 (Z0 (Z2 (sqt 3 rfl (sp rfl (PE.indexAddr ZM rfl rfl (by omega) (by omega)) rfl (spL rfl rfl (lf0 sc3 (by simp [irows, hx]; rfl) rfl) rfl (pur 1 rfl (sqr 4 rfl (pur 2 rfl (sp rfl (PE.max rfl rfl) rfl (pur 1 rfl (sqr 2 rfl (sp rfl (PE.add rfl rfl (by omega)) rfl (pur 1 rfl ?_)))))))))))))
 exact Z0s ⟨k + 1, by omega⟩ (by dsimp only; omega) (by dsimp only; rw [hst]; exact (by repeat' first | exact Sub.nil | apply Sub.cons | rfl | (simp [lk]; omega))) idH
 obtain rfl : k = xs.length := by omega
 rw [List.take_length]
 refine Z9 (Za (Za (Zl (sqt 2 rfl (pur 2 rfl (Z4 ?_))))))
 exact rtA rfl rfl rfl ⟨rfl, rfl, rfl⟩ drp
theorem Z15 (x : Int) (b : Nat) (H : Z7) (R : Z5) {T : Z7} [pl : Pull b (cel 3 [.int .i64 x]) H T] : FnV Tryz.prog 75 [.slice (some ⟨b, 0, none⟩) 1 1] H R (.int .i64 (max 0 x)) :=
  FnV.lend (pl := pl) (sz := 1) (rows := irows [x]) (junk := []) (by simp) (fun B => Z6N [x] (some ⟨b, 0, none⟩) 1 (by simp) T _)
theorem ZbX (n : Int) (H : Z7) (R : Z5) :
    FnV Tryz.prog 151 [.int .i64 n] H R (.bool (inb n 0 40)) := by
 refine Z8 Tryz.func151 rfl Tryz.ntmps151 rfl ?_
 refine sqt 1 rfl (pur 1 rfl (sqt 3 rfl (pur 1 rfl ?_)))
 refine clV rfl Z3W rfl rfl (Z2P _ _ _ _ _) ?_
 refine pur 1 rfl (Z4 ?_)
 exact rtA rfl rfl rfl ⟨rfl, rfl, rfl⟩ drp
theorem Z4L (x : Grd) (H : Z7) (R : Z5) :
    FnV Tryz.prog 149 [.agg (Z49 x).toArray] H R (.bool x.fine) := by
 refine Z8 Tryz.func149 rfl Tryz.ntmps149 rfl ?_
 refine sqt 2 rfl (bx rfl rfl rfl (fun b1 => pur 1 rfl (sqt 9 rfl (sp rfl (PE.fA Z74 rfl) rfl (spL rfl rfl (lh sc3 rfl rfl) rfl ?_)))))
 refine clV rfl Z3W rfl rfl (Z2P _ _ _ _ _) ?_
 refine pur 1 rfl ?_
 refine Zk 6 rfl ?_ ?_ <;> intro g6
 refine Z0f rfl rfl rfl rfl rfl (lhA [_, _, _, _, _] Zeg rfl rfl rfl) rfl ?_
 refine clG rfl rfl rfl rfl Zda rfl rfl (Z8u x _ _) ?_
 rintro _ _ _ ⟨bn, rfl, rfl, rfl⟩
 refine Z3e rfl rfl rfl rfl ZdT rfl rfl (Z06 x.ns (some ⟨bn, 0, none⟩) 4 151 [] [] (fun n => inb n 0 40) ZdV (by simp [Grd.ns]) _ _ (fun _ y _ => ZbX y _ _)) ?_
 refine pur 2 rfl (Z4 ?_)
 exact rtA rfl rfl rfl ⟨by simp_all only [ZA, Grd.fine, Bool.true_and, Bool.false_and, cond_true, cond_false], rfl, rfl⟩ drp
 refine pur 5 rfl (Z4 ?_)
 exact rtA rfl rfl rfl ⟨by simp_all only [ZA, Grd.fine, Bool.true_and, Bool.false_and, cond_true, cond_false], rfl, rfl⟩ drp
theorem Z4r (x y : Grd) (hb : -9223372036854775808 ≤ y.price - x.price ∧ y.price - x.price ≤ 9223372036854775807) (H : Z7) (R : Z5) :
    FnV Tryz.prog 153 [.agg (Z49 x).toArray, .agg (Z49 y).toArray] H R (.int .i64 (y.price - x.price)) := by
 refine Z8 Tryz.func153 rfl Tryz.ntmps153 rfl ?_
 refine sqt 3 rfl (bx rfl rfl rfl (fun b2 => bx rfl rfl rfl (fun b3 => pur 1 rfl (sqt 6 rfl (sp rfl (PE.fA Z74 rfl) rfl (spL rfl rfl (lh sc3 rfl rfl) rfl (sp rfl (PE.fA Z74 rfl) rfl (spL rfl rfl (lh sc3 rfl rfl) rfl (sp rfl (PE.sub rfl rfl (by omega)) rfl (pur 1 rfl (Z4 ?_)))))))))))
 exact rtA rfl rfl rfl ⟨rfl, rfl, rfl⟩ drp
theorem Z9V (xs : List Grd) (a : Option Addr) (c : Nat) (hl : xs.length ≤ 9223372036854775807) (hb : ∀ x ∈ xs, 0 ≤ x.price ∧ x.price ≤ 100) (H : Z7) (R : Z5) [hR : MemRows a 5 (grows xs) R] :
    FnV Tryz.prog 152 [.slice a xs.length c, .func (.func 153) #[] #[]] H R (.bool (!((List.range xs.length).any (Z0L xs)))) := by
 refine Z8 Tryz.func152 rfl Tryz.ntmps152 rfl ?_
 refine sqt 1 rfl (pur 1 rfl (Z0 (sqt 4 rfl (pur 1 rfl (sp rfl (PE.lenSl ZbU rfl) rfl (sp rfl (PE.sub rfl rfl (by omega)) rfl (pur 1 rfl (Z2 ?_))))))))
 refine Zb (ι := {k : Nat // k ≤ xs.length ∧ ∀ i, k ≤ i + 1 → i + 1 < xs.length → Z0L xs i = false}) (fun k => ⟨[(0, .slice a xs.length c), (1, .func (.func 153) #[] #[]), (5, .int .i64 ((k.1 : Int) - 1))], H, R⟩) (fun k => k.1) ⟨xs.length, by omega, fun i h1 h2 => by omega⟩ ?_ (fun k => ?_)
 exact Zf idH
 obtain ⟨k, hk, hn⟩ := k
 dsimp only
 refine Z0 (sqt 2 rfl (pur 2 rfl ?_))
 refine Z1 rfl ?_ ?_ <;> intro hc0 <;> try simp only [cS] at hc0
 obtain ⟨k, rfl⟩ : ∃ j, k = j + 2 := ⟨k - 2, by omega⟩
 obtain ⟨y, hy⟩ : ∃ y, xs[k + 1]? = some y := ⟨_, List.getElem?_eq_getElem (by omega)⟩
 obtain ⟨x, hx⟩ : ∃ x, xs[k]? = some x := ⟨_, List.getElem?_eq_getElem (by omega)⟩
 have hbx := hb x (List.mem_of_getElem? hx)
 have hby := hb y (List.mem_of_getElem? hy)
 rw [show (((k + 2 : Nat) : Int) - 1) = (k + 1 : Nat) from by omega]
 refine Zg (a := a) (sz := 5) (rows := grows xs) (by cases xs <;> simp_all [grows]) (fun b off he => ?_)
 subst he
 refine Z3 (Z0 (Z2 (Z0 ?_)))
 refine Zc [0, 0, 0, 6, 14, 0, 0, 64, 224, 480, 1023, 2047] (tks 0 4 (.ld 4 (tks 5 4 (.ld 9 (.big 10 (.tk 11 .done)))))) Zo (by kernel_rfl) ?_
 refine Zd 3 rfl (tk rfl (PE.indexAddr ZgZ rfl rfl (by omega) (by omega)) rfl (ld rfl rfl (lfA Zeg (row := Z49 y) (Zar (by simpa using hy)) rfl) rfl (Zd 2 rfl (tk rfl (PE.sub rfl rfl (by omega)) rfl (tk rfl (PE.indexAddr ZgZ rfl rfl (by omega) (by omega)) rfl (ld rfl rfl (lfA Zeg (row := Z49 x) (Zar (by rw [show (((k + 1 : Nat) : Int) - 1).toNat = k from by omega]; exact hx)) rfl) rfl ?_))))))
 refine Z1x rfl rfl (Zeu) rfl rfl (Z4r y x (by omega) _ _) ?_
 refine bgT (Zd 1 rfl ?_)
 refine Z1 rfl ?_ ?_ <;> intro hc1 <;> try simp only [cS] at hc1
 have hbn := Z6P hx hy (by omega)
 refine sqt 1 rfl (pur 1 rfl (Z4 ?_))
 exact rtA rfl rfl rfl ⟨by simp only [ZA]; rw [hbn]; rfl, rfl, rfl⟩ drp
 refine Z3 (sqr 3 rfl (pur 1 rfl (sp rfl (PE.sub rfl rfl (by omega)) rfl (pur 1 rfl ?_))))
 refine Z0s ⟨k + 1, by omega, fun i h1 h2 => ?_⟩ (by dsimp only; omega) (by dsimp only; rw [show ((k + 1 : Nat) : Int) - 1 = ((k + 1 : Nat) : Int) - 1 from rfl]; exact (by repeat' first | exact Sub.nil | apply Sub.cons | rfl | (simp [lk]; omega))) idH
 rcases Nat.lt_or_ge k i with h3 | h3
 · exact hn i (by omega) h2
 · obtain rfl : i = k := by omega
   unfold Z0L
   rw [hx, hy]
   simp only [decide_eq_false_iff_not]
   omega
 have hbn := Z9U (l := xs) (fun i hi => hn i (by omega) hi)
 refine Z9 (Za (Za (Zl (sqt 1 rfl (pur 1 rfl (Z4 ?_))))))
 exact rtA rfl rfl rfl ⟨by simp only [ZA]; rw [hbn]; rfl, rfl, rfl⟩ drp
theorem Z1l (g : Gat) (ag : Option Addr) (cg : Nat) (hlg : g.grs.length ≤ 9223372036854775807) (H : Z7) (R : Z5) [hG : MemRows ag 5 (grows g.grs) R] :
    FnV Tryz.prog 76 [g.v (g.sl ag cg)] H R (.int .i64 g.check) := by
 refine Z8 Tryz.func76 rfl Tryz.ntmps76 rfl ?_
 refine sqt 2 rfl (bx rfl rfl rfl (fun b1 => pur 1 rfl (Z0 (Z2 (sqt 5 rfl (sp rfl (PE.fA Z8X rfl) rfl (spL rfl rfl (lh Zgc rfl rfl) rfl (sp rfl (PE.lenSl ZbU rfl) rfl (pur 2 rfl ?_)))))))))
 refine Z1 rfl ?_ ?_ <;> intro hc0
 have h8 : decide (4 < g.grs.length) = true := by simp only [decide_eq_true_eq] at hc0 ⊢; omega
 refine sqt 1 rfl (pur 1 rfl (Z4 ?_))
 exact rtA rfl rfl rfl ⟨congrArg (Value.int .i64) (by simp_all only [ZA, Gat.check, inb, cond_true, cond_false, Bool.not_true, Bool.not_false, Bool.not_eq_true', Bool.not_eq_false', Bool.true_or, Bool.or_true, Bool.false_or, Bool.or_false, gt_iff_lt]), rfl, rfl⟩ drp
 have h8 : decide (4 < g.grs.length) = false := by simp only [decide_eq_false_iff_not] at hc0 ⊢; omega
 refine sqt 11 rfl (sp rfl (PE.fA Z7c rfl) rfl (spL rfl rfl (lh sc3 rfl rfl) rfl ?_))
 refine clV rfl Z3W rfl rfl (Z2P _ _ _ _ _) ?_
 refine pur 2 rfl ?_
 refine Zk 13 rfl ?_ ?_ <;> intro g13
 refine pur 6 rfl ?_
 refine ZD rfl ?_
 refine sqt 1 rfl (pur 1 rfl (Z4 ?_))
 exact rtA rfl rfl rfl ⟨congrArg (Value.int .i64) (by simp_all only [ZA, Gat.check, inb, cond_true, cond_false, Bool.not_true, Bool.not_false, Bool.not_eq_true', Bool.not_eq_false', Bool.true_or, Bool.or_true, Bool.false_or, Bool.or_false, gt_iff_lt]), rfl, rfl⟩ drp
 refine spG rfl rfl rfl rfl (PE.fA ZdK rfl) rfl ?_
 refine Z0f rfl rfl rfl rfl rfl (lh sc3 rfl rfl) rfl ?_
 refine Z3e rfl rfl rfl rfl Z3W rfl rfl (Z2P _ _ _ _ _) ?_
 refine pur 3 rfl ?_
 refine Z1 rfl ?_ ?_ <;> intro hc1
 refine sqt 1 rfl (pur 1 rfl (Z4 ?_))
 exact rtA rfl rfl rfl ⟨congrArg (Value.int .i64) (by simp_all only [ZA, Gat.check, inb, cond_true, cond_false, Bool.not_true, Bool.not_false, Bool.not_eq_true', Bool.not_eq_false', Bool.true_or, Bool.or_true, Bool.false_or, Bool.or_false, gt_iff_lt]), rfl, rfl⟩ drp
 refine sqt 5 rfl (sp rfl (PE.fA Z8X rfl) rfl (spL rfl rfl (lh Zgc rfl rfl) rfl ?_))
 refine clV rfl Zfm rfl rfl (Z5w g.grs ag cg 149 [] [] Grd.fine Zfg (by omega) _ _ (fun _ _ x _ => Z4L x _ _)) ?_
 refine pur 2 rfl ?_
 refine Z1 rfl ?_ ?_ <;> intro hc2
 refine sqt 1 rfl (pur 1 rfl (Z4 ?_))
 exact rtA rfl rfl rfl ⟨congrArg (Value.int .i64) (by simp_all only [ZA, Gat.check, inb, cond_true, cond_false, Bool.not_true, Bool.not_false, Bool.not_eq_true', Bool.not_eq_false', Bool.true_or, Bool.or_true, Bool.false_or, Bool.or_false, gt_iff_lt]), rfl, rfl⟩ drp
 have hfi : g.grs.all Grd.fine = true := by rw [← Bool.not_eq_false']; exact hc2
 refine sqt 5 rfl (sp rfl (PE.fA Z8X rfl) rfl (spL rfl rfl (lh Zgc rfl rfl) rfl ?_))
 refine clV rfl ZfF rfl rfl (Z9V g.grs ag cg (by omega) (fun x hx => by have := List.all_eq_true.1 hfi x hx; simp only [Grd.fine, inb, Bool.and_eq_true, decide_eq_true_eq] at this; exact this.1) _ _) ?_
 refine pur 2 rfl ?_
 refine Z1 rfl ?_ ?_ <;> intro hc3
 refine sqt 1 rfl (pur 1 rfl (Z4 ?_))
 exact rtA rfl rfl rfl ⟨congrArg (Value.int .i64) (by simp_all only [ZA, Gat.check, inb, cond_true, cond_false, Bool.not_true, Bool.not_false, Bool.not_eq_true', Bool.not_eq_false', Bool.true_or, Bool.or_true, Bool.false_or, Bool.or_false, gt_iff_lt]), rfl, rfl⟩ drp
 refine Z3 (sqt 1 rfl (pur 1 rfl (Z4 ?_)))
 exact rtA rfl rfl rfl ⟨congrArg (Value.int .i64) (by simp_all only [ZA, Gat.check, inb, cond_true, cond_false, Bool.not_true, Bool.not_false, Bool.not_eq_true', Bool.not_eq_false', Bool.true_or, Bool.or_true, Bool.false_or, Bool.or_false, gt_iff_lt]), rfl, rfl⟩ drp
theorem ZcN (n : Int) (H : Z7) (R : Z5) :
    FnV Tryz.prog 69 [.int .i64 n] H R (.bool (inb n 0 200)) := by
 refine Z8 Tryz.func69 rfl Tryz.ntmps69 rfl ?_
 refine sqt 1 rfl (pur 1 rfl (sqt 3 rfl (pur 1 rfl ?_)))
 refine clV rfl Z3W rfl rfl (Z2P _ _ _ _ _) ?_
 refine pur 1 rfl (Z4 ?_)
 exact rtA rfl rfl rfl ⟨rfl, rfl, rfl⟩ drp
theorem ZdG (h : Hnd) (H : Z7) (R : Z5) :
    FnV Tryz.prog 67 [.agg (Z5m h).toArray] H R (.bool h.fine) := by
 refine Z8 Tryz.func67 rfl Tryz.ntmps67 rfl ?_
 refine sqt 2 rfl (bx rfl rfl rfl (fun b1 => pur 1 rfl (sqt 9 rfl (sp rfl (PE.fA Zem rfl) rfl (spL rfl rfl (lh sc3 rfl rfl) rfl ?_)))))
 refine clV rfl Z3W rfl rfl (Z2P _ _ _ _ _) ?_
 refine pur 1 rfl ?_
 refine Zk 6 rfl ?_ ?_ <;> intro g6
 refine spG rfl rfl rfl rfl (PE.fA ZaV rfl) rfl ?_
 refine spG rfl rfl rfl rfl (PE.slArr ZcS rfl) rfl ?_
 refine Sy.heap (fun w h => St.rows1 h) ?_
 refine Z3e rfl rfl rfl rfl ZdT rfl rfl (Z06 h.gs (some ⟨b1, 1, none⟩) 4 69 [] [] (fun n => inb n 0 200) Zhe (by simp [Hnd.gs]) _ _ (fun _ y _ => ZcN y _ _)) ?_
 refine pur 2 rfl (Z4 ?_)
 exact rtA rfl rfl rfl ⟨by simp_all only [ZA, Hnd.fine, Bool.true_and, Bool.false_and, cond_true, cond_false], rfl, rfl⟩ drp
 refine pur 5 rfl (Z4 ?_)
 exact rtA rfl rfl rfl ⟨by simp_all only [ZA, Hnd.fine, Bool.true_and, Bool.false_and, cond_true, cond_false], rfl, rfl⟩ drp
theorem ZeC (h : Hnd) (hf : h.fine = true) (H : Z7) (R : Z5) :
    FnV Tryz.prog 70 [.agg (Z5m h).toArray] H R (.bool (inb h.tot 10 200)) := by
 refine Z8 Tryz.func70 rfl Tryz.ntmps70 rfl ?_
 refine sqt 2 rfl (bx rfl rfl rfl (fun b1 => pur 1 rfl (sqt 5 rfl (sp rfl (PE.fA ZaV rfl) rfl (spL rfl rfl (lhA [.int .i64 h.a, .int .i64 h.b, .int .i64 h.c, .int .i64 h.d] ZhJ rfl rfl rfl) rfl ?_)))))
 refine clV rfl Zhb rfl rfl (ZgV h.a h.b h.c h.d (by simp only [Hnd.fine, Hnd.gs, inb, List.all_cons, List.all_nil, Bool.and_true, Bool.and_eq_true, decide_eq_true_eq] at hf; intro x hx; simp only [List.mem_cons, List.not_mem_nil, or_false] at hx; rcases hx with rfl | rfl | rfl | rfl <;> omega) _ _) ?_
 refine clV rfl Z3W rfl rfl (Z2P _ _ _ _ _) ?_
 refine pur 1 rfl (Z4 ?_)
 exact rtA rfl rfl rfl ⟨rfl, rfl, rfl⟩ drp
theorem Z5n (c : Crt) (ah : Option Addr) (ch : Nat) (hlh : c.hs.length ≤ 9223372036854775807) (H : Z7) (R : Z5) [hA : MemRows ah 5 (hrows c.hs) R] :
    FnV Tryz.prog 31 [c.v (c.sl ah ch)] H R (.int .i64 c.check) := by
 refine Z8 Tryz.func31 rfl Tryz.ntmps31 rfl ?_
 refine sqt 2 rfl (bx rfl rfl rfl (fun b1 => pur 1 rfl (Z0 (Z2 (sqt 5 rfl (sp rfl (PE.fA Z81 rfl) rfl (spL rfl rfl (lh Zgi rfl rfl) rfl (sp rfl (PE.lenSl ZeZ rfl) rfl (pur 2 rfl ?_)))))))))
 refine Z1 rfl ?_ ?_ <;> intro hc0
 have h8 : decide (6 < c.hs.length) = true := by simp only [decide_eq_true_eq] at hc0 ⊢; omega
 refine sqt 1 rfl (pur 1 rfl (Z4 ?_))
 exact rtA rfl rfl rfl ⟨congrArg (Value.int .i64) (by simp_all only [ZA, Crt.check, inb, cond_true, cond_false, Bool.not_true, Bool.not_false, Bool.not_eq_true', Bool.not_eq_false', Bool.true_or, Bool.or_true, Bool.false_or, Bool.or_false, gt_iff_lt]), rfl, rfl⟩ drp
 have h8 : decide (6 < c.hs.length) = false := by simp only [decide_eq_false_iff_not] at hc0 ⊢; omega
 refine sqt 11 rfl (sp rfl (PE.fA Zap rfl) rfl (spL rfl rfl (lh sc3 rfl rfl) rfl ?_))
 refine clV rfl Z3W rfl rfl (Z2P _ _ _ _ _) ?_
 refine pur 2 rfl ?_
 refine Zk 13 rfl ?_ ?_ <;> intro g13
 refine pur 6 rfl ?_
 refine ZD rfl ?_
 refine sqt 1 rfl (pur 1 rfl (Z4 ?_))
 exact rtA rfl rfl rfl ⟨congrArg (Value.int .i64) (by simp_all only [ZA, Crt.check, inb, cond_true, cond_false, Bool.not_true, Bool.not_false, Bool.not_eq_true', Bool.not_eq_false', Bool.true_or, Bool.or_true, Bool.false_or, Bool.or_false, gt_iff_lt]), rfl, rfl⟩ drp
 refine spG rfl rfl rfl rfl (PE.fA Zaz rfl) rfl ?_
 refine Z0f rfl rfl rfl rfl rfl (lh sc3 rfl rfl) rfl ?_
 refine Z3e rfl rfl rfl rfl Z3W rfl rfl (Z2P _ _ _ _ _) ?_
 refine pur 3 rfl ?_
 refine Z1 rfl ?_ ?_ <;> intro hc1
 refine sqt 1 rfl (pur 1 rfl (Z4 ?_))
 exact rtA rfl rfl rfl ⟨congrArg (Value.int .i64) (by simp_all only [ZA, Crt.check, inb, cond_true, cond_false, Bool.not_true, Bool.not_false, Bool.not_eq_true', Bool.not_eq_false', Bool.true_or, Bool.or_true, Bool.false_or, Bool.or_false, gt_iff_lt]), rfl, rfl⟩ drp
 refine sqt 5 rfl (sp rfl (PE.fA Z81 rfl) rfl (spL rfl rfl (lh Zgi rfl rfl) rfl ?_))
 refine clV rfl Zev rfl rfl (Z2K c.hs ah ch 67 [] [] Hnd.fine Zgz (by omega) _ _ (fun _ _ x _ => ZdG x _ _)) ?_
 refine pur 2 rfl ?_
 refine Z1 rfl ?_ ?_ <;> intro hc2
 refine sqt 1 rfl (pur 1 rfl (Z4 ?_))
 exact rtA rfl rfl rfl ⟨congrArg (Value.int .i64) (by simp_all only [ZA, Crt.check, inb, cond_true, cond_false, Bool.not_true, Bool.not_false, Bool.not_eq_true', Bool.not_eq_false', Bool.true_or, Bool.or_true, Bool.false_or, Bool.or_false, gt_iff_lt]), rfl, rfl⟩ drp
 have hfi : c.hs.all Hnd.fine = true := by rw [← Bool.not_eq_false']; exact hc2
 refine sqt 5 rfl (sp rfl (PE.fA Z81 rfl) rfl (spL rfl rfl (lh Zgi rfl rfl) rfl ?_))
 refine clV rfl Zev rfl rfl (Z2K c.hs ah ch 70 [] [] (fun h => inb h.tot 10 200) ZgW (by omega) _ _ (fun _ _ x hx => ZeC x (List.all_eq_true.1 hfi x hx) _ _)) ?_
 refine pur 2 rfl ?_
 refine Z1 rfl ?_ ?_ <;> intro hc3
 refine sqt 1 rfl (pur 1 rfl (Z4 ?_))
 exact rtA rfl rfl rfl ⟨congrArg (Value.int .i64) (by simp_all only [ZA, Crt.check, inb, cond_true, cond_false, Bool.not_true, Bool.not_false, Bool.not_eq_true', Bool.not_eq_false', Bool.true_or, Bool.or_true, Bool.false_or, Bool.or_false, gt_iff_lt]), rfl, rfl⟩ drp
 refine Z3 (sqt 1 rfl (pur 1 rfl (Z4 ?_)))
 exact rtA rfl rfl rfl ⟨congrArg (Value.int .i64) (by simp_all only [ZA, Crt.check, inb, cond_true, cond_false, Bool.not_true, Bool.not_false, Bool.not_eq_true', Bool.not_eq_false', Bool.true_or, Bool.or_true, Bool.false_or, Bool.or_false, gt_iff_lt]), rfl, rfl⟩ drp
theorem ZfQ : Z0Z Tryz.prog 27 = some 3 := by kernel_rfl
theorem ZfY : Z0Z Tryz.prog 30 = some 3 := by kernel_rfl
theorem Zcl : Z0Z Tryz.prog 41 = some 2 := by kernel_rfl
theorem ZgP : cal Tryz.prog 31 = true := by kernel_rfl
theorem Z6E : cal Tryz.prog 75 = true := by kernel_rfl
theorem Zhd : cal Tryz.prog 76 = true := by kernel_rfl
theorem Zch : ZN Tryz.prog 41 = some 2 := by kernel_rfl
theorem ZdR : eqB Tryz.prog 10000 41 = some (true, 2) := by kernel_rfl
theorem ZdJ : Tryz.prog.eqGuardType Tryz.prog.depth 41 = false := by kernel_rfl
theorem Z95 : ZF Tryz.prog 164 0 = some 0 := by kernel_rfl
theorem Z8m : ZF Tryz.prog 164 1 = some 3 := by kernel_rfl
theorem Z3u : ZF Tryz.prog 41 0 = some 0 := by kernel_rfl
theorem Z3m : ZF Tryz.prog 41 1 = some 1 := by kernel_rfl
theorem Zhc : ZJ Tryz.prog 164 = some [(0, 3), (3, 3)] := by kernel_rfl
theorem Z6W : ZJ Tryz.prog 41 = some [(0, 1), (1, 1)] := by kernel_rfl
theorem Zhi : Zy Tryz.prog 164 = some ([.int .i64 0, .int .i64 0, .slice none 0 0, .int .i64 0, .int .i64 0, .slice none 0 0]) := by kernel_rfl
theorem Z5g : Zy Tryz.prog 41 = some ([.int .i64 0, .int .i64 0]) := by kernel_rfl
theorem Z1A (g : Gat) (ag : Option Addr) (cg : Nat) (hlg : g.grs.length ≤ 9223372036854775807) (c : Crt) (ah : Option Addr) (ch : Nat) (hlh : c.hs.length ≤ 9223372036854775807) (H : Z7) (R : Z5) [hG : MemRows ag 5 (grows g.grs) R] [hA : MemRows ah 5 (hrows c.hs) R] :
    Fn Tryz.prog 35 [g.v (g.sl ag cg), c.v (c.sl ah ch)] H R (fun v H' R' => H' = H ∧ ((Z2E g c ≠ 0 ∧ v = .tuple #[.pointer none, .int .i64 (Z2E g c)] ∧ R' = R) ∨ (g.ok ∧ c.ok ∧ Z2E g c = 0 ∧ ∃ bw, v = .tuple #[.pointer (some ⟨bw, 0, none⟩), .int .i64 0] ∧ R' = RowsA (some ⟨bw, 0, none⟩) 6 [ZcW g c (g.sl ag cg) (c.sl ah ch)] :: R))) := by
 refine Z8 Tryz.func35 rfl Tryz.ntmps35 rfl ?_
 refine sqt 4 rfl (bx rfl rfl rfl (fun b2 => bx rfl rfl rfl (fun b3 => pur 2 rfl (Z0 (sqt 3 rfl (spL rfl rfl (lhA [_, _, _] ZfQ rfl rfl rfl) rfl ?_))))))
 refine clV rfl Zhd rfl rfl (Z1l g ag cg hlg _ _) ?_
 refine pur 1 rfl (sqt 2 rfl (pur 2 rfl ?_))
 refine Z1 rfl ?_ ?_ <;> intro hc0
 have e : Z2E g c = g.check := by simp [Z2E, hc0]
 have hne : Z2E g c ≠ 0 := by rw [e]; simpa using hc0
 refine sqt 3 rfl (pur 3 rfl (Z4 ?_))
 first
   | (rw [h1] at e; refine Sy.heap (fun w h => St.rows (sz := 6) (rows := [ZcW g c (g.sl ag cg) (c.sl ah ch)]) (rest := []) h (by intro r hr; obtain rfl := List.mem_singleton.1 hr; rfl)) ?_; exact rtB rfl rfl rfl rfl ⟨rfl, .inr ⟨gat_ok.1 h0, crt_ok.1 h1, e, _, rfl, rfl⟩⟩ drp)
   | (rw [← e]; exact rtB rfl rfl rfl rfl ⟨rfl, .inl ⟨hne, rfl, rfl⟩⟩ drp)
 have h0 : g.check = 0 := by simpa using hc0
 have e : Z2E g c = c.check := by simp [Z2E, h0]
 refine Z3 (Z0 (sqt 3 rfl (spL rfl rfl (lhA [_, _, _] ZfY rfl rfl rfl) rfl ?_)))
 refine clV rfl ZgP rfl rfl (Z5n c ah ch hlh _ _) ?_
 refine pur 1 rfl (sqt 2 rfl (pur 2 rfl ?_))
 refine Z1 rfl ?_ ?_ <;> intro hc1
 have hne : Z2E g c ≠ 0 := by rw [e]; simpa using hc1
 refine sqt 3 rfl (pur 3 rfl (Z4 ?_))
 first
   | (rw [h1] at e; refine Sy.heap (fun w h => St.rows (sz := 6) (rows := [ZcW g c (g.sl ag cg) (c.sl ah ch)]) (rest := []) h (by intro r hr; obtain rfl := List.mem_singleton.1 hr; rfl)) ?_; exact rtB rfl rfl rfl rfl ⟨rfl, .inr ⟨gat_ok.1 h0, crt_ok.1 h1, e, _, rfl, rfl⟩⟩ drp)
   | (rw [← e]; exact rtB rfl rfl rfl rfl ⟨rfl, .inl ⟨hne, rfl, rfl⟩⟩ drp)
 have h1 : c.check = 0 := by simpa using hc1
 refine Z3 (sqt 6 rfl (spL rfl rfl (lhA [_, _, _] ZfY rfl rfl rfl) rfl (spL rfl rfl (lhA [_, _, _] ZfQ rfl rfl rfl) rfl (sp rfl (PE.build (out := ZcW g c (g.sl ag cg) (c.sl ah ch)) Zhc Zhi rfl rfl) rfl (bx rfl rfl rfl (fun b21 => pur 2 rfl (Z4 ?_)))))))
 first
   | (rw [h1] at e; refine Sy.heap (fun w h => St.rows (sz := 6) (rows := [ZcW g c (g.sl ag cg) (c.sl ah ch)]) (rest := []) h (by intro r hr; obtain rfl := List.mem_singleton.1 hr; rfl)) ?_; exact rtB rfl rfl rfl rfl ⟨rfl, .inr ⟨gat_ok.1 h0, crt_ok.1 h1, e, _, rfl, rfl⟩⟩ drp)
   | (rw [← e]; exact rtB rfl rfl rfl rfl ⟨rfl, .inl ⟨hne, rfl, rfl⟩⟩ drp)
theorem Zhg (g : Gat) (hg : g.ok) (ag : Option Addr) (cg : Nat) (c : Crt) (hc : c.ok) (ah : Option Addr) (ch : Nat) (bw : Nat) (H : Z7) (R : Z5) [hW : MemRows (some ⟨bw, 0, none⟩) 6 [ZcW g c (g.sl ag cg) (c.sl ah ch)] R] [hG : MemRows ag 5 (grows g.grs) R] [hA : MemRows ah 5 (hrows c.hs) R] :
    FnV Tryz.prog 34 [.pointer (some ⟨bw, 0, none⟩)] H R (spv (max 0 (c.full - c.empty - 2 * g.err)) (max 0 (c.full - c.empty + 2 * g.err))) := by
 refine Z8 Tryz.func34 rfl Tryz.ntmps34 rfl ?_
 refine sqt 1 rfl (alc rfl Z5g rfl (fun b2 => Z0 ?_))
 refine Zc [0, 1, 3, 7, 15, 0, 32, 96, 224, 480, 1023, 2047] (tks 0 4 (.ld 4 (tks 5 4 (.ld 9 (.tk 10 (.tk 11 .done)))))) Zo (by kernel_rfl) ?_
 refine Zd 1 rfl (tk rfl (PE.nilCheck rfl) rfl (tk rfl (PE.fA Z95 rfl) rfl (tk rfl (PE.fA Zap rfl) rfl (ld rfl rfl (lfB (sz := 6) sc3 rfl) rfl (Zd 1 rfl (tk rfl (PE.nilCheck rfl) rfl (tk rfl (PE.fA Z95 rfl) rfl (tk rfl (PE.fA Zaz rfl) rfl (ld rfl rfl (lfB (sz := 6) sc3 rfl) rfl (tk rfl (PE.sub rfl rfl (by have := hc.full; have := hc.empty; have := hg.err; omega)) rfl (Zd 1 rfl (Z0 ?_))))))))))))
 refine Zc [0, 0, 2, 6, 14, 30, 62, 127, 255, 511, 0, 0, 2048, 6144, 14336, 30720, 63488, 130048, 261120, 524287, 1048575, 2097151] (tks 0 5 (.ld 5 (.tk 6 (.tk 7 (tks 10 5 (.ld 15 (.tk 16 (.tk 17 (.any (.alt 8 (.any (.alt 9 (.big 18 (.big 19 (.tk 20 (.big 21 .done)))) (.alt 18 (.big 9 (.big 19 (.tk 20 (.big 21 .done)))) .stop))) (.alt 18 (.big 8 (.big 9 (.big 19 (.tk 20 (.big 21 .done))))) .stop))))))))))) Zo (by kernel_rfl) ?_
 refine Zd 2 rfl (tk rfl (PE.nilCheck rfl) rfl (tk rfl (PE.fA Z8m rfl) rfl (tk rfl (PE.fA Z7c rfl) rfl (ld rfl rfl (lfB (sz := 6) sc3 rfl) rfl (tk rfl (PE.mul rfl rfl (by have := hc.full; have := hc.empty; have := hg.err; omega)) rfl (tk rfl (PE.sub rfl rfl (by have := hc.full; have := hc.empty; have := hg.err; omega)) rfl (Zd 2 rfl (tk rfl (PE.nilCheck rfl) rfl (tk rfl (PE.fA Z8m rfl) rfl (tk rfl (PE.fA Z7c rfl) rfl (ld rfl rfl (lfB (sz := 6) sc3 rfl) rfl (tk rfl (PE.mul rfl rfl (by have := hc.full; have := hc.empty; have := hg.err; omega)) rfl (tk rfl (PE.add rfl rfl (by have := hc.full; have := hc.empty; have := hg.err; omega)) rfl ?_)))))))))))))
 refine Zx ?_ ?_
 refine bsl (out := [_]) rfl Z2r zl3 rfl rfl rfl rfl rfl rfl (fun b23 => ?_)
 refine bg (fun w hs => ⟨(lfB (sz := 6) sc3 rfl) w hs, trivial, trivial⟩) ?_
 refine Zx ?_ ?_
 refine clV rfl Z6E rfl rfl (Z15 _ b23 _ _) ?_
 refine bg (fun w hs => ⟨(lfB (sz := 6) sc3 rfl) w hs, trivial⟩) ?_
 refine bsl (out := [_]) rfl Z2r zl3 rfl rfl rfl rfl rfl rfl (fun b33 => ?_)
 refine bgT ?_
 refine clV rfl Z6E rfl rfl (Z15 _ b33 _ _) ?_
 refine bgT (tk rfl (PE.build (out := [_, _]) Z6W Z5g rfl rfl) rfl ?_)
 refine sto rfl rfl rfl Zch rfl rfl rfl rfl ?_
 refine bgT (Z4 ?_)
 exact Zu (vs := [_]) rfl (.cons (RV.cell rfl (lhA [_, _] Zcl rfl rfl rfl)) .nil) rfl ⟨rfl, rfl, rfl⟩ drp
 refine Zx ?_ ?_
 refine bsl (out := [_]) rfl Z2r zl3 rfl rfl rfl rfl rfl rfl (fun b33 => ?_)
 refine bgT ?_
 refine clV rfl Z6E rfl rfl (Z15 _ b23 _ _) ?_
 refine bgT ?_
 refine clV rfl Z6E rfl rfl (Z15 _ b33 _ _) ?_
 refine bgT (tk rfl (PE.build (out := [_, _]) Z6W Z5g rfl rfl) rfl ?_)
 refine sto rfl rfl rfl Zch rfl rfl rfl rfl ?_
 refine bgT (Z4 ?_)
 exact Zu (vs := [_]) rfl (.cons (RV.cell rfl (lhA [_, _] Zcl rfl rfl rfl)) .nil) rfl ⟨rfl, rfl, rfl⟩ drp
 exact ZO
 refine Zx ?_ ?_
 refine bsl (out := [_]) rfl Z2r zl3 rfl rfl rfl rfl rfl rfl (fun b33 => ?_)
 refine bg (fun w hs => ⟨trivial, (lfB (sz := 6) sc3 rfl) w hs, trivial⟩) ?_
 refine bsl (out := [_]) rfl Z2r zl3 rfl rfl rfl rfl rfl rfl (fun b23 => ?_)
 refine bgT ?_
 refine clV rfl Z6E rfl rfl (Z15 _ b23 _ _) ?_
 refine bgT ?_
 refine clV rfl Z6E rfl rfl (Z15 _ b33 _ _) ?_
 refine bgT (tk rfl (PE.build (out := [_, _]) Z6W Z5g rfl rfl) rfl ?_)
 refine sto rfl rfl rfl Zch rfl rfl rfl rfl ?_
 refine bgT (Z4 ?_)
 exact Zu (vs := [_]) rfl (.cons (RV.cell rfl (lhA [_, _] Zcl rfl rfl rfl)) .nil) rfl ⟨rfl, rfl, rfl⟩ drp
 exact ZO
theorem ZgO : cal Tryz.prog 34 = true := by kernel_rfl
theorem Zhu : cal Tryz.prog 35 = true := by kernel_rfl
theorem Z3a {l : List Int} {i j : Nat} {v : Int} (h : i < l.length) : nn (l.set i v) j = bif i == j then v else nn l j := by
  unfold nn
  simp only [List.getD_eq_getElem?_getD, List.getElem?_set]
  by_cases hij : i = j
  · subst hij; simp [h]
  · have : (i == j) = false := by simpa using hij
    simp [hij, this]
theorem Z7g {l : List Int} (h : l.length = 4) {i : Nat} (hi : i < 4) (v : Int) : Z9B (l.set i v) = Z9B l + v - nn l i := by
  obtain ⟨a, b, c, d, rfl⟩ := Zh3 h
  rcases lt4 hi with rfl | rfl | rfl | rfl <;> simp [Z9B, nn] <;> omega
def netP (g : Gat) (c : Crt) : Int × Int := (max 0 (c.full - c.empty - 2 * g.err), max 0 (c.full - c.empty + 2 * g.err))
def netR (g : Gat) (c : Crt) : Value := bif decide (Z2E g c ≠ 0) then .tuple #[spv 0 0, .int .i64 (Z2E g c)] else .tuple #[spv (netP g c).1 (netP g c).2, .int .i64 0]
theorem c_Net (g : Gat) (ag : Option Addr) (cg : Nat) (hlg : g.grs.length ≤ 9223372036854775807) (c : Crt) (ah : Option Addr) (ch : Nat) (hlh : c.hs.length ≤ 9223372036854775807) (H : Z7) (R : Z5) [hG : MemRows ag 5 (grows g.grs) R] [hA : MemRows ah 5 (hrows c.hs) R] :
    FnV Tryz.prog 10 [g.v (g.sl ag cg), c.v (c.sl ah ch)] H R (netR g c) := by
 refine Z8 Tryz.func10 rfl Tryz.ntmps10 rfl ?_
 refine sqt 4 rfl (bx rfl rfl rfl (fun b2 => bx rfl rfl rfl (fun b3 => alc rfl Z5g rfl (fun b4 => pur 1 rfl (sqt 8 rfl (spL rfl rfl (lhA [_, _, _] ZfQ rfl rfl rfl) rfl (spL rfl rfl (lhA [_, _, _] ZfY rfl rfl rfl) rfl ?_)))))))
 refine cl rfl Zhu rfl rfl (Z1A g ag cg hlg c ah ch hlh _ _) ?_
 rintro _ _ _ ⟨rfl, ho⟩
 rcases ho with ⟨hne, rfl, rfl⟩ | ⟨hg, hc, h0, bw, rfl, rfl⟩
 refine pur 5 rfl (Z0 (sqt 2 rfl (pur 2 rfl ?_)))
 refine Z1 rfl ?_ ?_ <;> intro hc0
 refine sqt 4 rfl (sp rfl (PE.build (out := [_, _]) Z6W Z5g rfl rfl) rfl (pur 1 rfl ?_))
 refine sto rfl rfl rfl Zch rfl rfl rfl rfl ?_
 refine pur 1 rfl (Z4 ?_)
 exact Zu (vs := [_, _]) rfl (.cons (RV.cell rfl (lhA [_, _] Zcl rfl rfl rfl)) (.cons (RV.tmp rfl) .nil)) (by unfold netR; rw [dT hne]; rfl) ⟨rfl, rfl, rfl⟩ drp
 exact absurd hc0 (by simp [hne])
 refine pur 5 rfl (Z0 (sqt 2 rfl (pur 2 rfl ?_)))
 refine Z1 rfl ?_ ?_ <;> intro hc0
 exact absurd hc0 (by simp)
 refine Z3 (sqt 4 rfl (pur 1 rfl ?_))
 refine clV rfl ZgO rfl rfl (Zhg g hg ag cg c hc ah ch bw _ _) ?_
 refine sto rfl rfl rfl Zch rfl rfl rfl rfl ?_
 refine pur 1 rfl (Z4 ?_)
 exact Zu (vs := [_, _]) rfl (.cons (RV.cell rfl (lhA [_, _] Zcl rfl rfl rfl)) (.cons (RV.tmp rfl) .nil)) (by unfold netR; rw [dF (by omega)]; rfl) ⟨rfl, rfl, rfl⟩ drp
theorem Yd.ftail {P : Program} {l : Nat} {a : List Value} {H : Z7} {R : Z5} {f : World → Prop} {Q : Value → Z7 → Z5 → Prop} (h : Yd P l a H R Q) : Yd P l a H (f :: R) Q := fun w hs => h w hs.ftail
def mxv (b : Box) : Value := .agg (Zh (Zib b)).toArray
structure KOk (l : List Grd) (b : Box) (k : Nat) (kv : KV) : Prop where
  one : ∀ e ∈ kv, e.1.length = 1
  at_ : ∀ j : Int, kv.get [j] = bif decide (-1 ≤ j) && decide (j < (k : Int) - 1) then (Zhs l b j).map mxv else none
theorem KOk.nil (l : List Grd) (b : Box) : KOk l b 0 [] := ⟨by simp, fun j => by
  have : (decide (-1 ≤ j) && decide (j < ((0 : Nat) : Int) - 1)) = false := by rw [← Bool.decide_and]; exact decide_eq_false (by omega)
  rw [this]; rfl⟩
theorem KOk.skip {l : List Grd} {b : Box} {k : Nat} {kv : KV} (h : KOk l b k kv) (hn : Zhs l b ((k : Int) - 1) = none) : KOk l b (k + 1) kv := ⟨h.one, fun j => by
  rw [h.at_ j]
  by_cases hj : j = (k : Int) - 1
  · subst hj
    have e1 : (decide (-1 ≤ (k : Int) - 1) && decide ((k : Int) - 1 < (k : Int) - 1)) = false := by rw [← Bool.decide_and]; exact decide_eq_false (by omega)
    rw [e1, hn]; cases decide (-1 ≤ (k : Int) - 1) && decide ((k : Int) - 1 < ((k + 1 : Nat) : Int) - 1) <;> rfl
  · have e1 : (decide (-1 ≤ j) && decide (j < (k : Int) - 1)) = (decide (-1 ≤ j) && decide (j < ((k + 1 : Nat) : Int) - 1)) := by
      rw [← Bool.decide_and, ← Bool.decide_and]; exact decide_eq_decide.2 (by omega)
    rw [e1]⟩
theorem KOk.put {l : List Grd} {b x : Box} {k : Nat} {kv : KV} (h : KOk l b k kv) (hn : Zhs l b ((k : Int) - 1) = some x) : KOk l b (k + 1) (kv.put [(k : Int) - 1] (mxv x)) := ⟨fun e he => by
  rcases KV.put_mem he with rfl | he
  · rfl
  · exact h.one e he, fun j => by
  rw [KV.get_put]
  by_cases hj : (k : Int) - 1 = j
  · subst hj
    have e1 : (decide (-1 ≤ (k : Int) - 1) && decide ((k : Int) - 1 < ((k + 1 : Nat) : Int) - 1)) = true := by rw [← Bool.decide_and]; exact decide_eq_true (by omega)
    rw [e1, hn]; simp
  · have e0 : decide (([(k : Int) - 1] : List Int) = [j]) = false := by simpa using hj
    have e1 : (decide (-1 ≤ j) && decide (j < (k : Int) - 1)) = (decide (-1 ≤ j) && decide (j < ((k + 1 : Nat) : Int) - 1)) := by
      rw [← Bool.decide_and, ← Bool.decide_and]; exact decide_eq_decide.2 (by omega)
    rw [e0, h.at_ j, e1]; rfl⟩
theorem mul_b {a b A B : Int} (h1 : 0 ≤ a) (h2 : a ≤ A) (h3 : 0 ≤ b) (h4 : b ≤ B) : 0 ≤ a * b ∧ a * b ≤ A * B := by
  have e1 := Int.mul_nonneg h1 h3
  have e2 := Int.mul_le_mul h2 h4 h3 (by omega)
  exact ⟨e1, e2⟩
theorem Z5F : apT Tryz.prog 47 = some (3, 1, 8) := by kernel_rfl
theorem ZcQ : cal Tryz.prog 55 = true := by kernel_rfl
theorem Z1r (xs : List Int) (a : Option Addr) (c : Nat) (v : Int) (hl : xs.length ≤ 9223372036854775807) (H : Z7) (R : Z5) [hR : MemRows a 1 (irows xs) R] :
    FnV Tryz.prog 55 [.slice a xs.length c, .int .i64 v] H R (.int .i64 (match xs.findIdx? (fun x => decide (v = x)) with | some k => (k : Int) | none => -1)) := by
 refine Z8 Tryz.func55 rfl Tryz.ntmps55 rfl ?_
 refine sqt 1 rfl (pur 1 rfl (Z0 (sqt 3 rfl (pur 1 rfl (sp rfl (PE.lenSl Z0i rfl) rfl (pur 1 rfl (Z2 ?_)))))))
 refine Zb (ι := {k : Nat // k ≤ xs.length ∧ ∀ x ∈ xs.take k, decide (v = x) = false}) (fun k => ⟨[(0, .slice a xs.length c), (1, .int .i64 v), (7, .int .i64 xs.length), (8, .int .i64 k.1)], H, R⟩) (fun k => xs.length - k.1) ⟨0, by simp⟩ ?_ (fun k => ?_)
 exact Zf idH
 obtain ⟨k, hk, hn⟩ := k
 dsimp only
 refine sqt 1 rfl (pur 1 rfl (Z0 ?_))
 refine Z1 rfl ?_ ?_ <;> intro hc0
 simp only [cS] at hc0
 obtain ⟨x, hx⟩ : ∃ x, xs[k]? = some x := ⟨_, List.getElem?_eq_getElem (by omega)⟩
 refine Zg (a := a) (sz := 1) (rows := irows xs) (by cases xs <;> simp_all [irows]) (fun b off he => ?_)
 subst he
 refine Z3 (Z0 (Z2 (sqt 2 rfl (pur 2 rfl (sqt 6 rfl (pur 3 rfl (sp rfl (PE.indexAddr ZM rfl rfl (by omega) (by omega)) rfl (spL rfl rfl (lf0 sc3 (by simp [irows, hx]; rfl) rfl) rfl (pur 1 rfl ?_)))))))))
 refine Z1 rfl ?_ ?_ <;> intro hc1
 refine sqt 2 rfl (pur 2 rfl (Z4 ?_))
 first | (exact rtA rfl rfl rfl ⟨by rw [Zm hx hn hc1]; rfl, rfl, rfl⟩ idH) | (exact rtA rfl rfl rfl ⟨by rw [Zi (by simpa using hn)]; rfl, rfl, rfl⟩ idH)
 refine Z3 (sqr 2 rfl (sp rfl (PE.add rfl rfl (by omega)) rfl (pur 1 rfl ?_)))
 exact Z6 ⟨k + 1, by omega, ZB hx hn hc1⟩ idH
 simp only [cS] at hc0
 obtain rfl : k = xs.length := by omega
 refine Z9 (Za (Za (Zl (sqt 1 rfl (pur 1 rfl (Z4 ?_))))))
 first | (exact rtA rfl rfl rfl ⟨by rw [Zm hx hn hc1]; rfl, rfl, rfl⟩ idH) | (exact rtA rfl rfl rfl ⟨by rw [Zi (by simpa using hn)]; rfl, rfl, rfl⟩ idH)
theorem c_contains_int (xs : List Int) (a : Option Addr) (c : Nat) (v : Int) (hl : xs.length ≤ 9223372036854775807) (H : Z7) (R : Z5) [hR : MemRows a 1 (irows xs) R] :
    FnV Tryz.prog 22 [.slice a xs.length c, .int .i64 v] H R (.bool (xs.any fun x => decide (v = x))) := by
 refine Z8 Tryz.func22 rfl Tryz.ntmps22 rfl ?_
 refine sqt 1 rfl (pur 1 rfl (sqt 5 rfl (pur 2 rfl ?_)))
 refine clV rfl ZcQ rfl rfl (Z1r xs a c v hl _ _) ?_
 refine pur 2 rfl (Z4 ?_)
 exact rtA rfl rfl rfl ⟨by simp only [ZA]; exact ZT _ _, rfl, rfl⟩ drp
theorem Z0E : cal Tryz.prog 11 = true := by kernel_rfl
theorem Z2Z : cal Tryz.prog 29 = true := by kernel_rfl
theorem ZgE : cal Tryz.prog 36 = true := by kernel_rfl
theorem Z9G : cal Tryz.prog 37 = true := by kernel_rfl
theorem cn3 : ZN Tryz.prog 3 = some 1 := by kernel_rfl
theorem Zge : ZN Tryz.prog 94 = some 1 := by kernel_rfl
theorem Zid : elN Tryz.prog 22 = some 1 := by kernel_rfl
theorem Z67 : ZF Tryz.prog 96 0 = some 0 := by kernel_rfl
theorem Z2V : ZF Tryz.prog 96 1 = some 1 := by kernel_rfl
theorem Z0r : ZF Tryz.prog 96 2 = some 2 := by kernel_rfl
theorem ik3 : Z6S Tryz.prog 3 = some .i64 := by kernel_rfl
theorem ZhZ : Z6S Tryz.prog 94 = some .u32 := by kernel_rfl
theorem Z9T : Z1W Tryz.prog 22 = true := by kernel_rfl
theorem Zie : ZJ Tryz.prog 96 = some [(0, 1), (1, 1), (2, 1)] := by kernel_rfl
theorem ZfP : Z07 Tryz.prog 22 = true := by kernel_rfl
theorem sc5 : Z07 Tryz.prog 5 = true := by kernel_rfl
theorem Z7C : Z07 Tryz.prog 94 = true := by kernel_rfl
theorem us3 : (Tryz.prog.underlying 3).isSome = true := by kernel_rfl
theorem us5 : (Tryz.prog.underlying 5).isSome = true := by kernel_rfl
theorem ZfS : (Tryz.prog.underlying 94).isSome = true := by kernel_rfl
theorem Zim : Zy Tryz.prog 96 = some ([.slice none 0 0, .int .i64 0, .int .u32 0]) := by kernel_rfl
def urow (x : Int) : List Value := [.int .u8 x]
def urows (l : List Int) : List (List Value) := l.map urow
theorem c_Fill (g : List Int) (ag : Option Addr) (cg : Nat) (hgl : g.length ≤ 9223372036854775807) (H : Z7) (R : Z5) :
    Fn Tryz.prog 5 [.slice ag g.length cg] H R (fun v H' R' => ∃ bk, ∃ mx : Int, (0 ≤ mx ∧ mx ≤ 4294967295) ∧ v = .pointer (some ⟨bk, 0, none⟩) ∧ H' = (bk, cel 96 [.slice ag g.length cg, .int .i64 (0), .int .u32 (mx)]) :: H ∧ R' = R) := by
 refine Z8 Tryz.func5 rfl Tryz.ntmps5 rfl ?_
 refine sqt 1 rfl (pur 1 rfl (sqt 8 rfl (pur 2 rfl (sp rfl (PE.lenSl Z9T rfl) rfl ?_))))
 refine spE rfl (PE.convU us3 ZhZ rfl) rfl ?_
 rintro _ ⟨u6, rfl, hu6⟩
 refine spE rfl (PE.xorU rfl rfl) rfl ?_
 rintro _ ⟨u7, rfl, hu7⟩
 refine sp rfl (PE.build (out := [_, _, _]) Zie Zim rfl rfl) rfl (bx rfl rfl rfl (fun b9 => pur 1 rfl (Z4 ?_)))
 exact rtA rfl rfl rfl ⟨b9, u7, hu7, rfl, rfl, rfl⟩ idH
theorem Z7i (g : List Int) (ag : Option Addr) (cg bk : Nat) (hgl : g.length ≤ 9223372036854775807) (tq mx : Int) (htq : 0 ≤ tq ∧ tq ≤ 1000000000) (hmx : 0 ≤ mx ∧ mx ≤ 4294967295) (H : Z7) (R : Z5) [hG : MemRows ag 1 (urows g) R] :
    Fn Tryz.prog 36 [.pointer (some ⟨bk, 0, none⟩)] ((bk, cel 96 [.slice ag g.length cg, .int .i64 (tq), .int .u32 (mx)]) :: H) R (fun v H' R' => ∃ x m' : Int, (0 ≤ x ∧ x ≤ 65535) ∧ v = .int .i64 x ∧ (0 ≤ m' ∧ m' ≤ 4294967295) ∧ H' = (bk, cel 96 [.slice ag g.length cg, .int .i64 (tq + 1), .int .u32 (m')]) :: H ∧ R' = R) := by
 refine Z8 Tryz.func36 rfl Tryz.ntmps36 rfl ?_
 refine sqt 1 rfl (pur 1 rfl (Z0 (sqt 6 rfl (pur 1 rfl (sp rfl (PE.nilCheck rfl) rfl (sp rfl (PE.fA Z67 rfl) rfl (spL rfl rfl (lh ZfP rfl rfl) rfl (sp rfl (PE.lenSl Z9T rfl) rfl (pur 1 rfl (sqt 2 rfl (pur 2 rfl ?_)))))))))))
 refine Z1 rfl ?_ ?_ <;> intro hc0 <;> try simp only [cS] at hc0
 obtain ⟨y, hy⟩ : ∃ y, g[(tq % g.length).toNat]? = some y := ⟨_, List.getElem?_eq_getElem (by have := Int.emod_lt_of_pos tq hc0; have := Int.emod_nonneg tq (show (g.length : Int) ≠ 0 by omega); omega)⟩
 refine Zg (a := ag) (sz := 1) (rows := urows g) (by intro h0; simp [urows] at h0; simp [h0] at hy) (fun bgr ogr he => ?_)
 subst he
 refine Zc [0, 0, 2, 6, 14, 0, 32, 96, 224, 0, 512, 1536, 3584, 0, 15872, 32736, 65504, 131040, 262142, 524286, 1048575, 2097151, 4194303] (tks 0 4 (.ld 4 (tks 5 3 (.ld 8 (tks 9 3 (.ld 12 (tks 13 3 (.ld 16 (tks 17 5 (.big 22 .done)))))))))) Zo (by kernel_rfl) ?_
 refine Zd 2 rfl (tk rfl (PE.nilCheck rfl) rfl (tk rfl (PE.fA Z0r rfl) rfl (ld rfl rfl (lh Z7C rfl rfl) rfl (Zd 1 rfl (tk rfl (PE.nilCheck rfl) rfl (tk rfl (PE.fA Z67 rfl) rfl (ld rfl rfl (lh ZfP rfl rfl) rfl (Zd 1 rfl (tk rfl (PE.nilCheck rfl) rfl (tk rfl (PE.fA Z2V rfl) rfl (ld rfl rfl (lh sc3 rfl rfl) rfl (Zd 1 rfl (tk rfl (PE.rem rfl rfl (by omega)) rfl (tk rfl (PE.indexAddr Zid rfl rfl (by exact Int.emod_nonneg tq (by omega)) (by exact Int.emod_lt_of_pos tq hc0)) rfl (ld rfl rfl (lf0 (x := .int .u8 y) sc5 (by simp [urows, urow, hy]; rfl) rfl) rfl ?_)))))))))))))))
 refine tkE rfl (PE.convU us5 ZhZ rfl) rfl ?_
 rintro _ ⟨u28, rfl, hu28⟩
 refine tkE rfl (PE.xorU rfl rfl) rfl ?_
 rintro _ ⟨u29, rfl, hu29⟩
 refine tkE rfl (PE.mulU rfl rfl) rfl ?_
 rintro _ ⟨u30, rfl, hu30⟩
 refine tk rfl (PE.nilCheck rfl) rfl (tk rfl (PE.fA Z0r rfl) rfl ?_)
 refine sto rfl rfl rfl Zge rfl rfl rfl rfl ?_
 refine bgT (sqt 8 rfl (pur 1 rfl (sp rfl (PE.nilCheck rfl) rfl (sp rfl (PE.fA Z2V rfl) rfl (spL rfl rfl (lh sc3 rfl rfl) rfl (sp rfl (PE.add rfl rfl (by omega)) rfl (sp rfl (PE.nilCheck rfl) rfl (sp rfl (PE.fA Z2V rfl) rfl ?_))))))))
 refine sto rfl rfl rfl cn3 rfl rfl rfl rfl ?_
 refine Z0 (Z0 ?_)
 refine Zc [0, 1, 3, 7, 0, 16, 48, 112, 240, 511] (tks 0 3 (.ld 3 (tks 4 3 (.ld 7 (.tk 8 (.tk 9 .done)))))) Zo (by kernel_rfl) ?_
 refine Zd 1 rfl (tk rfl (PE.nilCheck rfl) rfl (tk rfl (PE.fA Z2V rfl) rfl (ld rfl rfl (lh sc3 rfl rfl) rfl (Zd 1 rfl (tk rfl (PE.nilCheck rfl) rfl (tk rfl (PE.fA Z67 rfl) rfl (ld rfl rfl (lh ZfP rfl rfl) rfl (tk rfl (PE.lenSl Z9T rfl) rfl (Zd 1 rfl ?_)))))))))
 refine Z1 rfl ?_ ?_ <;> intro hc1 <;> try simp only [cS] at hc1
 refine sqr 10 rfl (pur 2 rfl (sp rfl (PE.nilCheck rfl) rfl (sp rfl (PE.fA Z0r rfl) rfl (spL rfl rfl (lh Z7C rfl rfl) rfl ?_))))
 refine spE rfl (PE.mulU rfl rfl) rfl ?_
 rintro _ ⟨u55, rfl, hu55⟩
 refine spE rfl (PE.addU rfl rfl) rfl ?_
 rintro _ ⟨u56, rfl, hu56⟩
 refine sp rfl (PE.nilCheck rfl) rfl (sp rfl (PE.fA Z0r rfl) rfl ?_)
 refine sto rfl rfl rfl Zge rfl rfl rfl rfl ?_
 refine Z0 ?_
 refine Zc [0, 1, 3, 7, 0, 16, 48, 112, 240, 511, 1023, 2047, 4095, 8191] (tks 0 3 (.ld 3 (tks 4 3 (.ld 7 (tks 8 6 .done))))) Zo (by kernel_rfl) ?_
 refine Zd 1 rfl (tk rfl (PE.nilCheck rfl) rfl (tk rfl (PE.fA Z0r rfl) rfl (ld rfl rfl (lh Z7C rfl rfl) rfl (Zd 1 rfl (tk rfl (PE.nilCheck rfl) rfl (tk rfl (PE.fA Z0r rfl) rfl (ld rfl rfl (lh Z7C rfl rfl) rfl ?_)))))))
 refine tkE rfl (PE.shrU rfl rfl (by decide) (by omega) (by omega)) rfl ?_
 rintro _ ⟨u67, rfl, hu67⟩
 refine tkE rfl (PE.xorU rfl rfl) rfl ?_
 rintro _ ⟨u68, rfl, hu68⟩
 refine tkE rfl (PE.shrU rfl rfl (by decide) (by omega) (by omega)) rfl ?_
 rintro _ ⟨u69, rfl, hu69⟩
 refine tkE rfl (PE.andU rfl rfl (by decide) (by decide)) rfl ?_
 rintro _ ⟨u70, rfl, hu70⟩
 refine tk rfl (PE.conv64 ZfS ik3 rfl (by omega)) rfl (Zd 1 rfl (Z4 ?_))
 first
   | exact rtA rfl rfl rfl ⟨u70, _, hu70, rfl, hu56, rfl, rfl⟩ idH
   | exact rtA rfl rfl rfl ⟨u70, _, hu70, rfl, hu30, rfl, rfl⟩ idH
   | exact rtA rfl rfl rfl ⟨u70, _, hu70, rfl, hmx, rfl, rfl⟩ idH
 refine Z3 (Z0 ?_)
 refine Zc [0, 1, 3, 7, 0, 16, 48, 112, 240, 511, 1023, 2047, 4095, 8191] (tks 0 3 (.ld 3 (tks 4 3 (.ld 7 (tks 8 6 .done))))) Zo (by kernel_rfl) ?_
 refine Zd 1 rfl (tk rfl (PE.nilCheck rfl) rfl (tk rfl (PE.fA Z0r rfl) rfl (ld rfl rfl (lh Z7C rfl rfl) rfl (Zd 1 rfl (tk rfl (PE.nilCheck rfl) rfl (tk rfl (PE.fA Z0r rfl) rfl (ld rfl rfl (lh Z7C rfl rfl) rfl ?_)))))))
 refine tkE rfl (PE.shrU rfl rfl (by decide) (by omega) (by omega)) rfl ?_
 rintro _ ⟨u67, rfl, hu67⟩
 refine tkE rfl (PE.xorU rfl rfl) rfl ?_
 rintro _ ⟨u68, rfl, hu68⟩
 refine tkE rfl (PE.shrU rfl rfl (by decide) (by omega) (by omega)) rfl ?_
 rintro _ ⟨u69, rfl, hu69⟩
 refine tkE rfl (PE.andU rfl rfl (by decide) (by decide)) rfl ?_
 rintro _ ⟨u70, rfl, hu70⟩
 refine tk rfl (PE.conv64 ZfS ik3 rfl (by omega)) rfl (Zd 1 rfl (Z4 ?_))
 first
   | exact rtA rfl rfl rfl ⟨u70, _, hu70, rfl, hu56, rfl, rfl⟩ idH
   | exact rtA rfl rfl rfl ⟨u70, _, hu70, rfl, hu30, rfl, rfl⟩ idH
   | exact rtA rfl rfl rfl ⟨u70, _, hu70, rfl, hmx, rfl, rfl⟩ idH
 refine Z3 (sqt 8 rfl (pur 1 rfl (sp rfl (PE.nilCheck rfl) rfl (sp rfl (PE.fA Z2V rfl) rfl (spL rfl rfl (lh sc3 rfl rfl) rfl (sp rfl (PE.add rfl rfl (by omega)) rfl (sp rfl (PE.nilCheck rfl) rfl (sp rfl (PE.fA Z2V rfl) rfl ?_))))))))
 refine sto rfl rfl rfl cn3 rfl rfl rfl rfl ?_
 refine Z0 (Z0 ?_)
 refine Zc [0, 1, 3, 7, 0, 16, 48, 112, 240, 511] (tks 0 3 (.ld 3 (tks 4 3 (.ld 7 (.tk 8 (.tk 9 .done)))))) Zo (by kernel_rfl) ?_
 refine Zd 1 rfl (tk rfl (PE.nilCheck rfl) rfl (tk rfl (PE.fA Z2V rfl) rfl (ld rfl rfl (lh sc3 rfl rfl) rfl (Zd 1 rfl (tk rfl (PE.nilCheck rfl) rfl (tk rfl (PE.fA Z67 rfl) rfl (ld rfl rfl (lh ZfP rfl rfl) rfl (tk rfl (PE.lenSl Z9T rfl) rfl (Zd 1 rfl ?_)))))))))
 refine Z1 rfl ?_ ?_ <;> intro hc1 <;> try simp only [cS] at hc1
 refine sqr 10 rfl (pur 2 rfl (sp rfl (PE.nilCheck rfl) rfl (sp rfl (PE.fA Z0r rfl) rfl (spL rfl rfl (lh Z7C rfl rfl) rfl ?_))))
 refine spE rfl (PE.mulU rfl rfl) rfl ?_
 rintro _ ⟨u55, rfl, hu55⟩
 refine spE rfl (PE.addU rfl rfl) rfl ?_
 rintro _ ⟨u56, rfl, hu56⟩
 refine sp rfl (PE.nilCheck rfl) rfl (sp rfl (PE.fA Z0r rfl) rfl ?_)
 refine sto rfl rfl rfl Zge rfl rfl rfl rfl ?_
 refine Z0 ?_
 refine Zc [0, 1, 3, 7, 0, 16, 48, 112, 240, 511, 1023, 2047, 4095, 8191] (tks 0 3 (.ld 3 (tks 4 3 (.ld 7 (tks 8 6 .done))))) Zo (by kernel_rfl) ?_
 refine Zd 1 rfl (tk rfl (PE.nilCheck rfl) rfl (tk rfl (PE.fA Z0r rfl) rfl (ld rfl rfl (lh Z7C rfl rfl) rfl (Zd 1 rfl (tk rfl (PE.nilCheck rfl) rfl (tk rfl (PE.fA Z0r rfl) rfl (ld rfl rfl (lh Z7C rfl rfl) rfl ?_)))))))
 refine tkE rfl (PE.shrU rfl rfl (by decide) (by omega) (by omega)) rfl ?_
 rintro _ ⟨u67, rfl, hu67⟩
 refine tkE rfl (PE.xorU rfl rfl) rfl ?_
 rintro _ ⟨u68, rfl, hu68⟩
 refine tkE rfl (PE.shrU rfl rfl (by decide) (by omega) (by omega)) rfl ?_
 rintro _ ⟨u69, rfl, hu69⟩
 refine tkE rfl (PE.andU rfl rfl (by decide) (by decide)) rfl ?_
 rintro _ ⟨u70, rfl, hu70⟩
 refine tk rfl (PE.conv64 ZfS ik3 rfl (by omega)) rfl (Zd 1 rfl (Z4 ?_))
 first
   | exact rtA rfl rfl rfl ⟨u70, _, hu70, rfl, hu56, rfl, rfl⟩ idH
   | exact rtA rfl rfl rfl ⟨u70, _, hu70, rfl, hu30, rfl, rfl⟩ idH
   | exact rtA rfl rfl rfl ⟨u70, _, hu70, rfl, hmx, rfl, rfl⟩ idH
 refine Z3 (Z0 ?_)
 refine Zc [0, 1, 3, 7, 0, 16, 48, 112, 240, 511, 1023, 2047, 4095, 8191] (tks 0 3 (.ld 3 (tks 4 3 (.ld 7 (tks 8 6 .done))))) Zo (by kernel_rfl) ?_
 refine Zd 1 rfl (tk rfl (PE.nilCheck rfl) rfl (tk rfl (PE.fA Z0r rfl) rfl (ld rfl rfl (lh Z7C rfl rfl) rfl (Zd 1 rfl (tk rfl (PE.nilCheck rfl) rfl (tk rfl (PE.fA Z0r rfl) rfl (ld rfl rfl (lh Z7C rfl rfl) rfl ?_)))))))
 refine tkE rfl (PE.shrU rfl rfl (by decide) (by omega) (by omega)) rfl ?_
 rintro _ ⟨u67, rfl, hu67⟩
 refine tkE rfl (PE.xorU rfl rfl) rfl ?_
 rintro _ ⟨u68, rfl, hu68⟩
 refine tkE rfl (PE.shrU rfl rfl (by decide) (by omega) (by omega)) rfl ?_
 rintro _ ⟨u69, rfl, hu69⟩
 refine tkE rfl (PE.andU rfl rfl (by decide) (by decide)) rfl ?_
 rintro _ ⟨u70, rfl, hu70⟩
 refine tk rfl (PE.conv64 ZfS ik3 rfl (by omega)) rfl (Zd 1 rfl (Z4 ?_))
 first
   | exact rtA rfl rfl rfl ⟨u70, _, hu70, rfl, hu56, rfl, rfl⟩ idH
   | exact rtA rfl rfl rfl ⟨u70, _, hu70, rfl, hu30, rfl, rfl⟩ idH
   | exact rtA rfl rfl rfl ⟨u70, _, hu70, rfl, hmx, rfl, rfl⟩ idH
theorem c_Below (g : List Int) (ag : Option Addr) (cg bk : Nat) (hgl : g.length ≤ 9223372036854775807) (tq mx : Int) (htq : 0 ≤ tq ∧ tq ≤ 1000000000) (hmx : 0 ≤ mx ∧ mx ≤ 4294967295) (n : Int) (H : Z7) (R : Z5) [hG : MemRows ag 1 (urows g) R] :
    Fn Tryz.prog 11 [.pointer (some ⟨bk, 0, none⟩), .int .i64 n] ((bk, cel 96 [.slice ag g.length cg, .int .i64 (tq), .int .u32 (mx)]) :: H) R (fun v H' R' => ∃ x m' : Int, (0 ≤ x ∧ x < max 1 n) ∧ v = .int .i64 x ∧ (0 ≤ m' ∧ m' ≤ 4294967295) ∧ H' = (bk, cel 96 [.slice ag g.length cg, .int .i64 (tq + 1), .int .u32 (m')]) :: H ∧ R' = R) := by
 refine Z8 Tryz.func11 rfl Tryz.ntmps11 rfl ?_
 refine sqt 1 rfl (pur 1 rfl (sqt 6 rfl (pur 1 rfl ?_)))
 refine cl rfl ZgE rfl rfl (Z7i g ag cg bk hgl tq mx htq hmx _ _) ?_
 rintro _ _ _ ⟨x, m', hx, rfl, hm', rfl, rfl⟩
 refine pur 1 rfl (sp rfl (PE.max rfl rfl) rfl (sp rfl (PE.rem rfl rfl (by omega)) rfl (pur 1 rfl (Z4 ?_))))
 exact rtA rfl rfl rfl ⟨_, m', ⟨Int.emod_nonneg _ (by omega), Int.emod_lt_of_pos _ (by omega)⟩, rfl, hm', rfl, rfl⟩ idH
theorem c_Among (g : List Int) (ag : Option Addr) (cg bk : Nat) (hgl : g.length ≤ 9223372036854775807) (tq mx : Int) (htq : 0 ≤ tq ∧ tq ≤ 1000000000) (hmx : 0 ≤ mx ∧ mx ≤ 4294967295) (lo hi : Int) (hb : -1000000 ≤ lo ∧ lo ≤ 1000000 ∧ -1000000 ≤ hi ∧ hi ≤ 1000000) (H : Z7) (R : Z5) [hG : MemRows ag 1 (urows g) R] :
    Fn Tryz.prog 29 [.pointer (some ⟨bk, 0, none⟩), .int .i64 lo, .int .i64 hi] ((bk, cel 96 [.slice ag g.length cg, .int .i64 (tq), .int .u32 (mx)]) :: H) R (fun v H' R' => ∃ x m' : Int, (lo ≤ x ∧ x < lo + max 1 (hi - lo + 1)) ∧ v = .int .i64 x ∧ (0 ≤ m' ∧ m' ≤ 4294967295) ∧ H' = (bk, cel 96 [.slice ag g.length cg, .int .i64 (tq + 1), .int .u32 (m')]) :: H ∧ R' = R) := by
 refine Z8 Tryz.func29 rfl Tryz.ntmps29 rfl ?_
 refine sqt 1 rfl (pur 1 rfl (sqt 9 rfl (pur 4 rfl (sp rfl (PE.sub rfl rfl (by omega)) rfl (sp rfl (PE.add rfl rfl (by omega)) rfl ?_)))))
 refine cl rfl Z0E rfl rfl (c_Below g ag cg bk hgl tq mx htq hmx (hi - lo + 1) _ _) ?_
 rintro _ _ _ ⟨x, m', hx, rfl, hm', rfl, rfl⟩
 refine sp rfl (PE.add rfl rfl (by omega)) rfl (pur 1 rfl (Z4 ?_))
 exact rtA rfl rfl rfl ⟨lo + x, m', ⟨by omega, by omega⟩, rfl, hm', rfl, rfl⟩ idH
theorem c_Rare (g : List Int) (ag : Option Addr) (cg bk : Nat) (hgl : g.length ≤ 9223372036854775807) (tq mx : Int) (htq : 0 ≤ tq ∧ tq ≤ 1000000000) (hmx : 0 ≤ mx ∧ mx ≤ 4294967295) (n : Int) (H : Z7) (R : Z5) [hG : MemRows ag 1 (urows g) R] :
    Fn Tryz.prog 37 [.pointer (some ⟨bk, 0, none⟩), .int .i64 n] ((bk, cel 96 [.slice ag g.length cg, .int .i64 (tq), .int .u32 (mx)]) :: H) R (fun v H' R' => ∃ (x : Bool) (m' : Int), v = .bool x ∧ (0 ≤ m' ∧ m' ≤ 4294967295) ∧ H' = (bk, cel 96 [.slice ag g.length cg, .int .i64 (tq + 1), .int .u32 (m')]) :: H ∧ R' = R) := by
 refine Z8 Tryz.func37 rfl Tryz.ntmps37 rfl ?_
 refine sqt 1 rfl (pur 1 rfl (sqt 5 rfl (pur 2 rfl ?_)))
 refine cl rfl Z0E rfl rfl (c_Below g ag cg bk hgl tq mx htq hmx n _ _) ?_
 rintro _ _ _ ⟨x, m', hx, rfl, hm', rfl, rfl⟩
 refine pur 2 rfl (Z4 ?_)
 exact rtA rfl rfl rfl ⟨_, m', rfl, hm', rfl, rfl⟩ idH
structure MxI (k : Nat) (l : List Int) (left : Int) : Prop where
  len : l.length = 4
  sum : Z9B l + left = 40
  at_ : ∀ j < 4, 0 ≤ nn l j ∧ nn l j ≤ 40
  lo : 0 ≤ left ∧ left ≤ 40
  zero : ∀ j < 4, j + k ≤ 3 → nn l j = 0
theorem MxI.start : MxI 0 [0, 0, 0, 0] 40 := ⟨rfl, rfl, of4 ⟨by decide, by decide, by decide, by decide⟩, by omega, of4 ⟨fun _ => rfl, fun _ => rfl, fun _ => rfl, fun _ => rfl⟩⟩
theorem MxI.more {k : Nat} {l : List Int} {left v : Int} (h : MxI k l left) (hk : k < 3) (hv : 0 ≤ v ∧ v ≤ left) : MxI (k + 1) (l.set (3 - k) v) (left - v) := by
  have hlo := h.lo
  have hz := h.zero (3 - k) (by omega) (by omega)
  have hs := h.sum
  have hset : ∀ j, nn (l.set (3 - k) v) j = bif 3 - k == j then v else nn l j := fun j => Z3a (by rw [h.len]; omega)
  refine ⟨by simp [h.len], by rw [Z7g h.len (by omega)]; omega, fun j hj => ?_, by omega, fun j hj hjk => ?_⟩
  · rw [hset]
    cases 3 - k == j
    · exact h.at_ j hj
    · simp only [cond_true]; omega
  · rw [hset, show (3 - k == j) = false from by simp; omega]
    exact h.zero j hj (by omega)
theorem MxI.done {l : List Int} {left : Int} (h : MxI 3 l left) : Mxt (l.set 0 left) := by
  have hlo := h.lo
  have hz := h.zero 0 (by omega) (by omega)
  have hs := h.sum
  refine ⟨by simp [h.len], by rw [Z7g h.len (by omega)]; omega, fun j hj => ?_⟩
  rw [Z3a (by rw [h.len]; omega)]
  cases (0 : Nat) == j
  · exact h.at_ j hj
  · simp only [cond_true]; omega
theorem ZhQ : ZJ Tryz.prog 27 = some [(0, 1), (1, 1), (2, 1)] := by kernel_rfl
theorem ZhW : ZJ Tryz.prog 30 = some [(0, 1), (1, 1), (2, 1)] := by kernel_rfl
theorem ZhP : Zy Tryz.prog 27 = some ([.int .i64 0, .int .i64 0, .slice none 0 0]) := by kernel_rfl
theorem ZhH : Zy Tryz.prog 30 = some ([.int .i64 0, .int .i64 0, .slice none 0 0]) := by kernel_rfl
theorem Z6K {l : List Grd} {x : Grd} (h : ∀ i, Z0L l i = false) (hx : ∀ q ∈ l, x.price ≤ q.price) : ∀ i, Z0L (l ++ [x]) i = false := fun i => by
  rcases Nat.lt_trichotomy (i + 1) l.length with h1 | h1 | h1
  · have := h i
    unfold Z0L at this ⊢
    rw [List.getElem?_append_left (by omega), List.getElem?_append_left (by omega)]; exact this
  · obtain ⟨q, hq⟩ : ∃ q, l[i]? = some q := ⟨_, List.getElem?_eq_getElem (by omega)⟩
    have h2 := hx q (List.mem_of_getElem? hq)
    unfold Z0L
    rw [List.getElem?_append_left (by omega), hq, List.getElem?_append_right (by omega), show i + 1 - l.length = 0 from by omega]
    simp only [List.getElem?_cons_zero]
    rw [decide_eq_false (by omega)]
  · unfold Z0L
    rw [List.getElem?_eq_none (l := l ++ [x]) (i := i + 1) (by simp; omega)]
    split <;> simp_all
structure GrI (l : List Grd) (k : Nat) (pr : Int) : Prop where
  len : l.length = k
  bd : 0 ≤ pr ∧ pr ≤ 100
  q : ∀ q ∈ l, (pr ≤ q.price ∧ q.price ≤ 100) ∧ ∀ k < 4, 0 ≤ nn q.ns k ∧ nn q.ns k ≤ 40
  bad : ∀ i, Z0L l i = false
theorem GrI.more {l : List Grd} {k : Nat} {pr a b c d x : Int} (h : GrI l k pr) (ha : 0 ≤ a ∧ a ≤ 40) (hb : 0 ≤ b ∧ b ≤ 40) (hc : 0 ≤ c ∧ c ≤ 40) (hd : 0 ≤ d ∧ d ≤ 40) (hx : 0 ≤ x ∧ x ≤ pr) : GrI (l ++ [⟨a, b, c, d, pr⟩]) (k + 1) (pr - x) := by
  have hp := h.bd
  refine ⟨by simp [h.len], by omega, fun q hq => ?_, Z6K h.bad (fun q hq => (h.q q hq).1.1)⟩
  rcases List.mem_append.1 hq with hq | hq
  · have := h.q q hq; exact ⟨by omega, this.2⟩
  · simp only [List.mem_singleton] at hq; subst hq; exact ⟨by simp only; omega, of4 ⟨ha, hb, hc, hd⟩⟩
theorem Fn.post {P : Program} {f : FuncId} {args : List Value} {H : Z7} {R : Z5} {Q Q' : Value → Z7 → Z5 → Prop} (h : Fn P f args H R Q) (hq : ∀ v H1 R1, Q v H1 R1 → ∃ H2 R2, Q' v H2 R2 ∧ ∀ w, St H1 R1 w → St H2 R2 w) : Fn P f args H R Q' :=
  fun w hs => CallsIn.mono (h w hs) fun e w' ⟨v, H1, R1, q, he, hs'⟩ => by obtain ⟨H2, R2, q2, hst⟩ := hq _ _ _ q; exact ⟨v, H2, R2, q2, he, hst _ hs'⟩
end Go.Proofs.YtjoajfdnlomapaaGreat.Gt
namespace Go.Proofs.YtjoajfdnlomapaaGreat.Lo
set_option linter.unusedSimpArgs false
set_option linter.unusedVariables false
structure Ln where
  who : Int
  year : Int
  bu : Int
  deriving DecidableEq
structure Pm where
  fr : Int
  to : Int
  bu : Int
  deriving DecidableEq
structure Ldg where
  folk : Int
  years : Int
  bad : List Int
  forg : List Int
  loans : List Ln
  pays : List Ln
  proms : List Pm
@[reducible] def inL (n lo hi : Int) : Bool := decide (lo ≤ n) && decide (n ≤ hi)
def Ldg.farmer (l : Ldg) (n : Int) : Bool := inL n 1 (l.folk - 1)
def Ldg.person (l : Ldg) (n : Int) : Bool := inL n 0 (l.folk - 1)
def Ldg.year (l : Ldg) (n : Int) : Bool := inL n 0 (l.years - 1)
def Ldg.loan (l : Ldg) (n : Int) : Bool := inL n 0 ((l.loans.length : Int) - 1)
def buL (n : Int) : Bool := inL n 1 500
def Z2n : List Int → Bool
  | x :: y :: l => decide (x < y) && Z2n (y :: l)
  | _ => true
def Z4P : List Ln → Bool
  | x :: y :: l => decide (x.year ≤ y.year) && Z4P (y :: l)
  | _ => true
def Ldg.check (l : Ldg) : Int :=
  bif !(inL l.folk 1 7) || !(inL l.years 1 9) || decide ((10 : Int) < (l.loans.length : Int)) || decide ((12 : Int) < (l.pays.length : Int)) || decide ((12 : Int) < (l.proms.length : Int)) then 2
  else bif !(l.loans.all fun x => buL x.bu) || !(l.pays.all fun x => buL x.bu) || !(l.proms.all fun x => buL x.bu) then 3
  else bif !(l.bad.all l.year) || !(l.forg.all l.loan) then 1
  else bif !(l.loans.all fun x => l.farmer x.who && l.year x.year) || !(l.pays.all fun x => l.farmer x.who && l.year x.year) then 1
  else bif !(l.proms.all fun x => l.person x.fr && l.person x.to) then 1
  else bif !(l.proms.all fun x => decide (x.fr ≠ x.to)) then 5
  else bif !(Z2n l.bad) || !(Z2n l.forg) || !(Z4P l.pays) then 4 else 0
structure Ldg.ok (l : Ldg) : Prop where
  folk : 1 ≤ l.folk ∧ l.folk ≤ 7
  years : 1 ≤ l.years ∧ l.years ≤ 9
  nl : l.loans.length ≤ 10
  np : l.pays.length ≤ 12
  nq : l.proms.length ≤ 12
  loans : ∀ x ∈ l.loans, (1 ≤ x.bu ∧ x.bu ≤ 500) ∧ (1 ≤ x.who ∧ x.who ≤ l.folk - 1) ∧ 0 ≤ x.year ∧ x.year ≤ l.years - 1
  pays : ∀ x ∈ l.pays, (1 ≤ x.bu ∧ x.bu ≤ 500) ∧ (1 ≤ x.who ∧ x.who ≤ l.folk - 1) ∧ 0 ≤ x.year ∧ x.year ≤ l.years - 1
  proms : ∀ x ∈ l.proms, (1 ≤ x.bu ∧ x.bu ≤ 500) ∧ (0 ≤ x.fr ∧ x.fr ≤ l.folk - 1) ∧ (0 ≤ x.to ∧ x.to ≤ l.folk - 1) ∧ x.fr ≠ x.to
  bad : ∀ y ∈ l.bad, 0 ≤ y ∧ y ≤ l.years - 1
  forg : ∀ y ∈ l.forg, 0 ≤ y ∧ y ≤ (l.loans.length : Int) - 1
  rbad : Z2n l.bad = true
  rforg : Z2n l.forg = true
  srt : Z4P l.pays = true
theorem ZdZ {l : Ldg} (h : l.check = 0) : l.ok := by
  unfold Ldg.check at h
  cases h1 : (!(inL l.folk 1 7) || !(inL l.years 1 9) || decide ((10 : Int) < (l.loans.length : Int)) || decide ((12 : Int) < (l.pays.length : Int)) || decide ((12 : Int) < (l.proms.length : Int))) <;> rw [h1] at h
  rotate_left
  · cases h
  cases h2 : (!(l.loans.all fun x => buL x.bu) || !(l.pays.all fun x => buL x.bu) || !(l.proms.all fun x => buL x.bu)) <;> rw [h2] at h
  rotate_left
  · cases h
  cases h3 : (!(l.bad.all l.year) || !(l.forg.all l.loan)) <;> rw [h3] at h
  rotate_left
  · cases h
  cases h4 : (!(l.loans.all fun x => l.farmer x.who && l.year x.year) || !(l.pays.all fun x => l.farmer x.who && l.year x.year)) <;> rw [h4] at h
  rotate_left
  · cases h
  cases h5 : !(l.proms.all fun x => l.person x.fr && l.person x.to) <;> rw [h5] at h
  rotate_left
  · cases h
  cases h6 : !(l.proms.all fun x => decide (x.fr ≠ x.to)) <;> rw [h6] at h
  rotate_left
  · cases h
  cases h7 : (!(Z2n l.bad) || !(Z2n l.forg) || !(Z4P l.pays)) <;> rw [h7] at h
  rotate_left
  · cases h
  simp only [Bool.or_eq_false_iff, Bool.not_eq_false', decide_eq_false_iff_not, List.all_eq_true, Bool.and_eq_true, inL, buL, Ldg.farmer, Ldg.person, Ldg.year, Ldg.loan, decide_eq_true_eq] at h1 h2 h3 h4 h5 h6 h7
  exact ⟨h1.1.1.1.1, h1.1.1.1.2, by omega, by omega, by omega, fun x hx => ⟨h2.1.1 x hx, (h4.1 x hx).1, (h4.1 x hx).2⟩, fun x hx => ⟨h2.1.2 x hx, (h4.2 x hx).1, (h4.2 x hx).2⟩, fun x hx => ⟨h2.2 x hx, (h5 x hx).1, (h5 x hx).2, h6 x hx⟩, h3.1, h3.2, h7.1.1, h7.1.2, h7.2⟩
theorem Z8H {l : Ldg} (h : l.ok) : l.check = 0 := by
  have h1 : (!(inL l.folk 1 7) || !(inL l.years 1 9) || decide ((10 : Int) < (l.loans.length : Int)) || decide ((12 : Int) < (l.pays.length : Int)) || decide ((12 : Int) < (l.proms.length : Int))) = false := by
    have := h.folk; have := h.years; have := h.nl; have := h.np; have := h.nq
    simp only [Bool.or_eq_false_iff, Bool.not_eq_false', decide_eq_false_iff_not, Bool.and_eq_true, inL, decide_eq_true_eq]; omega
  have h2 : (!(l.loans.all fun x => buL x.bu) || !(l.pays.all fun x => buL x.bu) || !(l.proms.all fun x => buL x.bu)) = false := by
    simp only [Bool.or_eq_false_iff, Bool.not_eq_false', List.all_eq_true, Bool.and_eq_true, inL, buL, decide_eq_true_eq]
    exact ⟨⟨fun x hx => (h.loans x hx).1, fun x hx => (h.pays x hx).1⟩, fun x hx => (h.proms x hx).1⟩
  have h3 : (!(l.bad.all l.year) || !(l.forg.all l.loan)) = false := by
    simp only [Bool.or_eq_false_iff, Bool.not_eq_false', List.all_eq_true, Bool.and_eq_true, inL, Ldg.year, Ldg.loan, decide_eq_true_eq]
    exact ⟨h.bad, h.forg⟩
  have h4 : (!(l.loans.all fun x => l.farmer x.who && l.year x.year) || !(l.pays.all fun x => l.farmer x.who && l.year x.year)) = false := by
    simp only [Bool.or_eq_false_iff, Bool.not_eq_false', List.all_eq_true, Bool.and_eq_true, inL, Ldg.farmer, Ldg.year, decide_eq_true_eq]
    exact ⟨fun x hx => (h.loans x hx).2, fun x hx => (h.pays x hx).2⟩
  have h5 : (!(l.proms.all fun x => l.person x.fr && l.person x.to)) = false := by
    simp only [Bool.not_eq_false', List.all_eq_true, Bool.and_eq_true, inL, Ldg.person, decide_eq_true_eq]
    exact fun x hx => ⟨(h.proms x hx).2.1, (h.proms x hx).2.2.1⟩
  have h6 : (!(l.proms.all fun x => decide (x.fr ≠ x.to))) = false := by
    simp only [Bool.not_eq_false', List.all_eq_true, decide_eq_true_eq]
    exact fun x hx => (h.proms x hx).2.2.2
  have h7 : (!(Z2n l.bad) || !(Z2n l.forg) || !(Z4P l.pays)) = false := by rw [h.rbad, h.rforg, h.srt]; rfl
  unfold Ldg.check
  rw [h1, h2, h3, h4, h5, h6, h7]; rfl
theorem Z7o : ∀ (l : List Int) (a : Int), Z2n (a :: l) = true → (∀ y ∈ l, a + 1 ≤ y)
  | [], _, _, _, h => by cases h
  | b :: l, a, h, y, hy => by
    simp only [Z2n, Bool.and_eq_true, decide_eq_true_eq] at h
    rcases List.mem_cons.1 hy with rfl | hy
    · omega
    · have := Z7o l b h.2 y hy; omega
theorem Z5c : ∀ (l : List Int) (lo hi : Int), Z2n l = true → (∀ y ∈ l, lo ≤ y ∧ y ≤ hi) → l ≠ [] → (l.length : Int) ≤ hi - lo + 1
  | [], _, _, _, _, h => absurd rfl h
  | [a], lo, hi, _, hb, _ => by have := hb a (by simp); simp; omega
  | a :: b :: l, lo, hi, h, hb, _ => by
    have h1 := hb a (by simp)
    have hr : Z2n (b :: l) = true := by simp only [Z2n, Bool.and_eq_true] at h; exact h.2
    have ih := Z5c (b :: l) (lo + 1) hi hr (fun y hy => by
      have h2 := hb y (by simp [List.mem_cons.1 hy])
      have h3 := Z7o (b :: l) a h y hy
      omega) (by simp)
    simp only [List.length_cons] at ih ⊢
    omega
theorem Z7G {l : Ldg} (h : l.ok) : l.forg.length ≤ 1000000 := by
  by_cases h0 : l.forg = []
  · rw [h0]; simp
  · have := Z5c l.forg 0 _ h.rforg h.forg h0
    have := h.nl
    omega
def Ldg.asked (l : Ldg) (i : Nat) : Int := bif l.forg.contains (i : Int) then 0 else match l.loans[i]? with
  | some x => x.bu + (x.bu + 9) / 10
  | none => 0
theorem Z2t {l : Ldg} (h : l.ok) (i : Nat) : 0 ≤ l.asked i ∧ l.asked i ≤ 550 := by
  unfold Ldg.asked
  cases l.forg.contains (i : Int) with
  | true => simp
  | false => cases hx : l.loans[i]? with
    | none => simp
    | some x =>
      have := (h.loans x (List.mem_of_getElem? hx)).1
      simp only [cond_false]; omega
def yrL (l : Ldg) (p : Nat → Bool) (y : Nat) : List Nat := (List.range l.loans.length).filter fun i => (match l.loans[i]? with | some x => decide (x.year = y) | none => false) && p i
def Z2m (l : Ldg) (p : Nat → Bool) : List Nat := (List.range l.years.toNat).flatMap (yrL l p)
theorem Z2B {l : Ldg} (h : l.ok) {p : Nat → Bool} {i : Nat} : i ∈ Z2m l p ↔ i < l.loans.length ∧ p i = true := by
  unfold Z2m yrL
  simp only [List.mem_flatMap, List.mem_range, List.mem_filter, Bool.and_eq_true]
  constructor
  · rintro ⟨y, _, hi, _, hp⟩; exact ⟨hi, hp⟩
  · rintro ⟨hi, hp⟩
    obtain ⟨x, hx⟩ : ∃ x, l.loans[i]? = some x := ⟨_, List.getElem?_eq_getElem hi⟩
    have hb := (h.loans x (List.mem_of_getElem? hx)).2.2
    refine ⟨x.year.toNat, by omega, hi, ?_, hp⟩
    rw [hx]; simp only [decide_eq_true_eq]; omega
theorem Z5D {f : Nat → List Nat} (hf : ∀ y, (f y).Nodup) (hd : ∀ a b i, a ≠ b → i ∈ f a → i ∉ f b) : ∀ ys : List Nat, ys.Nodup → (ys.flatMap f).Nodup
  | [], _ => by simp
  | y :: ys, h => by
    rw [List.nodup_cons] at h
    rw [List.flatMap_cons]
    refine List.nodup_append.2 ⟨hf y, Z5D hf hd ys h.2, fun a ha b hb e => ?_⟩
    subst e
    obtain ⟨z, hz, h2⟩ := List.mem_flatMap.1 hb
    exact hd y z a (fun e => h.1 (e ▸ hz)) ha h2
theorem Z6L (l : Ldg) (p : Nat → Bool) : (Z2m l p).Nodup := by
  refine Z5D (fun y => List.Nodup.sublist List.filter_sublist List.nodup_range) (fun a b i hab ha hb => ?_) _ List.nodup_range
  unfold yrL at ha hb
  simp only [List.mem_filter, Bool.and_eq_true] at ha hb
  cases hx : l.loans[i]? with
  | none => rw [hx] at ha; exact absurd ha.2.1 (by simp)
  | some x =>
    rw [hx] at ha hb
    simp only [decide_eq_true_eq] at ha hb
    exact hab (by have h1 := ha.2.1; have h2 := hb.2.1; omega)
def na0 (l : List Int) (i : Nat) : Int := l.getD i 0
def bkI (l : Ldg) (s : List Int × Int) (i : Nat) : List Int × Int := (s.1.set i (na0 s.1 i + min s.2 (l.asked i - na0 s.1 i)), s.2 - min s.2 (l.asked i - na0 s.1 i))
def bkP (l : Ldg) (bk : List Int) (p : Ln) : List Int × Int := (Z2m l fun i => match l.loans[i]? with | some x => decide (x.who = p.who) && decide (x.year ≤ p.year) | none => false).foldl (bkI l) (bk, p.bu)
def bkA (l : Ldg) (bk : List Int) (ps : List Ln) : List Int := ps.foldl (fun bk p => (bkP l bk p).1) bk
def lfO (l : Ldg) (bk : List Int) (o : List Nat) : Int := (o.map fun i => l.asked i - na0 bk i).sum
structure BkOk (l : Ldg) (bk : List Int) : Prop where
  len : bk.length = 10
  bd : ∀ i, 0 ≤ na0 bk i ∧ na0 bk i ≤ l.asked i
theorem Z28 {bk : List Int} {i j : Nat} {v : Int} (hi : i < bk.length) : na0 (bk.set i v) j = bif decide (i = j) then v else na0 bk j := by
  unfold na0
  rw [List.getD_eq_getElem?_getD, List.getElem?_set, List.getD_eq_getElem?_getD]
  by_cases h : i = j
  · subst h; simp [hi]
  · simp [h]
theorem ZaR {l : Ldg} {s : List Int × Int} (h : BkOk l s.1) (hs : 0 ≤ s.2) {i : Nat} (hi : i < 10) : BkOk l (bkI l s i).1 ∧ 0 ≤ (bkI l s i).2 := by
  have hb := h.bd i
  refine ⟨⟨by simp [bkI, h.len], fun j => ?_⟩, by simp only [bkI]; omega⟩
  simp only [bkI]
  rw [Z28 (by rw [h.len]; exact hi)]
  by_cases e : i = j
  · subst e; simp only [decide_true, cond_true]; omega
  · simp only [e, decide_false, cond_false]; exact h.bd j
theorem Z8j {l : Ldg} {bk : List Int} {i : Nat} {v : Int} (hi : i < bk.length) : ∀ {o : List Nat}, i ∉ o → lfO l (bk.set i v) o = lfO l bk o
  | [], _ => rfl
  | j :: o, h => by
    simp only [List.mem_cons, not_or] at h
    unfold lfO
    rw [List.map_cons, List.map_cons, List.sum_cons, List.sum_cons, Z28 hi]
    have ih := Z8j (l := l) (v := v) hi h.2
    unfold lfO at ih
    rw [ih]
    simp [h.1]
theorem Z4w {l : Ldg} : ∀ (o : List Nat) (s : List Int × Int), o.Nodup → (∀ i ∈ o, i < 10) → BkOk l s.1 → 0 ≤ s.2 →
    BkOk l (o.foldl (bkI l) s).1 ∧ (o.foldl (bkI l) s).2 = max 0 (s.2 - lfO l s.1 o) ∧ lfO l (o.foldl (bkI l) s).1 o = max 0 (lfO l s.1 o - s.2) ∧ (0 ≤ lfO l s.1 o) ∧ ∀ j, j ∉ o → na0 (o.foldl (bkI l) s).1 j = na0 s.1 j
  | [], s, _, _, h, hs => ⟨h, by simp [lfO]; omega, by simp [lfO]; omega, by simp [lfO], fun _ _ => rfl⟩
  | i :: o, s, hd, hl, h, hs => by
    rw [List.nodup_cons] at hd
    have hi := hl i (by simp)
    have hil : i < s.1.length := by rw [h.len]; exact hi
    obtain ⟨h1, h2⟩ := ZaR h hs hi
    obtain ⟨a, b, c, d, e⟩ := Z4w o (bkI l s i) hd.2 (fun j hj => hl j (by simp [hj])) h1 h2
    have hb := h.bd i
    have hlo : lfO l (bkI l s i).1 o = lfO l s.1 o := Z8j hil hd.1
    have hcons : ∀ bk, lfO l bk (i :: o) = (l.asked i - na0 bk i) + lfO l bk o := fun bk => by unfold lfO; rw [List.map_cons, List.sum_cons]
    have hni := e i hd.1
    have hv : na0 (bkI l s i).1 i = na0 s.1 i + min s.2 (l.asked i - na0 s.1 i) := by simp only [bkI]; rw [Z28 hil]; simp
    rw [hlo] at b c d
    rw [List.foldl_cons, hcons, hcons, hni, hv]
    refine ⟨a, ?_, ?_, by omega, fun j hj => ?_⟩
    · rw [b]; simp only [bkI]; omega
    · rw [c]; simp only [bkI]; omega
    · simp only [List.mem_cons, not_or] at hj
      rw [e j hj.2]
      show na0 (s.1.set i _) j = _
      rw [Z28 hil, decide_eq_false (fun e : i = j => hj.1 e.symm)]; rfl
theorem Zc2 {l : Ldg} (h : l.ok) : BkOk l (List.replicate 10 0) := ⟨List.length_replicate, fun i => by
  have := Z2t h i
  have e : na0 (List.replicate 10 0) i = 0 := by unfold na0; rw [List.getD_eq_getElem?_getD, List.getElem?_replicate]; split <;> rfl
  rw [e]; omega⟩
theorem ZeG {l : Ldg} (h : l.ok) {bk : List Int} (hb : BkOk l bk) {p : Ln} (hp : 0 ≤ p.bu) : BkOk l (bkP l bk p).1 :=
  (Z4w _ (bk, p.bu) (Z6L _ _) (fun i hi => by have := ((Z2B h).1 hi).1; have := h.nl; omega) hb hp).1
theorem Z7s {l : Ldg} (h : l.ok) : ∀ (ps : List Ln) {bk : List Int}, BkOk l bk → (∀ p ∈ ps, 0 ≤ p.bu) → BkOk l (bkA l bk ps)
  | [], _, hb, _ => hb
  | p :: ps, bk, hb, hp => Z7s h ps (ZeG h hb (hp p (by simp))) (fun q hq => hp q (by simp [hq]))
def ZcL (l : Ldg) (who : Int) (ps : List Ln) : Int := lfO l (bkA l (List.replicate 10 0) ps) (Z2m l fun i => match l.loans[i]? with | some x => decide (x.who = who) | none => false)
open Go
theorem ZbV : Z0Z Tryz.prog 113 = some 3 := by kernel_rfl
theorem ZcY : Z0Z Tryz.prog 59 = some 3 := by kernel_rfl
theorem Zdk : Z0Z Tryz.prog 86 = some 3 := by kernel_rfl
theorem Z8J : cal Tryz.prog 143 = true := by kernel_rfl
theorem ZfA : cal Tryz.prog 155 = true := by kernel_rfl
theorem Zdg : cal Tryz.prog 156 = true := by kernel_rfl
theorem Zff : cal Tryz.prog 157 = true := by kernel_rfl
theorem Zfe : cal Tryz.prog 158 = true := by kernel_rfl
theorem ZeH : cal Tryz.prog 159 = true := by kernel_rfl
theorem Zdt : cal Tryz.prog 160 = true := by kernel_rfl
theorem Zdw : cal Tryz.prog 161 = true := by kernel_rfl
theorem Z9a : cal Tryz.prog 192 = true := by kernel_rfl
theorem Zew : cal Tryz.prog 195 = true := by kernel_rfl
theorem Zfh : cal Tryz.prog 196 = true := by kernel_rfl
theorem ZfM : cal Tryz.prog 197 = true := by kernel_rfl
theorem Z3L : cal Tryz.prog 45 = true := by kernel_rfl
theorem ZbB : cal Tryz.prog 84 = true := by kernel_rfl
theorem ZM : elN Tryz.prog 47 = some 1 := by kernel_rfl
theorem Zc5 : elN Tryz.prog 48 = some 3 := by kernel_rfl
theorem ZfW : elN Tryz.prog 49 = some 3 := by kernel_rfl
theorem Zh2 : elN Tryz.prog 50 = some 3 := by kernel_rfl
theorem Z8g : ZF Tryz.prog 113 2 = some 2 := by kernel_rfl
theorem Z5C : ZF Tryz.prog 52 0 = some 0 := by kernel_rfl
theorem Z5Q : ZF Tryz.prog 52 1 = some 1 := by kernel_rfl
theorem Z10 : ZF Tryz.prog 52 4 = some 4 := by kernel_rfl
theorem Zaw : ZF Tryz.prog 59 2 = some 2 := by kernel_rfl
theorem Z7t : ZF Tryz.prog 86 2 = some 2 := by kernel_rfl
theorem Z0i : Z1W Tryz.prog 47 = true := by kernel_rfl
theorem Z9L : Z1W Tryz.prog 48 = true := by kernel_rfl
theorem Z7p : Z1W Tryz.prog 49 = true := by kernel_rfl
theorem Z6t : Z1W Tryz.prog 50 = true := by kernel_rfl
theorem Z4l : Z07 Tryz.prog 112 = true := by kernel_rfl
theorem Zg2 : Z07 Tryz.prog 177 = true := by kernel_rfl
theorem Zgn : Z07 Tryz.prog 179 = true := by kernel_rfl
theorem Zh5 : Z07 Tryz.prog 181 = true := by kernel_rfl
theorem sc3 : Z07 Tryz.prog 3 = true := by kernel_rfl
theorem Z7U : Z07 Tryz.prog 48 = true := by kernel_rfl
def ZS (x : Ln) : List Value := [.int .i64 x.who, .int .i64 x.year, .int .i64 x.bu]
def lnrows (l : List Ln) : List (List Value) := l.map ZS
def pmrow (x : Pm) : List Value := [.int .i64 x.fr, .int .i64 x.to, .int .i64 x.bu]
def pmrows (l : List Pm) : List (List Value) := l.map pmrow
abbrev irows (l : List Int) : List (List Value) := l.map fun z => [.int .i64 z]
def lgl (l : Ldg) (a1 a2 a3 a4 a5 : Option Addr) (k1 k2 k3 k4 k5 : Nat) : List Value := [.int .i64 l.folk, .int .i64 l.years, .slice a1 l.bad.length k1, .slice a2 l.forg.length k2, .slice a3 l.loans.length k3, .slice a4 l.pays.length k4, .slice a5 l.proms.length k5]
def Ldg.v (l : Ldg) (a1 a2 a3 a4 a5 : Option Addr) (k1 k2 k3 k4 k5 : Nat) : Value := .agg (lgl l a1 a2 a3 a4 a5 k1 k2 k3 k4 k5).toArray
theorem Z1U {l : List Ln} {k : Nat} {x : Ln} (h : l[k]? = some x) : (lnrows l)[k]? = some (ZS x) := by simp [lnrows, h]
theorem pm_get {l : List Pm} {k : Nat} {x : Pm} (h : l[k]? = some x) : (pmrows l)[k]? = some (pmrow x) := by simp [pmrows, h]
theorem ir_get {l : List Int} {k : Nat} {x : Int} (h : l[k]? = some x) : (irows l)[k]? = some [.int .i64 x] := by simp [irows, h]
def Z9b (l : List Int) (i : Nat) : Bool := match l[i]?, l[i + 1]? with
  | some x, some y => decide (y ≤ x)
  | _, _ => false
theorem Z55 : ∀ (l : List Int), Z2n l = !((List.range l.length).any (Z9b l))
  | [] => rfl
  | [x] => rfl
  | x :: y :: l => by
    have ih := Z55 (y :: l)
    unfold Z2n
    rw [ih]
    rw [show (x :: y :: l).length = (y :: l).length + 1 from rfl, List.range_succ_eq_map (n := (y :: l).length), List.any_cons, List.any_map]
    have e : (Z9b (x :: y :: l)) ∘ Nat.succ = Z9b (y :: l) := by funext i; rfl
    rw [e]
    have e2 : Z9b (x :: y :: l) 0 = decide (y ≤ x) := rfl
    rw [e2]
    by_cases h : x < y
    · simp [h, Int.not_le.2 h]
    · simp [h, Int.not_lt.1 h]
theorem Zb8 {l : List Int} {k : Nat} {x y : Int} (hx : l[k]? = some x) (hy : l[k + 1]? = some y) (h : y ≤ x) : Z2n l = false := by
  rw [Z55, Bool.not_eq_false']
  rw [List.any_eq_true]
  refine ⟨k, List.mem_range.2 (List.getElem?_eq_some_iff.1 hx).1, ?_⟩
  unfold Z9b
  rw [hx, hy]; simpa using h
theorem ZeR {l : List Int} (h : ∀ i, i + 1 < l.length → Z9b l i = false) : Z2n l = true := by
  rw [Z55, Bool.not_eq_true']
  rw [List.any_eq_false]
  intro i _
  rcases Nat.lt_or_ge (i + 1) l.length with h1 | h1
  · simp [h i h1]
  · unfold Z9b
    rw [List.getElem?_eq_none h1]
    cases l[i]? <;> simp
def Z9C (l : List Ln) (i : Nat) : Bool := match l[i]?, l[i + 1]? with
  | some x, some y => decide (y.year < x.year)
  | _, _ => false
theorem Z42 : ∀ (l : List Ln), Z4P l = !((List.range l.length).any (Z9C l))
  | [] => rfl
  | [x] => rfl
  | x :: y :: l => by
    have ih := Z42 (y :: l)
    unfold Z4P
    rw [ih]
    rw [show (x :: y :: l).length = (y :: l).length + 1 from rfl, List.range_succ_eq_map (n := (y :: l).length), List.any_cons, List.any_map]
    have e : (Z9C (x :: y :: l)) ∘ Nat.succ = Z9C (y :: l) := by funext i; rfl
    rw [e]
    have e2 : Z9C (x :: y :: l) 0 = decide (y.year < x.year) := rfl
    rw [e2]
    by_cases h : x.year ≤ y.year
    · simp [h, Int.not_lt.2 h]
    · simp [h, Int.not_le.1 h]
theorem Za6 {l : List Ln} {k : Nat} {x y : Ln} (hx : l[k]? = some x) (hy : l[k + 1]? = some y) (h : y.year < x.year) : Z4P l = false := by
  rw [Z42, Bool.not_eq_false']
  rw [List.any_eq_true]
  refine ⟨k, List.mem_range.2 (List.getElem?_eq_some_iff.1 hx).1, ?_⟩
  unfold Z9C
  rw [hx, hy]; simpa using h
theorem Zc9 {l : List Ln} (h : ∀ i, i + 1 < l.length → Z9C l i = false) : Z4P l = true := by
  rw [Z42, Bool.not_eq_true']
  rw [List.any_eq_false]
  intro i _
  rcases Nat.lt_or_ge (i + 1) l.length with h1 | h1
  · simp [h i h1]
  · unfold Z9C
    rw [List.getElem?_eq_none h1]
    cases l[i]? <;> simp
def ZcM (x y : Int) : Int := bif decide (x < y) then -1 else bif decide (y < x) then 1 else 0
theorem Zm {α : Type} {xs : List α} {p : α → Bool} {k : Nat} {x : α} (hx : xs[k]? = some x) (hn : ∀ y ∈ xs.take k, p y = false) (h : p x = true) : xs.findIdx? p = some k := by
  induction xs generalizing k with
  | nil => simp at hx
  | cons y ys ih =>
    cases k with
    | zero => simp only [List.getElem?_cons_zero, Option.some.injEq] at hx; subst hx; simp [List.findIdx?_cons, h]
    | succ k =>
      have hy := hn y (by simp)
      have := ih (by simpa using hx) (fun z hz => hn z (by simp [hz]))
      simp [List.findIdx?_cons, hy, this]
theorem Zi {α : Type} {xs : List α} {p : α → Bool} (hn : ∀ y ∈ xs, p y = false) : xs.findIdx? p = none := by
  rw [List.findIdx?_eq_none_iff]; exact hn
theorem ZB {α : Type} {xs : List α} {p : α → Bool} {k : Nat} {x : α} (hx : xs[k]? = some x) (hn : ∀ y ∈ xs.take k, p y = false) (h : p x = false) : ∀ y ∈ xs.take (k + 1), p y = false := by
  intro y hy
  rw [List.take_add_one, hx] at hy
  rcases List.mem_append.1 hy with h1 | h1
  · exact hn y h1
  · simp only [Option.toList_some, List.mem_singleton] at h1; subst h1; exact h
theorem ZT {α : Type} (xs : List α) (p : α → Bool) : Value.bool (decide (0 ≤ (match xs.findIdx? p with | some k => (k : Int) | none => -1))) = .bool (xs.any p) := by
  congr 1
  cases h : xs.findIdx? p with
  | none =>
    have := List.findIdx?_eq_none_iff.1 h
    have h2 : xs.any p = false := by simpa using this
    rw [h2]; rfl
  | some k =>
    have h2 : xs.any p = true := by
      rw [← Bool.not_eq_false]; intro h3
      have : xs.findIdx? p = none := List.findIdx?_eq_none_iff.2 (by simpa using h3)
      rw [this] at h; cases h
    rw [h2]; simp
theorem Zw {α : Type} (xs : List α) (p : α → Bool) : Value.bool (!xs.any fun x => !p x) = .bool (xs.all p) := by
  congr 1
  induction xs with
  | nil => rfl
  | cons x xs ih => simp [← ih]
theorem Z2P (n lo hi : Int) (H : Z7) (R : Z5) :
    FnV Tryz.prog 45 [.int .i64 n, .int .i64 lo, .int .i64 hi] H R (.bool (inL n lo hi)) := by
 refine Z8 Tryz.func45 rfl Tryz.ntmps45 rfl ?_
 refine sqt 1 rfl (pur 1 rfl (sqt 9 rfl (pur 4 rfl ?_)))
 refine Zk 10 rfl ?_ ?_ <;> intro g10
 refine pur 5 rfl (Z4 ?_)
 exact rtA rfl rfl rfl ⟨by simp_all only [ZA, inL, Bool.true_and, Bool.false_and, cond_true, cond_false], rfl, rfl⟩ drp
 refine pur 5 rfl (Z4 ?_)
 exact rtA rfl rfl rfl ⟨by simp_all only [ZA, inL, Bool.true_and, Bool.false_and, cond_true, cond_false], rfl, rfl⟩ drp
theorem Z3B (l : Ldg) (a1 a2 a3 a4 a5 : Option Addr) (k1 k2 k3 k4 k5 : Nat) (n : Int) (hN : l.loans.length ≤ 1000000) (hfo : -1000000 ≤ l.folk ∧ l.folk ≤ 1000000) (hye : -1000000 ≤ l.years ∧ l.years ≤ 1000000) (H : Z7) (R : Z5) :
    FnV Tryz.prog 77 [(l.v a1 a2 a3 a4 a5 k1 k2 k3 k4 k5), .int .i64 n] H R (.bool (l.person n)) := by
 refine Z8 Tryz.func77 rfl Tryz.ntmps77 rfl ?_
 refine sqt 2 rfl (bx rfl rfl rfl (fun b2 => pur 1 rfl (sqt 6 rfl (pur 1 rfl (sp rfl (PE.fA Z5C rfl) rfl (spL rfl rfl (lh sc3 rfl rfl) rfl (sp rfl (PE.sub rfl rfl (by omega)) rfl ?_)))))))
 refine clV rfl Z3L rfl rfl (Z2P _ _ _ _ _) ?_
 refine pur 1 rfl (Z4 ?_)
 exact rtA rfl rfl rfl ⟨rfl, rfl, rfl⟩ drp
theorem Z5P (l : Ldg) (a1 a2 a3 a4 a5 : Option Addr) (k1 k2 k3 k4 k5 : Nat) (n : Int) (hN : l.loans.length ≤ 1000000) (hfo : -1000000 ≤ l.folk ∧ l.folk ≤ 1000000) (hye : -1000000 ≤ l.years ∧ l.years ≤ 1000000) (H : Z7) (R : Z5) :
    FnV Tryz.prog 92 [(l.v a1 a2 a3 a4 a5 k1 k2 k3 k4 k5), .int .i64 n] H R (.bool (l.farmer n)) := by
 refine Z8 Tryz.func92 rfl Tryz.ntmps92 rfl ?_
 refine sqt 2 rfl (bx rfl rfl rfl (fun b2 => pur 1 rfl (sqt 6 rfl (pur 1 rfl (sp rfl (PE.fA Z5C rfl) rfl (spL rfl rfl (lh sc3 rfl rfl) rfl (sp rfl (PE.sub rfl rfl (by omega)) rfl ?_)))))))
 refine clV rfl Z3L rfl rfl (Z2P _ _ _ _ _) ?_
 refine pur 1 rfl (Z4 ?_)
 exact rtA rfl rfl rfl ⟨rfl, rfl, rfl⟩ drp
theorem Z6b (l : Ldg) (a1 a2 a3 a4 a5 : Option Addr) (k1 k2 k3 k4 k5 : Nat) (n : Int) (hN : l.loans.length ≤ 1000000) (hfo : -1000000 ≤ l.folk ∧ l.folk ≤ 1000000) (hye : -1000000 ≤ l.years ∧ l.years ≤ 1000000) (H : Z7) (R : Z5) :
    FnV Tryz.prog 78 [(l.v a1 a2 a3 a4 a5 k1 k2 k3 k4 k5), .int .i64 n] H R (.bool (l.year n)) := by
 refine Z8 Tryz.func78 rfl Tryz.ntmps78 rfl ?_
 refine sqt 2 rfl (bx rfl rfl rfl (fun b2 => pur 1 rfl (sqt 6 rfl (pur 1 rfl (sp rfl (PE.fA Z5Q rfl) rfl (spL rfl rfl (lh sc3 rfl rfl) rfl (sp rfl (PE.sub rfl rfl (by omega)) rfl ?_)))))))
 refine clV rfl Z3L rfl rfl (Z2P _ _ _ _ _) ?_
 refine pur 1 rfl (Z4 ?_)
 exact rtA rfl rfl rfl ⟨rfl, rfl, rfl⟩ drp
theorem Ze6 (l : Ldg) (a1 a2 a3 a4 a5 : Option Addr) (k1 k2 k3 k4 k5 : Nat) (n : Int) (hN : l.loans.length ≤ 1000000) (hfo : -1000000 ≤ l.folk ∧ l.folk ≤ 1000000) (hye : -1000000 ≤ l.years ∧ l.years ≤ 1000000) (H : Z7) (R : Z5) :
    FnV Tryz.prog 90 [(l.v a1 a2 a3 a4 a5 k1 k2 k3 k4 k5), .int .i64 n] H R (.bool (l.loan n)) := by
 refine Z8 Tryz.func90 rfl Tryz.ntmps90 rfl ?_
 refine sqt 2 rfl (bx rfl rfl rfl (fun b2 => pur 1 rfl (sqt 7 rfl (pur 1 rfl (sp rfl (PE.fA Z10 rfl) rfl (spL rfl rfl (lh Z7U rfl rfl) rfl (sp rfl (PE.lenSl Z9L rfl) rfl (sp rfl (PE.sub rfl rfl (by omega)) rfl ?_))))))))
 refine clV rfl Z3L rfl rfl (Z2P _ _ _ _ _) ?_
 refine pur 1 rfl (Z4 ?_)
 exact rtA rfl rfl rfl ⟨rfl, rfl, rfl⟩ drp
theorem Z36 (n : Int) (H : Z7) (R : Z5) :
    FnV Tryz.prog 84 [.int .i64 n] H R (.bool (buL n)) := by
 refine Z8 Tryz.func84 rfl Tryz.ntmps84 rfl ?_
 refine sqt 1 rfl (pur 1 rfl (sqt 3 rfl (pur 1 rfl ?_)))
 refine clV rfl Z3L rfl rfl (Z2P _ _ _ _ _) ?_
 refine pur 1 rfl (Z4 ?_)
 exact rtA rfl rfl rfl ⟨rfl, rfl, rfl⟩ drp
theorem Z2L (xs : List Int) (a : Option Addr) (c g : Nat) (fst cap : List Value) (p : Int → Bool) (hg : cal Tryz.prog g = true) (hl : xs.length ≤ 9223372036854775807) (H : Z7) (R : Z5) [hR : MemRows a 1 (irows xs) R] (hp : ∀ x, x ∈ xs → FnV Tryz.prog g (fst ++ [.int .i64 x] ++ cap) H R (.bool (p x))) :
    FnV Tryz.prog 192 [.slice a xs.length c, .func (.func g) fst.toArray cap.toArray] H R (.int .i64 (match xs.findIdx? p with | some k => (k : Int) | none => -1)) := by
 refine Z8 Tryz.func192 rfl Tryz.ntmps192 rfl ?_
 refine sqt 1 rfl (pur 1 rfl (Z0 (sqt 3 rfl (pur 1 rfl (sp rfl (PE.lenSl Z0i rfl) rfl (pur 1 rfl (Z2 ?_)))))))
 refine Zb (ι := {k : Nat // k ≤ xs.length ∧ ∀ x ∈ xs.take k, p x = false}) (fun k => ⟨[(0, .slice a xs.length c), (1, .func (.func g) fst.toArray cap.toArray), (7, .int .i64 xs.length), (8, .int .i64 k.1)], H, R⟩) (fun k => xs.length - k.1) ⟨0, by simp⟩ ?_ (fun k => ?_)
 exact Zf idH
 obtain ⟨k, hk, hn⟩ := k
 dsimp only
 refine sqt 1 rfl (pur 1 rfl (Z0 ?_))
 refine Z1 rfl ?_ ?_ <;> intro hc0
 simp only [cS] at hc0
 obtain ⟨x, hx⟩ : ∃ x, xs[k]? = some x := ⟨_, List.getElem?_eq_getElem (by omega)⟩
 have hxm := List.mem_of_getElem? hx
 refine Zg (a := a) (sz := 1) (rows := irows xs) (by cases xs <;> simp_all [irows]) (fun b off he => ?_)
 subst he
 refine Z3 (Z0 (Z2 (sqt 2 rfl (pur 2 rfl (sqt 6 rfl (pur 3 rfl (sp rfl (PE.indexAddr ZM rfl rfl (by omega) (by omega)) rfl (spL rfl rfl (lf0 sc3 (by simp [irows, hx]; rfl) rfl) rfl ?_))))))))
 refine Z1x rfl rfl (hg) rfl rfl (hp x hxm) ?_
 refine Z1 rfl ?_ ?_ <;> intro hc1
 refine sqt 2 rfl (pur 2 rfl (Z4 ?_))
 first | (exact rtA rfl rfl rfl ⟨by rw [Zm hx hn hc1]; rfl, rfl, rfl⟩ idH) | (exact rtA rfl rfl rfl ⟨by rw [Zi (by simpa using hn)]; rfl, rfl, rfl⟩ idH)
 refine Z3 (sqr 2 rfl (sp rfl (PE.add rfl rfl (by omega)) rfl (pur 1 rfl ?_)))
 exact Z6 ⟨k + 1, by omega, ZB hx hn hc1⟩ idH
 simp only [cS] at hc0
 obtain rfl : k = xs.length := by omega
 refine Z9 (Za (Za (Zl (sqt 1 rfl (pur 1 rfl (Z4 ?_))))))
 first | (exact rtA rfl rfl rfl ⟨by rw [Zm hx hn hc1]; rfl, rfl, rfl⟩ idH) | (exact rtA rfl rfl rfl ⟨by rw [Zi (by simpa using hn)]; rfl, rfl, rfl⟩ idH)
theorem Z2X (xs : List Int) (a : Option Addr) (c g : Nat) (fst cap : List Value) (p : Int → Bool) (hg : cal Tryz.prog g = true) (hl : xs.length ≤ 9223372036854775807) (H : Z7) (R : Z5) [hR : MemRows a 1 (irows xs) R] (hp : ∀ x, x ∈ xs → FnV Tryz.prog g (fst ++ [.int .i64 x] ++ cap) H R (.bool (p x))) :
    FnV Tryz.prog 143 [.slice a xs.length c, .func (.func g) fst.toArray cap.toArray] H R (.bool (xs.any p)) := by
 refine Z8 Tryz.func143 rfl Tryz.ntmps143 rfl ?_
 refine sqt 1 rfl (pur 1 rfl (sqt 5 rfl (pur 2 rfl ?_)))
 refine clV rfl Z9a rfl rfl (Z2L xs a c g fst cap p hg hl _ _ hp) ?_
 refine pur 2 rfl (Z4 ?_)
 exact rtA rfl rfl rfl ⟨by simp only [ZA]; exact ZT _ _, rfl, rfl⟩ drp
theorem Z31 (x : Int) (g bf : Nat) (fst cap : List Value) (p : Bool) (hg : cal Tryz.prog g = true) (H : Z7) (R : Z5) [hM : Mem1 bf (cel 112 [.func (.func g) fst.toArray cap.toArray]) H] (hp : FnV Tryz.prog g (fst ++ [.int .i64 x] ++ cap) H R (.bool p)) :
    FnV Tryz.prog 161 [.int .i64 x, .pointer (some ⟨bf, 0, none⟩)] H R (.bool !p) := by
 refine Z8 Tryz.func161 rfl Tryz.ntmps161 rfl ?_
 refine sqt 1 rfl (pur 1 rfl (sqt 5 rfl (spL rfl rfl (lh Z4l rfl rfl) rfl (pur 1 rfl ?_))))
 refine Z1x rfl rfl (hg) rfl rfl (hp) ?_
 refine pur 2 rfl (Z4 ?_)
 exact rtA rfl rfl rfl ⟨rfl, rfl, rfl⟩ drp
theorem Z06 (xs : List Int) (a : Option Addr) (c g : Nat) (fst cap : List Value) (p : Int → Bool) (hg : cal Tryz.prog g = true) (hl : xs.length ≤ 9223372036854775807) (H : Z7) (R : Z5) [hR : MemRows a 1 (irows xs) R] (hp : ∀ b x, x ∈ xs → FnV Tryz.prog g (fst ++ [.int .i64 x] ++ cap) ((b, cel 112 [.func (.func g) fst.toArray cap.toArray]) :: H) R (.bool (p x))) :
    FnV Tryz.prog 89 [.slice a xs.length c, .func (.func g) fst.toArray cap.toArray] H R (.bool (xs.all p)) := by
 refine Z8 Tryz.func89 rfl Tryz.ntmps89 rfl ?_
 refine sqt 2 rfl (bx rfl rfl rfl (fun b3 => pur 1 rfl (sqt 5 rfl (pur 1 rfl (sp rfl (PE.makeFunc rfl rfl) rfl ?_)))))
 refine clV rfl Z8J rfl rfl (Z2X xs a c 161 [] [_] (fun x => !p x) Zdw hl _ _ (hp := fun x hx => Z31 x g _ fst cap (p x) hg _ _ (hp := hp _ x hx))) ?_
 refine pur 2 rfl (Z4 ?_)
 exact rtA rfl rfl rfl ⟨by simp only [ZA]; rw [Zw], rfl, rfl⟩ drp
theorem Z6w (xs : List Ln) (a : Option Addr) (c g : Nat) (fst cap : List Value) (p : Ln → Bool) (hg : cal Tryz.prog g = true) (hl : xs.length ≤ 9223372036854775807) (H : Z7) (R : Z5) [hR : MemRows a 3 (lnrows xs) R] (hp : ∀ x, x ∈ xs → FnV Tryz.prog g (fst ++ [.agg (ZS x).toArray] ++ cap) H R (.bool (p x))) :
    FnV Tryz.prog 195 [.slice a xs.length c, .func (.func g) fst.toArray cap.toArray] H R (.int .i64 (match xs.findIdx? p with | some k => (k : Int) | none => -1)) := by
 refine Z8 Tryz.func195 rfl Tryz.ntmps195 rfl ?_
 refine sqt 1 rfl (pur 1 rfl (Z0 (sqt 3 rfl (pur 1 rfl (sp rfl (PE.lenSl Z9L rfl) rfl (pur 1 rfl (Z2 ?_)))))))
 refine Zb (ι := {k : Nat // k ≤ xs.length ∧ ∀ x ∈ xs.take k, p x = false}) (fun k => ⟨[(0, .slice a xs.length c), (1, .func (.func g) fst.toArray cap.toArray), (7, .int .i64 xs.length), (8, .int .i64 k.1)], H, R⟩) (fun k => xs.length - k.1) ⟨0, by simp⟩ ?_ (fun k => ?_)
 exact Zf idH
 obtain ⟨k, hk, hn⟩ := k
 dsimp only
 refine sqt 1 rfl (pur 1 rfl (Z0 ?_))
 refine Z1 rfl ?_ ?_ <;> intro hc0
 simp only [cS] at hc0
 obtain ⟨x, hx⟩ : ∃ x, xs[k]? = some x := ⟨_, List.getElem?_eq_getElem (by omega)⟩
 have hxm := List.mem_of_getElem? hx
 refine Zg (a := a) (sz := 3) (rows := lnrows xs) (by cases xs <;> simp_all [lnrows]) (fun b off he => ?_)
 subst he
 refine Z3 (Z0 (Z2 (sqt 2 rfl (pur 2 rfl (sqt 6 rfl (pur 3 rfl (sp rfl (PE.indexAddr Zc5 rfl rfl (by omega) (by omega)) rfl (spL rfl rfl (lfA ZbV (row := ZS x) (by simp [lnrows, hx]) rfl) rfl ?_))))))))
 refine Z1x rfl rfl (hg) rfl rfl (hp x hxm) ?_
 refine Z1 rfl ?_ ?_ <;> intro hc1
 refine sqt 2 rfl (pur 2 rfl (Z4 ?_))
 first | (exact rtA rfl rfl rfl ⟨by rw [Zm hx hn hc1]; rfl, rfl, rfl⟩ idH) | (exact rtA rfl rfl rfl ⟨by rw [Zi (by simpa using hn)]; rfl, rfl, rfl⟩ idH)
 refine Z3 (sqr 2 rfl (sp rfl (PE.add rfl rfl (by omega)) rfl (pur 1 rfl ?_)))
 exact Z6 ⟨k + 1, by omega, ZB hx hn hc1⟩ idH
 simp only [cS] at hc0
 obtain rfl : k = xs.length := by omega
 refine Z9 (Za (Za (Zl (sqt 1 rfl (pur 1 rfl (Z4 ?_))))))
 first | (exact rtA rfl rfl rfl ⟨by rw [Zm hx hn hc1]; rfl, rfl, rfl⟩ idH) | (exact rtA rfl rfl rfl ⟨by rw [Zi (by simpa using hn)]; rfl, rfl, rfl⟩ idH)
theorem Z6O (xs : List Ln) (a : Option Addr) (c g : Nat) (fst cap : List Value) (p : Ln → Bool) (hg : cal Tryz.prog g = true) (hl : xs.length ≤ 9223372036854775807) (H : Z7) (R : Z5) [hR : MemRows a 3 (lnrows xs) R] (hp : ∀ x, x ∈ xs → FnV Tryz.prog g (fst ++ [.agg (ZS x).toArray] ++ cap) H R (.bool (p x))) :
    FnV Tryz.prog 155 [.slice a xs.length c, .func (.func g) fst.toArray cap.toArray] H R (.bool (xs.any p)) := by
 refine Z8 Tryz.func155 rfl Tryz.ntmps155 rfl ?_
 refine sqt 1 rfl (pur 1 rfl (sqt 5 rfl (pur 2 rfl ?_)))
 refine clV rfl Zew rfl rfl (Z6w xs a c g fst cap p hg hl _ _ hp) ?_
 refine pur 2 rfl (Z4 ?_)
 exact rtA rfl rfl rfl ⟨by simp only [ZA]; exact ZT _ _, rfl, rfl⟩ drp
theorem Z6q (x : Ln) (g bf : Nat) (fst cap : List Value) (p : Bool) (hg : cal Tryz.prog g = true) (H : Z7) (R : Z5) [hM : Mem1 bf (cel 177 [.func (.func g) fst.toArray cap.toArray]) H] (hp : ∀ b, FnV Tryz.prog g (fst ++ [.agg (ZS x).toArray] ++ cap) ((b, cel 113 (ZS x)) :: H) R (.bool p)) :
    FnV Tryz.prog 156 [.agg (ZS x).toArray, .pointer (some ⟨bf, 0, none⟩)] H R (.bool !p) := by
 refine Z8 Tryz.func156 rfl Tryz.ntmps156 rfl ?_
 refine sqt 2 rfl (bx rfl rfl rfl (fun b2 => pur 1 rfl (sqt 5 rfl (spL rfl rfl (lh Zg2 rfl rfl) rfl (spL rfl rfl (lhA [_, _, _] ZbV rfl rfl rfl) rfl ?_)))))
 refine Z1x rfl rfl (hg) rfl rfl (hp _) ?_
 refine pur 2 rfl (Z4 ?_)
 exact rtA rfl rfl rfl ⟨rfl, rfl, rfl⟩ drp
theorem Z2a (xs : List Ln) (a : Option Addr) (c g : Nat) (fst cap : List Value) (p : Ln → Bool) (hg : cal Tryz.prog g = true) (hl : xs.length ≤ 9223372036854775807) (H : Z7) (R : Z5) [hR : MemRows a 3 (lnrows xs) R] (hp : ∀ b b2 x, x ∈ xs → FnV Tryz.prog g (fst ++ [.agg (ZS x).toArray] ++ cap) ((b2, cel 113 (ZS x)) :: (b, cel 177 [.func (.func g) fst.toArray cap.toArray]) :: H) R (.bool (p x))) :
    FnV Tryz.prog 82 [.slice a xs.length c, .func (.func g) fst.toArray cap.toArray] H R (.bool (xs.all p)) := by
 refine Z8 Tryz.func82 rfl Tryz.ntmps82 rfl ?_
 refine sqt 2 rfl (bx rfl rfl rfl (fun b3 => pur 1 rfl (sqt 5 rfl (pur 1 rfl (sp rfl (PE.makeFunc rfl rfl) rfl ?_)))))
 refine clV rfl ZfA rfl rfl (Z6O xs a c 156 [] [_] (fun x => !p x) Zdg hl _ _ (hp := fun x hx => Z6q x g _ fst cap (p x) hg _ _ (hp := fun b => hp _ _ x hx))) ?_
 refine pur 2 rfl (Z4 ?_)
 exact rtA rfl rfl rfl ⟨by simp only [ZA]; rw [Zw], rfl, rfl⟩ drp
theorem Z87 (xs : List Ln) (a : Option Addr) (c g : Nat) (fst cap : List Value) (p : Ln → Bool) (hg : cal Tryz.prog g = true) (hl : xs.length ≤ 9223372036854775807) (H : Z7) (R : Z5) [hR : MemRows a 3 (lnrows xs) R] (hp : ∀ x, x ∈ xs → FnV Tryz.prog g (fst ++ [.agg (ZS x).toArray] ++ cap) H R (.bool (p x))) :
    FnV Tryz.prog 196 [.slice a xs.length c, .func (.func g) fst.toArray cap.toArray] H R (.int .i64 (match xs.findIdx? p with | some k => (k : Int) | none => -1)) := by
 refine Z8 Tryz.func196 rfl Tryz.ntmps196 rfl ?_
 refine sqt 1 rfl (pur 1 rfl (Z0 (sqt 3 rfl (pur 1 rfl (sp rfl (PE.lenSl Z7p rfl) rfl (pur 1 rfl (Z2 ?_)))))))
 refine Zb (ι := {k : Nat // k ≤ xs.length ∧ ∀ x ∈ xs.take k, p x = false}) (fun k => ⟨[(0, .slice a xs.length c), (1, .func (.func g) fst.toArray cap.toArray), (7, .int .i64 xs.length), (8, .int .i64 k.1)], H, R⟩) (fun k => xs.length - k.1) ⟨0, by simp⟩ ?_ (fun k => ?_)
 exact Zf idH
 obtain ⟨k, hk, hn⟩ := k
 dsimp only
 refine sqt 1 rfl (pur 1 rfl (Z0 ?_))
 refine Z1 rfl ?_ ?_ <;> intro hc0
 simp only [cS] at hc0
 obtain ⟨x, hx⟩ : ∃ x, xs[k]? = some x := ⟨_, List.getElem?_eq_getElem (by omega)⟩
 have hxm := List.mem_of_getElem? hx
 refine Zg (a := a) (sz := 3) (rows := lnrows xs) (by cases xs <;> simp_all [lnrows]) (fun b off he => ?_)
 subst he
 refine Z3 (Z0 (Z2 (sqt 2 rfl (pur 2 rfl (sqt 6 rfl (pur 3 rfl (sp rfl (PE.indexAddr ZfW rfl rfl (by omega) (by omega)) rfl (spL rfl rfl (lfA ZcY (row := ZS x) (by simp [lnrows, hx]) rfl) rfl ?_))))))))
 refine Z1x rfl rfl (hg) rfl rfl (hp x hxm) ?_
 refine Z1 rfl ?_ ?_ <;> intro hc1
 refine sqt 2 rfl (pur 2 rfl (Z4 ?_))
 first | (exact rtA rfl rfl rfl ⟨by rw [Zm hx hn hc1]; rfl, rfl, rfl⟩ idH) | (exact rtA rfl rfl rfl ⟨by rw [Zi (by simpa using hn)]; rfl, rfl, rfl⟩ idH)
 refine Z3 (sqr 2 rfl (sp rfl (PE.add rfl rfl (by omega)) rfl (pur 1 rfl ?_)))
 exact Z6 ⟨k + 1, by omega, ZB hx hn hc1⟩ idH
 simp only [cS] at hc0
 obtain rfl : k = xs.length := by omega
 refine Z9 (Za (Za (Zl (sqt 1 rfl (pur 1 rfl (Z4 ?_))))))
 first | (exact rtA rfl rfl rfl ⟨by rw [Zm hx hn hc1]; rfl, rfl, rfl⟩ idH) | (exact rtA rfl rfl rfl ⟨by rw [Zi (by simpa using hn)]; rfl, rfl, rfl⟩ idH)
theorem Z70 (xs : List Ln) (a : Option Addr) (c g : Nat) (fst cap : List Value) (p : Ln → Bool) (hg : cal Tryz.prog g = true) (hl : xs.length ≤ 9223372036854775807) (H : Z7) (R : Z5) [hR : MemRows a 3 (lnrows xs) R] (hp : ∀ x, x ∈ xs → FnV Tryz.prog g (fst ++ [.agg (ZS x).toArray] ++ cap) H R (.bool (p x))) :
    FnV Tryz.prog 157 [.slice a xs.length c, .func (.func g) fst.toArray cap.toArray] H R (.bool (xs.any p)) := by
 refine Z8 Tryz.func157 rfl Tryz.ntmps157 rfl ?_
 refine sqt 1 rfl (pur 1 rfl (sqt 5 rfl (pur 2 rfl ?_)))
 refine clV rfl Zfh rfl rfl (Z87 xs a c g fst cap p hg hl _ _ hp) ?_
 refine pur 2 rfl (Z4 ?_)
 exact rtA rfl rfl rfl ⟨by simp only [ZA]; exact ZT _ _, rfl, rfl⟩ drp
theorem Z7W (x : Ln) (g bf : Nat) (fst cap : List Value) (p : Bool) (hg : cal Tryz.prog g = true) (H : Z7) (R : Z5) [hM : Mem1 bf (cel 179 [.func (.func g) fst.toArray cap.toArray]) H] (hp : ∀ b, FnV Tryz.prog g (fst ++ [.agg (ZS x).toArray] ++ cap) ((b, cel 59 (ZS x)) :: H) R (.bool p)) :
    FnV Tryz.prog 158 [.agg (ZS x).toArray, .pointer (some ⟨bf, 0, none⟩)] H R (.bool !p) := by
 refine Z8 Tryz.func158 rfl Tryz.ntmps158 rfl ?_
 refine sqt 2 rfl (bx rfl rfl rfl (fun b2 => pur 1 rfl (sqt 5 rfl (spL rfl rfl (lh Zgn rfl rfl) rfl (spL rfl rfl (lhA [_, _, _] ZcY rfl rfl rfl) rfl ?_)))))
 refine Z1x rfl rfl (hg) rfl rfl (hp _) ?_
 refine pur 2 rfl (Z4 ?_)
 exact rtA rfl rfl rfl ⟨rfl, rfl, rfl⟩ drp
theorem Z2Y (xs : List Ln) (a : Option Addr) (c g : Nat) (fst cap : List Value) (p : Ln → Bool) (hg : cal Tryz.prog g = true) (hl : xs.length ≤ 9223372036854775807) (H : Z7) (R : Z5) [hR : MemRows a 3 (lnrows xs) R] (hp : ∀ b b2 x, x ∈ xs → FnV Tryz.prog g (fst ++ [.agg (ZS x).toArray] ++ cap) ((b2, cel 59 (ZS x)) :: (b, cel 179 [.func (.func g) fst.toArray cap.toArray]) :: H) R (.bool (p x))) :
    FnV Tryz.prog 85 [.slice a xs.length c, .func (.func g) fst.toArray cap.toArray] H R (.bool (xs.all p)) := by
 refine Z8 Tryz.func85 rfl Tryz.ntmps85 rfl ?_
 refine sqt 2 rfl (bx rfl rfl rfl (fun b3 => pur 1 rfl (sqt 5 rfl (pur 1 rfl (sp rfl (PE.makeFunc rfl rfl) rfl ?_)))))
 refine clV rfl Zff rfl rfl (Z70 xs a c 158 [] [_] (fun x => !p x) Zfe hl _ _ (hp := fun x hx => Z7W x g _ fst cap (p x) hg _ _ (hp := fun b => hp _ _ x hx))) ?_
 refine pur 2 rfl (Z4 ?_)
 exact rtA rfl rfl rfl ⟨by simp only [ZA]; rw [Zw], rfl, rfl⟩ drp
theorem Z6H (xs : List Pm) (a : Option Addr) (c g : Nat) (fst cap : List Value) (p : Pm → Bool) (hg : cal Tryz.prog g = true) (hl : xs.length ≤ 9223372036854775807) (H : Z7) (R : Z5) [hR : MemRows a 3 (pmrows xs) R] (hp : ∀ x, x ∈ xs → FnV Tryz.prog g (fst ++ [.agg (pmrow x).toArray] ++ cap) H R (.bool (p x))) :
    FnV Tryz.prog 197 [.slice a xs.length c, .func (.func g) fst.toArray cap.toArray] H R (.int .i64 (match xs.findIdx? p with | some k => (k : Int) | none => -1)) := by
 refine Z8 Tryz.func197 rfl Tryz.ntmps197 rfl ?_
 refine sqt 1 rfl (pur 1 rfl (Z0 (sqt 3 rfl (pur 1 rfl (sp rfl (PE.lenSl Z6t rfl) rfl (pur 1 rfl (Z2 ?_)))))))
 refine Zb (ι := {k : Nat // k ≤ xs.length ∧ ∀ x ∈ xs.take k, p x = false}) (fun k => ⟨[(0, .slice a xs.length c), (1, .func (.func g) fst.toArray cap.toArray), (7, .int .i64 xs.length), (8, .int .i64 k.1)], H, R⟩) (fun k => xs.length - k.1) ⟨0, by simp⟩ ?_ (fun k => ?_)
 exact Zf idH
 obtain ⟨k, hk, hn⟩ := k
 dsimp only
 refine sqt 1 rfl (pur 1 rfl (Z0 ?_))
 refine Z1 rfl ?_ ?_ <;> intro hc0
 simp only [cS] at hc0
 obtain ⟨x, hx⟩ : ∃ x, xs[k]? = some x := ⟨_, List.getElem?_eq_getElem (by omega)⟩
 have hxm := List.mem_of_getElem? hx
 refine Zg (a := a) (sz := 3) (rows := pmrows xs) (by cases xs <;> simp_all [pmrows]) (fun b off he => ?_)
 subst he
 refine Z3 (Z0 (Z2 (sqt 2 rfl (pur 2 rfl (sqt 6 rfl (pur 3 rfl (sp rfl (PE.indexAddr Zh2 rfl rfl (by omega) (by omega)) rfl (spL rfl rfl (lfA Zdk (row := pmrow x) (by simp [pmrows, hx]) rfl) rfl ?_))))))))
 refine Z1x rfl rfl (hg) rfl rfl (hp x hxm) ?_
 refine Z1 rfl ?_ ?_ <;> intro hc1
 refine sqt 2 rfl (pur 2 rfl (Z4 ?_))
 first | (exact rtA rfl rfl rfl ⟨by rw [Zm hx hn hc1]; rfl, rfl, rfl⟩ idH) | (exact rtA rfl rfl rfl ⟨by rw [Zi (by simpa using hn)]; rfl, rfl, rfl⟩ idH)
 refine Z3 (sqr 2 rfl (sp rfl (PE.add rfl rfl (by omega)) rfl (pur 1 rfl ?_)))
 exact Z6 ⟨k + 1, by omega, ZB hx hn hc1⟩ idH
 simp only [cS] at hc0
 obtain rfl : k = xs.length := by omega
 refine Z9 (Za (Za (Zl (sqt 1 rfl (pur 1 rfl (Z4 ?_))))))
 first | (exact rtA rfl rfl rfl ⟨by rw [Zm hx hn hc1]; rfl, rfl, rfl⟩ idH) | (exact rtA rfl rfl rfl ⟨by rw [Zi (by simpa using hn)]; rfl, rfl, rfl⟩ idH)
theorem Z6D (xs : List Pm) (a : Option Addr) (c g : Nat) (fst cap : List Value) (p : Pm → Bool) (hg : cal Tryz.prog g = true) (hl : xs.length ≤ 9223372036854775807) (H : Z7) (R : Z5) [hR : MemRows a 3 (pmrows xs) R] (hp : ∀ x, x ∈ xs → FnV Tryz.prog g (fst ++ [.agg (pmrow x).toArray] ++ cap) H R (.bool (p x))) :
    FnV Tryz.prog 159 [.slice a xs.length c, .func (.func g) fst.toArray cap.toArray] H R (.bool (xs.any p)) := by
 refine Z8 Tryz.func159 rfl Tryz.ntmps159 rfl ?_
 refine sqt 1 rfl (pur 1 rfl (sqt 5 rfl (pur 2 rfl ?_)))
 refine clV rfl ZfM rfl rfl (Z6H xs a c g fst cap p hg hl _ _ hp) ?_
 refine pur 2 rfl (Z4 ?_)
 exact rtA rfl rfl rfl ⟨by simp only [ZA]; exact ZT _ _, rfl, rfl⟩ drp
theorem Z6p (x : Pm) (g bf : Nat) (fst cap : List Value) (p : Bool) (hg : cal Tryz.prog g = true) (H : Z7) (R : Z5) [hM : Mem1 bf (cel 181 [.func (.func g) fst.toArray cap.toArray]) H] (hp : ∀ b, FnV Tryz.prog g (fst ++ [.agg (pmrow x).toArray] ++ cap) ((b, cel 86 (pmrow x)) :: H) R (.bool p)) :
    FnV Tryz.prog 160 [.agg (pmrow x).toArray, .pointer (some ⟨bf, 0, none⟩)] H R (.bool !p) := by
 refine Z8 Tryz.func160 rfl Tryz.ntmps160 rfl ?_
 refine sqt 2 rfl (bx rfl rfl rfl (fun b2 => pur 1 rfl (sqt 5 rfl (spL rfl rfl (lh Zh5 rfl rfl) rfl (spL rfl rfl (lhA [_, _, _] Zdk rfl rfl rfl) rfl ?_)))))
 refine Z1x rfl rfl (hg) rfl rfl (hp _) ?_
 refine pur 2 rfl (Z4 ?_)
 exact rtA rfl rfl rfl ⟨rfl, rfl, rfl⟩ drp
theorem Z0U (xs : List Pm) (a : Option Addr) (c g : Nat) (fst cap : List Value) (p : Pm → Bool) (hg : cal Tryz.prog g = true) (hl : xs.length ≤ 9223372036854775807) (H : Z7) (R : Z5) [hR : MemRows a 3 (pmrows xs) R] (hp : ∀ b b2 x, x ∈ xs → FnV Tryz.prog g (fst ++ [.agg (pmrow x).toArray] ++ cap) ((b2, cel 86 (pmrow x)) :: (b, cel 181 [.func (.func g) fst.toArray cap.toArray]) :: H) R (.bool (p x))) :
    FnV Tryz.prog 87 [.slice a xs.length c, .func (.func g) fst.toArray cap.toArray] H R (.bool (xs.all p)) := by
 refine Z8 Tryz.func87 rfl Tryz.ntmps87 rfl ?_
 refine sqt 2 rfl (bx rfl rfl rfl (fun b3 => pur 1 rfl (sqt 5 rfl (pur 1 rfl (sp rfl (PE.makeFunc rfl rfl) rfl ?_)))))
 refine clV rfl ZeH rfl rfl (Z6D xs a c 160 [] [_] (fun x => !p x) Zdt hl _ _ (hp := fun x hx => Z6p x g _ fst cap (p x) hg _ _ (hp := fun b => hp _ _ x hx))) ?_
 refine pur 2 rfl (Z4 ?_)
 exact rtA rfl rfl rfl ⟨by simp only [ZA]; rw [Zw], rfl, rfl⟩ drp
theorem Z4L (x : Ln) (H : Z7) (R : Z5) :
    FnV Tryz.prog 83 [.agg (ZS x).toArray] H R (.bool (buL x.bu)) := by
 refine Z8 Tryz.func83 rfl Tryz.ntmps83 rfl ?_
 refine sqt 2 rfl (bx rfl rfl rfl (fun b1 => pur 1 rfl (sqt 4 rfl (sp rfl (PE.fA Z8g rfl) rfl (spL rfl rfl (lh sc3 rfl rfl) rfl ?_)))))
 refine clV rfl ZbB rfl rfl (Z36 _ _ _) ?_
 refine pur 1 rfl (Z4 ?_)
 exact rtA rfl rfl rfl ⟨rfl, rfl, rfl⟩ drp
theorem Z4r (x : Ln) (H : Z7) (R : Z5) :
    FnV Tryz.prog 86 [.agg (ZS x).toArray] H R (.bool (buL x.bu)) := by
 refine Z8 Tryz.func86 rfl Tryz.ntmps86 rfl ?_
 refine sqt 2 rfl (bx rfl rfl rfl (fun b1 => pur 1 rfl (sqt 4 rfl (sp rfl (PE.fA Zaw rfl) rfl (spL rfl rfl (lh sc3 rfl rfl) rfl ?_)))))
 refine clV rfl ZbB rfl rfl (Z36 _ _ _) ?_
 refine pur 1 rfl (Z4 ?_)
 exact rtA rfl rfl rfl ⟨rfl, rfl, rfl⟩ drp
theorem Z8o (x : Pm) (H : Z7) (R : Z5) :
    FnV Tryz.prog 88 [.agg (pmrow x).toArray] H R (.bool (buL x.bu)) := by
 refine Z8 Tryz.func88 rfl Tryz.ntmps88 rfl ?_
 refine sqt 2 rfl (bx rfl rfl rfl (fun b1 => pur 1 rfl (sqt 4 rfl (sp rfl (PE.fA Z7t rfl) rfl (spL rfl rfl (lh sc3 rfl rfl) rfl ?_)))))
 refine clV rfl ZbB rfl rfl (Z36 _ _ _) ?_
 refine pur 1 rfl (Z4 ?_)
 exact rtA rfl rfl rfl ⟨rfl, rfl, rfl⟩ drp
theorem Z6m (xs : List Int) (a : Option Addr) (c : Nat) (hl : xs.length ≤ 1000000) (H : Z7) (R : Z5) [hR : MemRows a 1 (irows xs) R] :
    FnV Tryz.prog 96 [.slice a xs.length c] H R (.bool (Z2n xs)) := by
 refine Z8 Tryz.func96 rfl Tryz.ntmps96 rfl ?_
 refine sqt 1 rfl (pur 1 rfl (Z0 (sqt 1 rfl (pur 1 rfl (Z2 ?_)))))
 refine Zb (ι := {k : Nat // (k = 0 ∨ k < xs.length) ∧ ∀ i, i < k → Z9b xs i = false}) (fun k => ⟨[(0, .slice a xs.length c), (3, .int .i64 ((k.1 + 1 : Nat) : Int))], H, R⟩) (fun k => xs.length - k.1) ⟨0, by omega, by omega⟩ ?_ (fun k => ?_)
 exact Zf idH
 obtain ⟨k, hk, hn⟩ := k
 dsimp only at hk hn ⊢
 refine Z0 (sqt 4 rfl (pur 2 rfl (sp rfl (PE.lenSl Z0i rfl) rfl (pur 1 rfl ?_))))
 refine Z1 rfl ?_ ?_ <;> intro hc0 <;> try simp only [cS] at hc0
 obtain ⟨y, hy⟩ : ∃ y, xs[k + 1]? = some y := ⟨_, List.getElem?_eq_getElem (by omega)⟩
 obtain ⟨x, hx⟩ : ∃ x, xs[k]? = some x := ⟨_, List.getElem?_eq_getElem (by omega)⟩
 refine Zg (a := a) (sz := 1) (rows := irows xs) (by cases xs <;> simp_all) (fun b off he => ?_)
 subst he
 refine Z3 (Z0 (Z2 (Z0 ?_)))
 refine Zc [0, 0, 3, 7, 0, 0, 32, 112, 240, 511] (tks 0 3 (.ld 3 (tks 4 4 (.ld 8 (.tk 9 .done))))) Zo (by kernel_rfl) ?_
 refine Zd 2 rfl (tk rfl (PE.indexAddr ZM rfl rfl (by omega) (by omega)) rfl (ld rfl rfl (lf0 sc3 (ir_get hy) rfl) rfl (Zd 2 rfl (tk rfl (PE.sub rfl rfl (by omega)) rfl (tk rfl (PE.indexAddr ZM rfl rfl (by omega) (by omega)) rfl (ld rfl rfl (lf0 sc3 (by rw [show (((k + 1 : Nat) : Int) - 1).toNat = k from by omega]; exact ir_get hx) rfl) rfl (Zd 1 rfl ?_)))))))
 refine Z1 rfl ?_ ?_ <;> intro hc1 <;> try simp only [cS] at hc1
 have hbn := Zb8 hx hy hc1
 refine sqt 1 rfl (pur 1 rfl (Z4 ?_))
 exact rtA rfl rfl rfl ⟨by simp only [ZA]; rw [hbn], rfl, rfl⟩ drp
 have hnb : Z9b xs k = false := by unfold Z9b; rw [hx, hy]; exact dF (by omega)
 refine Z3 (sqr 3 rfl (pur 1 rfl (sp rfl (PE.add rfl rfl (by omega)) rfl (pur 1 rfl ?_))))
 exact Z0s ⟨k + 1, by omega, fun i hi => by
   rcases Nat.lt_or_ge i k with h | h
   · exact hn i h
   · rw [show i = k by omega]; exact hnb⟩ (by dsimp only; omega) (by repeat' first | exact Sub.nil | apply Sub.cons | rfl | (simp [lk]; omega)) idH
 have hbn := ZeR (l := xs) (fun i hi => hn i (by omega))
 refine Z9 (Za (Za (Zl (sqt 1 rfl (pur 1 rfl (Z4 ?_))))))
 exact rtA rfl rfl rfl ⟨by simp only [ZA]; rw [hbn], rfl, rfl⟩ drp
end Go.Proofs.YtjoajfdnlomapaaGreat.Lo
