/- Walks of the functions of the program, and the laws that join them: what the last theorem of this claim needs, in order. -/
import Derived.Test.Ythhdgeibokecjaabf1
namespace Go.Proofs.Ythhdgeibokecjaa
set_option linter.unusedSimpArgs false
set_option linter.unusedVariables false
open Go
theorem St.pullG {H : Za} {R : Z8} {w : World} (F : Za) {C : Za → Za} [r : RepF F H C] (h : St H R w) : St (F ++ C []) R w := by
  obtain ⟨T, h1, h2⟩ := r.rep
  exact h.perm (h1.trans (List.Perm.append_left F (h2 [])))
theorem Z0u {P : Program} {k : IntKind} {i : Int} {y : Nat} {c : BoundsCode} (h : 0 ≤ i ∧ i ≤ y) (w : World) : (Instr.sliceBound (.int k i) y c).run P w = .ok i.toNat w := by
  unfold Instr.sliceBound
  simp only [asIntOf, Sem.run_bind, Sem.run_pure, Result.andThen]
  rw [if_pos h]; rfl
section pe
variable {P : Program} {L : Zl} {d : Option Tmp} {ty : TypeId} {pos : String} {af : Array Edge} {g : Option (Nat × Bool)}
theorem PE.slHi {T e s : Nat} {x y : Operand} {a : Option Addr} {len cap h : Nat} {k : IntKind} (hT : slE P T = some (e, s)) (hx : ev L x = some (.slice a len cap)) (hy : ev L y = some (.int k h)) (hh : h ≤ cap) :
    PE P L ⟨d, .slice T x none (some y) none, ty, pos, af, g⟩ (.slice a h cap) := fun ρ hρ w => by
  obtain ⟨i, hu, hi, _⟩ := Z20 hT
  have hb : ∀ c w, (Instr.sliceBound (.int k (h : Int)) cap c).run P w = .ok h w := fun c w => by rw [Z0u (by omega)]; simp
  have e1 : (if cap = 0 then a else a.map (·.add (0 * i.size))) = a := by
    have : a.map (·.add (0 * i.size)) = a := by
      cases a with
      | none => rfl
      | some ad => simp [Addr.add]
    rw [this]; split <;> rfl
  simp only [execOp, hρ _ _ hx, hρ _ _ hy, Option.map_none, Option.map_some, Instr.sliceAt, Instr.slice, Sem.run_bind, run_underlying hu, Result.andThen, Sem.run_pure, Instr.sliceBounds, hb, sizeOf, typeInfo, program, hi, Sem.run]
  rw [e1]; simp
theorem PE.slLH {T e s : Nat} {x y z : Operand} {b off len cap l h : Nat} {k k2 : IntKind} (hT : slE P T = some (e, s)) (hx : ev L x = some (.slice (some ⟨b, off, none⟩) len cap)) (hz : ev L z = some (.int k2 l)) (hy : ev L y = some (.int k h)) (hl : l ≤ h) (hh : h ≤ cap) (hlc : l < cap) :
    PE P L ⟨d, .slice T x (some z) (some y) none, ty, pos, af, g⟩ (.slice (some ⟨b, off + l * s, none⟩) (h - l) (cap - l)) := fun ρ hρ w => by
  obtain ⟨i, hu, hi, rfl⟩ := Z20 hT
  have hb : ∀ c w, (Instr.sliceBound (.int k (h : Int)) cap c).run P w = .ok h w := fun c w => by rw [Z0u (by omega)]; simp
  have hb2 : ∀ c w, (Instr.sliceBound (.int k2 (l : Int)) h c).run P w = .ok l w := fun c w => by rw [Z0u (by omega)]; simp
  simp only [execOp, hρ _ _ hx, hρ _ _ hy, hρ _ _ hz, Option.map_none, Option.map_some, Instr.sliceAt, Instr.slice, Sem.run_bind, run_underlying hu, Result.andThen, Sem.run_pure, Instr.sliceBounds, hb, hb2, sizeOf, typeInfo, program, hi, Sem.run]
  rw [if_neg (by omega)]
  simp [ZW]
end pe
section calls
variable {P : Program} {r : Option Nat} {ops : Array Oper} {n : Nat} {L : Zl} {D : List Deferred} {H : Za} {R : Z8} {K : Act → World → Prop}
  {i : Nat} {ty : TypeId} {pos : String} {af : Array Edge}
end calls
theorem FnV.app {P : Program} {f : FuncId} {a : List Value} {G G2 H : Za} {R : Z8} {v : Value} (h : FnV P f a ((G ++ G2) ++ H) R v) : FnV P f a (G ++ (G2 ++ H)) R v := by rw [← List.append_assoc]; exact h
theorem Yd.app {P : Program} {l : Nat} {a : List Value} {G G2 H : Za} {R : Z8} {Q : Value → Za → Z8 → Prop} (h : Yd P l a ((G ++ G2) ++ H) R Q) : Yd P l a (G ++ (G2 ++ H)) R Q := by rw [← List.append_assoc]; exact h
theorem Yd.mono {P : Program} {l : Nat} {a : List Value} {H : Za} {R : Z8} {Q Q' : Value → Za → Z8 → Prop} (h : Yd P l a H R Q) (hq : ∀ v H' R', Q v H' R' → Q' v H' R') : Yd P l a H R Q' := fun w hs => by
  obtain ⟨f, tm, asg, bo, h1, h2⟩ := h w hs
  exact ⟨f, tm, asg, bo, h1, RoundIn.mono h2 fun e w' ⟨v, H', R', q, he, hs'⟩ => ⟨v, H', R', hq _ _ _ q, he, hs'⟩⟩
theorem Z1M (n : Int) : 0 ≤ IntKind.u32.wrap n ∧ IntKind.u32.wrap n ≤ 4294967295 := by
  have e : IntKind.u32.wrap n = n % 4294967296 := rfl
  rw [e]; omega
theorem Z4y {n : Int} (h0 : 0 ≤ n) (h1 : n ≤ 4294967295) : IntKind.u32.wrap n = n := by
  have e : IntKind.u32.wrap n = n % 4294967296 := rfl
  rw [e]; omega
theorem Z4A {n : Int} (h0 : -9223372036854775808 ≤ n) (h1 : n ≤ 9223372036854775807) : IntKind.i64.wrap n = n := by
  have e : IntKind.i64.wrap n = if n % 18446744073709551616 ≥ 9223372036854775808 then n % 18446744073709551616 - 18446744073709551616 else n % 18446744073709551616 := by
    unfold IntKind.wrap
    simp [IntKind.signed, IntKind.bits]
  rw [e]
  split <;> omega
def U32 (m : Int) (v : Value) : Prop := ∃ x : Int, v = .int .u32 x ∧ 0 ≤ x ∧ x ≤ m
section pe
variable {P : Program} {L : Zl} {d : Option Tmp} {ty : TypeId} {pos : String} {af : Array Edge} {g : Option (Nat × Bool)}
theorem Z7t {op : BinOp} {T : TypeId} {k : IntKind} {m n : Int} (hop : op = .and ∨ op = .or ∨ op = .xor ∨ op = .andNot) : binOp op T (.int k m) (.int k n) = Op.intBits op k m n := by
  rcases hop with rfl | rfl | rfl | rfl <;> simp [binOp]
theorem PE.bits {op : BinOp} {T U : TypeId} {x y : Operand} {k : IntKind} {m n : Int} {v : Value} (hop : op = .and ∨ op = .or ∨ op = .xor ∨ op = .andNot) (hx : ev L x = some (.int k m)) (hy : ev L y = some (.int k n))
    (h : ∀ w, (Op.intBits op k m n).run P w = .ok v w) : PE P L ⟨d, .binOp op T x y U, ty, pos, af, g⟩ v := fun ρ hρ w => by
  have hg : ∀ w, (eqGuard op T x y (.int k m) (.int k n)).run P w = .ok () w := fun w => by rcases hop with rfl | rfl | rfl | rfl <;> rfl
  simp only [execOp, hρ _ _ hx, hρ _ _ hy, Sem.run_bind, hg, Z7t hop, h, Result.andThen, Sem.run_pure]
theorem PE.xorU {T U : TypeId} {x y : Operand} {m n : Int} (hx : ev L x = some (.int .u32 m)) (hy : ev L y = some (.int .u32 n)) : ∃ v, PE P L ⟨d, .binOp .xor T x y U, ty, pos, af, g⟩ v ∧ U32 4294967295 v :=
  ⟨_, PE.bits (by simp) hx hy (fun w => rfl), _, rfl, Z1M _⟩
theorem PE.mulU {T U : TypeId} {x y : Operand} {m n : Int} (hx : ev L x = some (.int .u32 m)) (hy : ev L y = some (.int .u32 n)) : ∃ v, PE P L ⟨d, .binOp .mul T x y U, ty, pos, af, g⟩ v ∧ U32 4294967295 v := ⟨_, PE.mulW hx hy, _, rfl, Z1M _⟩
theorem PE.addU {T U : TypeId} {x y : Operand} {m n : Int} (hx : ev L x = some (.int .u32 m)) (hy : ev L y = some (.int .u32 n)) : ∃ v, PE P L ⟨d, .binOp .add T x y U, ty, pos, af, g⟩ v ∧ U32 4294967295 v := ⟨_, PE.addW hx hy, _, rfl, Z1M _⟩
theorem PE.convU {S T : TypeId} {x : Operand} {k : IntKind} {m : Int} (hS : (P.underlying S).isSome = true) (hT : Z9j P T = some .u32) (hx : ev L x = some (.int k m)) : ∃ v, PE P L ⟨d, .convert S T x, ty, pos, af, g⟩ v ∧ U32 4294967295 v := ⟨_, PE.convert hS hT hx, _, rfl, Z1M _⟩
theorem PE.conv64 {S T : TypeId} {x : Operand} {k : IntKind} {m : Int} (hS : (P.underlying S).isSome = true) (hT : Z9j P T = some .i64) (hx : ev L x = some (.int k m)) (h0 : -9223372036854775808 ≤ m ∧ m ≤ 9223372036854775807) : PE P L ⟨d, .convert S T x, ty, pos, af, g⟩ (.int .i64 m) := by
  have := PE.convert (P := P) (L := L) (d := d) (ty := ty) (pos := pos) (af := af) (g := g) hS hT hx
  rwa [Z4A h0.1 h0.2] at this
theorem PE.andU {T U : TypeId} {x y : Operand} {m n : Int} (hx : ev L x = some (.int .u32 m)) (hy : ev L y = some (.int .u32 n)) (h0 : 0 ≤ n) (h1 : n ≤ 4294967295) : ∃ v, PE P L ⟨d, .binOp .and T x y U, ty, pos, af, g⟩ v ∧ U32 n v := by
  refine ⟨_, PE.bits (by simp) hx hy (fun w => rfl), _, rfl, (Z1M _).1, ?_⟩
  have hb : (BitVec.ofInt 32 n).toNat = n.toNat := by
    rw [BitVec.toNat_ofInt]; omega
  have hle : (BitVec.ofInt 32 m &&& BitVec.ofInt 32 n).toNat ≤ n.toNat := by
    rw [BitVec.toNat_and, hb]; exact Nat.and_le_right
  show IntKind.u32.wrap ((BitVec.ofInt 32 m &&& BitVec.ofInt 32 n).toNat : Int) ≤ n
  rw [Z4y (by omega) (by omega)]
  omega
theorem PE.shrU {T U : TypeId} {x y : Operand} {q : IntKind} {m n : Int} (hx : ev L x = some (.int .u32 m)) (hy : ev L y = some (.int q n)) (hn : 0 ≤ n) (h0 : 0 ≤ m) (h1 : m ≤ 4294967295) : ∃ v, PE P L ⟨d, .binOp .shr T x y U, ty, pos, af, g⟩ v ∧ U32 4294967295 v := by
  refine ⟨.int .u32 (m.fdiv (2 ^ (Min.min n.toNat 32))), fun ρ hρ w => ?_, _, rfl, ?_, ?_⟩
  · have hg : ∀ w, (eqGuard .shr T x y (.int .u32 m) (.int q n)).run P w = .ok () w := fun w => rfl
    have hb : binOp .shr T (.int .u32 m) (.int q n) = Op.shift .shr .u32 m q n := by simp [binOp]
    have hs : ∀ w, (Op.shift .shr .u32 m q n).run P w = .ok (.int .u32 (m.fdiv (2 ^ (Min.min n.toNat 32)))) w := fun w => by
      unfold Op.shift
      rw [if_neg (by omega)]
      rfl
    simp only [execOp, hρ _ _ hx, hρ _ _ hy, Sem.run_bind, hg, hb, hs, Result.andThen, Sem.run_pure]
  · rw [Int.fdiv_eq_ediv_of_nonneg _ (Int.pow_nonneg (by omega))]
    exact Int.ediv_nonneg h0 (Int.pow_nonneg (by omega))
  · rw [Int.fdiv_eq_ediv_of_nonneg _ (Int.pow_nonneg (by omega))]
    have := Int.ediv_le_self (a := m) (2 ^ (Min.min n.toNat 32)) h0
    omega
end pe
section steps
variable {P : Program} {r : Option Nat} {ops : Array Oper} {n : Nat} {L : Zl} {D : List Deferred} {H : Za} {R : Z8} {K : Act → World → Prop}
  {bm : List Nat} {X : Act → World → Prop} {p : Plan} {pend : Z2l}
  {i d : Nat} {op : Op} {ty : TypeId} {pos : String} {af : Array Edge}
theorem spE {q : Value → Prop} (ho : ops[i]? = some ⟨some d, op, ty, pos, af, none⟩) (hv : ∃ v, PE P L ⟨some d, op, ty, pos, af, none⟩ v ∧ q v) (hd : Nat.blt d n = true)
    (h : ∀ v, q v → Sy n ((d, v) :: L) D H R K) : Sy n L D H R (stp P r ops i K) := by
  obtain ⟨v, hv, hq⟩ := hv
  exact sp ho hv hd (h v hq)
theorem tkE {q : Value → Prop} (ho : ops[i]? = some ⟨some d, op, ty, pos, af, none⟩) (hv : ∃ v, PE P L ⟨some d, op, ty, pos, af, none⟩ v ∧ q v) (hd : Nat.blt d n = true)
    (h : ∀ v, q v → Sy n ((d, v) :: L) D H R (Dv P r ops bm X p pend)) : Sy n L D H R (Dv P r ops bm X (.tk i p) pend) := by
  obtain ⟨v, hv, hq⟩ := hv
  exact tk ho hv hd (h v hq)
end steps
section pe
variable {P : Program} {L : Zl} {d : Option Tmp} {ty : TypeId} {pos : String} {af : Array Edge} {g : Option (Nat × Bool)}
theorem PE.slLoA {T e s : Nat} {x z : Operand} {a : Option Addr} {len cap l : Nat} {k2 : IntKind} (hT : slE P T = some (e, s)) (hx : ev L x = some (.slice a len cap)) (hz : ev L z = some (.int k2 l)) (hl : l ≤ len) :
    PE P L ⟨d, .slice T x (some z) none none, ty, pos, af, g⟩ (.slice (if cap = l then a else a.map (·.add (l * s))) (len - l) (cap - l)) := fun ρ hρ w => by
  obtain ⟨i, hu, hi, rfl⟩ := Z20 hT
  have hb2 : ∀ c w, (Instr.sliceBound (.int k2 (l : Int)) len c).run P w = .ok l w := fun c w => by rw [Z0u (by omega)]; simp
  simp only [execOp, hρ _ _ hx, hρ _ _ hz, Option.map_none, Option.map_some, Instr.sliceAt, Instr.slice, Sem.run_bind, run_underlying hu, Result.andThen, Sem.run_pure, Instr.sliceBounds, hb2, sizeOf, typeInfo, program, hi, Sem.run]
end pe
theorem Z38 {P : Program} {b e od : Nat} {l vs : List Value} (h1 : vs.all (·.oneCell') = true) (hb : od + vs.length ≤ l.length) {w : World} (h : w.heap[b]? = some (cel e l)) :
    (storeCells ⟨b, od, none⟩ vs).run P w = .ok () { w with heap := w.heap.setIfInBounds b (cel e (spl l od vs)) } := by
  have := run_storeCells_at (P := P) b od e vs 0 l.toArray w h (by simpa using hb) (fun x hx => List.all_eq_true.1 h1 x hx)
  rw [Z14 h] at this
  simpa [spl] using this
section steps
variable {P : Program} {r : Option Nat} {ops : Array Oper} {n : Nat} {L : Zl} {D : List Deferred} {H : Za} {R : Z8} {K : Act → World → Prop}
  {i d : Nat} {ty : TypeId} {pos : String} {af : Array Edge}
theorem Zbe {T e s : Nat} {x : Operand} {b od k c e2 : Nat} {l z : List Value} {H' : Za} {dd : Option Nat} (ho : ops[i]? = some ⟨dd, .call { callee := .builtin .clear, args := #[x], argTypes := #[T] }, ty, pos, af, none⟩) (hdd : dd = none) (hT : slE P T = some (e, s))
    (hz : Z08 P e = some z) (hzs : z.length = s) (hz1 : z.all (·.oneCell') = true) (hx : ev L x = some (.slice (some ⟨b, od, none⟩) k c)) (hb : od + k * s ≤ l.length)
    [m : Mem1 b (cel e2 l) H] [rp : Rep [(b, cel e2 l)] [(b, cel e2 (spl l od (Z1K k z)))] H H'] (h : Sy n L D H' R K) : Sy n L D H R (stp P r ops i K) := fun a w ha hD hs => by
  subst hdd
  obtain ⟨ie, hu, hi, rfl⟩ := Z20 hT
  obtain ⟨zv, hzv1, hzv2⟩ := Z1d hz
  have hlz : ∀ r ∈ List.replicate k z, r.length = ie.size := fun r hr => by rw [(List.mem_replicate.1 hr).2]; exact hzs
  have hr : (Z1K k z).length = k * ie.size := by rw [← Z2r, Z0h hlz]; simp
  have hst := Z38 (P := P) (e := e2) (l := l) (vs := Z1K k z) (by
    rw [← Z2r]
    refine List.all_eq_true.2 fun v hv => ?_
    obtain ⟨q, hq, hvq⟩ := List.mem_flatten.1 hv
    rw [(List.mem_replicate.1 hq).2] at hvq
    exact List.all_eq_true.1 hz1 v hvq) (by rw [hr]; exact hb) (hs.held _ m.mem)
  have hzc : (Builtin.zeroCells zv.cells k).toList = Z1K k z := by rw [hzv1]; simp [Builtin.zeroCells, Z1K]
  refine ZD ho (Zf _ rfl _) (v := .tuple #[]) (w' := { w with heap := w.heap.setIfInBounds b (cel e2 (spl l od (Z1K k z))) }) ?_ (h _ _ (ha.putNone _) hD (hs.rep (F := [(b, cel e2 l)]) (F' := [(b, cel e2 (spl l od (Z1K k z)))]) fun T hT => St.set hT))
  simp only [execOp, resolve, invoke, builtin, Sem.run_bind, Sem.run_pure, Result.andThen, List.map_toArray, List.map_cons, List.map_nil, ha.reads _ _ hx]
  have e3 : (Builtin.clear_ #[T] ty #[.slice (some ⟨b, od, none⟩) k c]).run P w = .ok (.tuple #[]) { w with heap := w.heap.setIfInBounds b (cel e2 (spl l od (Z1K k z))) } := by
    rcases Nat.eq_zero_or_pos k with h0 | h0
    · subst h0
      have h4 : spl l od (Z1K 0 z) = l := by simp [spl, Z1K]
      have h5 : w.heap.setIfInBounds b (cel e2 l) = w.heap := by
        apply Array.ext_getElem?
        intro j
        by_cases e : b = j
        · subst e
          have hlt : b < w.heap.size := hs.lt (Z4v m.mem)
          rw [Array.getElem?_setIfInBounds_self_of_lt hlt]; exact (hs.held _ m.mem).symm
        · rw [Array.getElem?_setIfInBounds_ne e]
      rw [h4, h5]
      simp [Builtin.clear_, run_underlying hu]
    · obtain ⟨q, rfl⟩ : ∃ q, k = q + 1 := ⟨k - 1, by omega⟩
      simp only [Builtin.clear_, Sem.run_bind, run_underlying hu, Result.andThen, hzv2, hzc, hst, Sem.run_pure, List.getElem?_toArray, List.getElem?_cons_zero]
  rw [e3]
end steps
section dag
variable {P : Program} {r : Option Nat} {ops : Array Oper} {bm : List Nat} {X : Act → World → Prop} {n : Nat} {L : Zl} {D : List Deferred} {H : Za} {R : Z8} {p : Plan} {pend : Z2l}
end dag
section pe
variable {P : Program} {L : Zl} {d : Option Tmp} {ty : TypeId} {pos : String} {af : Array Edge} {g : Option (Nat × Bool)}
theorem PE.slLHM {T e s : Nat} {x y z q : Operand} {a : Option Addr} {len cap l h mx : Nat} {k k2 k3 : IntKind} (hT : slE P T = some (e, s)) (hx : ev L x = some (.slice a len cap)) (hz : ev L z = some (.int k2 l)) (hy : ev L y = some (.int k h)) (hq : ev L q = some (.int k3 mx)) (hl : l ≤ h) (hh : h ≤ mx) (hm : mx ≤ cap) :
    PE P L ⟨d, .slice T x (some z) (some y) (some q), ty, pos, af, g⟩ (.slice (if mx = l then a else a.map (·.add (l * s))) (h - l) (mx - l)) := fun ρ hρ w => by
  obtain ⟨i, hu, hi, rfl⟩ := Z20 hT
  have hb : ∀ c w, (Instr.sliceBound (.int k3 (mx : Int)) cap c).run P w = .ok mx w := fun c w => by rw [Z0u (by omega)]; simp
  have hb1 : ∀ c w, (Instr.sliceBound (.int k (h : Int)) mx c).run P w = .ok h w := fun c w => by rw [Z0u (by omega)]; simp
  have hb2 : ∀ c w, (Instr.sliceBound (.int k2 (l : Int)) h c).run P w = .ok l w := fun c w => by rw [Z0u (by omega)]; simp
  simp only [execOp, hρ _ _ hx, hρ _ _ hy, hρ _ _ hz, hρ _ _ hq, Option.map_some, Instr.sliceAt, Instr.slice, Sem.run_bind, run_underlying hu, Result.andThen, Sem.run_pure, Instr.sliceBounds, hb, hb1, hb2, sizeOf, typeInfo, program, hi, Sem.run]
end pe
section steps
variable {P : Program} {r : Option Nat} {ops : Array Oper} {n : Nat} {L : Zl} {D : List Deferred} {H : Za} {R : Z8} {K : Act → World → Prop}
  {i d : Nat} {ty : TypeId} {pos : String} {af : Array Edge}
theorem apI {t e sz b i' cap k c e2 : Nat} {s x : Operand} {l : List Value} {ax : Addr} (news : List Value) {H' : Za} (ho : ops[i]? = some ⟨some d, .call { callee := .builtin .append, args := #[s, x], argTypes := #[t, t] }, ty, pos, af, none⟩)
    (hT : slE P t = some (e, sz)) (hs : ev L s = some (.slice (some ⟨b, 0, none⟩) i' cap)) (hx : ev L x = some (.slice (some ax) k c)) (hn : news.length = k * sz)
    (hsrc : ∀ w, St H R w → ∀ j v, news[j]? = some v → w.cell? (ax.add j) = some v) (h1 : news.all (·.oneCell') = true) (hroom : i' + k ≤ cap) (hb : i' * sz + news.length ≤ l.length) (hd : Nat.blt d n = true)
    [m : Mem1 b (cel e2 l) H] [rp : Rep [(b, cel e2 l)] [(b, cel e2 (spl l (i' * sz) news))] H H']
    (h : Sy n ((d, .slice (some ⟨b, 0, none⟩) (i' + k) cap) :: L) D H' R K) : Sy n L D H R (stp P r ops i K) := fun a w ha hD hw => by
  obtain ⟨ie, hu, hi, rfl⟩ := Z20 hT
  have hst := Z38 (P := P) (e := e2) h1 hb (hw.held _ m.mem)
  have hfc := run_firstCells_some (P := P) w ie.size k ax k c news hn (hsrc w hw)
  refine ZD ho (Zf _ rfl _) (v := .slice (some ⟨b, 0, none⟩) (i' + k) cap) (w' := { w with heap := w.heap.setIfInBounds b (cel e2 (spl l (i' * ie.size) news)) }) ?_
    (h _ _ (ha.put (by simpa using hd) _) hD (hw.rep (F := [(b, cel e2 l)]) (F' := [(b, cel e2 (spl l (i' * ie.size) news))]) fun T hT => St.set hT))
  simp only [execOp, resolve, invoke, builtin, Sem.run_bind, Sem.run_pure, Result.andThen, List.map_toArray, List.map_cons, List.map_nil, ha.reads _ _ hs, ha.reads _ _ hx]
  have e1 : (Builtin.append_ #[t, t] ty #[.slice (some ⟨b, 0, none⟩) i' cap, .slice (some ax) k c]).run P w = .ok (.slice (some ⟨b, 0, none⟩) (i' + k) cap) { w with heap := w.heap.setIfInBounds b (cel e2 (spl l (i' * ie.size) news)) } := by
    have e0 : (⟨b, 0, none⟩ : Addr).add (i' * ie.size) = ⟨b, i' * ie.size, none⟩ := by rw [ZW, Nat.zero_add]
    simp [Builtin.append_, run_underlying hu, sizeOf, typeInfo, hi, Builtin.lenOf, hroom, hfc, e0, hst]
  rw [e1]
end steps
def AllS : List Nat → (Nat → Prop) → Prop
  | [], _ => True
  | i :: l, p => p i ∧ AllS l p
theorem AllS.all {p : Nat → Prop} : ∀ {l : List Nat}, AllS l p → ∀ i ∈ l, p i
  | [], _, i, h => by cases h
  | j :: l, h, i, hi => by
    rcases List.mem_cons.1 hi with rfl | hi
    · exact h.1
    · exact AllS.all h.2 i hi
section free
variable {P : Program} {r : Option Nat} {ops : Array Oper} {n : Nat} {L : Zl} {D : List Deferred} {H : Za} {R : Z8}
end free
def pvl (L : Zl) : Op → Option Value
  | .move x => ev L x
  | .assign x => ev L x
  | .pick c x y => match ev L c with
    | some (.bool b) => match ev L x with
      | some u => match ev L y with
        | some v => some (bif b then u else v)
        | none => none
      | none => none
    | _ => none
  | .extract x k => match ev L x with
    | some (.tuple l) => l.toList[k]?
    | _ => none
  | .unOp .not _ x => match ev L x with
    | some (.bool b) => some (.bool !b)
    | _ => none
  | .binOp .lss _ x y _ => match ev L x with
    | some (.int .i64 m) => match ev L y with
      | some (.int .i64 n) => some (.bool (decide (m < n)))
      | _ => none
    | _ => none
  | .binOp .leq _ x y _ => match ev L x with
    | some (.int .i64 m) => match ev L y with
      | some (.int .i64 n) => some (.bool (decide (m ≤ n)))
      | _ => none
    | _ => none
  | .binOp .gtr _ x y _ => match ev L x with
    | some (.int .i64 m) => match ev L y with
      | some (.int .i64 n) => some (.bool (decide (n < m)))
      | _ => none
    | _ => none
  | .binOp .geq _ x y _ => match ev L x with
    | some (.int .i64 m) => match ev L y with
      | some (.int .i64 n) => some (.bool (decide (n ≤ m)))
      | _ => none
    | _ => none
  | .binOp .eql _ x y _ => match ev L x with
    | some (.int .i64 m) => match ev L y with
      | some (.int .i64 n) => some (.bool (decide (m = n)))
      | _ => none
    | _ => none
  | .binOp .neq _ x y _ => match ev L x with
    | some (.int .i64 m) => match ev L y with
      | some (.int .i64 n) => some (.bool (decide (m ≠ n)))
      | _ => none
    | _ => none
  | _ => none
theorem Z5q {P : Program} {L : Zl} {o : Oper} {v : Value} (h : pvl L o.op = some v) : PE P L o v := by
  obtain ⟨d, op, ty, pos, af, g⟩ := o
  dsimp only at h
  unfold pvl at h
  split at h
  · exact PE.move h
  · exact PE.assign h
  · split at h
    · rename_i b hb
      split at h
      · rename_i u hu
        split at h
        · rename_i w hw
          obtain rfl := Option.some.inj h
          exact PE.pick hb hu hw
        · cases h
      · cases h
    · cases h
  · split at h
    · rename_i l hl
      exact PE.extract (l := l.toList) hl h
    · cases h
  · split at h
    · rename_i b hb
      obtain rfl := Option.some.inj h
      exact PE.not hb
    · cases h
  · split at h
    · rename_i m hm
      split at h
      · rename_i k hk
        obtain rfl := Option.some.inj h
        exact PE.lss hm hk
      · cases h
    · cases h
  · split at h
    · rename_i m hm
      split at h
      · rename_i k hk
        obtain rfl := Option.some.inj h
        exact PE.leq hm hk
      · cases h
    · cases h
  · split at h
    · rename_i m hm
      split at h
      · rename_i k hk
        obtain rfl := Option.some.inj h
        exact PE.gtr hm hk
      · cases h
    · cases h
  · split at h
    · rename_i m hm
      split at h
      · rename_i k hk
        obtain rfl := Option.some.inj h
        exact PE.geq hm hk
      · cases h
    · cases h
  · split at h
    · rename_i m hm
      split at h
      · rename_i k hk
        obtain rfl := Option.some.inj h
        exact PE.eql hm hk
      · cases h
    · cases h
  · split at h
    · rename_i m hm
      split at h
      · rename_i k hk
        obtain rfl := Option.some.inj h
        exact PE.neq hm hk
      · cases h
    · cases h
  · cases h
def gok (ops : Array Oper) (L : Zl) : Option (Nat × Bool) → Option Bool
  | none => some true
  | some (j, b) => match ops[j]? with
    | some oj => match oj.dst with
      | some t => match lk L t with
        | some (.bool c) => some (b == c)
        | _ => none
      | none => none
    | none => none
def prS (ops : Array Oper) (n : Nat) (L : Zl) (i : Nat) : Option Zl := match ops[i]? with
  | some o => match o.dst with
    | some d => bif Nat.blt d n then
        match gok ops L o.guard with
        | some true => match pvl L o.op with
          | some v => some ((d, v) :: L)
          | none => none
        | some false => some ((d, undef) :: L)
        | none => none
      else none
    | none => none
  | none => none
section ops
variable {P : Program} {r : Option Nat} {ops : Array Oper} {n : Nat} {L L' : Zl} {D : List Deferred} {H : Za} {R : Z8} {K : Act → World → Prop}
  {bm : List Nat} {X : Act → World → Prop} {p p' : Plan} {pend : Z2l} {i : Nat}
theorem Z4e (h : prS ops n L i = some L') : ∃ o d, ops[i]? = some o ∧ o.dst = some d ∧ Nat.blt d n = true ∧
    ((∃ v, pvl L o.op = some v ∧ L' = (d, v) :: L ∧ (o.guard = none ∨ ∃ j b oj t, o.guard = some (j, b) ∧ ops[j]? = some oj ∧ oj.dst = some t ∧ lk L t = some (.bool b))) ∨
     (L' = (d, undef) :: L ∧ ∃ j b oj t c, o.guard = some (j, b) ∧ ops[j]? = some oj ∧ oj.dst = some t ∧ lk L t = some (.bool c) ∧ b = !c)) := by
  unfold prS at h
  split at h
  · rename_i o ho
    split at h
    · rename_i d hd
      cases hb : Nat.blt d n with
      | false => rw [hb] at h; cases h
      | true =>
        rw [hb, cond_true] at h
        refine ⟨o, d, ho, hd, hb, ?_⟩
        have hg : ∀ x, gok ops L o.guard = some x → (o.guard = none ∧ x = true) ∨ ∃ j b oj t c, o.guard = some (j, b) ∧ ops[j]? = some oj ∧ oj.dst = some t ∧ lk L t = some (.bool c) ∧ x = (b == c) := by
          intro x hx
          unfold gok at hx
          split at hx
          · rename_i h0; exact .inl ⟨h0, (Option.some.inj hx).symm⟩
          · rename_i j b h0
            split at hx
            · rename_i oj hj
              split at hx
              · rename_i t ht
                split at hx
                · rename_i c hc
                  exact .inr ⟨j, b, oj, t, c, h0, hj, ht, hc, (Option.some.inj hx).symm⟩
                · cases hx
              · cases hx
            · cases hx
        split at h
        · rename_i h0
          split at h
          · rename_i v hv
            refine .inl ⟨v, hv, (Option.some.inj h).symm, ?_⟩
            rcases hg _ h0 with ⟨h1, _⟩ | ⟨j, b, oj, t, c, h1, h2, h3, h4, h5⟩
            · exact .inl h1
            · obtain rfl := eq_of_beq h5.symm
              exact .inr ⟨j, b, oj, t, h1, h2, h3, h4⟩
          · cases h
        · rename_i h0
          refine .inr ⟨(Option.some.inj h).symm, ?_⟩
          rcases hg _ h0 with ⟨_, h1⟩ | ⟨j, b, oj, t, c, h1, h2, h3, h4, h5⟩
          · cases h1
          · exact ⟨j, b, oj, t, c, h1, h2, h3, h4, by cases b <;> cases c <;> first | rfl | cases h5⟩
        · cases h
    · cases h
  · cases h
theorem Z9X (h : prS ops n L i = some L') (hk : Sy n L' D H R K) : Sy n L D H R (stp P r ops i K) := by
  obtain ⟨⟨dst, op, ty, pos, af, g⟩, d, ho, hd, hb, h1⟩ := Z4e h
  dsimp only at hd h1
  subst hd
  rcases h1 with ⟨v, hv, rfl, rfl | ⟨j, b, oj, t, rfl, hj, ht, hl⟩⟩ | ⟨rfl, j, b, oj, t, c, hg, hj, ht, hl, hbc⟩
  · exact sp ho (Z5q hv) hb hk
  · exact spG ho hj ht hl (Z5q hv) hb hk
  · exact spN ho hg hj ht hl hbc rfl hb hk
theorem Z9z (h : prS ops n L i = some L') (hk : Sy n L' D H R (Dv P r ops bm X p pend)) : Sy n L D H R (Dv P r ops bm X (.tk i p) pend) := by
  obtain ⟨⟨dst, op, ty, pos, af, g⟩, d, ho, hd, hb, h1⟩ := Z4e h
  dsimp only at hd h1
  subst hd
  rcases h1 with ⟨v, hv, rfl, rfl | ⟨j, b, oj, t, rfl, hj, ht, hl⟩⟩ | ⟨rfl, j, b, oj, t, c, hg, hj, ht, hl, hbc⟩
  · exact tk ho (Z5q hv) hb hk
  · exact tkG ho hj ht hl (Z5q hv) hb hk
  · exact tkN ho hg hj ht hl hbc rfl hb hk
def prK (ops : Array Oper) (n : Nat) : Nat → List Nat → Zl → Option (List Nat × Zl)
  | 0, l, L => some (l, L)
  | _ + 1, [], _ => none
  | k + 1, i :: l, L => match prS ops n L i with
    | some L' => prK ops n k l L'
    | none => none
theorem pur (k : Nat) {l l' : List Nat} (h : prK ops n k l L = some (l', L')) (hk : Sy n L' D H R (Z3n P r ops X l')) : Sy n L D H R (Z3n P r ops X l) := by
  induction k generalizing l L with
  | zero =>
    simp only [prK, Option.some.injEq, Prod.mk.injEq] at h
    obtain ⟨rfl, rfl⟩ := h
    exact hk
  | succ k ih =>
    cases l with
    | nil => cases h
    | cons i l =>
      unfold prK at h
      split at h
      · rename_i L1 h1
        exact Z9X h1 (ih h)
      · cases h
def prP (ops : Array Oper) (n : Nat) : Nat → Plan → Zl → Option (Plan × Zl)
  | 0, p, L => some (p, L)
  | k + 1, .tk i p, L => match prS ops n L i with
    | some L' => prP ops n k p L'
    | none => none
  | _ + 1, _, _ => none
theorem Zi (k : Nat) (h : prP ops n k p L = some (p', L')) (hk : Sy n L' D H R (Dv P r ops bm X p' pend)) : Sy n L D H R (Dv P r ops bm X p pend) := by
  induction k generalizing p L with
  | zero =>
    simp only [prP, Option.some.injEq, Prod.mk.injEq] at h
    obtain ⟨rfl, rfl⟩ := h
    exact hk
  | succ k ih =>
    cases p with
    | tk i p =>
      unfold prP at h
      split at h
      · rename_i L1 h1
        exact Z9z h1 (ih h)
      · cases h
    | done => cases h
    | ld i p => cases h
    | big i p => cases h
    | any p => cases h
    | alt i p q => cases h
    | stop => cases h
theorem Z0b {X : Act → World → Prop} (t : Nat) {b : Bool} (hb : lk L t = some (.bool b)) (h1 : b = true → Sy n ((t, .bool true) :: L) D H R X) (h0 : b = false → Sy n ((t, .bool false) :: L) D H R X) : Sy n L D H R X := Z1 hb h1 h0
theorem bgT (h : Sy n L D H R (Dv P r ops bm X p (keepP bm i pend))) (hp : ∀ w, St H R w → Z0f bm i pend w := by intro w hs; repeat' first | exact trivial | constructor) : Sy n L D H R (fun a w => Z0f bm i pend w ∧ Dv P r ops bm X p (keepP bm i pend) a w) := bg hp h
theorem PE.fA {ty : TypeId} {pos : String} {af : Array Edge} {g : Option (Nat × Bool)} {d : Option Tmp} {T k o b off : Nat} {x : Operand} (ho : Z1j P T k = some o) (hx : ev L x = some (.pointer (some ⟨b, off, none⟩))) : PE P L ⟨d, .fieldAddr T x k, ty, pos, af, g⟩ (.pointer (some ⟨b, off + o, none⟩)) := PE.fieldAddr ho hx
end ops
theorem cS : (∀ (p : Prop) [Decidable p], (decide p = true) = p) ∧ (∀ (p : Prop) [Decidable p], (decide p = false) = ¬ p) ∧ (∀ a b : Bool, ((a && b) = true) = (a = true ∧ b = true)) ∧ (∀ a b : Bool, ((a || b) = true) = (a = true ∨ b = true)) ∧ (∀ b : Bool, ((!b) = true) = (b = false)) ∧ (∀ a b : Int, (¬ a ≤ b) = (b < a)) ∧ (∀ a b : Int, (¬ a < b) = (b ≤ a)) :=
  ⟨fun _ _ => decide_eq_true_eq, fun p _ => propext decide_eq_false_iff_not, fun a b => by simp, fun a b => by simp, fun b => by simp, fun a b => propext Int.not_le, fun a b => propext Int.not_lt⟩
def tks : Nat → Nat → Plan → Plan
  | _, 0, p => p
  | i, k + 1, p => .tk i (tks (i + 1) k p)
theorem idH {H : Za} {R : Z8} : ∀ w, St H R w → St H R w := fun _ h => h
theorem dF {p : Prop} [i : Decidable p] (h : ¬ p) : decide p = false := decide_eq_false h
theorem dT {p : Prop} [i : Decidable p] (h : p) : decide p = true := decide_eq_true h
section steps
variable {P : Program} {r : Option Nat} {n : Nat} {L : Zl} {D : List Deferred} {H : Za} {R : Z8} {Q : Exit → Act → World → Prop}
theorem Z05 {ι : Type} {inv : ι → Head} {j : ι} (hH : ∀ w, St H R w → St (inv j).H (inv j).R w) (hL : Sub (inv j).L L := by repeat' first | exact Sub.nil | apply Sub.cons | rfl | (simp [lk]; omega)) : Sy n L D H R (Z35 n D inv j) := Z4l hL hH
theorem ZQ {ι : Type} {inv : ι → Head} {μ : ι → Nat} {i : ι} (j : ι) (hm : μ j < μ i) (hH : ∀ w, St H R w → St (inv j).H (inv j).R w) (hL : Sub (inv j).L L := by repeat' first | exact Sub.nil | apply Sub.cons | rfl | (simp [lk]; omega)) : Sy n L D H R (Z6F n D inv μ i) := Zc j hm hL hH
theorem Z0z {ι : Type} {inv : ι → Head} {μ : ι → Nat} {i : ι} (j : ι) (hH : ∀ w, St H R w → St (inv j).H (inv j).R w) (hm : μ j < μ i := by dsimp only; omega) (hL : Sub (inv j).L L := by repeat' first | exact Sub.nil | apply Sub.cons | rfl | (simp [lk]; omega)) : Sy n L D H R (Z6F n D inv μ i) := Zc j hm hL hH
theorem Z3e {ι : Type} {hd : ι → Head} (j : ι) (hH : ∀ w, St H R w → St (hd j).H (hd j).R w) (hL : Sub (hd j).L L := by repeat' first | exact Sub.nil | apply Sub.cons | rfl | (simp [lk]; omega)) : Sy n L D H R (Z96 n D hd .normal) := ZN j hL hH
def rg : Nat → Nat → List Nat
  | _, 0 => []
  | i, k + 1 => i :: rg (i + 1) k
theorem sqt {id : Nat} {ops : Array Oper} {y : Code} (k : Nat) (hl : List.range ops.size = rg 0 k) (h : Sy n L D H R (Z3n P r ops (wpc P r y Q) (rg 0 k))) : Sy n L D H R (wpc P r (.seq (.region id ops false) y) Q) :=
  Z0 (Z6 _ hl h)
theorem sqr {id : Nat} {ops : Array Oper} (k : Nat) (hl : List.range ops.size = rg 0 k) (h : Sy n L D H R (Z3n P r ops (Q .normal) (rg 0 k))) : Sy n L D H R (wpc P r (.region id ops false) Q) := Z6 _ hl h
variable {fn : Func} {G : Value → Za → Z8 → Prop} {H' : Za} {R' : Z8}
theorem rtA {t : Nat} {v u : Value} (hr : fn.results = #[.tmp t]) (hv : lk L t = some v) (he : ZF [v] = u) (hq : G u H' R') (hs : ∀ w, St H R w → St H' R' w) : Sy n L [] H R (Ret P fn G .ret) := Z5 (vs := [v]) hr (.cons (RV.tmp hv) .nil) he hq hs
theorem rtB {t t2 : Nat} {v x u : Value} (hr : fn.results = #[.tmp t, .tmp t2]) (hv : lk L t = some v) (hx : lk L t2 = some x) (he : ZF [v, x] = u) (hq : G u H' R') (hs : ∀ w, St H R w → St H' R' w) : Sy n L [] H R (Ret P fn G .ret) := Z5 (vs := [v, x]) hr (.cons (RV.tmp hv) (.cons (RV.tmp hx) .nil)) he hq hs
end steps
theorem Zw : Try.prog.follows .mixedOrders = true := by kernel_rfl
end Go.Proofs.Ythhdgeibokecjaa
namespace Go.Proofs.Ythhdgeibokecjaa.Bd
set_option linter.unusedSimpArgs false
set_option linter.unusedVariables false
structure Rn where
  sacks : Int
  price : Int
  deriving DecidableEq, Repr
structure Sta where
  stock : Int
  short : Int
  dry : Int
  deriving DecidableEq, Repr
structure Twn where
  now : Sta
  holds : Int
  need : Int
  patience : Int
  run : Int
  good : Int
  bad : Int
  rot : Int
  rats : List Rn
  deriving DecidableEq, Repr
def Sta.right (t : Twn) (s : Sta) : Bool := (decide (0 ≤ s.stock) && decide (s.stock ≤ t.holds)) && (decide (0 ≤ s.short) && decide (s.short ≤ t.patience)) && (decide (0 ≤ s.dry) && decide (s.dry ≤ t.run))
def Z0t (t : Twn) (s : Sta) (q : Rn) : Int := s.stock - q.sacks - ((s.stock - q.sacks) * t.rot + 9) / 10
def Twn.next (t : Twn) (s : Sta) (q : Rn) (bad : Bool) : Sta :=
  ⟨min t.holds (Z0t t s q + bif bad then t.bad else t.good), bif decide (q.sacks < t.need) then s.short + 1 else 0, bif bad then s.dry + 1 else 0⟩
def Twn.can (t : Twn) (s : Sta) (q : Rn) : Bool := decide (q.sacks ≤ s.stock) && (!decide (q.sacks < t.need) || decide (s.short < t.patience))
def Z0r (l : List Rn) (i : Nat) : Bool := match l[i]?, l[i + 1]? with
  | some a, some b => decide (a.sacks ≤ b.sacks) || decide (b.price ≤ a.price)
  | _, _ => false
@[reducible] def inb (n lo hi : Int) : Bool := decide (lo ≤ n) && decide (n ≤ hi)
def Twn.check (t : Twn) : Int :=
  bif !(inb t.rats.length 1 4) then 2 else bif !([t.holds, t.need, t.good, t.bad].all fun n => inb n 0 30) then 3
  else bif !(inb t.patience 0 3) then 3 else bif !(inb t.run 0 3) then 3 else bif !(inb t.rot 0 5) then 3 else bif !(t.now.right t) then 3
  else bif !(t.rats.all fun q => inb q.sacks 0 30 && inb q.price 0 100) then 3 else bif decide (t.good < t.bad) then 4 else bif (List.range t.rats.length).any (Z0r t.rats) then 4 else 0
structure Twn.ok (t : Twn) : Prop where
  holds : 0 ≤ t.holds ∧ t.holds ≤ 30
  need : 0 ≤ t.need ∧ t.need ≤ 30
  good : 0 ≤ t.good ∧ t.good ≤ 30
  bad : 0 ≤ t.bad ∧ t.bad ≤ t.good
  patience : 0 ≤ t.patience ∧ t.patience ≤ 3
  run : 0 ≤ t.run ∧ t.run ≤ 3
  rot : 0 ≤ t.rot ∧ t.rot ≤ 5
  rats : ∀ q ∈ t.rats, 0 ≤ q.sacks ∧ q.sacks ≤ 30 ∧ 0 ≤ q.price ∧ q.price ≤ 100
  now : t.now.right t = true
  many : 1 ≤ t.rats.length ∧ t.rats.length ≤ 4
theorem right_iff {t : Twn} {s : Sta} : s.right t = true ↔ (0 ≤ s.stock ∧ s.stock ≤ t.holds) ∧ (0 ≤ s.short ∧ s.short ≤ t.patience) ∧ (0 ≤ s.dry ∧ s.dry ≤ t.run) := by
  simp [Sta.right, and_assoc]
theorem Zk {t : Twn} (h : t.check = 0) : t.ok ∧ ∀ i, Z0r t.rats i = false := by
  unfold Twn.check at h
  cases h1 : inb t.rats.length 1 4 <;> rw [h1] at h
  · cases h
  cases h2 : [t.holds, t.need, t.good, t.bad].all fun n => inb n 0 30 <;> rw [h2] at h
  · cases h
  cases h3 : inb t.patience 0 3 <;> rw [h3] at h
  · cases h
  cases h4 : inb t.run 0 3 <;> rw [h4] at h
  · cases h
  cases h5 : inb t.rot 0 5 <;> rw [h5] at h
  · cases h
  cases h6 : t.now.right t <;> rw [h6] at h
  · cases h
  cases h7 : t.rats.all fun q => inb q.sacks 0 30 && inb q.price 0 100 <;> rw [h7] at h
  · cases h
  cases h8 : decide (t.good < t.bad) <;> rw [h8] at h
  rotate_left
  · cases h
  cases h9 : (List.range t.rats.length).any (Z0r t.rats) <;> rw [h9] at h
  rotate_left
  · cases h
  simp only [inb, Bool.and_eq_true, decide_eq_true_eq, List.all_cons, List.all_nil, decide_eq_false_iff_not] at h1 h2 h3 h4 h5 h8
  refine ⟨⟨h2.1, h2.2.1, h2.2.2.1, ⟨h2.2.2.2.1.1, by omega⟩, h3, h4, h5, fun q hq => ?_, h6, by omega⟩, fun i => ?_⟩
  · have := List.all_eq_true.1 h7 q hq
    simp only [inb, Bool.and_eq_true, decide_eq_true_eq] at this
    omega
  · rcases Nat.lt_or_ge i t.rats.length with hi | hi
    · have := List.any_eq_false.1 h9 i (List.mem_range.2 hi)
      simpa using this
    · simp [Z0r, List.getElem?_eq_none hi]
theorem Z6N {x r : Int} (h0 : 0 ≤ x) (h1 : x ≤ 30) (h2 : 0 ≤ r) (h3 : r ≤ 5) : 0 ≤ x * r ∧ x * r ≤ 150 ∧ x * r ≤ x * 5 := by
  have a := Int.mul_nonneg h0 h2
  have b := Int.mul_le_mul_of_nonneg_left h3 h0
  omega
theorem Z4r {t : Twn} (ht : t.ok) {s : Sta} {q : Rn} (hs : s.right t = true) (hq : q ∈ t.rats) (hc : q.sacks ≤ s.stock) : 0 ≤ Z0t t s q := by
  have h1 := right_iff.1 hs
  have h2 := ht.rats q hq
  have h3 := ht.holds
  have h4 := Z6N (x := s.stock - q.sacks) (r := t.rot) (by omega) (by omega) ht.rot.1 ht.rot.2
  unfold Z0t
  by_cases h0 : s.stock - q.sacks = 0
  · rw [h0]; simp
  · omega
theorem Zs {t : Twn} (ht : t.ok) {s : Sta} {q : Rn} {bad : Bool} (hs : s.right t = true) (hq : q ∈ t.rats) (hc : t.can s q = true) (hb : bad = true → s.dry < t.run) : (t.next s q bad).right t = true := by
  have h1 := right_iff.1 hs
  have h2 := ht.rats q hq
  have h3 := ht.holds
  have h5 := ht.good
  have h6 := ht.bad
  have hc' : q.sacks ≤ s.stock ∧ (t.need ≤ q.sacks ∨ s.short < t.patience) := by
    simpa [Twn.can] using hc
  have h4 := Z4r ht hs hq hc'.1
  rw [right_iff]
  unfold Twn.next
  cases bad
  · simp only [cond_false]
    refine ⟨by omega, ?_, by omega⟩
    by_cases hn : q.sacks < t.need
    · simp only [hn, decide_true, cond_true]; omega
    · simp only [hn, decide_false, cond_false]; omega
  · have := hb rfl
    simp only [cond_true]
    refine ⟨by omega, ?_, by omega⟩
    by_cases hn : q.sacks < t.need
    · simp only [hn, decide_true, cond_true]; omega
    · simp only [hn, decide_false, cond_false]; omega
def Sta.ix (s : Sta) : Nat := s.stock.toNat * 16 + s.short.toNat * 4 + s.dry.toNat
def lat (y : List Int) (s : Sta) : Int := y.getD s.ix 0
theorem Z1w {t : Twn} {s : Sta} (ht : t.ok) (h : s.right t = true) : s.ix < 496 := by
  have h1 := right_iff.1 h
  have h2 := ht.holds
  have h3 := ht.patience
  have h4 := ht.run
  unfold Sta.ix; omega
theorem Z13 {t : Twn} {s u : Sta} (ht : t.ok) (h : s.right t = true) (k : u.right t = true) (e : s.ix = u.ix) : s = u := by
  have h1 := right_iff.1 h
  have k1 := right_iff.1 k
  have h3 := ht.patience
  have h4 := ht.run
  unfold Sta.ix at e
  obtain ⟨a, b, c⟩ := s
  obtain ⟨a', b', c'⟩ := u
  simp only at h1 k1 e
  simp only [Sta.mk.injEq]
  omega
theorem Z8u {y : List Int} {s : Sta} (h : s.ix < y.length) : y[s.ix]? = some (lat y s) := by simp [lat, h]
def Twn.keeps (t : Twn) (y : List Int) (s : Sta) (q : Rn) (bads : Int) : Bool :=
  t.can s q && decide (bads ≤ lat y (t.next s q false)) && (decide (bads = 0) || !decide (s.dry < t.run) || decide ((bif decide (bads = 1000000) then 1000000 else bads - 1) ≤ lat y (t.next s q true)))
def Twn.nst (t : Twn) : Nat := (t.holds.toNat + 1) * (t.patience.toNat + 1) * (t.run.toNat + 1)
def Z4n (t : Twn) (i : Nat) : Sta := ⟨(i / (t.run.toNat + 1) / (t.patience.toNat + 1) : Nat), (i / (t.run.toNat + 1) % (t.patience.toNat + 1) : Nat), (i % (t.run.toNat + 1) : Nat)⟩
def sts (t : Twn) : List Sta := (List.range t.nst).map (Z4n t)
theorem Z0B (t : Twn) : (sts t).length = t.nst := by simp [sts]
theorem Z4u {t : Twn} {i : Nat} (h : i < t.nst) : (sts t)[i]? = some (Z4n t i) := by simp [sts, h]
theorem Z3M {t : Twn} {a b c : Nat} (hb : b ≤ t.patience.toNat) (hc : c ≤ t.run.toNat) : Z4n t ((a * (t.patience.toNat + 1) + b) * (t.run.toNat + 1) + c) = ⟨a, b, c⟩ := by
  have e1 : ((a * (t.patience.toNat + 1) + b) * (t.run.toNat + 1) + c) / (t.run.toNat + 1) = a * (t.patience.toNat + 1) + b := by
    rw [Nat.mul_comm, Nat.mul_add_div (by omega), Nat.div_eq_of_lt (by omega), Nat.add_zero]
  have e2 : ((a * (t.patience.toNat + 1) + b) * (t.run.toNat + 1) + c) % (t.run.toNat + 1) = c := by
    rw [Nat.mul_comm, Nat.mul_add_mod, Nat.mod_eq_of_lt (by omega)]
  have e3 : (a * (t.patience.toNat + 1) + b) / (t.patience.toNat + 1) = a := by
    rw [Nat.mul_comm, Nat.mul_add_div (by omega), Nat.div_eq_of_lt (by omega), Nat.add_zero]
  have e4 : (a * (t.patience.toNat + 1) + b) % (t.patience.toNat + 1) = b := by
    rw [Nat.mul_comm, Nat.mul_add_mod, Nat.mod_eq_of_lt (by omega)]
  unfold Z4n
  rw [e1, e2, e3, e4]
theorem Z6w {t : Twn} {a b c : Nat} (ha : a ≤ t.holds.toNat) (hb : b ≤ t.patience.toNat) (hc : c ≤ t.run.toNat) : (a * (t.patience.toNat + 1) + b) * (t.run.toNat + 1) + c < t.nst := by
  have h1 : a * (t.patience.toNat + 1) + b + 1 ≤ (t.holds.toNat + 1) * (t.patience.toNat + 1) := by
    have := Nat.mul_le_mul_right (t.patience.toNat + 1) ha
    rw [Nat.add_mul]; omega
  have h2 := Nat.mul_le_mul_right (t.run.toNat + 1) h1
  unfold Twn.nst
  rw [Nat.add_mul] at h2
  omega
theorem Zh {t : Twn} (ht : t.ok) {s : Sta} (h : s ∈ sts t) : s.right t = true := by
  obtain ⟨i, hi, rfl⟩ := List.mem_map.1 h
  have hi' := List.mem_range.1 hi
  unfold Twn.nst at hi'
  have h1 := ht.holds
  have h2 := ht.patience
  have h3 := ht.run
  have a1 := Nat.mod_lt i (show 0 < t.run.toNat + 1 by omega)
  have a2 := Nat.mod_lt (i / (t.run.toNat + 1)) (show 0 < t.patience.toNat + 1 by omega)
  have a3 : i / (t.run.toNat + 1) / (t.patience.toNat + 1) < t.holds.toNat + 1 := by
    rw [Nat.div_lt_iff_lt_mul (by omega), Nat.div_lt_iff_lt_mul (by omega)]; exact hi'
  rw [right_iff]
  unfold Z4n
  simp only
  generalize i / (t.run.toNat + 1) / (t.patience.toNat + 1) = x at *
  generalize i / (t.run.toNat + 1) % (t.patience.toNat + 1) = x2 at *
  generalize i % (t.run.toNat + 1) = x3 at *
  omega
theorem Zz {t : Twn} {s : Sta} (h : s.right t = true) : s ∈ sts t := by
  have h1 := right_iff.1 h
  have h2 := Z6w (t := t) (a := s.stock.toNat) (b := s.short.toNat) (c := s.dry.toNat) (by omega) (by omega) (by omega)
  have h3 := Z4u h2
  rw [Z3M (by omega) (by omega)] at h3
  have := List.mem_of_getElem? h3
  obtain ⟨a, b, c⟩ := s
  simp only at h1 this
  rwa [Int.toNat_of_nonneg h1.1.1, Int.toNat_of_nonneg h1.2.1.1, Int.toNat_of_nonneg h1.2.2.1] at this
open Go
theorem ZG : Z5M Try.prog 24 = some 3 := by kernel_rfl
theorem ZZ : Z5M Try.prog 27 = some 11 := by kernel_rfl
theorem Z0Y : cal Try.prog 31 = true := by kernel_rfl
theorem Z8R : cal Try.prog 69 = true := by kernel_rfl
theorem Z95 : cal Try.prog 72 = true := by kernel_rfl
theorem Z2n : Z0E Try.prog 24 = some 3 := by kernel_rfl
theorem cn3 : Z0E Try.prog 3 = some 1 := by kernel_rfl
theorem Z4E : elN Try.prog 25 = some 2 := by kernel_rfl
theorem Z87 : elN Try.prog 73 = some 1 := by kernel_rfl
theorem Z07 : Z1j Try.prog 24 0 = some 0 := by kernel_rfl
theorem ZT : Z1j Try.prog 24 1 = some 1 := by kernel_rfl
theorem Z0i : Z1j Try.prog 24 2 = some 2 := by kernel_rfl
theorem Z11 : Z1j Try.prog 27 1 = some 3 := by kernel_rfl
theorem Z12 : Z1j Try.prog 27 2 = some 4 := by kernel_rfl
theorem Z2q : Z1j Try.prog 27 3 = some 5 := by kernel_rfl
theorem Z2a : Z1j Try.prog 27 4 = some 6 := by kernel_rfl
theorem Z3f : Z1j Try.prog 27 5 = some 7 := by kernel_rfl
theorem Z3h : Z1j Try.prog 27 6 = some 8 := by kernel_rfl
theorem Z5n : Z1j Try.prog 27 7 = some 9 := by kernel_rfl
theorem ZJ : Z1j Try.prog 27 8 = some 10 := by kernel_rfl
theorem Z0p : Z1j Try.prog 77 0 = some 0 := by kernel_rfl
theorem Z2L : Z6l Try.prog 25 = true := by kernel_rfl
theorem Z3X : Z6l Try.prog 73 = true := by kernel_rfl
theorem Z8q : Z0W Try.prog 24 = some [(0, 1), (1, 1), (2, 1)] := by kernel_rfl
theorem Z0Z : Z2m Try.prog 25 = true := by kernel_rfl
theorem sc3 : Z2m Try.prog 3 = true := by kernel_rfl
theorem Z8p : slE Try.prog 73 = some (3, 1) := by kernel_rfl
theorem Z37 : Z08 Try.prog 24 = some ([.int .i64 0, .int .i64 0, .int .i64 0]) := by kernel_rfl
theorem zl3 : Z08 Try.prog 3 = some ([.int .i64 0]) := by kernel_rfl
theorem Z45 (n lo hi : Int) (H : Za) (R : Z8) :
    FnV Try.prog 31 [.int .i64 n, .int .i64 lo, .int .i64 hi] H R (.bool (decide (lo ≤ n) && decide (n ≤ hi))) := by
 refine Zv Try.func31 rfl Try.ntmps31 rfl ?_
 refine sqt 1 rfl (pur 1 rfl (sqt 9 rfl (pur 4 rfl ?_)))
 refine Z0b 10 rfl ?_ ?_ <;> intro g10
 try simp only [cS] at g10
 refine pur 5 rfl (Z3 ?_)
 exact rtA rfl rfl rfl ⟨by simp [ZF, g10]; try omega, rfl, rfl⟩ drp
 try simp only [cS] at g10
 refine pur 5 rfl (Z3 ?_)
 exact rtA rfl rfl rfl ⟨by simp [ZF, g10]; try omega, rfl, rfl⟩ drp
theorem Z3P (n m : Int) (a : Option Addr) (c : Nat) (H : Za) (R : Z8) [hR : MemRows a 1 [[.int .i64 m]] R] :
    FnV Try.prog 72 [.int .i64 n, .slice a 1 c] H R (.int .i64 (min n m)) := by
 refine Zv Try.func72 rfl Try.ntmps72 rfl ?_
 refine sqt 1 rfl (pur 1 rfl (Z0 (sqt 3 rfl (pur 1 rfl (sp rfl (PE.lenSl Z3X rfl) rfl (pur 1 rfl (Z7 ?_)))))))
 refine Z00 (a := a) (sz := 1) (rows := [[.int .i64 m]]) (by simp) (fun b off he => ?_)
 subst he
 refine Zy (ι := {k : Nat // k ≤ 1}) (fun k => ⟨[(0, .int .i64 (bif k.1 == 0 then n else min n m)), (7, .slice (some ⟨b, off, none⟩) 1 c), (8, .int .i64 1), (9, .int .i64 k.1)], H, R⟩) (fun k => 1 - k.1) ⟨0, by omega⟩ ?_ (fun k => ?_)
 exact Z05 idH
 obtain ⟨k, hk⟩ := k
 dsimp only
 refine sqt 1 rfl (pur 1 rfl (Z0 ?_))
 refine Z4 rfl ?_ ?_ <;> intro hc0
 simp only [cS] at hc0
 obtain rfl : k = 0 := by omega
 refine Z2 (Z0 (Z7 (sqt 3 rfl (sp rfl (PE.indexAddr Z87 rfl rfl (by omega) (by omega)) rfl (spL rfl rfl (lf0 sc3 (row := [.int .i64 m]) rfl rfl) rfl (pur 1 rfl (sqr 4 rfl (pur 2 rfl (sp rfl (PE.min rfl rfl) rfl (pur 1 rfl (sqr 2 rfl (sp rfl (PE.add rfl rfl (by omega)) rfl (pur 1 rfl ?_)))))))))))))
 exact ZQ ⟨1, by omega⟩ (by simp) idH
 try simp only [cS] at hc0
 refine Zm (Zt (Zt (ZU (sqt 2 rfl (pur 2 rfl (Z3 ?_))))))
 obtain rfl : k = 1 := by omega
 exact rtA rfl rfl rfl ⟨rfl, rfl, rfl⟩ drp
abbrev Sta.v (s : Sta) : Value := .agg #[.int .i64 s.stock, .int .i64 s.short, .int .i64 s.dry]
abbrev twl (t : Twn) (sl : Value) : List Value := [.int .i64 t.now.stock, .int .i64 t.now.short, .int .i64 t.now.dry, .int .i64 t.holds, .int .i64 t.need, .int .i64 t.patience, .int .i64 t.run, .int .i64 t.good, .int .i64 t.bad, .int .i64 t.rot, sl]
abbrev Twn.v (t : Twn) (sl : Value) : Value := .agg (twl t sl).toArray
def Z23 (q : Rn) : List Value := [.int .i64 q.sacks, .int .i64 q.price]
def Zx (l : List Rn) : List (List Value) := l.map Z23
abbrev Twn.sl (t : Twn) (a : Option Addr) (c : Nat) : Value := .slice a t.rats.length c
theorem ZR {l : List Rn} {k : Nat} {q : Rn} (h : l[k]? = some q) : (Zx l)[k]? = some (Z23 q) := by simp [Zx, h]
theorem Z4B (t : Twn) (s : Sta) (sl : Value) (H : Za) (R : Z8) :
    FnV Try.prog 34 [t.v sl, s.v] H R (.bool (s.right t)) := by
 refine Zv Try.func34 rfl Try.ntmps34 rfl ?_
 refine sqt 3 rfl (bx rfl rfl rfl (fun b2 => bx rfl rfl rfl (fun b3 => pur 1 rfl (sqt 20 rfl (sp rfl (PE.fA Z07 rfl) rfl (spL rfl rfl (lh sc3 rfl rfl) rfl (sp rfl (PE.fA Z11 rfl) rfl (spL rfl rfl (lh sc3 rfl rfl) rfl ?_))))))))
 refine clV rfl Z0Y rfl rfl (Z45 _ _ _ _ _) ?_
 refine pur 1 rfl ?_
 refine Z0b 10 rfl ?_ ?_ <;> intro g10
 refine spG rfl rfl rfl rfl (PE.fA ZT rfl) rfl ?_
 refine Z0K rfl rfl rfl rfl rfl (lh sc3 rfl rfl) rfl ?_
 refine spG rfl rfl rfl rfl (PE.fA Z2q rfl) rfl ?_
 refine Z0K rfl rfl rfl rfl rfl (lh sc3 rfl rfl) rfl ?_
 refine Z1X rfl rfl rfl rfl Z0Y rfl rfl (Z45 _ _ _ _ _) ?_
 refine pur 2 rfl ?_
 refine Z0b 17 rfl ?_ ?_ <;> intro g17
 refine spG rfl rfl rfl rfl (PE.fA Z0i rfl) rfl ?_
 refine Z0K rfl rfl rfl rfl rfl (lh sc3 rfl rfl) rfl ?_
 refine spG rfl rfl rfl rfl (PE.fA Z2a rfl) rfl ?_
 refine Z0K rfl rfl rfl rfl rfl (lh sc3 rfl rfl) rfl ?_
 refine Z1X rfl rfl rfl rfl Z0Y rfl rfl (Z45 _ _ _ _ _) ?_
 refine pur 2 rfl (Z3 ?_)
 exact rtA rfl rfl rfl ⟨by simp_all only [ZF, Sta.right, Bool.true_and, Bool.false_and, cond_true, cond_false], rfl, rfl⟩ drp
 refine pur 7 rfl (Z3 ?_)
 exact rtA rfl rfl rfl ⟨by simp_all only [ZF, Sta.right, Bool.true_and, Bool.false_and, cond_true, cond_false], rfl, rfl⟩ drp
 refine pur 14 rfl (Z3 ?_)
 exact rtA rfl rfl rfl ⟨by simp_all only [ZF, Sta.right, Bool.true_and, Bool.false_and, cond_true, cond_false], rfl, rfl⟩ drp
theorem Z7V (t : Twn) (r : Int) (a : Option Addr) (c : Nat) (hl : t.rats.length ≤ 9223372036854775807) (H : Za) (R : Z8) :
    FnV Try.prog 41 [t.v (t.sl a c), .int .i64 r] H R (.bool (decide (0 ≤ r) && decide (r ≤ (t.rats.length : Int) - 1))) := by
 refine Zv Try.func41 rfl Try.ntmps41 rfl ?_
 refine sqt 2 rfl (bx rfl rfl rfl (fun b2 => pur 1 rfl (sqt 7 rfl (pur 1 rfl (sp rfl (PE.fA ZJ rfl) rfl (spL rfl rfl (lh Z0Z rfl rfl) rfl (sp rfl (PE.lenSl Z2L rfl) rfl (sp rfl (PE.sub rfl rfl (by omega)) rfl ?_))))))))
 refine clV rfl Z0Y rfl rfl (Z45 _ _ _ _ _) ?_
 refine pur 1 rfl (Z3 ?_)
 exact rtA rfl rfl rfl ⟨rfl, rfl, rfl⟩ drp
theorem Z9D {l : List Rn} {r : Int} {q : Rn} (h0 : 0 ≤ r) (h : l[r.toNat]? = some q) : r < l.length := by
  have := (List.getElem?_eq_some_iff.1 h).1; omega
theorem Z4z (t : Twn) (r : Int) (q : Rn) (b off c : Nat) (h0 : 0 ≤ r) (hq : t.rats[r.toNat]? = some q) (H : Za) (R : Z8) [hR : MemRows (some ⟨b, off, none⟩) 2 (Zx t.rats) R] :
    FnV Try.prog 69 [t.v (t.sl (some ⟨b, off, none⟩) c), .int .i64 r] H R (.bool (decide (q.sacks < t.need))) := by
 have hr := Z9D h0 hq
 refine Zv Try.func69 rfl Try.ntmps69 rfl ?_
 refine sqt 2 rfl (bx rfl rfl rfl (fun b2 => pur 1 rfl (Z0 ?_)))
 refine Z9 [0, 1, 0, 7, 15, 31, 0, 64, 255, 511] (.tk 0 (.ld 1 (tks 2 3 (.ld 5 (.tk 6 (.ld 7 (.tk 8 (.tk 9 .done)))))))) Zw (by kernel_rfl) ?_
 refine tk rfl (PE.fA ZJ rfl) rfl (ld rfl rfl (lh Z0Z rfl rfl) rfl (Zi 1 rfl (tk rfl (PE.indexAddr Z4E rfl rfl (by omega) (by omega)) rfl (tk rfl (PE.fA Z0p rfl) rfl (ld rfl rfl (lf sc3 (ZR hq) rfl) rfl (tk rfl (PE.fA Z12 rfl) rfl (ld rfl rfl (lh sc3 rfl rfl) rfl (Zi 2 rfl (Z3 ?_)))))))))
 exact rtA rfl rfl rfl ⟨rfl, rfl, rfl⟩ drp
theorem Z1E (t : Twn) (s : Sta) (r : Int) (q : Rn) (b off c : Nat) (h0 : 0 ≤ r) (hq : t.rats[r.toNat]? = some q) (H : Za) (R : Z8) [hR : MemRows (some ⟨b, off, none⟩) 2 (Zx t.rats) R] :
    FnV Try.prog 42 [t.v (t.sl (some ⟨b, off, none⟩) c), s.v, .int .i64 r] H R (.bool (t.can s q)) := by
 have hr := Z9D h0 hq
 refine Zv Try.func42 rfl Try.ntmps42 rfl ?_
 refine sqt 3 rfl (bx rfl rfl rfl (fun b3 => bx rfl rfl rfl (fun b4 => pur 1 rfl (Z0 ?_))))
 refine Z9 [0, 1, 0, 7, 15, 31, 0, 64, 255, 511, 1023, 1023, 4095, 8191, 16383, 32767, 65535, 32767, 163839, 524287, 1048575, 2097151, 4194303] (.tk 0 (.ld 1 (tks 2 3 (.ld 5 (.tk 6 (.ld 7 (.tk 8 (.tk 9 (.ld 10 (.tk 11 (.big 12 (tks 13 3 (.ld 16 (.tk 17 (.ld 18 (tks 19 4 .done)))))))))))))))) Zw (by kernel_rfl) ?_
 refine tk rfl (PE.fA ZJ rfl) rfl (ld rfl rfl (lh Z0Z rfl rfl) rfl (Zi 1 rfl (tk rfl (PE.indexAddr Z4E rfl rfl (by omega) (by omega)) rfl (tk rfl (PE.fA Z0p rfl) rfl (ld rfl rfl (lf sc3 (ZR hq) rfl) rfl (tk rfl (PE.fA Z07 rfl) rfl (ld rfl rfl (lh sc3 rfl rfl) rfl (Zi 2 rfl ?_))))))))
 refine Z0b 16 rfl ?_ ?_ <;> intro g16
 try simp only [cS] at g16
 refine ldG rfl rfl rfl rfl rfl (lhA [_, _, _, _, _, _, _, _, _, _, _] ZZ rfl rfl rfl) rfl (Zi 1 rfl ?_)
 refine Z1X rfl rfl rfl rfl Z8R rfl rfl (Z4z t r q b off c h0 hq _ _) ?_
 refine bgT (Zi 2 rfl ?_)
 refine Z0b 21 rfl ?_ ?_ <;> intro g21
 try simp only [cS] at g21
 refine Zi 1 rfl ?_
 refine ldN rfl rfl rfl rfl rfl rfl rfl rfl ?_
 refine Zi 1 rfl ?_
 refine ldN rfl rfl rfl rfl rfl rfl rfl rfl ?_
 refine Zi 4 rfl (Z3 ?_)
 exact rtA rfl rfl rfl ⟨by simp_all [ZF, Twn.can] <;> omega, rfl, rfl⟩ drp
 try simp only [cS] at g21
 refine tkG rfl rfl rfl rfl (PE.fA ZT rfl) rfl ?_
 refine ldG rfl rfl rfl rfl rfl (lh sc3 rfl rfl) rfl ?_
 refine tkG rfl rfl rfl rfl (PE.fA Z2q rfl) rfl ?_
 refine ldG rfl rfl rfl rfl rfl (lh sc3 rfl rfl) rfl (Zi 4 rfl (Z3 ?_))
 exact rtA rfl rfl rfl ⟨by simp_all [ZF, Twn.can] <;> omega, rfl, rfl⟩ drp
 try simp only [cS] at g16
 refine ldN rfl rfl rfl rfl rfl rfl rfl rfl ?_
 refine Zi 1 rfl ?_
 refine spN rfl rfl rfl rfl rfl rfl rfl rfl ?_
 refine bgT (Zi 2 rfl ?_)
 refine tkU rfl rfl rfl rfl rfl rfl rfl ?_
 refine ldU rfl rfl rfl rfl rfl rfl rfl ?_
 refine tkU rfl rfl rfl rfl rfl rfl rfl ?_
 refine ldU rfl rfl rfl rfl rfl rfl rfl ?_
 refine tkU rfl rfl rfl rfl rfl rfl rfl ?_
 refine Zi 3 rfl (Z3 ?_)
 exact rtA rfl rfl rfl ⟨by simp_all [ZF, Twn.can] <;> omega, rfl, rfl⟩ drp
theorem Z2N (t : Twn) (ht : t.ok) (s : Sta) (hs : s.right t = true) (r : Int) (q : Rn) (bad : Bool) (b off c : Nat) (h0 : 0 ≤ r) (hq : t.rats[r.toNat]? = some q) (hc : q.sacks ≤ s.stock) (H : Za) (R : Z8) [hR : MemRows (some ⟨b, off, none⟩) 2 (Zx t.rats) R] :
    FnV Try.prog 47 [t.v (t.sl (some ⟨b, off, none⟩) c), s.v, .int .i64 r, .bool bad] H R (t.next s q bad).v := by
 have hr := Z9D h0 hq
 have hq1 := ht.rats q (List.mem_of_getElem? hq)
 have hs1 := right_iff.1 hs
 have h1 := ht.holds
 have h2 := ht.good
 have h3 := ht.bad
 have h4 := ht.run
 have h5 := ht.patience
 have h6 := Z6N (x := s.stock - q.sacks) (r := t.rot) (by omega) (by omega) ht.rot.1 ht.rot.2
 refine Zv Try.func47 rfl Try.ntmps47 rfl ?_
 refine sqt 3 rfl (bx rfl rfl rfl (fun b4 => bx rfl rfl rfl (fun b5 => alc rfl Z37 rfl (fun b8 => Z0 ?_))))
 refine Z9 [0, 1, 0, 4, 0, 28, 60, 124, 255, 511] (.tk 0 (.ld 1 (.tk 2 (.ld 3 (tks 4 3 (.ld 7 (.tk 8 (.tk 9 .done)))))))) Zw (by kernel_rfl) ?_
 refine tk rfl (PE.fA Z07 rfl) rfl (ld rfl rfl (lh sc3 rfl rfl) rfl (tk rfl (PE.fA ZJ rfl) rfl (ld rfl rfl (lh Z0Z rfl rfl) rfl (Zi 1 rfl (tk rfl (PE.indexAddr Z4E rfl rfl (by omega) (by omega)) rfl (tk rfl (PE.fA Z0p rfl) rfl (ld rfl rfl (lf sc3 (ZR hq) rfl) rfl (tk rfl (PE.sub rfl rfl (by omega)) rfl (Zi 1 rfl (sqt 9 rfl (pur 2 rfl (sp rfl (PE.fA Z5n rfl) rfl (spL rfl rfl (lh sc3 rfl rfl) rfl (sp rfl (PE.mul rfl rfl (by omega)) rfl (sp rfl (PE.add rfl rfl (by omega)) rfl ?_)))))))))))))))
 refine sp rfl (PE.quo rfl rfl (by omega)) rfl (sp rfl (PE.sub rfl rfl (by omega)) rfl (pur 1 rfl (sqt 11 rfl (sp rfl (PE.fA Z11 rfl) rfl (spL rfl rfl (lh sc3 rfl rfl) rfl (pur 1 rfl (sp rfl (PE.fA Z3f rfl) rfl (spL rfl rfl (lh sc3 rfl rfl) rfl (sp rfl (PE.add rfl rfl (by omega)) rfl ?_)))))))))
 refine bsl (out := [_]) rfl Z8p zl3 rfl rfl rfl rfl rfl rfl (fun b34 => ?_)
 refine Sy.heap (fun w h => St.rows (sz := 1) (rows := [[.int .i64 _]]) (rest := []) h (by simp)) ?_
 refine clV rfl Z95 rfl rfl (Z3P _ _ _ _ _ _) ?_
 refine sp rfl (PE.build (out := [_, _, _]) Z8q Z37 rfl rfl) rfl (alc rfl Z37 rfl (fun b10 => ?_))
 refine sto rfl rfl rfl Z2n rfl rfl rfl rfl ?_
 refine Z0 (sqt 1 rfl (pur 1 rfl ?_))
 refine Z4 rfl ?_ ?_ <;> intro hc0
 subst hc0
 refine Z9 [0, 1, 0, 0, 8, 28, 60, 127, 0, 256, 768, 2047, 4095] (.tk 0 (.ld 1 (.tk 2 (.tk 3 (.ld 4 (.tk 5 (.tk 8 (.ld 9 (.tk 10 (.big 6 (.big 7 (.tk 11 (.big 12 .done))))))))))))) Zw (by kernel_rfl) ?_
 refine tk rfl (PE.fA Z11 rfl) rfl (ld rfl rfl (lh sc3 rfl rfl) rfl (Zi 1 rfl (tk rfl (PE.fA Z3h rfl) rfl (ld rfl rfl (lh sc3 rfl rfl) rfl (tk rfl (PE.add rfl rfl (by omega)) rfl (tk rfl (PE.fA Z0i rfl) rfl (ld rfl rfl (lh sc3 rfl rfl) rfl (tk rfl (PE.add rfl rfl (by omega)) rfl ?_))))))))
 refine bsl (out := [_]) rfl Z8p zl3 rfl rfl rfl rfl rfl rfl (fun b44 => ?_)
 refine bg (fun w hs => ⟨(lh sc3 rfl rfl) w hs, trivial, (lh sc3 rfl rfl) w hs, trivial⟩) ?_
 refine Sy.heap (fun w h => St.rows (sz := 1) (rows := [[.int .i64 _]]) (rest := []) h (by simp)) ?_
 refine clV rfl Z95 rfl rfl (Z3P _ _ _ _ _ _) ?_
 refine bg (fun w hs => ⟨(lh sc3 rfl rfl) w hs, trivial, trivial⟩) ?_
 refine tk rfl (PE.build (out := [_, _, _]) Z8q Z37 rfl rfl) rfl ?_
 refine sto rfl rfl rfl Z2n rfl rfl rfl rfl ?_
 refine bgT (Z0 (sqt 3 rfl (spL rfl rfl (lhA [_, _, _, _, _, _, _, _, _, _, _] ZZ rfl rfl rfl) rfl (pur 1 rfl ?_))))
 refine clV rfl Z8R rfl rfl (Z4z t r q b off c h0 hq _ _) ?_
 refine Z4 rfl ?_ ?_ <;> intro hc1
 refine sqr 5 rfl (sp rfl (PE.fA ZT rfl) rfl (spL rfl rfl (lh sc3 rfl rfl) rfl (sp rfl (PE.add rfl rfl (by omega)) rfl (sp rfl (PE.fA ZT rfl) rfl ?_))))
 refine sto rfl rfl rfl cn3 rfl rfl rfl rfl ?_
 refine sqt 2 rfl (spL rfl rfl (lhA [_, _, _] ZG rfl rfl rfl) rfl ?_)
 refine sto rfl rfl rfl Z2n rfl rfl rfl rfl ?_
 refine Z3 ?_
 exact Z5 (vs := [_]) rfl (.cons (RV.cell rfl (lhA [_, _, _] ZG rfl rfl rfl)) .nil) rfl ⟨by simp only [ZF, Twn.next, Z0t, hc1, cond_true, cond_false], rfl, rfl⟩ drp
 refine Z2 (sqt 2 rfl (spL rfl rfl (lhA [_, _, _] ZG rfl rfl rfl) rfl ?_))
 refine sto rfl rfl rfl Z2n rfl rfl rfl rfl ?_
 refine Z3 ?_
 exact Z5 (vs := [_]) rfl (.cons (RV.cell rfl (lhA [_, _, _] ZG rfl rfl rfl)) .nil) rfl ⟨by simp only [ZF, Twn.next, Z0t, hc1, cond_true, cond_false], rfl, rfl⟩ drp
 subst hc0
 refine Z2 (Z0 (sqt 3 rfl (spL rfl rfl (lhA [_, _, _, _, _, _, _, _, _, _, _] ZZ rfl rfl rfl) rfl (pur 1 rfl ?_))))
 refine clV rfl Z8R rfl rfl (Z4z t r q b off c h0 hq _ _) ?_
 refine Z4 rfl ?_ ?_ <;> intro hc1
 refine sqr 5 rfl (sp rfl (PE.fA ZT rfl) rfl (spL rfl rfl (lh sc3 rfl rfl) rfl (sp rfl (PE.add rfl rfl (by omega)) rfl (sp rfl (PE.fA ZT rfl) rfl ?_))))
 refine sto rfl rfl rfl cn3 rfl rfl rfl rfl ?_
 refine sqt 2 rfl (spL rfl rfl (lhA [_, _, _] ZG rfl rfl rfl) rfl ?_)
 refine sto rfl rfl rfl Z2n rfl rfl rfl rfl ?_
 refine Z3 ?_
 exact Z5 (vs := [_]) rfl (.cons (RV.cell rfl (lhA [_, _, _] ZG rfl rfl rfl)) .nil) rfl ⟨by simp only [ZF, Twn.next, Z0t, hc1, cond_true, cond_false], rfl, rfl⟩ drp
 refine Z2 (sqt 2 rfl (spL rfl rfl (lhA [_, _, _] ZG rfl rfl rfl) rfl ?_))
 refine sto rfl rfl rfl Z2n rfl rfl rfl rfl ?_
 refine Z3 ?_
 exact Z5 (vs := [_]) rfl (.cons (RV.cell rfl (lhA [_, _, _] ZG rfl rfl rfl)) .nil) rfl ⟨by simp only [ZF, Twn.next, Z0t, hc1, cond_true, cond_false], rfl, rfl⟩ drp
theorem Z4I : Z5M Try.prog 77 = some 2 := by kernel_rfl
theorem Z9Z : cal Try.prog 32 = true := by kernel_rfl
theorem Zax : cal Try.prog 33 = true := by kernel_rfl
theorem Z93 : cal Try.prog 34 = true := by kernel_rfl
theorem Zas : cal Try.prog 35 = true := by kernel_rfl
theorem Zam : cal Try.prog 36 = true := by kernel_rfl
theorem ZaJ : cal Try.prog 64 = true := by kernel_rfl
theorem ZaY : cal Try.prog 65 = true := by kernel_rfl
theorem ZaH : cal Try.prog 66 = true := by kernel_rfl
theorem ZaF : cal Try.prog 67 = true := by kernel_rfl
theorem ZaG : cal Try.prog 82 = true := by kernel_rfl
theorem ZaK : cal Try.prog 83 = true := by kernel_rfl
theorem Z9n : Z0E Try.prog 77 = some 2 := by kernel_rfl
theorem Z0d : Z1j Try.prog 27 0 = some 0 := by kernel_rfl
theorem Z4k : Z1j Try.prog 77 1 = some 1 := by kernel_rfl
theorem ZaU : Z2m Try.prog 102 = true := by kernel_rfl
theorem Zbq : Z2m Try.prog 52 = true := by kernel_rfl
theorem Z7a : Z08 Try.prog 77 = some ([.int .i64 0, .int .i64 0]) := by kernel_rfl
abbrev Z0m (l : List Int) : List (List Value) := l.map fun z => [.int .i64 z]
theorem Z18 {α : Type} {xs : List α} {p : α → Bool} {k : Nat} {x : α} (hx : xs[k]? = some x) (hn : ∀ y ∈ xs.take k, p y = false) (h : p x = true) : xs.findIdx? p = some k := by
  induction xs generalizing k with
  | nil => simp at hx
  | cons y ys ih =>
    cases k with
    | zero => simp only [List.getElem?_cons_zero, Option.some.injEq] at hx; subst hx; simp [List.findIdx?_cons, h]
    | succ k =>
      have hy := hn y (by simp)
      have := ih (by simpa using hx) (fun z hz => hn z (by simp [hz]))
      simp [List.findIdx?_cons, hy, this]
theorem Z0I {α : Type} {xs : List α} {p : α → Bool} (hn : ∀ y ∈ xs, p y = false) : xs.findIdx? p = none := by
  rw [List.findIdx?_eq_none_iff]; exact hn
theorem Z2y {α : Type} {xs : List α} {p : α → Bool} {k : Nat} {x : α} (hx : xs[k]? = some x) (hn : ∀ y ∈ xs.take k, p y = false) (h : p x = false) : ∀ y ∈ xs.take (k + 1), p y = false := by
  intro y hy
  rw [List.take_add_one, hx] at hy
  rcases List.mem_append.1 hy with h1 | h1
  · exact hn y h1
  · simp only [Option.toList_some, List.mem_singleton] at h1; subst h1; exact h
theorem Z4Q {α : Type} (xs : List α) (p : α → Bool) : Value.bool (decide (0 ≤ (match xs.findIdx? p with | some k => (k : Int) | none => -1))) = .bool (xs.any p) := by
  congr 1
  cases h : xs.findIdx? p with
  | none =>
    have := List.findIdx?_eq_none_iff.1 h
    have h2 : xs.any p = false := by simpa using this
    rw [h2]; rfl
  | some k =>
    have h2 : xs.any p = true := by
      rw [← Bool.not_eq_false]; intro h3
      have : xs.findIdx? p = none := List.findIdx?_eq_none_iff.2 (by simpa using h3)
      rw [this] at h; cases h
    rw [h2]; simp
theorem Z1t {α : Type} (xs : List α) (p : α → Bool) : Value.bool (!xs.any fun x => !p x) = .bool (xs.all p) := by
  congr 1
  induction xs with
  | nil => rfl
  | cons x xs ih => simp [← ih]
theorem Z74 (xs : List Int) (a : Option Addr) (c g : Nat) (fst cap : List Value) (p : Int → Bool) (hg : cal Try.prog g = true) (hl : xs.length ≤ 9223372036854775807) (H : Za) (R : Z8) [hR : MemRows a 1 (Z0m xs) R] (hp : ∀ x, x ∈ xs → FnV Try.prog g (fst ++ [.int .i64 x] ++ cap) H R (.bool (p x))) :
    FnV Try.prog 82 [.slice a xs.length c, .func (.func g) fst.toArray cap.toArray] H R (.int .i64 (match xs.findIdx? p with | some k => (k : Int) | none => -1)) := by
 refine Zv Try.func82 rfl Try.ntmps82 rfl ?_
 refine sqt 1 rfl (pur 1 rfl (Z0 (sqt 3 rfl (pur 1 rfl (sp rfl (PE.lenSl Z3X rfl) rfl (pur 1 rfl (Z7 ?_)))))))
 refine Zy (ι := {k : Nat // k ≤ xs.length ∧ ∀ x ∈ xs.take k, p x = false}) (fun k => ⟨[(0, .slice a xs.length c), (1, .func (.func g) fst.toArray cap.toArray), (7, .int .i64 xs.length), (8, .int .i64 k.1)], H, R⟩) (fun k => xs.length - k.1) ⟨0, by simp⟩ ?_ (fun k => ?_)
 exact Z05 idH
 obtain ⟨k, hk, hn⟩ := k
 dsimp only
 refine sqt 1 rfl (pur 1 rfl (Z0 ?_))
 refine Z4 rfl ?_ ?_ <;> intro hc0
 simp only [cS] at hc0
 obtain ⟨x, hx⟩ : ∃ x, xs[k]? = some x := ⟨_, List.getElem?_eq_getElem (by omega)⟩
 have hxm := List.mem_of_getElem? hx
 refine Z00 (a := a) (sz := 1) (rows := Z0m xs) (by cases xs <;> simp_all [Z0m]) (fun b off he => ?_)
 subst he
 refine Z2 (Z0 (Z7 (sqt 2 rfl (pur 2 rfl (sqt 6 rfl (pur 3 rfl (sp rfl (PE.indexAddr Z87 rfl rfl (by omega) (by omega)) rfl (spL rfl rfl (lf0 sc3 (by simp [Z0m, hx]; rfl) rfl) rfl ?_))))))))
 refine Z8m rfl rfl (hg) rfl rfl (hp x hxm) ?_
 refine Z4 rfl ?_ ?_ <;> intro hc1
 refine sqt 2 rfl (pur 2 rfl (Z3 ?_))
 first | (exact rtA rfl rfl rfl ⟨by rw [Z18 hx hn hc1]; rfl, rfl, rfl⟩ idH) | (exact rtA rfl rfl rfl ⟨by rw [Z0I (by simpa using hn)]; rfl, rfl, rfl⟩ idH)
 refine Z2 (sqr 2 rfl (sp rfl (PE.add rfl rfl (by omega)) rfl (pur 1 rfl ?_)))
 exact Z0z ⟨k + 1, by omega, Z2y hx hn hc1⟩ idH
 simp only [cS] at hc0
 obtain rfl : k = xs.length := by omega
 refine Zm (Zt (Zt (ZU (sqt 1 rfl (pur 1 rfl (Z3 ?_))))))
 first | (exact rtA rfl rfl rfl ⟨by rw [Z18 hx hn hc1]; rfl, rfl, rfl⟩ idH) | (exact rtA rfl rfl rfl ⟨by rw [Z0I (by simpa using hn)]; rfl, rfl, rfl⟩ idH)
theorem Z6O (xs : List Int) (a : Option Addr) (c g : Nat) (fst cap : List Value) (p : Int → Bool) (hg : cal Try.prog g = true) (hl : xs.length ≤ 9223372036854775807) (H : Za) (R : Z8) [hR : MemRows a 1 (Z0m xs) R] (hp : ∀ x, x ∈ xs → FnV Try.prog g (fst ++ [.int .i64 x] ++ cap) H R (.bool (p x))) :
    FnV Try.prog 64 [.slice a xs.length c, .func (.func g) fst.toArray cap.toArray] H R (.bool (xs.any p)) := by
 refine Zv Try.func64 rfl Try.ntmps64 rfl ?_
 refine sqt 1 rfl (pur 1 rfl (sqt 5 rfl (pur 2 rfl ?_)))
 refine clV rfl ZaG rfl rfl (Z74 xs a c g fst cap p hg hl _ _ hp) ?_
 refine pur 2 rfl (Z3 ?_)
 exact rtA rfl rfl rfl ⟨by simp only [ZF]; exact Z4Q _ _, rfl, rfl⟩ drp
theorem Z6f (x : Int) (g bf : Nat) (fst cap : List Value) (p : Bool) (hg : cal Try.prog g = true) (H : Za) (R : Z8) [hM : Mem1 bf (cel 52 [.func (.func g) fst.toArray cap.toArray]) H] (hp : FnV Try.prog g (fst ++ [.int .i64 x] ++ cap) H R (.bool p)) :
    FnV Try.prog 65 [.int .i64 x, .pointer (some ⟨bf, 0, none⟩)] H R (.bool !p) := by
 refine Zv Try.func65 rfl Try.ntmps65 rfl ?_
 refine sqt 1 rfl (pur 1 rfl (sqt 5 rfl (spL rfl rfl (lh Zbq rfl rfl) rfl (pur 1 rfl ?_))))
 refine Z8m rfl rfl (hg) rfl rfl (hp) ?_
 refine pur 2 rfl (Z3 ?_)
 exact rtA rfl rfl rfl ⟨rfl, rfl, rfl⟩ drp
theorem Z2s (xs : List Int) (a : Option Addr) (c g : Nat) (fst cap : List Value) (p : Int → Bool) (hg : cal Try.prog g = true) (hl : xs.length ≤ 9223372036854775807) (H : Za) (R : Z8) [hR : MemRows a 1 (Z0m xs) R] (hp : ∀ b x, x ∈ xs → FnV Try.prog g (fst ++ [.int .i64 x] ++ cap) ((b, cel 52 [.func (.func g) fst.toArray cap.toArray]) :: H) R (.bool (p x))) :
    FnV Try.prog 32 [.slice a xs.length c, .func (.func g) fst.toArray cap.toArray] H R (.bool (xs.all p)) := by
 refine Zv Try.func32 rfl Try.ntmps32 rfl ?_
 refine sqt 2 rfl (bx rfl rfl rfl (fun b3 => pur 1 rfl (sqt 5 rfl (pur 1 rfl (sp rfl (PE.makeFunc rfl rfl) rfl ?_)))))
 refine clV rfl ZaJ rfl rfl (Z6O xs a c 65 [] [_] (fun x => !p x) ZaY hl _ _ (hp := fun x hx => Z6f x g _ fst cap (p x) hg _ _ (hp := hp _ x hx))) ?_
 refine pur 2 rfl (Z3 ?_)
 exact rtA rfl rfl rfl ⟨by simp only [ZF]; rw [Z1t], rfl, rfl⟩ drp
theorem Z65 (xs : List Rn) (a : Option Addr) (c g : Nat) (fst cap : List Value) (p : Rn → Bool) (hg : cal Try.prog g = true) (hl : xs.length ≤ 9223372036854775807) (H : Za) (R : Z8) [hR : MemRows a 2 (Zx xs) R] (hp : ∀ x, x ∈ xs → FnV Try.prog g (fst ++ [.agg (Z23 x).toArray] ++ cap) H R (.bool (p x))) :
    FnV Try.prog 83 [.slice a xs.length c, .func (.func g) fst.toArray cap.toArray] H R (.int .i64 (match xs.findIdx? p with | some k => (k : Int) | none => -1)) := by
 refine Zv Try.func83 rfl Try.ntmps83 rfl ?_
 refine sqt 1 rfl (pur 1 rfl (Z0 (sqt 3 rfl (pur 1 rfl (sp rfl (PE.lenSl Z2L rfl) rfl (pur 1 rfl (Z7 ?_)))))))
 refine Zy (ι := {k : Nat // k ≤ xs.length ∧ ∀ x ∈ xs.take k, p x = false}) (fun k => ⟨[(0, .slice a xs.length c), (1, .func (.func g) fst.toArray cap.toArray), (7, .int .i64 xs.length), (8, .int .i64 k.1)], H, R⟩) (fun k => xs.length - k.1) ⟨0, by simp⟩ ?_ (fun k => ?_)
 exact Z05 idH
 obtain ⟨k, hk, hn⟩ := k
 dsimp only
 refine sqt 1 rfl (pur 1 rfl (Z0 ?_))
 refine Z4 rfl ?_ ?_ <;> intro hc0
 simp only [cS] at hc0
 obtain ⟨x, hx⟩ : ∃ x, xs[k]? = some x := ⟨_, List.getElem?_eq_getElem (by omega)⟩
 have hxm := List.mem_of_getElem? hx
 refine Z00 (a := a) (sz := 2) (rows := Zx xs) (by cases xs <;> simp_all [Zx]) (fun b off he => ?_)
 subst he
 refine Z2 (Z0 (Z7 (sqt 2 rfl (pur 2 rfl (sqt 6 rfl (pur 3 rfl (sp rfl (PE.indexAddr Z4E rfl rfl (by omega) (by omega)) rfl (spL rfl rfl (lfA Z4I (row := Z23 x) (by simp [Zx, hx]) rfl) rfl ?_))))))))
 refine Z8m rfl rfl (hg) rfl rfl (hp x hxm) ?_
 refine Z4 rfl ?_ ?_ <;> intro hc1
 refine sqt 2 rfl (pur 2 rfl (Z3 ?_))
 first | (exact rtA rfl rfl rfl ⟨by rw [Z18 hx hn hc1]; rfl, rfl, rfl⟩ idH) | (exact rtA rfl rfl rfl ⟨by rw [Z0I (by simpa using hn)]; rfl, rfl, rfl⟩ idH)
 refine Z2 (sqr 2 rfl (sp rfl (PE.add rfl rfl (by omega)) rfl (pur 1 rfl ?_)))
 exact Z0z ⟨k + 1, by omega, Z2y hx hn hc1⟩ idH
 simp only [cS] at hc0
 obtain rfl : k = xs.length := by omega
 refine Zm (Zt (Zt (ZU (sqt 1 rfl (pur 1 rfl (Z3 ?_))))))
 first | (exact rtA rfl rfl rfl ⟨by rw [Z18 hx hn hc1]; rfl, rfl, rfl⟩ idH) | (exact rtA rfl rfl rfl ⟨by rw [Z0I (by simpa using hn)]; rfl, rfl, rfl⟩ idH)
theorem Z6o (xs : List Rn) (a : Option Addr) (c g : Nat) (fst cap : List Value) (p : Rn → Bool) (hg : cal Try.prog g = true) (hl : xs.length ≤ 9223372036854775807) (H : Za) (R : Z8) [hR : MemRows a 2 (Zx xs) R] (hp : ∀ x, x ∈ xs → FnV Try.prog g (fst ++ [.agg (Z23 x).toArray] ++ cap) H R (.bool (p x))) :
    FnV Try.prog 66 [.slice a xs.length c, .func (.func g) fst.toArray cap.toArray] H R (.bool (xs.any p)) := by
 refine Zv Try.func66 rfl Try.ntmps66 rfl ?_
 refine sqt 1 rfl (pur 1 rfl (sqt 5 rfl (pur 2 rfl ?_)))
 refine clV rfl ZaK rfl rfl (Z65 xs a c g fst cap p hg hl _ _ hp) ?_
 refine pur 2 rfl (Z3 ?_)
 exact rtA rfl rfl rfl ⟨by simp only [ZF]; exact Z4Q _ _, rfl, rfl⟩ drp
theorem Z61 (x : Rn) (g bf : Nat) (fst cap : List Value) (p : Bool) (hg : cal Try.prog g = true) (H : Za) (R : Z8) [hM : Mem1 bf (cel 102 [.func (.func g) fst.toArray cap.toArray]) H] (hp : ∀ b, FnV Try.prog g (fst ++ [.agg (Z23 x).toArray] ++ cap) ((b, cel 77 (Z23 x)) :: H) R (.bool p)) :
    FnV Try.prog 67 [.agg (Z23 x).toArray, .pointer (some ⟨bf, 0, none⟩)] H R (.bool !p) := by
 refine Zv Try.func67 rfl Try.ntmps67 rfl ?_
 refine sqt 2 rfl (bx rfl rfl rfl (fun b2 => pur 1 rfl (sqt 5 rfl (spL rfl rfl (lh ZaU rfl rfl) rfl (spL rfl rfl (lhA [_, _] Z4I rfl rfl rfl) rfl ?_)))))
 refine Z8m rfl rfl (hg) rfl rfl (hp _) ?_
 refine pur 2 rfl (Z3 ?_)
 exact rtA rfl rfl rfl ⟨rfl, rfl, rfl⟩ drp
theorem Z4N (xs : List Rn) (a : Option Addr) (c g : Nat) (fst cap : List Value) (p : Rn → Bool) (hg : cal Try.prog g = true) (hl : xs.length ≤ 9223372036854775807) (H : Za) (R : Z8) [hR : MemRows a 2 (Zx xs) R] (hp : ∀ b b2 x, x ∈ xs → FnV Try.prog g (fst ++ [.agg (Z23 x).toArray] ++ cap) ((b2, cel 77 (Z23 x)) :: (b, cel 102 [.func (.func g) fst.toArray cap.toArray]) :: H) R (.bool (p x))) :
    FnV Try.prog 35 [.slice a xs.length c, .func (.func g) fst.toArray cap.toArray] H R (.bool (xs.all p)) := by
 refine Zv Try.func35 rfl Try.ntmps35 rfl ?_
 refine sqt 2 rfl (bx rfl rfl rfl (fun b3 => pur 1 rfl (sqt 5 rfl (pur 1 rfl (sp rfl (PE.makeFunc rfl rfl) rfl ?_)))))
 refine clV rfl ZaH rfl rfl (Z6o xs a c 67 [] [_] (fun x => !p x) ZaF hl _ _ (hp := fun x hx => Z61 x g _ fst cap (p x) hg _ _ (hp := fun b => hp _ _ x hx))) ?_
 refine pur 2 rfl (Z3 ?_)
 exact rtA rfl rfl rfl ⟨by simp only [ZF]; rw [Z1t], rfl, rfl⟩ drp
theorem Z10 {l : List Rn} (h : ∀ i, i < l.length - 1 → Z0r l i = false) : (List.range l.length).any (Z0r l) = false := by
  rw [List.any_eq_false]
  intro i hi
  rw [Bool.not_eq_true]
  rcases Nat.lt_or_ge i (l.length - 1) with h1 | h1
  · exact h i h1
  · have : l[i + 1]? = none := List.getElem?_eq_none (by omega)
    unfold Z0r; rw [this]; split <;> simp_all
theorem Z0e {l : List Rn} {i : Nat} (hi : i < l.length) (h : Z0r l i = true) : (List.range l.length).any (Z0r l) = true := List.any_eq_true.2 ⟨i, List.mem_range.2 hi, h⟩
theorem Z9s (n : Int) (H : Za) (R : Z8) :
    FnV Try.prog 33 [.int .i64 n] H R (.bool (inb n 0 30)) := by
 refine Zv Try.func33 rfl Try.ntmps33 rfl ?_
 refine sqt 1 rfl (pur 1 rfl (sqt 3 rfl (pur 1 rfl ?_)))
 refine clV rfl Z0Y rfl rfl (Z45 _ _ _ _ _) ?_
 refine pur 1 rfl (Z3 ?_)
 exact rtA rfl rfl rfl ⟨rfl, rfl, rfl⟩ drp
theorem Z9p (q : Rn) (H : Za) (R : Z8) :
    FnV Try.prog 36 [.agg (Z23 q).toArray] H R (.bool (inb q.sacks 0 30 && inb q.price 0 100)) := by
 refine Zv Try.func36 rfl Try.ntmps36 rfl ?_
 refine sqt 2 rfl (bx rfl rfl rfl (fun b1 => pur 1 rfl (sqt 9 rfl (sp rfl (PE.fA Z0p rfl) rfl (spL rfl rfl (lh sc3 rfl rfl) rfl ?_)))))
 refine clV rfl Z0Y rfl rfl (Z45 _ _ _ _ _) ?_
 refine pur 1 rfl ?_
 refine Z0b 6 rfl ?_ ?_ <;> intro g6
 refine spG rfl rfl rfl rfl (PE.fA Z4k rfl) rfl ?_
 refine Z0K rfl rfl rfl rfl rfl (lh sc3 rfl rfl) rfl ?_
 refine Z1X rfl rfl rfl rfl Z0Y rfl rfl (Z45 _ _ _ _ _) ?_
 refine pur 2 rfl (Z3 ?_)
 exact rtA rfl rfl rfl ⟨by simp_all only [ZF, inb, Bool.true_and, Bool.false_and, cond_true, cond_false], rfl, rfl⟩ drp
 refine pur 5 rfl (Z3 ?_)
 exact rtA rfl rfl rfl ⟨by simp_all only [ZF, inb, Bool.true_and, Bool.false_and, cond_true, cond_false], rfl, rfl⟩ drp
theorem Z6W (t : Twn) (a : Option Addr) (c : Nat) (hl : t.rats.length ≤ 9223372036854775807) (H : Za) (R : Z8) [hR : MemRows a 2 (Zx t.rats) R] :
    FnV Try.prog 10 [t.v (t.sl a c)] H R (.int .i64 t.check) := by
 refine Zv Try.func10 rfl Try.ntmps10 rfl ?_
 refine sqt 2 rfl (bx rfl rfl rfl (fun b1 => pur 1 rfl (Z0 (Z7 (sqt 6 rfl (sp rfl (PE.fA ZJ rfl) rfl (spL rfl rfl (lh Z0Z rfl rfl) rfl (sp rfl (PE.lenSl Z2L rfl) rfl ?_))))))))
 refine clV rfl Z0Y rfl rfl (Z45 _ _ _ _ _) ?_
 refine pur 2 rfl ?_
 refine Z4 rfl ?_ ?_ <;> intro hc0
 refine sqt 1 rfl (pur 1 rfl (Z3 ?_))
 exact rtA rfl rfl rfl ⟨congrArg (Value.int .i64) (by first | (rw [hck, Z10 hn]; rfl) | (rw [hck, Z0e hk2 hbad]; rfl) | simp_all only [Twn.check, inb, cond_true, cond_false, Bool.not_true, Bool.not_false, Bool.not_eq_true', Bool.not_eq_false']), rfl, rfl⟩ drp
 ·
  refine sqt 12 rfl (sp rfl (PE.fA Z11 rfl) rfl (spL rfl rfl (lh sc3 rfl rfl) rfl (sp rfl (PE.fA Z12 rfl) rfl (spL rfl rfl (lh sc3 rfl rfl) rfl (sp rfl (PE.fA Z3f rfl) rfl (spL rfl rfl (lh sc3 rfl rfl) rfl (sp rfl (PE.fA Z3h rfl) rfl (spL rfl rfl (lh sc3 rfl rfl) rfl ?_))))))))
  refine bsl (out := [_, _, _, _]) rfl Z8p zl3 rfl rfl rfl rfl rfl rfl (fun b21 => ?_)
  refine Sy.heap (fun w h => St.rows (sz := 1) (rows := Z0m [t.holds, t.need, t.good, t.bad]) (rest := []) h (by simp)) ?_
  refine clV rfl Z9Z rfl rfl (Z2s [t.holds, t.need, t.good, t.bad] _ _ 33 [] [] (fun n => inb n 0 30) Zax (by simp) _ _ (fun _ x _ => Z9s x _ _)) ?_
  refine pur 2 rfl ?_
  refine Z4 rfl ?_ ?_ <;> intro hc1
  refine sqt 1 rfl (pur 1 rfl (Z3 ?_))
  exact rtA rfl rfl rfl ⟨congrArg (Value.int .i64) (by first | (rw [hck, Z10 hn]; rfl) | (rw [hck, Z0e hk2 hbad]; rfl) | simp_all only [Twn.check, inb, cond_true, cond_false, Bool.not_true, Bool.not_false, Bool.not_eq_true', Bool.not_eq_false']), rfl, rfl⟩ drp
  ·
   refine sqt 24 rfl (sp rfl (PE.fA Z2q rfl) rfl (spL rfl rfl (lh sc3 rfl rfl) rfl ?_))
   refine clV rfl Z0Y rfl rfl (Z45 _ _ _ _ _) ?_
   refine pur 2 rfl ?_
   refine Z0b 29 rfl ?_ ?_ <;> intro g29
   refine pur 19 rfl ?_
   refine Zp rfl ?_
   refine sqt 1 rfl (pur 1 rfl (Z3 ?_))
   exact rtA rfl rfl rfl ⟨congrArg (Value.int .i64) (by first | (rw [hck, Z10 hn]; rfl) | (rw [hck, Z0e hk2 hbad]; rfl) | simp_all only [Twn.check, inb, cond_true, cond_false, Bool.not_true, Bool.not_false, Bool.not_eq_true', Bool.not_eq_false']), rfl, rfl⟩ drp
   ·
    refine spG rfl rfl rfl rfl (PE.fA Z2a rfl) rfl ?_
    refine Z0K rfl rfl rfl rfl rfl (lh sc3 rfl rfl) rfl ?_
    refine Z1X rfl rfl rfl rfl Z0Y rfl rfl (Z45 _ _ _ _ _) ?_
    refine pur 3 rfl ?_
    refine Z0b 35 rfl ?_ ?_ <;> intro g35
    refine pur 13 rfl ?_
    refine Zp rfl ?_
    refine sqt 1 rfl (pur 1 rfl (Z3 ?_))
    exact rtA rfl rfl rfl ⟨congrArg (Value.int .i64) (by first | (rw [hck, Z10 hn]; rfl) | (rw [hck, Z0e hk2 hbad]; rfl) | simp_all only [Twn.check, inb, cond_true, cond_false, Bool.not_true, Bool.not_false, Bool.not_eq_true', Bool.not_eq_false']), rfl, rfl⟩ drp
    ·
     refine spG rfl rfl rfl rfl (PE.fA Z5n rfl) rfl ?_
     refine Z0K rfl rfl rfl rfl rfl (lh sc3 rfl rfl) rfl ?_
     refine Z1X rfl rfl rfl rfl Z0Y rfl rfl (Z45 _ _ _ _ _) ?_
     refine pur 3 rfl ?_
     refine Z0b 41 rfl ?_ ?_ <;> intro g41
     refine pur 7 rfl ?_
     refine Zp rfl ?_
     refine sqt 1 rfl (pur 1 rfl (Z3 ?_))
     exact rtA rfl rfl rfl ⟨congrArg (Value.int .i64) (by first | (rw [hck, Z10 hn]; rfl) | (rw [hck, Z0e hk2 hbad]; rfl) | simp_all only [Twn.check, inb, cond_true, cond_false, Bool.not_true, Bool.not_false, Bool.not_eq_true', Bool.not_eq_false']), rfl, rfl⟩ drp
     ·
      refine Z0K rfl rfl rfl rfl rfl (lhA [_, _, _, _, _, _, _, _, _, _, _] ZZ rfl rfl rfl) rfl ?_
      refine spG rfl rfl rfl rfl (PE.fA Z0d rfl) rfl ?_
      refine Z0K rfl rfl rfl rfl rfl (lhA [_, _, _] ZG rfl rfl rfl) rfl ?_
      refine Z1X rfl rfl rfl rfl Z93 rfl rfl (Z4B t t.now _ _ _) ?_
      refine pur 3 rfl ?_
      refine Z4 rfl ?_ ?_ <;> intro hc2
      refine sqt 1 rfl (pur 1 rfl (Z3 ?_))
      exact rtA rfl rfl rfl ⟨congrArg (Value.int .i64) (by first | (rw [hck, Z10 hn]; rfl) | (rw [hck, Z0e hk2 hbad]; rfl) | simp_all only [Twn.check, inb, cond_true, cond_false, Bool.not_true, Bool.not_false, Bool.not_eq_true', Bool.not_eq_false']), rfl, rfl⟩ drp
      ·
       refine sqt 5 rfl (sp rfl (PE.fA ZJ rfl) rfl (spL rfl rfl (lh Z0Z rfl rfl) rfl ?_))
       refine clV rfl Zas rfl rfl (Z4N t.rats a c 36 [] [] (fun q => inb q.sacks 0 30 && inb q.price 0 100) Zam hl _ _ (fun _ _ x _ => Z9p x _ _)) ?_
       refine pur 2 rfl ?_
       refine Z4 rfl ?_ ?_ <;> intro hc3
       refine sqt 1 rfl (pur 1 rfl (Z3 ?_))
       exact rtA rfl rfl rfl ⟨congrArg (Value.int .i64) (by first | (rw [hck, Z10 hn]; rfl) | (rw [hck, Z0e hk2 hbad]; rfl) | simp_all only [Twn.check, inb, cond_true, cond_false, Bool.not_true, Bool.not_false, Bool.not_eq_true', Bool.not_eq_false']), rfl, rfl⟩ drp
       ·
        refine sqt 6 rfl (sp rfl (PE.fA Z3h rfl) rfl (spL rfl rfl (lh sc3 rfl rfl) rfl (sp rfl (PE.fA Z3f rfl) rfl (spL rfl rfl (lh sc3 rfl rfl) rfl (pur 2 rfl ?_)))))
        refine Z4 rfl ?_ ?_ <;> intro hc4
        refine sqt 1 rfl (pur 1 rfl (Z3 ?_))
        exact rtA rfl rfl rfl ⟨congrArg (Value.int .i64) (by first | (rw [hck, Z10 hn]; rfl) | (rw [hck, Z0e hk2 hbad]; rfl) | simp_all only [Twn.check, inb, cond_true, cond_false, Bool.not_true, Bool.not_false, Bool.not_eq_true', Bool.not_eq_false']), rfl, rfl⟩ drp
        ·
         refine Z2 (Z0 (sqt 1 rfl (pur 1 rfl (Z7 ?_))))
         have hlen : 1 ≤ t.rats.length := by
           simp only [inb, decide_eq_true_eq, decide_eq_false_iff_not, Bool.and_eq_true, Bool.or_eq_true, Bool.not_eq_true', Int.not_le, Int.not_lt, Bool.not_eq_false'] at hc0
           omega
         have hck : t.check = bif (List.range t.rats.length).any (Z0r t.rats) then 4 else 0 := by simp_all only [Twn.check, inb, cond_true, cond_false, Bool.not_true, Bool.not_false, Bool.not_eq_true', Bool.not_eq_false']
         refine Zy (ι := {k : Nat // 1 ≤ k ∧ k ≤ t.rats.length ∧ ∀ i, i < k - 1 → Z0r t.rats i = false}) (fun k => ⟨[(1, .pointer (some ⟨b1, 0, none⟩)), (3, .int .i64 k.1)], (b1, cel 27 (twl t (t.sl a c))) :: H, R⟩) (fun k => t.rats.length - k.1) ⟨1, by simp; omega⟩ ?_ (fun k => ?_)
         exact Z05 (fun w h => by repeat first | exact h | replace h := St.ftail h)
         ·
          obtain ⟨k, hk1, hk2, hn⟩ := k
          dsimp only
          refine Z0 (sqt 5 rfl (pur 1 rfl (sp rfl (PE.fA ZJ rfl) rfl (spL rfl rfl (lh Z0Z rfl rfl) rfl (sp rfl (PE.lenSl Z2L rfl) rfl (pur 1 rfl ?_))))))
          refine Z4 rfl ?_ ?_ <;> intro hc5
          ·
           simp only [cS] at hc5
           obtain ⟨x, hx⟩ : ∃ x, t.rats[k - 1]? = some x := ⟨_, List.getElem?_eq_getElem (by omega)⟩
           obtain ⟨y, hy⟩ : ∃ y, t.rats[k]? = some y := ⟨_, List.getElem?_eq_getElem (by omega)⟩
           have e1 : ((k : Int) - 1).toNat = k - 1 := by omega
           have hba : Z0r t.rats (k - 1) = (decide (x.sacks ≤ y.sacks) || decide (y.price ≤ x.price)) := by unfold Z0r; rw [hx, show k - 1 + 1 = k from by omega, hy]
           refine Z00 (a := a) (sz := 2) (rows := Zx t.rats) (by intro h0; simp [Zx] at h0; simp [h0] at hx) (fun b off he => ?_)
           subst he
           refine Z2 (Z0 (Z7 (Z0 ?_)))
           refine Z5v (ι := Nat × Nat) (fun z => ⟨[(1, .pointer (some ⟨b1, 0, none⟩)), (3, .int .i64 k), (4, .pointer (some ⟨z.1, 0, none⟩)), (5, .pointer (some ⟨z.2, 0, none⟩))], (z.1, cel 77 (Z23 x)) :: (z.2, cel 77 (Z23 y)) :: (b1, cel 27 (twl t (t.sl (some ⟨b, off, none⟩) c))) :: H, R⟩) ?_ ?_
           ·
            refine Z9 [0, 1, 0, 4, 15, 31, 0, 64, 0, 448, 960, 0, 0, 6207, 16383] (.tk 0 (.ld 1 (tks 2 3 (.ld 5 (.tk 6 (.ld 7 (.tk 8 (.tk 9 (.ld 10 (.any (.alt 11 (.big 12 (.big 13 (.big 14 .done))) (.alt 12 (.big 11 (.big 13 (.big 14 .done))) .stop)))))))))))) Zw (by kernel_rfl) ?_
            refine tk rfl (PE.fA ZJ rfl) rfl (ld rfl rfl (lh Z0Z rfl rfl) rfl (Zi 1 rfl (tk rfl (PE.sub rfl rfl (by omega)) rfl (tk rfl (PE.indexAddr Z4E rfl rfl (by omega) (by omega)) rfl (ld rfl rfl (lfA Z4I (row := Z23 x) (by rw [e1]; exact ZR hx) rfl) rfl (tk rfl (PE.fA ZJ rfl) rfl (ld rfl rfl (lh Z0Z rfl rfl) rfl (Zi 1 rfl (tk rfl (PE.indexAddr Z4E rfl rfl (by omega) (by omega)) rfl (ld rfl rfl (lfA Z4I (row := Z23 y) (ZR hy) rfl) rfl ?_))))))))))
            refine Z8d ?_ ?_
            ·
             refine alc rfl Z7a rfl (fun b4 => ?_)
             refine bg (fun w hs => ⟨(lfA Z4I (row := Z23 y) (ZR hy) rfl) w hs, (lh Z0Z rfl rfl) w hs, (lfA Z4I (row := Z23 x) (by rw [e1]; exact ZR hx) rfl) w hs, (lh Z0Z rfl rfl) w hs, trivial⟩) ?_
             refine alc rfl Z7a rfl (fun b5 => ?_)
             refine bg (fun w hs => ⟨(lfA Z4I (row := Z23 y) (ZR hy) rfl) w hs, (lh Z0Z rfl rfl) w hs, (lfA Z4I (row := Z23 x) (by rw [e1]; exact ZR hx) rfl) w hs, (lh Z0Z rfl rfl) w hs, trivial⟩) ?_
             refine sto rfl rfl rfl Z9n rfl rfl rfl rfl ?_
             refine bg (fun w hs => ⟨(lfA Z4I (row := Z23 y) (ZR hy) rfl) w hs, (lh Z0Z rfl rfl) w hs, trivial, trivial, trivial⟩) ?_
             refine sto rfl rfl rfl Z9n rfl rfl rfl rfl ?_
             refine bgT ?_
             exact Z3e (b4, b5) (fun w h => by first | exact h | exact h.perm (.swap _ _ _))
            refine Z8d ?_ ?_
            ·
             refine alc rfl Z7a rfl (fun b5 => ?_)
             refine bg (fun w hs => ⟨(lfA Z4I (row := Z23 y) (ZR hy) rfl) w hs, (lh Z0Z rfl rfl) w hs, (lfA Z4I (row := Z23 x) (by rw [e1]; exact ZR hx) rfl) w hs, (lh Z0Z rfl rfl) w hs, trivial⟩) ?_
             refine alc rfl Z7a rfl (fun b4 => ?_)
             refine bg (fun w hs => ⟨(lfA Z4I (row := Z23 y) (ZR hy) rfl) w hs, (lh Z0Z rfl rfl) w hs, (lfA Z4I (row := Z23 x) (by rw [e1]; exact ZR hx) rfl) w hs, (lh Z0Z rfl rfl) w hs, trivial⟩) ?_
             refine sto rfl rfl rfl Z9n rfl rfl rfl rfl ?_
             refine bg (fun w hs => ⟨(lfA Z4I (row := Z23 y) (ZR hy) rfl) w hs, (lh Z0Z rfl rfl) w hs, trivial, trivial, trivial⟩) ?_
             refine sto rfl rfl rfl Z9n rfl rfl rfl rfl ?_
             refine bgT ?_
             exact Z3e (b4, b5) (fun w h => by first | exact h | exact h.perm (.swap _ _ _))
            exact Z8P
           rintro ⟨b4, b5⟩
           dsimp only
           refine sqt 12 rfl (sp rfl (PE.fA Z0p rfl) rfl (spL rfl rfl (lh sc3 rfl rfl) rfl (sp rfl (PE.fA Z0p rfl) rfl (spL rfl rfl (lh sc3 rfl rfl) rfl (pur 2 rfl ?_)))))
           refine Z0b 82 rfl ?_ ?_ <;> intro g82
           have hbad : Z0r t.rats (k - 1) = true := by rw [hba, g82]; rfl
           replace hk2 : k - 1 < t.rats.length := by omega
           refine pur 6 rfl ?_
           refine Zp rfl ?_
           refine sqt 1 rfl (pur 1 rfl (Z3 ?_))
           exact rtA rfl rfl rfl ⟨congrArg (Value.int .i64) (by first | (rw [hck, Z10 hn]; rfl) | (rw [hck, Z0e hk2 hbad]; rfl) | simp_all only [Twn.check, inb, cond_true, cond_false, Bool.not_true, Bool.not_false, Bool.not_eq_true', Bool.not_eq_false']), rfl, rfl⟩ drp
           refine spG rfl rfl rfl rfl (PE.fA Z4k rfl) rfl ?_
           refine Z0K rfl rfl rfl rfl rfl (lh sc3 rfl rfl) rfl ?_
           refine spG rfl rfl rfl rfl (PE.fA Z4k rfl) rfl ?_
           refine Z0K rfl rfl rfl rfl rfl (lh sc3 rfl rfl) rfl (pur 2 rfl ?_)
           refine Z4 rfl ?_ ?_ <;> intro hc6
           have hbad : Z0r t.rats (k - 1) = true := by rw [hba, g82]; exact hc6
           replace hk2 : k - 1 < t.rats.length := by omega
           refine sqt 1 rfl (pur 1 rfl (Z3 ?_))
           exact rtA rfl rfl rfl ⟨congrArg (Value.int .i64) (by first | (rw [hck, Z10 hn]; rfl) | (rw [hck, Z0e hk2 hbad]; rfl) | simp_all only [Twn.check, inb, cond_true, cond_false, Bool.not_true, Bool.not_false, Bool.not_eq_true', Bool.not_eq_false']), rfl, rfl⟩ drp
           refine Z2 (sqr 3 rfl (pur 1 rfl (sp rfl (PE.add rfl rfl (by omega)) rfl (pur 1 rfl ?_))))
           exact Zc ⟨k + 1, by omega, by omega, fun i hi => by
             rcases Nat.lt_or_ge i (k - 1) with h1 | h1
             · exact hn i h1
             · obtain rfl : i = k - 1 := by omega
               rw [hba, g82]; exact hc6⟩ (by dsimp only; omega) (by repeat' first | exact Sub.nil | apply Sub.cons | rfl | (simp [lk]; omega)) (fun w h => St.tail (St.tail h))
          simp only [cS] at hc5
          obtain rfl : k = t.rats.length := by omega
          refine Zm (Zt (Zt (ZU (sqt 1 rfl (pur 1 rfl (Z3 ?_))))))
          exact rtA rfl rfl rfl ⟨congrArg (Value.int .i64) (by first | (rw [hck, Z10 hn]; rfl) | (rw [hck, Z0e hk2 hbad]; rfl) | simp_all only [Twn.check, inb, cond_true, cond_false, Bool.not_true, Bool.not_false, Bool.not_eq_true', Bool.not_eq_false']), rfl, rfl⟩ drp
theorem Z9h : arN Try.prog 65 = some (4, 1) := by kernel_rfl
theorem Z9k : arN Try.prog 87 = some (4, 4) := by kernel_rfl
theorem Z8O : arN Try.prog 89 = some (31, 16) := by kernel_rfl
theorem Za7 : cal Try.prog 10 = true := by kernel_rfl
theorem Z2g : cal Try.prog 28 = true := by kernel_rfl
theorem Z7S : cal Try.prog 30 = true := by kernel_rfl
theorem Z7s : cal Try.prog 42 = true := by kernel_rfl
theorem Z4t : cal Try.prog 47 = true := by kernel_rfl
theorem Z7y : cal Try.prog 68 = true := by kernel_rfl
theorem Z52 : Z1j Try.prog 86 0 = some 0 := by kernel_rfl
theorem Z2H : Z1j Try.prog 92 0 = some 0 := by kernel_rfl
theorem Z4Z : Z1j Try.prog 92 1 = some 11 := by kernel_rfl
theorem Z02 : Z1j Try.prog 92 2 = some 12 := by kernel_rfl
theorem Zbn : Z0W Try.prog 86 = some [(0, 1)] := by kernel_rfl
theorem Zbt : Z0W Try.prog 92 = some [(0, 11), (11, 1), (12, 496), (508, 1), (509, 1)] := by kernel_rfl
theorem Zaa : Z2m Try.prog 84 = true := by kernel_rfl
theorem Zby : Z08 Try.prog 86 = some ([.nilFunc]) := by kernel_rfl
theorem Zbo : Z08 Try.prog 92 = some (List.replicate 10 (.int .i64 0) ++ [.slice none 0 0] ++ [.nilFunc] ++ List.replicate 496 (.int .i64 0) ++ [.slice none 0 0] ++ [.map none]) := by kernel_rfl
abbrev fvv (bt : Nat) : Value := .func (.func 68) #[] #[.pointer (some ⟨bt, 0, none⟩)]
def rcs (t : Twn) (sl : Value) (bt : Nat) (y : List Int) (fs : Value) (m : Nat) : List Value := twl t sl ++ fvv bt :: (ZI y ++ [fs, .map (some m)])
theorem Z7I {y : List Int} {i : Nat} {x : Int} (h : y[i]? = some x) : (ZI y)[i]? = some (.int .i64 x) := by simp [ZI, h]
theorem Zj (y : List Int) : (ZI y).length = y.length := by simp [ZI]
theorem Z53 (y : List Int) (i : Nat) (x : Int) : ZI (y.set i x) = (ZI y).set i (.int .i64 x) := by simp [ZI, List.map_set]
theorem Z8B {t : Twn} {sl : Value} {bt m i k : Nat} {y : List Int} {fs : Value} {x : Int} (h : y[i]? = some x) (e : k = 12 + i) : (rcs t sl bt y fs m)[k]? = some (.int .i64 x) := by
  subst e
  have hi : i < y.length := (List.getElem?_eq_some_iff.1 h).1
  show (([_, _, _, _, _, _, _, _, _, _, _, _] ++ (ZI y ++ [fs, .map (some m)]) : List Value))[12 + i]? = _
  rw [List.getElem?_append_right (by simp)]
  simp only [List.length_cons, List.length_nil, Nat.zero_add, Nat.add_sub_cancel_left]
  rw [List.getElem?_append_left (by rw [Zj]; exact hi)]
  exact Z7I h
theorem Z2D {t : Twn} {sl : Value} {bt m : Nat} {y : List Int} {fs : Value} (hy : y.length = 496) : (rcs t sl bt y fs m).length = 510 := by
  simp [rcs, Zj, hy]
theorem Z6M {t : Twn} {sl : Value} {bt m : Nat} {y : List Int} {fs : Value} (hy : y.length = 496) : (rcs t sl bt y fs m).drop 508 = [fs, .map (some m)] := by
  show (([_, _, _, _, _, _, _, _, _, _, _, _] ++ (ZI y ++ [fs, .map (some m)]) : List Value)).drop 508 = _
  rw [← List.append_assoc, List.drop_left' (by simp [Zj, hy])]
theorem Z3l {t : Twn} {sl : Value} {bt m : Nat} {y : List Int} {fs : Value} (hy : y.length = 496) : (rcs t sl bt y fs m)[508]? = some fs := by
  have := congrArg (fun l : List Value => l[0]?) (Z6M (t := t) (sl := sl) (bt := bt) (m := m) (fs := fs) hy)
  simpa [List.getElem?_drop] using this
theorem Z2B {t : Twn} {sl : Value} {bt m : Nat} {y : List Int} {fs : Value} (hy : y.length = 496) : (rcs t sl bt y fs m)[509]? = some (.map (some m)) := by
  have := congrArg (fun l : List Value => l[1]?) (Z6M (t := t) (sl := sl) (bt := bt) (m := m) (fs := fs) hy)
  simpa [List.getElem?_drop] using this
theorem Z4R {l : List Value} {k : Nat} {v : Value} (h : k < l.length) : spl l k [v] = l.set k v := by
  simp only [spl, List.length_singleton, List.append_assoc, List.singleton_append]
  rw [List.set_eq_take_append_cons_drop, if_pos h]
theorem Z4c {t : Twn} {sl : Value} {bt m i k : Nat} {y : List Int} {fs : Value} (x : Int) (hi : i < y.length) (e : k = 12 + i) : spl (rcs t sl bt y fs m) k [.int .i64 x] = rcs t sl bt (y.set i x) fs m := by
  subst e
  rw [Z4R (by simp [rcs, Zj]; omega)]
  show (([_, _, _, _, _, _, _, _, _, _, _, _] ++ (ZI y ++ [fs, .map (some m)]) : List Value)).set (12 + i) _ = [_, _, _, _, _, _, _, _, _, _, _, _] ++ (ZI (y.set i x) ++ [fs, .map (some m)])
  rw [List.set_append_right _ _ (by simp)]
  simp only [List.length_cons, List.length_nil, Nat.zero_add, Nat.add_sub_cancel_left]
  rw [List.set_append_left _ _ (by rw [Zj]; exact hi), Z53]
theorem Z8N {t : Twn} {sl : Value} {bt m : Nat} {y : List Int} {fs : Value} (fs' : Value) (hy : y.length = 496) : spl (rcs t sl bt y fs m) 508 [fs'] = rcs t sl bt y fs' m := by
  rw [Z4R (by rw [Z2D hy]; omega)]
  show (([_, _, _, _, _, _, _, _, _, _, _, _] ++ (ZI y ++ [fs, .map (some m)]) : List Value)).set 508 _ = [_, _, _, _, _, _, _, _, _, _, _, _] ++ (ZI y ++ [fs', .map (some m)])
  rw [List.set_append_right _ _ (by simp)]
  simp only [List.length_cons, List.length_nil, Nat.zero_add]
  rw [List.set_append_right _ _ (by rw [Zj]; omega), Zj, hy]
  rfl
theorem Z7d (t : Twn) (s : Sta) (ba oa ca : Nat) (bt : Nat) (H : Za) (R : Z8) [hT : MemRows (some ⟨bt, 0, none⟩) 11 [twl t (t.sl (some ⟨ba, oa, none⟩) ca)] R] :
    FnV Try.prog 68 [s.v, .pointer (some ⟨bt, 0, none⟩)] H R (.bool (decide (s.dry < t.run))) := by
 refine Zv Try.func68 rfl Try.ntmps68 rfl ?_
 refine sqt 2 rfl (bx rfl rfl rfl (fun b2 => pur 1 rfl (sqt 6 rfl (sp rfl (PE.fA Z0i rfl) rfl (spL rfl rfl (lh sc3 rfl rfl) rfl (sp rfl (PE.fA Z2a rfl) rfl (spL rfl rfl (lfB (sz := 11) sc3 rfl) rfl (pur 2 rfl (Z3 ?_)))))))))
 exact rtA rfl rfl rfl ⟨rfl, rfl, rfl⟩ drp
theorem Z1G (t : Twn) (hl : t.rats.length ≤ 9223372036854775807) (ba oa ca : Nat) (H : Za) (R : Z8) [hR : MemRows (some ⟨ba, oa, none⟩) 2 (Zx t.rats) R] :
    Fn Try.prog 40 [t.v (t.sl (some ⟨ba, oa, none⟩) ca)] H R (fun v H' R' => (t.check ≠ 0 ∧ v = .tuple #[.pointer none, .int .i64 t.check] ∧ H' = H ∧ R' = R) ∨
      (t.check = 0 ∧ ∃ bw m bt, v = .tuple #[.pointer (some ⟨bw, 0, none⟩), .int .i64 0] ∧ H' = (bw, cel 92 (rcs t (t.sl (some ⟨ba, oa, none⟩) ca) bt (List.replicate 496 0) (.slice none 0 0) m)) :: (m, Z0o true []) :: H ∧ R' = RowsA (some ⟨bt, 0, none⟩) 11 [twl t (t.sl (some ⟨ba, oa, none⟩) ca)] :: R)) := by
 refine Zv Try.func40 rfl Try.ntmps40 rfl ?_
 refine sqt 3 rfl (bx rfl rfl rfl (fun b1 => pur 2 rfl (Z0 (sqt 3 rfl (spL rfl rfl (lhA [_, _, _, _, _, _, _, _, _, _, _] ZZ rfl rfl rfl) rfl ?_)))))
 refine clV rfl Za7 rfl rfl (Z6W t _ _ hl _ _) ?_
 refine pur 1 rfl (sqt 2 rfl (pur 2 rfl ?_))
 refine Z4 rfl ?_ ?_ <;> intro hc0
 simp only [cS] at hc0
 refine sqt 3 rfl (pur 3 rfl (Z3 ?_))
 first
   | exact rtB rfl rfl rfl rfl (.inl ⟨by simpa using hc0, rfl, rfl, rfl⟩) (fun _ h => h.tail)
   | exact rtB rfl rfl rfl rfl (.inr ⟨by simpa using hc0, _, _, _, rfl, rfl, rfl⟩) (fun w h => St.rows (sz := 11) (rows := [twl t (t.sl (some ⟨ba, oa, none⟩) ca)]) (rest := []) (h.perm (List.perm_middle (l₁ := [_, _]))) (by simp))
 simp only [bne_self_eq_false, decide_eq_true_eq, decide_eq_false_iff_not, Bool.and_eq_true, Bool.or_eq_true, Bool.not_eq_true', Int.not_le, Int.not_lt] at hc0
 refine Z2 (sqt 7 rfl (spL rfl rfl (lhA [_, _, _, _, _, _, _, _, _, _, _] ZZ rfl rfl rfl) rfl (sp rfl (PE.makeFunc rfl rfl) rfl (sp rfl (PE.build (out := [_]) Zbn Zby rfl rfl) rfl ?_))))
 refine mkm rfl rfl true (fun m => ?_)
 refine sp rfl (PE.build (out := rcs t (t.sl (some ⟨ba, oa, none⟩) ca) b1 (List.replicate 496 0) (.slice none 0 0) m) Zbt Zbo rfl (by kernel_rfl)) rfl (bx rfl rfl rfl (fun b16 => pur 1 rfl (sqt 3 rfl (pur 3 rfl (Z3 ?_)))))
 first
   | exact rtB rfl rfl rfl rfl (.inl ⟨by simpa using hc0, rfl, rfl, rfl⟩) (fun _ h => h.tail)
   | exact rtB rfl rfl rfl rfl (.inr ⟨by simpa using hc0, _, _, _, rfl, rfl, rfl⟩) (fun w h => St.rows (sz := 11) (rows := [twl t (t.sl (some ⟨ba, oa, none⟩) ca)]) (rest := []) (h.perm (List.perm_middle (l₁ := [_, _]))) (by simp))
theorem Z5U (t : Twn) (ht : t.ok) (s : Sta) (hs : s.right t = true) (ba oa ca : Nat) (bt bw m : Nat) (y : List Int) (fs : Value) (hy : y.length = 496) (H : Za) (R : Z8) [hW : Mem1 bw (cel 92 (rcs t (t.sl (some ⟨ba, oa, none⟩) ca) bt y fs m)) H] :
    FnV Try.prog 28 [.pointer (some ⟨bw, 12, none⟩), s.v] H R (.int .i64 (lat y s)) := by
 refine Zv Try.func28 rfl Try.ntmps28 rfl ?_
 refine sqt 2 rfl (bx rfl rfl rfl (fun b3 => pur 1 rfl (Z0 ?_)))
 refine Z9 [0, 0, 2, 0, 8, 0, 32, 1, 135, 415, 1023, 2047, 4095] (.tk 0 (.tk 1 (.ld 2 (.tk 3 (.ld 4 (.tk 5 (.ld 6 (tks 7 4 (.ld 11 (.tk 12 .done)))))))))) Zw (by kernel_rfl) ?_
 refine Zi 1 rfl (tk rfl (PE.fA Z07 rfl) rfl (ld rfl rfl (lh sc3 rfl rfl) rfl (tk rfl (PE.fA ZT rfl) rfl (ld rfl rfl (lh sc3 rfl rfl) rfl (tk rfl (PE.fA Z0i rfl) rfl (ld rfl rfl (lh sc3 rfl rfl) rfl (tk rfl (PE.nilCheck rfl) rfl (tk rfl (PE.indexArr Z8O rfl rfl (by have h1 := right_iff.1 hs; have h2 := ht.holds; have h3 := ht.patience; have h4 := ht.run; omega) (by have h1 := right_iff.1 hs; have h2 := ht.holds; have h3 := ht.patience; have h4 := ht.run; omega)) rfl (tk rfl (PE.indexArr Z9k rfl rfl (by have h1 := right_iff.1 hs; have h2 := ht.holds; have h3 := ht.patience; have h4 := ht.run; omega) (by have h1 := right_iff.1 hs; have h2 := ht.holds; have h3 := ht.patience; have h4 := ht.run; omega)) rfl (tk rfl (PE.indexArr Z9h rfl rfl (by have h1 := right_iff.1 hs; have h2 := ht.holds; have h3 := ht.patience; have h4 := ht.run; omega) (by have h1 := right_iff.1 hs; have h2 := ht.holds; have h3 := ht.patience; have h4 := ht.run; omega)) rfl (ld rfl rfl (lh sc3 rfl (Z8B (Z8u (s := s) (by have := Z1w ht hs; omega)) (by unfold Sta.ix; omega))) rfl (Zi 1 rfl (Z3 ?_)))))))))))))
 exact rtA rfl rfl rfl ⟨rfl, rfl, rfl⟩ drp
theorem Z3k (t : Twn) (ht : t.ok) (s : Sta) (hs : s.right t = true) (r : Int) (q : Rn) (h0 : 0 ≤ r) (hq : t.rats[r.toNat]? = some q) (bads : Int) (hb : 0 ≤ bads ∧ bads ≤ 1000000) (ba oa ca : Nat) (bt bw m : Nat) (y : List Int) (fs : Value) (hy : y.length = 496) (H : Za) (R : Z8) [hR : MemRows (some ⟨ba, oa, none⟩) 2 (Zx t.rats) R] [hT : MemRows (some ⟨bt, 0, none⟩) 11 [twl t (t.sl (some ⟨ba, oa, none⟩) ca)] R] [hW : Mem1 bw (cel 92 (rcs t (t.sl (some ⟨ba, oa, none⟩) ca) bt y fs m)) H] :
    FnV Try.prog 30 [.pointer (some ⟨bw, 0, none⟩), s.v, .int .i64 r, .int .i64 bads] H R (.bool (t.keeps y s q bads)) := by
 refine Zv Try.func30 rfl Try.ntmps30 rfl ?_
 refine sqt 2 rfl (bx rfl rfl rfl (fun b5 => pur 1 rfl (Z0 (Z0 ?_))))
 refine Z9 [0, 1, 3, 7, 0, 0, 63, 127, 255, 511, 1023, 2047, 511, 4607, 12799, 29183, 511, 511, 258559, 524287, 511, 2097151, 4194303] (tks 0 3 (.ld 3 (.ld 4 (.tk 5 (.big 6 (tks 7 8 (.ld 15 (.ld 16 (.tk 17 (.tk 20 (.big 18 (.big 19 (.tk 21 (.tk 22 .done)))))))))))))) Zw (by kernel_rfl) ?_
 refine Zi 1 rfl (tk rfl (PE.nilCheck rfl) rfl (tk rfl (PE.fA Z2H rfl) rfl (ld rfl rfl (lhA [_, _, _, _, _, _, _, _, _, _, _] ZZ rfl rfl rfl) rfl (ld rfl rfl (lhA [_, _, _] ZG rfl rfl rfl) rfl (Zi 1 rfl ?_)))))
 refine clV rfl Z7s rfl rfl (Z1E t s r q ba oa ca h0 hq _ _) ?_
 refine bgT (Zi 2 rfl ?_)
 refine Z0b 18 rfl ?_ ?_ <;> intro g18
 simp only [Bool.not_eq_true'] at g18
 refine Zi 6 rfl ?_
 repeat refine ldN rfl rfl rfl rfl rfl rfl rfl rfl ?_
 refine Zi 2 rfl ?_
 refine spN rfl rfl rfl rfl rfl rfl rfl rfl ?_
 refine bgT ?_
 refine spN rfl rfl rfl rfl rfl rfl rfl rfl ?_
 refine bgT (Zi 2 rfl ?_)
 refine Zp rfl ?_
 refine sqt 1 rfl (pur 1 rfl (Z3 ?_))
 exact rtA rfl rfl rfl ⟨by
     first
       | (simp [ZF, Twn.keeps, g18]; done)
       | (simp [ZF, Twn.keeps, g18.2]; omega)
       | (simp [ZF, Twn.keeps, g18.2, g39, g49, hc1]; try omega)
       | (simp [ZF, Twn.keeps, g18.2, g39, hc1]; try omega)
       | (simp [ZF, Twn.keeps, g18.2, g39]; try omega), rfl, rfl⟩ drp
 simp only [Bool.not_eq_false'] at g18
 replace g18 := And.intro (show q.sacks ≤ s.stock ∧ True by simp [Twn.can] at g18; exact ⟨g18.1, trivial⟩) g18
 refine Zi 1 rfl ?_
 refine tkG rfl rfl rfl rfl (PE.nilCheck rfl) rfl ?_
 refine tkG rfl rfl rfl rfl (PE.fA Z02 rfl) rfl ?_
 refine Zi 1 rfl ?_
 refine tkG rfl rfl rfl rfl (PE.nilCheck rfl) rfl ?_
 refine tkG rfl rfl rfl rfl (PE.fA Z2H rfl) rfl ?_
 refine ldG rfl rfl rfl rfl rfl (lhA [_, _, _, _, _, _, _, _, _, _, _] ZZ rfl rfl rfl) rfl (ldG rfl rfl rfl rfl rfl (lhA [_, _, _] ZG rfl rfl rfl) rfl (Zi 2 rfl ?_))
 refine Z1X rfl rfl rfl rfl Z4t rfl rfl (Z2N t ht s hs r q false ba oa ca h0 hq g18.1.1 _ _) ?_
 refine bgT ?_
 refine Z1X rfl rfl rfl rfl Z2g rfl rfl (Z5U t ht _ (Zs ht hs (List.mem_of_getElem? hq) g18.2 (by simp)) ba oa ca bt bw m y fs hy _ _) ?_
 refine bgT (Zi 2 rfl ?_)
 refine Z4 rfl ?_ ?_ <;> intro hc0
 simp only [decide_eq_true_eq] at hc0
 refine sqt 1 rfl (pur 1 rfl (Z3 ?_))
 exact rtA rfl rfl rfl ⟨by
     first
       | (simp [ZF, Twn.keeps, g18]; done)
       | (simp [ZF, Twn.keeps, g18.2]; omega)
       | (simp [ZF, Twn.keeps, g18.2, g39, g49, hc1]; try omega)
       | (simp [ZF, Twn.keeps, g18.2, g39, hc1]; try omega)
       | (simp [ZF, Twn.keeps, g18.2, g39]; try omega), rfl, rfl⟩ drp
 simp only [decide_eq_false_iff_not, Int.not_lt] at hc0
 refine Z2 (sqt 3 rfl (pur 1 rfl (sp rfl (PE.sub rfl rfl (by omega)) rfl (pur 1 rfl (Z0 (sqt 2 rfl (pur 2 rfl ?_)))))))
 refine Z4 rfl ?_ ?_ <;> intro hc1
 simp only [decide_eq_true_eq] at hc1
 refine sqr 1 rfl (pur 1 rfl (Z0 ?_))
 refine Z9 [0, 1, 3, 7, 15, 31, 63, 127, 7, 511, 1023, 2047, 4095, 8191, 16383, 32767, 8191, 73727, 204799, 466943, 8191, 8191, 4136959, 8388607, 8191, 33554431, 67108863, 134217727] (tks 0 7 (.ld 7 (.ld 8 (.big 9 (tks 10 9 (.ld 19 (.ld 20 (.tk 21 (.tk 24 (.big 22 (.big 23 (tks 25 3 .done)))))))))))) Zw (by kernel_rfl) ?_
 refine Zi 3 rfl ?_
 refine Z0b 39 rfl ?_ ?_ <;> intro g39
 simp only [decide_eq_true_eq] at g39
 refine Zi 4 rfl ?_
 repeat refine ldN rfl rfl rfl rfl rfl rfl rfl rfl ?_
 refine spN rfl rfl rfl rfl rfl rfl rfl rfl ?_
 refine bgT (Zi 9 rfl ?_)
 repeat refine ldN rfl rfl rfl rfl rfl rfl rfl rfl ?_
 refine Zi 2 rfl ?_
 refine spN rfl rfl rfl rfl rfl rfl rfl rfl ?_
 refine bgT ?_
 refine spN rfl rfl rfl rfl rfl rfl rfl rfl ?_
 refine bgT (Zi 3 rfl (Z3 ?_))
 exact rtA rfl rfl rfl ⟨by
     first
       | (simp [ZF, Twn.keeps, g18]; done)
       | (simp [ZF, Twn.keeps, g18.2]; omega)
       | (simp [ZF, Twn.keeps, g18.2, g39, g49, hc1]; try omega)
       | (simp [ZF, Twn.keeps, g18.2, g39, hc1]; try omega)
       | (simp [ZF, Twn.keeps, g18.2, g39]; try omega), rfl, rfl⟩ drp
 simp only [decide_eq_false_iff_not] at g39
 refine Zi 1 rfl ?_
 refine tkG rfl rfl rfl rfl (PE.nilCheck rfl) rfl ?_
 refine tkG rfl rfl rfl rfl (PE.fA Z4Z rfl) rfl ?_
 refine tkG rfl rfl rfl rfl (PE.fA Z52 rfl) rfl ?_
 refine ldG rfl rfl rfl rfl rfl (lh Zaa rfl rfl) rfl (ldG rfl rfl rfl rfl rfl (lhA [_, _, _] ZG rfl rfl rfl) rfl ?_)
 refine Z7p rfl rfl rfl rfl rfl (Z7y) rfl rfl (Z7d t s ba oa ca bt _ _) ?_
 refine bgT (Zi 3 rfl ?_)
 refine Z0b 49 rfl ?_ ?_ <;> intro g49
 simp only [Bool.not_eq_true', decide_eq_false_iff_not] at g49
 refine Zi 6 rfl ?_
 repeat refine ldN rfl rfl rfl rfl rfl rfl rfl rfl ?_
 refine Zi 2 rfl ?_
 refine spN rfl rfl rfl rfl rfl rfl rfl rfl ?_
 refine bgT ?_
 refine spN rfl rfl rfl rfl rfl rfl rfl rfl ?_
 refine bgT (Zi 3 rfl (Z3 ?_))
 exact rtA rfl rfl rfl ⟨by
     first
       | (simp [ZF, Twn.keeps, g18]; done)
       | (simp [ZF, Twn.keeps, g18.2]; omega)
       | (simp [ZF, Twn.keeps, g18.2, g39, g49, hc1]; try omega)
       | (simp [ZF, Twn.keeps, g18.2, g39, hc1]; try omega)
       | (simp [ZF, Twn.keeps, g18.2, g39]; try omega), rfl, rfl⟩ drp
 simp only [Bool.not_eq_false', decide_eq_true_eq] at g49
 refine Zi 1 rfl ?_
 refine tkG rfl rfl rfl rfl (PE.nilCheck rfl) rfl ?_
 refine tkG rfl rfl rfl rfl (PE.fA Z02 rfl) rfl ?_
 refine Zi 1 rfl ?_
 refine tkG rfl rfl rfl rfl (PE.nilCheck rfl) rfl ?_
 refine tkG rfl rfl rfl rfl (PE.fA Z2H rfl) rfl ?_
 refine ldG rfl rfl rfl rfl rfl (lhA [_, _, _, _, _, _, _, _, _, _, _] ZZ rfl rfl rfl) rfl (ldG rfl rfl rfl rfl rfl (lhA [_, _, _] ZG rfl rfl rfl) rfl (Zi 2 rfl ?_))
 refine Z1X rfl rfl rfl rfl Z4t rfl rfl (Z2N t ht s hs r q true ba oa ca h0 hq g18.1.1 _ _) ?_
 refine bgT ?_
 refine Z1X rfl rfl rfl rfl Z2g rfl rfl (Z5U t ht _ (Zs ht hs (List.mem_of_getElem? hq) g18.2 (fun _ => g49)) ba oa ca bt bw m y fs hy _ _) ?_
 refine bgT (Zi 3 rfl (Z3 ?_))
 exact rtA rfl rfl rfl ⟨by
     first
       | (simp [ZF, Twn.keeps, g18]; done)
       | (simp [ZF, Twn.keeps, g18.2]; omega)
       | (simp [ZF, Twn.keeps, g18.2, g39, g49, hc1]; try omega)
       | (simp [ZF, Twn.keeps, g18.2, g39, hc1]; try omega)
       | (simp [ZF, Twn.keeps, g18.2, g39]; try omega), rfl, rfl⟩ drp
 simp only [decide_eq_false_iff_not] at hc1
 refine Z2 (Z0 ?_)
 refine Z9 [0, 1, 3, 7, 15, 31, 63, 127, 7, 511, 1023, 2047, 4095, 8191, 16383, 32767, 8191, 73727, 204799, 466943, 8191, 8191, 4136959, 8388607, 8191, 33554431, 67108863, 134217727] (tks 0 7 (.ld 7 (.ld 8 (.big 9 (tks 10 9 (.ld 19 (.ld 20 (.tk 21 (.tk 24 (.big 22 (.big 23 (tks 25 3 .done)))))))))))) Zw (by kernel_rfl) ?_
 refine Zi 3 rfl ?_
 refine Z0b 39 rfl ?_ ?_ <;> intro g39
 simp only [decide_eq_true_eq] at g39
 refine Zi 4 rfl ?_
 repeat refine ldN rfl rfl rfl rfl rfl rfl rfl rfl ?_
 refine spN rfl rfl rfl rfl rfl rfl rfl rfl ?_
 refine bgT (Zi 9 rfl ?_)
 repeat refine ldN rfl rfl rfl rfl rfl rfl rfl rfl ?_
 refine Zi 2 rfl ?_
 refine spN rfl rfl rfl rfl rfl rfl rfl rfl ?_
 refine bgT ?_
 refine spN rfl rfl rfl rfl rfl rfl rfl rfl ?_
 refine bgT (Zi 3 rfl (Z3 ?_))
 exact rtA rfl rfl rfl ⟨by
     first
       | (simp [ZF, Twn.keeps, g18]; done)
       | (simp [ZF, Twn.keeps, g18.2]; omega)
       | (simp [ZF, Twn.keeps, g18.2, g39, g49, hc1]; try omega)
       | (simp [ZF, Twn.keeps, g18.2, g39, hc1]; try omega)
       | (simp [ZF, Twn.keeps, g18.2, g39]; try omega), rfl, rfl⟩ drp
 simp only [decide_eq_false_iff_not] at g39
 refine Zi 1 rfl ?_
 refine tkG rfl rfl rfl rfl (PE.nilCheck rfl) rfl ?_
 refine tkG rfl rfl rfl rfl (PE.fA Z4Z rfl) rfl ?_
 refine tkG rfl rfl rfl rfl (PE.fA Z52 rfl) rfl ?_
 refine ldG rfl rfl rfl rfl rfl (lh Zaa rfl rfl) rfl (ldG rfl rfl rfl rfl rfl (lhA [_, _, _] ZG rfl rfl rfl) rfl ?_)
 refine Z7p rfl rfl rfl rfl rfl (Z7y) rfl rfl (Z7d t s ba oa ca bt _ _) ?_
 refine bgT (Zi 3 rfl ?_)
 refine Z0b 49 rfl ?_ ?_ <;> intro g49
 simp only [Bool.not_eq_true', decide_eq_false_iff_not] at g49
 refine Zi 6 rfl ?_
 repeat refine ldN rfl rfl rfl rfl rfl rfl rfl rfl ?_
 refine Zi 2 rfl ?_
 refine spN rfl rfl rfl rfl rfl rfl rfl rfl ?_
 refine bgT ?_
 refine spN rfl rfl rfl rfl rfl rfl rfl rfl ?_
 refine bgT (Zi 3 rfl (Z3 ?_))
 exact rtA rfl rfl rfl ⟨by
     first
       | (simp [ZF, Twn.keeps, g18]; done)
       | (simp [ZF, Twn.keeps, g18.2]; omega)
       | (simp [ZF, Twn.keeps, g18.2, g39, g49, hc1]; try omega)
       | (simp [ZF, Twn.keeps, g18.2, g39, hc1]; try omega)
       | (simp [ZF, Twn.keeps, g18.2, g39]; try omega), rfl, rfl⟩ drp
 simp only [Bool.not_eq_false', decide_eq_true_eq] at g49
 refine Zi 1 rfl ?_
 refine tkG rfl rfl rfl rfl (PE.nilCheck rfl) rfl ?_
 refine tkG rfl rfl rfl rfl (PE.fA Z02 rfl) rfl ?_
 refine Zi 1 rfl ?_
 refine tkG rfl rfl rfl rfl (PE.nilCheck rfl) rfl ?_
 refine tkG rfl rfl rfl rfl (PE.fA Z2H rfl) rfl ?_
 refine ldG rfl rfl rfl rfl rfl (lhA [_, _, _, _, _, _, _, _, _, _, _] ZZ rfl rfl rfl) rfl (ldG rfl rfl rfl rfl rfl (lhA [_, _, _] ZG rfl rfl rfl) rfl (Zi 2 rfl ?_))
 refine Z1X rfl rfl rfl rfl Z4t rfl rfl (Z2N t ht s hs r q true ba oa ca h0 hq g18.1.1 _ _) ?_
 refine bgT ?_
 refine Z1X rfl rfl rfl rfl Z2g rfl rfl (Z5U t ht _ (Zs ht hs (List.mem_of_getElem? hq) g18.2 (fun _ => g49)) ba oa ca bt bw m y fs hy _ _) ?_
 refine bgT (Zi 3 rfl (Z3 ?_))
 exact rtA rfl rfl rfl ⟨by
     first
       | (simp [ZF, Twn.keeps, g18]; done)
       | (simp [ZF, Twn.keeps, g18.2]; omega)
       | (simp [ZF, Twn.keeps, g18.2, g39, g49, hc1]; try omega)
       | (simp [ZF, Twn.keeps, g18.2, g39, hc1]; try omega)
       | (simp [ZF, Twn.keeps, g18.2, g39]; try omega), rfl, rfl⟩ drp
theorem Zav (t : Twn) (ht : t.ok) (s : Sta) (hs : s.right t = true) (bads : Int) (hb : 0 ≤ bads ∧ bads ≤ 1000000) (ba oa ca : Nat) (bt bw m : Nat) (y : List Int) (fs : Value) (hy : y.length = 496) (H : Za) (R : Z8) [hR : MemRows (some ⟨ba, oa, none⟩) 2 (Zx t.rats) R] [hT : MemRows (some ⟨bt, 0, none⟩) 11 [twl t (t.sl (some ⟨ba, oa, none⟩) ca)] R] [hW : Mem1 bw (cel 92 (rcs t (t.sl (some ⟨ba, oa, none⟩) ca) bt y fs m)) H] :
    FnV Try.prog 81 [.pointer (some ⟨bw, 0, none⟩), s.v, .int .i64 bads] H R (.bool (t.rats.any fun q => t.keeps y s q bads)) := by
 refine Zv Try.func81 rfl Try.ntmps81 rfl ?_
 refine sqt 2 rfl (bx rfl rfl rfl (fun b4 => pur 1 rfl (Z0 (sqt 7 rfl (pur 1 rfl (sp rfl (PE.nilCheck rfl) rfl (sp rfl (PE.fA Z2H rfl) rfl (sp rfl (PE.fA ZJ rfl) rfl (spL rfl rfl (lh Z0Z rfl rfl) rfl (sp rfl (PE.lenSl Z2L rfl) rfl (pur 1 rfl (Z7 ?_))))))))))))
 have hlen := ht.many
 refine Zy (ι := {k : Nat // k ≤ t.rats.length ∧ ∀ i q, i < k → t.rats[i]? = some q → t.keeps y s q bads = false}) (fun k => ⟨[(0, .pointer (some ⟨bw, 0, none⟩)), (2, .int .i64 bads), (4, .pointer (some ⟨b4, 0, none⟩)), (13, .int .i64 t.rats.length), (14, .int .i64 k.1)], (b4, cel 24 [.int .i64 s.stock, .int .i64 s.short, .int .i64 s.dry]) :: H, R⟩) (fun k => t.rats.length - k.1) ⟨0, by omega, by omega⟩ ?_ (fun k => ?_)
 exact Z05 idH
 obtain ⟨k, hk1, hk2⟩ := k
 dsimp only
 refine sqt 1 rfl (pur 1 rfl (Z0 ?_))
 refine Z4 rfl ?_ ?_ <;> intro hc0
 simp only [cS] at hc0
 obtain ⟨q, hq⟩ : ∃ q, t.rats[k]? = some q := ⟨_, List.getElem?_eq_getElem (by omega)⟩
 refine Z2 (Z0 (Z7 (sqt 2 rfl (pur 2 rfl (sqt 5 rfl (pur 1 rfl (spL rfl rfl (lhA [_, _, _] ZG rfl rfl rfl) rfl (pur 2 rfl ?_))))))))
 refine clV rfl Z7S rfl rfl (Z3k t ht s hs k q (by omega) (by simpa using hq) bads hb ba oa ca bt bw m y fs hy _ _) ?_
 refine Z4 rfl ?_ ?_ <;> intro hc1
 refine sqt 1 rfl (pur 1 rfl (Z3 ?_))
 exact rtA rfl rfl rfl ⟨by
     first
       | (have e : (t.rats.any fun q => t.keeps y s q bads) = true := List.any_eq_true.2 ⟨q, List.mem_of_getElem? hq, hc1⟩
          rw [e]; rfl)
       | (have e : (t.rats.any fun q => t.keeps y s q bads) = false := List.any_eq_false.2 fun q hq => by
           obtain ⟨i, hi⟩ := List.getElem?_of_mem hq
           simp [hk2 i q (List.getElem?_eq_some_iff.1 hi).1 hi]
          rw [e]; rfl), rfl, rfl⟩ drp
 refine Z2 (sqr 2 rfl (sp rfl (PE.add rfl rfl (by omega)) rfl (pur 1 rfl ?_)))
 exact Zc ⟨k + 1, by omega, fun i q' hi hq' => by
   rcases Nat.lt_or_ge i k with h1 | h1
   · exact hk2 i q' h1 hq'
   · obtain rfl : i = k := by omega
     rw [hq] at hq'; cases hq'; exact hc1⟩ (by dsimp only; omega) (by repeat' first | exact Sub.nil | apply Sub.cons | rfl | (simp [lk]; omega)) idH
 simp only [cS] at hc0
 obtain rfl : k = t.rats.length := by omega
 refine Zm (Zt (Zt (ZU (sqt 1 rfl (pur 1 rfl (Z3 ?_))))))
 exact rtA rfl rfl rfl ⟨by
     first
       | (have e : (t.rats.any fun q => t.keeps y s q bads) = true := List.any_eq_true.2 ⟨q, List.mem_of_getElem? hq, hc1⟩
          rw [e]; rfl)
       | (have e : (t.rats.any fun q => t.keeps y s q bads) = false := List.any_eq_false.2 fun q hq => by
           obtain ⟨i, hi⟩ := List.getElem?_of_mem hq
           simp [hk2 i q (List.getElem?_eq_some_iff.1 hi).1 hi]
          rw [e]; rfl), rfl, rfl⟩ drp
theorem Z1C (t : Twn) (sl : Value) (H : Za) (R : Z8) :
    Fn Try.prog 29 [t.v sl] H R (fun v H' R' => ∃ b, v = .func (.func 63) #[] #[.pointer (some ⟨b, 0, none⟩)] ∧ H' = H ∧ R' = RowsA (some ⟨b, 0, none⟩) 11 [twl t sl] :: R) := by
 refine Zv Try.func29 rfl Try.ntmps29 rfl ?_
 refine sqt 2 rfl (bx rfl rfl rfl (fun b1 => pur 1 rfl (sqt 2 rfl (sp rfl (PE.makeFunc rfl rfl) rfl (pur 1 rfl (Z3 ?_))))))
 exact rtA rfl rfl rfl ⟨_, rfl, rfl, rfl⟩ (fun w h => St.rows (sz := 11) (rows := [twl t sl]) (rest := []) h (by simp))
theorem Z16 (t : Twn) (ht : t.ok) (sl : Value) (b l : Nat) (I : Nat → Za → Z8 → Prop) (E : Za → Z8 → Prop) (hI : ∀ k H R, I k H R → RowsA (some ⟨b, 0, none⟩) 11 [twl t sl] ∈ R)
    (hy : ∀ k s H R, (sts t)[k]? = some s → I k H R → Yd Try.prog l [s.v] H R (fun v H' R' => (v = .bool true ∧ I (k + 1) H' R') ∨ (v = .bool false ∧ E H' R'))) (H : Za) (R : Z8) (h0 : I 0 H R) :
    Fn Try.prog 63 [yv l, .pointer (some ⟨b, 0, none⟩)] H R (fun _ H' R' => I t.nst H' R' ∨ E H' R') := by
 have t1 := ht.holds
 have t2 := ht.patience
 have t3 := ht.run
 haveI : MemRows (some ⟨b, 0, none⟩) 11 [twl t sl] R := ⟨hI _ _ _ h0⟩
 refine Zv Try.func63 rfl Try.ntmps63 rfl ?_
 refine sqt 4 rfl (sp rfl (PE.fA Z11 rfl) rfl (spL rfl rfl (lfB (sz := 11) sc3 rfl) rfl (sp rfl (PE.add rfl rfl (by omega)) rfl (pur 1 rfl (Z7 ?_)))))
 refine Zy (ι := {x : Nat × Za × Z8 // x.1 ≤ t.holds.toNat + 1 ∧ I (x.1 * (t.patience.toNat + 1) * (t.run.toNat + 1)) x.2.1 x.2.2}) (fun x => ⟨[(0, yv l), (1, .pointer (some ⟨b, 0, none⟩)), (8, .int .i64 (t.holds + 1)), (9, .int .i64 x.1.1)], x.1.2.1, x.1.2.2⟩) (fun x => t.holds.toNat + 1 - x.1.1) ⟨(0, H, R), by omega, by simpa using h0⟩ ?_ (fun x => ?_)
 exact Z05 idH
 obtain ⟨⟨k0, H0, R0⟩, hk0, hI0⟩ := x
 dsimp only at hk0 hI0 ⊢
 haveI : MemRows (some ⟨b, 0, none⟩) 11 [twl t sl] R0 := ⟨hI _ _ _ hI0⟩
 refine sqt 1 rfl (pur 1 rfl (Z0 ?_))
 refine Z4 rfl ?_ ?_ <;> intro hc0
 simp only [cS] at hc0
 refine Z2 (Z0 (Z7 (sqt 2 rfl (pur 2 rfl (sqt 4 rfl (sp rfl (PE.fA Z2q rfl) rfl (spL rfl rfl (lfB (sz := 11) sc3 rfl) rfl (sp rfl (PE.add rfl rfl (by omega)) rfl (pur 1 rfl (Z7 ?_))))))))))
 refine Zy (ι := {x : Nat × Za × Z8 // x.1 ≤ t.patience.toNat + 1 ∧ I ((k0 * (t.patience.toNat + 1) + x.1) * (t.run.toNat + 1)) x.2.1 x.2.2}) (fun x => ⟨[(0, yv l), (1, .pointer (some ⟨b, 0, none⟩)), (8, .int .i64 (t.holds + 1)), (9, .int .i64 k0), (3, .int .i64 k0), (14, .int .i64 (t.patience + 1)), (15, .int .i64 x.1.1)], x.1.2.1, x.1.2.2⟩) (fun x => t.patience.toNat + 1 - x.1.1) ⟨(0, H0, R0), by omega, by simpa using hI0⟩ ?_ (fun x => ?_)
 exact Z05 idH
 obtain ⟨⟨k1, H1, R1⟩, hk1, hI1⟩ := x
 dsimp only at hk1 hI1 ⊢
 haveI : MemRows (some ⟨b, 0, none⟩) 11 [twl t sl] R1 := ⟨hI _ _ _ hI1⟩
 refine sqt 1 rfl (pur 1 rfl (Z0 ?_))
 refine Z4 rfl ?_ ?_ <;> intro hc1
 simp only [cS] at hc1
 refine Z2 (Z0 (Z7 (sqt 2 rfl (pur 2 rfl (sqt 4 rfl (sp rfl (PE.fA Z2a rfl) rfl (spL rfl rfl (lfB (sz := 11) sc3 rfl) rfl (sp rfl (PE.add rfl rfl (by omega)) rfl (pur 1 rfl (Z7 ?_))))))))))
 refine Zy (ι := {x : Nat × Za × Z8 // x.1 ≤ t.run.toNat + 1 ∧ I ((k0 * (t.patience.toNat + 1) + k1) * (t.run.toNat + 1) + x.1) x.2.1 x.2.2}) (fun x => ⟨[(0, yv l), (1, .pointer (some ⟨b, 0, none⟩)), (8, .int .i64 (t.holds + 1)), (9, .int .i64 k0), (3, .int .i64 k0), (14, .int .i64 (t.patience + 1)), (15, .int .i64 k1), (4, .int .i64 k1), (20, .int .i64 (t.run + 1)), (21, .int .i64 x.1.1)], x.1.2.1, x.1.2.2⟩) (fun x => t.run.toNat + 1 - x.1.1) ⟨(0, H1, R1), by omega, by simpa using hI1⟩ ?_ (fun x => ?_)
 exact Z05 idH
 obtain ⟨⟨k2, H2, R2⟩, hk2, hI2⟩ := x
 dsimp only at hk2 hI2 ⊢
 refine sqt 1 rfl (pur 1 rfl (Z0 ?_))
 refine Z4 rfl ?_ ?_ <;> intro hc2
 simp only [cS] at hc2
 refine Z2 (Z0 (Z7 (sqt 2 rfl (pur 2 rfl (sqt 7 rfl (pur 4 rfl (sp rfl (PE.build (out := [_, _, _]) Z8q Z37 rfl rfl) rfl ?_)))))))
 refine clY rfl rfl rfl rfl (hy _ ⟨k0, k1, k2⟩ _ _ (by rw [Z4u (Z6w (by omega) (by omega) (by omega)), Z3M (by omega) (by omega)]) hI2) ?_
 rintro v H3 R3 (⟨rfl, hI3⟩ | ⟨rfl, hE3⟩)
 refine pur 1 rfl ?_
 refine Zo rfl ?_
 refine Z2 (sqr 2 rfl (sp rfl (PE.add rfl rfl (by omega)) rfl (pur 1 rfl ?_)))
 first | cases hc3 | exact ZQ ⟨(k2 + 1, H3, R3), by omega, hI3⟩ (by dsimp only; omega) idH
 refine pur 1 rfl ?_
 refine Zp rfl ?_
 refine Z3 ?_
 first | cases hc3 | exact Z5 (vs := []) rfl .nil rfl (.inr hE3) idH
 simp only [cS] at hc2
 obtain rfl : k2 = t.run.toNat + 1 := by omega
 refine Zm (Zt (Zt (ZU (sqr 2 rfl (sp rfl (PE.add rfl rfl (by omega)) rfl (pur 1 rfl ?_))))))
 exact Z0z ⟨(k1 + 1, H2, R2), by omega, by rw [show k0 * (t.patience.toNat + 1) + (k1 + 1) = (k0 * (t.patience.toNat + 1) + k1) + 1 from rfl, Nat.succ_mul]; exact hI2⟩ idH
 simp only [cS] at hc1
 obtain rfl : k1 = t.patience.toNat + 1 := by omega
 refine Zm (Zt (Zt (ZU (sqr 2 rfl (sp rfl (PE.add rfl rfl (by omega)) rfl (pur 1 rfl ?_))))))
 exact Z0z ⟨(k0 + 1, H1, R1), by omega, by rw [Nat.succ_mul]; exact hI1⟩ idH
 simp only [cS] at hc0
 obtain rfl : k0 = t.holds.toNat + 1 := by omega
 refine Zm (Zt (Zt (ZU ?_)))
 exact Z8M (vs := []) rfl .nil rfl (.inl hI0) idH
end Go.Proofs.Ythhdgeibokecjaa.Bd
namespace Go.Proofs.Ythhdgeibokecjaa.Bd
set_option linter.unusedSimpArgs false
set_option linter.unusedVariables false
structure Sv where
  y : List Int
  fl : List (Sta × Int)
def Z1W (y : List Int) (s : Sta) : Bool := decide (lat y s = 1000000)
def Z3R (t : Twn) (y : List Int) : Nat := (sts t).countP (Z1W y)
def Sv.step (t : Twn) (bads : Int) (σ : Sv) (s : Sta) : Sv := bif Z1W σ.y s && !(t.rats.any fun q => t.keeps σ.y s q bads) then ⟨σ.y.set s.ix (bads - 1), σ.fl ++ [(s, bads)]⟩ else σ
def pass (t : Twn) (bads : Int) (σ : Sv) : Sv := (sts t).foldl (Sv.step t bads) σ
def passes (t : Twn) (bads : Int) : Nat → Sv → Sv
  | 0, σ => σ
  | j + 1, σ => pass t bads (passes t bads j σ)
def Z5N (t : Twn) : List Int := (sts t).foldl (fun y s => y.set s.ix 1000000) (List.replicate 496 0)
inductive Rd (t : Twn) : Nat → Sv → Prop where
  | zero : Rd t 0 ⟨Z5N t, []⟩
  | next {n : Nat} {σ : Sv} (j : Nat) (h : Rd t n σ) (h1 : pass t n (passes t n j σ) = passes t n j σ) (h2 : passes t n j σ ≠ σ) : Rd t (n + 1) (passes t n j σ)
def Z3a (t : Twn) (σ : Sv) : Prop := ∃ n : Nat, Rd t n σ ∧ pass t n σ = σ
theorem ZE {y : List Int} {s : Sta} {v : Int} (h : s.ix < y.length) : lat (y.set s.ix v) s = v := by simp [lat, h]
theorem ZH {y : List Int} {s u : Sta} {v : Int} (h : s.ix ≠ u.ix) : lat (y.set s.ix v) u = lat y u := by
  simp only [lat, List.getD_eq_getElem?_getD, List.getElem?_set_ne h]
theorem Z3Z {α : Type} {p q : α → Bool} : ∀ {l : List α}, (∀ x ∈ l, p x = true → q x = true) → (∃ x ∈ l, q x = true ∧ p x = false) → l.countP p < l.countP q
  | [], _, ⟨_, h, _⟩ => by cases h
  | a :: l, h1, ⟨x, hx, hq, hp⟩ => by
    have hle : l.countP p ≤ l.countP q := List.countP_mono_left fun x hx hp => h1 x (by simp [hx]) hp
    rcases List.mem_cons.1 hx with rfl | hx
    · rw [List.countP_cons_of_pos hq, List.countP_cons_of_neg (by simp [hp])]; omega
    · have := Z3Z (l := l) (fun x hx => h1 x (by simp [hx])) ⟨x, hx, hq, hp⟩
      simp only [List.countP_cons]
      have h3 := h1 a (by simp)
      cases hpa : p a <;> cases hqa : q a <;> simp_all <;> omega
theorem Z1O (t : Twn) (n : Int) (σ : Sv) (s : Sta) : (σ.step t n s).y.length = σ.y.length := by
  unfold Sv.step; cases Z1W σ.y s && !(t.rats.any fun q => t.keeps σ.y s q n) <;> simp
theorem Z5h {t : Twn} (ht : t.ok) {n : Int} (hn : n ≤ 1000000) {σ : Sv} (hy : σ.y.length = 496) {s : Sta} (hs : s ∈ sts t) :
    σ.step t n s = σ ∨ (Z3R t (σ.step t n s).y < Z3R t σ.y ∧ (σ.step t n s).fl.length = σ.fl.length + 1) := by
  unfold Sv.step
  cases hc : Z1W σ.y s && !(t.rats.any fun q => t.keeps σ.y s q n) with
  | false => exact .inl rfl
  | true =>
    right
    simp only [Bool.and_eq_true] at hc
    have hix : s.ix < σ.y.length := by rw [hy]; exact Z1w ht (Zh ht hs)
    refine ⟨?_, by simp⟩
    refine Z3Z (fun u hu hp => ?_) ⟨s, hs, hc.1, ?_⟩
    · simp only [cond_true] at hp
      by_cases he : s.ix = u.ix
      · have := Z13 ht (Zh ht hs) (Zh ht hu) he
        subst this; exact hc.1
      · simp only [Z1W, ZH he] at hp
        exact hp
    · simp only [cond_true, Z1W, ZE hix]
      simp; omega
theorem Z3p (t : Twn) (n : Int) : ∀ (l : List Sta) (σ : Sv), (l.foldl (Sv.step t n) σ).y.length = σ.y.length
  | [], _ => rfl
  | s :: l, σ => by rw [List.foldl_cons, Z3p t n l, Z1O]
theorem Z2k {t : Twn} (ht : t.ok) {n : Int} (hn : n ≤ 1000000) : ∀ (l : List Sta) (σ : Sv), σ.y.length = 496 → (∀ s ∈ l, s ∈ sts t) →
    (l.foldl (Sv.step t n) σ = σ ∨ Z3R t (l.foldl (Sv.step t n) σ).y < Z3R t σ.y) ∧ (l.foldl (Sv.step t n) σ).fl.length + Z3R t (l.foldl (Sv.step t n) σ).y ≤ σ.fl.length + Z3R t σ.y
  | [], σ, _, _ => ⟨.inl rfl, Nat.le_refl _⟩
  | s :: l, σ, hy, hl => by
    rw [List.foldl_cons]
    have h1 := Z5h ht hn hy (hl s (by simp))
    obtain ⟨h2, h3⟩ := Z2k ht hn l (σ.step t n s) (by rw [Z1O]; exact hy) (fun u hu => hl u (by simp [hu]))
    rcases h1 with h1 | ⟨h1, h4⟩
    · rw [h1] at h2 h3 ⊢; exact ⟨h2, h3⟩
    · refine ⟨.inr ?_, by omega⟩
      rcases h2 with h2 | h2
      · rw [h2]; exact h1
      · omega
theorem Z06 (t : Twn) (n : Int) : ∀ (j : Nat) (σ : Sv), (passes t n j σ).y.length = σ.y.length
  | 0, _ => rfl
  | j + 1, σ => by unfold passes; rw [pass, Z3p, Z06 t n j]
theorem Z0G {t : Twn} (ht : t.ok) {n : Int} (hn : n ≤ 1000000) : ∀ (j : Nat) (σ : Sv), σ.y.length = 496 →
    (passes t n j σ = σ ∨ Z3R t (passes t n j σ).y < Z3R t σ.y) ∧ (passes t n j σ).fl.length + Z3R t (passes t n j σ).y ≤ σ.fl.length + Z3R t σ.y
  | 0, σ, _ => ⟨.inl rfl, Nat.le_refl _⟩
  | j + 1, σ, hy => by
    unfold passes
    obtain ⟨h1, h2⟩ := Z0G ht hn j σ hy
    obtain ⟨h3, h4⟩ := Z2k ht hn (sts t) (passes t n j σ) (by rw [Z06]; exact hy) (fun s hs => hs)
    refine ⟨?_, by unfold pass; omega⟩
    unfold pass
    rcases h1 with h1 | h1
    · rw [h1] at h3 ⊢; exact h3
    · right
      rcases h3 with h3 | h3
      · rw [h3]; exact h1
      · omega
theorem Z2M {t : Twn} (ht : t.ok) {n : Int} (hn : n ≤ 1000000) {j : Nat} {σ : Sv} (hy : σ.y.length = 496) (h : (passes t n j σ).y = σ.y) : passes t n j σ = σ := by
  rcases (Z0G ht hn j σ hy).1 with h1 | h1
  · exact h1
  · rw [h] at h1; omega
theorem Z78 {t : Twn} (ht : t.ok) {n : Int} (hn : n ≤ 1000000) {σ : Sv} (hy : σ.y.length = 496) (h : (pass t n σ).y = σ.y) : pass t n σ = σ := Z2M (j := 1) ht hn hy h
theorem Z6R {t : Twn} (ht : t.ok) {n : Int} (hn : n ≤ 1000000) {σ : Sv} (hy : σ.y.length = 496) (h : (pass t n σ).y ≠ σ.y) : Z3R t (pass t n σ).y < Z3R t σ.y := by
  rcases (Z0G ht hn 1 σ hy).1 with h1 | h1
  · exact absurd (congrArg Sv.y h1) h
  · exact h1
theorem Z6S {t : Twn} {n : Int} {σ : Sv} (h : ∀ s, Z1W σ.y s = false) : pass t n σ = σ := by
  have : ∀ l : List Sta, l.foldl (Sv.step t n) σ = σ := by
    intro l
    induction l with
    | nil => rfl
    | cons s l ih => rw [List.foldl_cons, show σ.step t n s = σ from by simp [Sv.step, h s], ih]
  exact this _
theorem Z6Z (s : Sta) : Z1W (List.replicate 496 0) s = false := by
  unfold Z1W lat
  rw [List.getD_eq_getElem?_getD, List.getElem?_replicate]
  split <;> simp
theorem Z3W {t : Twn} (ht : t.ok) : t.nst ≤ 496 := by
  have h1 := ht.holds
  have h2 := ht.patience
  have h3 := ht.run
  have a := Nat.mul_le_mul (show t.holds.toNat + 1 ≤ 31 by omega) (show t.patience.toNat + 1 ≤ 4 by omega)
  have b := Nat.mul_le_mul a (show t.run.toNat + 1 ≤ 4 by omega)
  exact b
theorem Z2z : ∀ (l : List Sta) (y : List Int), (l.foldl (fun y s => y.set s.ix 1000000) y).length = y.length
  | [], _ => rfl
  | s :: l, y => by rw [List.foldl_cons, Z2z l]; simp
theorem Z2P {t : Twn} (ht : t.ok) {n : Nat} {σ : Sv} (h : Rd t n σ) : σ.y.length = 496 ∧ n + Z3R t σ.y ≤ 496 ∧ σ.fl.length + Z3R t σ.y ≤ 496 := by
  have h0 : ∀ y, Z3R t y ≤ 496 := fun y => Nat.le_trans (List.countP_le_length) (by rw [Z0B]; exact Z3W ht)
  induction h with
  | zero => exact ⟨by rw [Z5N, Z2z, List.length_replicate], by simpa using h0 _, by simpa using h0 _⟩
  | next j h h1 h2 ih =>
    rename_i m σ
    obtain ⟨i1, i2, i3⟩ := ih
    obtain ⟨a, b⟩ := Z0G (n := (m : Int)) ht (by omega) j σ i1
    refine ⟨by rw [Z06]; exact i1, ?_, by omega⟩
    rcases a with a | a
    · exact absurd a h2
    · omega
def Rg (n : Int) (v : Int) : Prop := v = 1000000 ∨ (-1 ≤ v ∧ v ≤ n)
theorem Z6E {t : Twn} (ht : t.ok) {n m : Int} (h0 : 0 ≤ n) (hm : n - 1 ≤ m) : ∀ (l : List Sta) (σ : Sv), σ.y.length = 496 → (∀ s ∈ l, s ∈ sts t) → (∀ s ∈ sts t, Rg m (lat σ.y s)) → ∀ s ∈ sts t, Rg m (lat (l.foldl (Sv.step t n) σ).y s)
  | [], _, _, _, h => h
  | u :: l, σ, hy, hl, h => by
    rw [List.foldl_cons]
    refine Z6E ht h0 hm l _ (by rw [Z1O]; exact hy) (fun s hs => hl s (by simp [hs])) ?_
    intro s hs
    unfold Sv.step
    cases Z1W σ.y u && !(t.rats.any fun q => t.keeps σ.y u q n) with
    | false => exact h s hs
    | true =>
      simp only [cond_true]
      by_cases he : u.ix = s.ix
      · have := Z13 ht (Zh ht (hl u (by simp))) (Zh ht hs) he
        subst this
        rw [ZE (by rw [hy]; exact Z1w ht (Zh ht hs))]
        exact .inr (by omega)
      · rw [ZH he]; exact h s hs
theorem Z49 {t : Twn} (ht : t.ok) {n m : Int} (h0 : 0 ≤ n) (hm : n - 1 ≤ m) : ∀ (j : Nat) (σ : Sv), σ.y.length = 496 → (∀ s ∈ sts t, Rg m (lat σ.y s)) → ∀ s ∈ sts t, Rg m (lat (passes t n j σ).y s)
  | 0, _, _, h => h
  | j + 1, σ, hy, h => Z6E ht h0 hm (sts t) _ (by rw [Z06]; exact hy) (fun _ h => h) (Z49 ht h0 hm j σ hy h)
theorem Z4a {t : Twn} (ht : t.ok) : ∀ (l : List Sta) (y : List Int), y.length = 496 → (∀ s ∈ l, s ∈ sts t) → ∀ s ∈ sts t, (s ∈ l ∨ lat y s = 1000000) → lat (l.foldl (fun y s => y.set s.ix 1000000) y) s = 1000000
  | [], _, _, _, _, _, h => by rcases h with h | h; cases h; exact h
  | u :: l, y, hy, hl, s, hs, h => by
    rw [List.foldl_cons]
    refine Z4a ht l _ (by simpa using hy) (fun s hs => hl s (by simp [hs])) s hs ?_
    by_cases he : u.ix = s.ix
    · right
      have := Z13 ht (Zh ht (hl u (by simp))) (Zh ht hs) he
      subst this
      exact ZE (by rw [hy]; exact Z1w ht (Zh ht hs))
    · rcases h with h | h
      · rcases List.mem_cons.1 h with rfl | h
        · exact absurd rfl he
        · exact .inl h
      · right; rw [ZH he]; exact h
theorem Z22 {t : Twn} (ht : t.ok) {s : Sta} (hs : s ∈ sts t) : lat (Z5N t) s = 1000000 :=
  Z4a ht (sts t) _ List.length_replicate (fun _ h => h) s hs (.inl hs)
theorem ZaQ {t : Twn} (ht : t.ok) {n : Nat} {σ : Sv} (h : Rd t n σ) : ∀ s ∈ sts t, Rg ((n : Int) - 1) (lat σ.y s) := by
  induction h with
  | zero => exact fun s hs => .inl (Z22 ht hs)
  | next j h h1 h2 ih =>
    rename_i m σ
    refine Z49 ht (by omega) (by omega) j σ (Z2P ht h).1 (fun s hs => ?_)
    rcases ih s hs with h | h
    · exact .inl h
    · exact .inr (by omega)
theorem Z34 {t : Twn} (ht : t.ok) {σ : Sv} (h : Z3a t σ) {s : Sta} (hs : s.right t = true) : lat σ.y s = 1000000 ∨ (-1 ≤ lat σ.y s ∧ lat σ.y s ≤ 496) := by
  obtain ⟨n, h, _⟩ := h
  have h1 := Z2P ht h
  rcases ZaQ ht h s (Zz hs) with h2 | h2
  · exact .inl h2
  · exact .inr (by omega)
open Go
theorem Z8E : Z5M Try.prog 89 = some 496 := by kernel_rfl
theorem Zb9 : apT Try.prog 37 = some (51, 4, 32) := by kernel_rfl
theorem Z72 : cal Try.prog 29 = true := by kernel_rfl
theorem Z6k : cal Try.prog 63 = true := by kernel_rfl
theorem Zb0 : cal Try.prog 81 = true := by kernel_rfl
theorem Zbu : Z0E Try.prog 37 = some 1 := by kernel_rfl
theorem Zaj : Z0E Try.prog 89 = some 496 := by kernel_rfl
theorem Z1g : eqB Try.prog 10000 24 = some (true, 3) := by kernel_rfl
theorem Z9G : eqB Try.prog 10000 89 = some (true, 496) := by kernel_rfl
theorem Z9w : Try.prog.eqGuardType Try.prog.depth 89 = false := by kernel_rfl
theorem Z71 : Z1j Try.prog 92 3 = some 508 := by kernel_rfl
theorem Z43 : Z1j Try.prog 92 4 = some 509 := by kernel_rfl
theorem Z1x : Z4H Try.prog 90 = some (24, 3) := by kernel_rfl
theorem Z1p : Z2w Try.prog 10000 24 = true := by kernel_rfl
theorem ZbD : Z0W Try.prog 51 = some [(0, 3), (3, 1)] := by kernel_rfl
theorem Zaz : Z2m Try.prog 37 = true := by kernel_rfl
theorem Z1R : Z2m Try.prog 81 = true := by kernel_rfl
theorem Z7b : Z2m Try.prog 90 = true := by kernel_rfl
theorem Z8o : slE Try.prog 37 = some (51, 4) := by kernel_rfl
theorem Z9u : Z08 Try.prog 51 = some ([.int .i64 0, .int .i64 0, .int .i64 0, .int .i64 0]) := by kernel_rfl
theorem Zag : Z08 Try.prog 89 = some (List.replicate 496 (.int .i64 0)) := by kernel_rfl
def Z2O (p : Sta × Int) : List Value := [.int .i64 p.1.stock, .int .i64 p.1.short, .int .i64 p.1.dry, .int .i64 p.2]
def Ze (l : List (Sta × Int)) : List (List Value) := l.map Z2O
def Z24 (l : List (Sta × Int)) : KV := l.foldl (fun kv p => kv.put [p.1.stock, p.1.short, p.1.dry] (.int .i64 p.2)) []
theorem Z8r : ∀ (l : List (Sta × Int)) (kv : KV), (∀ e ∈ kv, e.1.length = 3) → ∀ e ∈ l.foldl (fun (kv : KV) p => kv.put [p.1.stock, p.1.short, p.1.dry] (.int .i64 p.2)) kv, e.1.length = 3
  | [], _, h => h
  | p :: l, kv, h => by
    refine Z8r l _ ?_
    clear l
    induction kv with
    | nil => intro e he; simp only [KV.put, List.mem_singleton] at he; subst he; rfl
    | cons a kv ih =>
      intro e he
      obtain ⟨k', v'⟩ := a
      replace he : e ∈ bif decide (k' = [p.1.stock, p.1.short, p.1.dry]) then ([p.1.stock, p.1.short, p.1.dry], Value.int .i64 p.2) :: kv else (k', v') :: KV.put kv [p.1.stock, p.1.short, p.1.dry] (.int .i64 p.2) := he
      cases hc : decide (k' = [p.1.stock, p.1.short, p.1.dry]) <;> rw [hc] at he
      · rcases List.mem_cons.1 he with rfl | he
        · exact h _ (by simp)
        · exact ih (fun e he => h e (by simp [he])) e he
      · rcases List.mem_cons.1 he with rfl | he
        · rfl
        · exact h _ (by simp [he])
theorem Z58 (l : List (Sta × Int)) : ∀ e ∈ Z24 l, e.1.length = 3 := Z8r l [] (by simp)
theorem Za1 : Z08 Try.prog 89 = some (ZI (List.replicate 496 0)) := by rw [Zag, ZI, List.map_replicate]
structure SvI (t : Twn) where
  n : Nat
  σ : Sv
  ms : List Nat
  b3 : Nat
  o : OSl 51 4 (Ze σ.fl)
  h : Rd t n σ
structure SvJ (t : Twn) (n : Nat) (σ : Sv) where
  j : Nat
  ms : List Nat
  b5 : Nat
  bf : List Int
  bl : bf.length = 496
  o : OSl 51 4 (Ze (passes t n j σ).fl)
  h : (bf = List.replicate 496 0 ∧ j = 0) ∨ ∃ i, j = i + 1 ∧ bf = (passes t n i σ).y
theorem Z6H (t : Twn) (ht : t.ok) (ba oa ca : Nat) (bt bw m : Nat) (H : Za) (R : Z8) [hR : MemRows (some ⟨ba, oa, none⟩) 2 (Zx t.rats) R] [hT : MemRows (some ⟨bt, 0, none⟩) 11 [twl t (t.sl (some ⟨ba, oa, none⟩) ca)] R] :
    Fn Try.prog 62 [.pointer (some ⟨bw, 0, none⟩)] ((bw, cel 92 (rcs t (t.sl (some ⟨ba, oa, none⟩) ca) bt (List.replicate 496 0) (.slice none 0 0) m)) :: (m, Z0o true []) :: H) R
      (fun _ H' R' => ∃ (σ : Sv) (o : OSl 51 4 (Ze σ.fl)), Z3a t σ ∧ H' = o.G ++ (bw, cel 92 (rcs t (t.sl (some ⟨ba, oa, none⟩) ca) bt (σ.y) o.fs m)) :: (m, Z0o true (Z24 σ.fl)) :: H ∧ R' = R) := by
 refine Z55 Try.func62 rfl Try.ntmps62 rfl ?_
 refine sqt 1 rfl (bx rfl rfl rfl (fun b1 => Z0 (sqt 5 rfl (spL rfl rfl (lh Z1R rfl rfl) rfl (sp rfl (PE.nilCheck rfl) rfl (sp rfl (PE.fA Z2H rfl) rfl (spL rfl rfl (lhA [_, _, _, _, _, _, _, _, _, _, _] ZZ rfl rfl rfl) rfl ?_)))))))
 refine cl rfl Z72 rfl rfl (Z1C t (t.sl (some ⟨ba, oa, none⟩) ca) _ _) ?_
 rintro _ _ _ ⟨b11, rfl, rfl, rfl⟩
 refine Z7 ?_
 refine Z1N rfl Z6k (fun c0 bl0 bd0 hcp0 hca0 hcb0 hck0 => ?_)
 refine ⟨fun st pend T R' => st = .ready ∧ pend = none ∧ T = (bd0, .deferred (some [])) :: (b1, cel 81 [.pointer (some ⟨bw, 0, none⟩)]) :: (bw, cel 92 (rcs t (t.sl (some ⟨ba, oa, none⟩) ca) bt (Z5N t) (.slice none 0 0) m)) :: (m, Z0o true []) :: H ∧ R' = RowsA (some ⟨b11, 0, none⟩) 11 [twl t (t.sl (some ⟨ba, oa, none⟩) ca)] :: R,
   Fn.mono (Z16 t ht (t.sl (some ⟨ba, oa, none⟩) ca) b11 bl0 (fun k H' R' => H' = (bl0, lob c0 .ready none) :: (bd0, .deferred (some [])) :: (b1, cel 81 [.pointer (some ⟨bw, 0, none⟩)]) :: (bw, cel 92 (rcs t (t.sl (some ⟨ba, oa, none⟩) ca) bt (((sts t).take k).foldl (fun y s => y.set s.ix 1000000) (List.replicate 496 (0 : Int))) (.slice none 0 0) m)) :: (m, Z0o true []) :: H ∧ R' = RowsA (some ⟨b11, 0, none⟩) 11 [twl t (t.sl (some ⟨ba, oa, none⟩) ca)] :: R) (fun _ _ => False)
     (fun k H' R' h => by rw [h.2]; simp) (fun k s H' R' hk hI => ?_) _ _ ⟨rfl, rfl⟩) (fun v H' R' h => ?_), ?_⟩
 rotate_left
 · rcases h with ⟨rfl, rfl⟩ | h
   · rw [List.take_of_length_le (by rw [Z0B]; exact Nat.le_refl _)]
     exact ⟨.ready, none, _, by simp, .refl _, rfl, rfl, rfl, rfl⟩
   · exact h.elim
 rotate_left
 obtain ⟨rfl, rfl⟩ := hI
 have hs := Zh ht (List.mem_of_getElem? hk)
 have hix := Z1w ht hs
 have q1 := right_iff.1 hs
 have t1 := ht.holds
 have t2 := ht.patience
 have t3 := ht.run
 have e : ((sts t).take (k + 1)).foldl (fun y s => y.set s.ix 1000000) (List.replicate 496 (0 : Int)) = (((sts t).take k).foldl (fun y s => y.set s.ix 1000000) (List.replicate 496 (0 : Int))).set s.ix 1000000 := by rw [List.take_add_one, hk, Option.toList_some, List.foldl_append]; rfl
 rw [e]
 have hyl : (((sts t).take k).foldl (fun y s => y.set s.ix 1000000) (List.replicate 496 (0 : Int))).length = 496 := by rw [Z2z, List.length_replicate]
 generalize ((sts t).take k).foldl (fun y s => y.set s.ix 1000000) (List.replicate 496 (0 : Int)) = y at *
 refine Z6J hcp0 hca0 hcb0 hck0 rfl ?_
 refine sqr 2 rfl (alc rfl Z37 rfl (fun b2 => ?_))
 refine sto rfl rfl rfl Z2n rfl rfl rfl rfl ?_
 refine Z0a ?_
 refine Z7 ?_
 refine Z9 [0, 0, 2, 0, 8, 0, 32, 1, 129, 391, 927, 2047, 4095] (.ld 0 (.tk 1 (.ld 2 (.tk 3 (.ld 4 (.tk 5 (.ld 6 (tks 7 5 (.big 12 .done))))))))) Zw (by kernel_rfl) ?_
 refine ld rfl rfl (lh Z1R rfl rfl) rfl (tk rfl (PE.fA Z07 rfl) rfl (ld rfl rfl (lh sc3 rfl rfl) rfl (tk rfl (PE.fA ZT rfl) rfl (ld rfl rfl (lh sc3 rfl rfl) rfl (tk rfl (PE.fA Z0i rfl) rfl (ld rfl rfl (lh sc3 rfl rfl) rfl (tk rfl (PE.nilCheck rfl) rfl (tk rfl (PE.fA Z02 rfl) rfl (tk rfl (PE.indexArr Z8O rfl rfl (by omega) (by omega)) rfl (tk rfl (PE.indexArr Z9k rfl rfl (by omega) (by omega)) rfl (tk rfl (PE.indexArr Z9h rfl rfl (by omega) (by omega)) rfl ?_)))))))))))
 refine Z5V rfl rfl rfl cn3 rfl rfl rfl (Z4c 1000000 (i := s.ix) (by omega) (by unfold Sta.ix; omega)) (by rw [Z2D hyl]; show _ + 1 ≤ 510; omega) ?_
 refine bgT ?_
 exact ZA (.inl ⟨rfl, rfl, rfl⟩) (fun _ h => by repeat first | exact h | replace h := St.tail h | replace h := St.ftail h | replace h := St.drop h)
 ·
  rintro _ _ _ _ ⟨rfl, rfl, rfl, rfl⟩
  refine Z6n ?_
  refine sqt 2 rfl (alc rfl zl3 rfl (fun b3 => ?_))
  refine sto rfl rfl rfl cn3 rfl rfl rfl rfl ?_
  refine Z7 ?_
  refine Z57 (ι := SvI t) (fun x => ⟨[(1, .pointer (some ⟨b1, 0, none⟩)), (3, .pointer (some ⟨x.b3, 0, none⟩))], mks x.ms, mkh x.ms ++ (x.b3, cel 3 [.int .i64 x.n]) :: (b1, cel 81 [.pointer (some ⟨bw, 0, none⟩)]) :: (x.o.G ++ (bw, cel 92 (rcs t (t.sl (some ⟨ba, oa, none⟩) ca) bt (x.σ.y) x.o.fs m)) :: (m, Z0o true (Z24 x.σ.fl)) :: H), R⟩) (fun x => Z3R t x.σ.y) ⟨0, ⟨Z5N t, []⟩, [bd0], b3, OSl.nil _ _, .zero⟩ ?_ (fun x => ?_)
  ·
   exact Z8a (by repeat' first | exact Sub.nil | apply Sub.cons | rfl | (simp [lk]; omega)) rfl (fun w h => (h.perm (.swap _ _ _)).ftail)
  ·
   obtain ⟨n, σ, ms, b3, o, hrd⟩ := x
   dsimp only
   obtain ⟨hyl, hcn, hfl⟩ := Z2P ht hrd
   have hn6 : (n : Int) ≤ 1000000 := by omega
   refine Z0 (Z7 (sqt 6 rfl (spL rfl rfl (lh Z1R rfl rfl) rfl (sp rfl (PE.nilCheck rfl) rfl (sp rfl (PE.fA Z02 rfl) rfl (spL rfl rfl (lhA (ZI σ.y) Z8E rfl rfl (by rw [Zj]; exact hyl)) rfl (alc rfl Zag rfl (fun b4 => ?_))))))))
   refine Zak rfl rfl rfl Zaj rfl (by rw [Zj]; exact hyl) List.length_replicate (Z2i _) ?_
   refine Z0 (sqt 3 rfl (sp rfl (PE.zero (l := ZI (List.replicate 496 0)) (.inr (by rw [Z8O]; rfl)) Za1) rfl (alc rfl Zag rfl (fun b5 => ?_))))
   refine Zak rfl rfl rfl Zaj rfl (by rw [Zj, List.length_replicate]) List.length_replicate (Z2i _) ?_
   refine Z7 ?_
   refine Z57 (ι := SvJ t n σ) (fun x => ⟨[(1, .pointer (some ⟨b1, 0, none⟩)), (3, .pointer (some ⟨b3, 0, none⟩)), (4, .pointer (some ⟨b4, 0, none⟩)), (5, .pointer (some ⟨x.b5, 0, none⟩))], mks x.ms, mkh x.ms ++ (x.b5, cel 89 (ZI x.bf)) :: (b4, cel 89 (ZI σ.y)) :: (b3, cel 3 [.int .i64 n]) :: (b1, cel 81 [.pointer (some ⟨bw, 0, none⟩)]) :: (x.o.G ++ (bw, cel 92 (rcs t (t.sl (some ⟨ba, oa, none⟩) ca) bt ((passes t n x.j σ).y) x.o.fs m)) :: (m, Z0o true (Z24 ((passes t n x.j σ)).fl)) :: H), R⟩)
     (fun x => 2 * Z3R t (passes t n x.j σ).y + if x.bf = (passes t n x.j σ).y then 0 else 1) ⟨0, ms, b5, List.replicate 496 0, List.length_replicate, o, .inl ⟨rfl, rfl⟩⟩ ?_ (fun x => ?_)
   exact Z8a (by repeat' first | exact Sub.nil | apply Sub.cons | rfl | (simp [lk]; omega)) rfl (fun w h => h.perm (ZV [_, _] _ _))
   ·
    obtain ⟨j, ms, b5, bf, hbl, o, hbf⟩ := x
    dsimp only
    have hyj : (passes t n j σ).y.length = 496 := by rw [Z06]; exact hyl
    obtain ⟨hpc, hpf⟩ := Z0G (n := (n : Int)) ht hn6 j σ hyl
    refine Z0 (Z0 ?_)
    refine Z9 [0, 0, 2, 6, 14, 31] (.ld 0 (.ld 1 (.tk 2 (.tk 3 (.ld 4 (.tk 5 .done)))))) Zw (by kernel_rfl) ?_
    refine ld rfl rfl (lhA (rest := []) (ZI bf) Z8E rfl (by simp) (by rw [Zj]; exact hbl)) rfl (ld rfl rfl (lh Z1R rfl rfl) rfl (tk rfl (PE.nilCheck rfl) rfl (tk rfl (PE.fA Z02 rfl) rfl (ld rfl rfl (lhA (ZI (passes t n j σ).y) Z8E rfl rfl (by rw [Zj]; exact hyj)) rfl (tk rfl (PE.neqAgg bf (passes t n j σ).y (Z28 10000 89 true 496 Z9G) Z9w rfl rfl hbl hyj) rfl ?_)))))
    refine Z4 rfl ?_ ?_ <;> intro hc0
    ·
     have hne : bf ≠ (passes t n j σ).y := by simpa using hc0
     refine Z2 (Z0 (Z7 (sqt 5 rfl (spL rfl rfl (lh Z1R rfl rfl) rfl (sp rfl (PE.nilCheck rfl) rfl (sp rfl (PE.fA Z02 rfl) rfl (spL rfl rfl (lhA (ZI (passes t n j σ).y) Z8E rfl rfl (by rw [Zj]; exact hyj)) rfl ?_)))))))
     refine Zak rfl rfl rfl Zaj rfl (by rw [Zj]; exact hyj) (by rw [Zj]; exact hbl) (Z2i _) ?_
     refine sqt 5 rfl (spL rfl rfl (lh Z1R rfl rfl) rfl (sp rfl (PE.nilCheck rfl) rfl (sp rfl (PE.fA Z2H rfl) rfl (spL rfl rfl (lhA [_, _, _, _, _, _, _, _, _, _, _] ZZ rfl rfl rfl) rfl ?_))))
     refine cl rfl Z72 rfl rfl (Z1C t (t.sl (some ⟨ba, oa, none⟩) ca) _ _) ?_
     rintro _ _ _ ⟨b46, rfl, rfl, rfl⟩
     refine Z7 ?_
     refine Z1N rfl Z6k (fun c1 bl1 bd1 hcp1 hca1 hcb1 hck1 => ?_)
     refine ⟨fun st pend T R' => st = .ready ∧ pend = none ∧ ∃ o' : OSl 51 4 (Ze (pass t n (passes t n j σ)).fl), T = (bd1, .deferred (some [])) :: (mkh ms ++ (b5, cel 89 (ZI (passes t n j σ).y)) :: (b4, cel 89 (ZI σ.y)) :: (b3, cel 3 [.int .i64 n]) :: (b1, cel 81 [.pointer (some ⟨bw, 0, none⟩)]) :: (o'.G ++ (bw, cel 92 (rcs t (t.sl (some ⟨ba, oa, none⟩) ca) bt ((pass t n (passes t n j σ)).y) o'.fs m)) :: (m, Z0o true (Z24 ((pass t n (passes t n j σ))).fl)) :: H)) ∧ R' = RowsA (some ⟨b46, 0, none⟩) 11 [twl t (t.sl (some ⟨ba, oa, none⟩) ca)] :: R,
       Fn.mono (Z16 t ht (t.sl (some ⟨ba, oa, none⟩) ca) b46 bl1 (fun k H' R' => ∃ o' : OSl 51 4 (Ze (((sts t).take k).foldl (Sv.step t n) (passes t n j σ)).fl), H' = (bl1, lob c1 .ready none) :: (bd1, .deferred (some [])) :: (mkh ms ++ (b5, cel 89 (ZI (passes t n j σ).y)) :: (b4, cel 89 (ZI σ.y)) :: (b3, cel 3 [.int .i64 n]) :: (b1, cel 81 [.pointer (some ⟨bw, 0, none⟩)]) :: (o'.G ++ (bw, cel 92 (rcs t (t.sl (some ⟨ba, oa, none⟩) ca) bt ((((sts t).take k).foldl (Sv.step t n) (passes t n j σ)).y) o'.fs m)) :: (m, Z0o true (Z24 ((((sts t).take k).foldl (Sv.step t n) (passes t n j σ))).fl)) :: H)) ∧ R' = RowsA (some ⟨b46, 0, none⟩) 11 [twl t (t.sl (some ⟨ba, oa, none⟩) ca)] :: R) (fun _ _ => False)
         (fun k H' R' h => by obtain ⟨_, _, h⟩ := h; rw [h]; simp) (fun k s H' R' hk hI => ?_) _ _ ⟨o, rfl, rfl⟩) (fun v H' R' h => ?_), ?_⟩
     rotate_left
     · rw [List.take_of_length_le (show (sts t).length ≤ t.nst by rw [Z0B]; exact Nat.le_refl _)] at h
       rcases h with ⟨o', rfl, rfl⟩ | h
       · exact ⟨.ready, none, _, by simp, .refl _, rfl, rfl, o', rfl, rfl⟩
       · exact h.elim
     rotate_left
     have hs := Zh ht (List.mem_of_getElem? hk)
     have hix := Z1w ht hs
     have q1 := right_iff.1 hs
     have t1 := ht.holds
     have t2 := ht.patience
     have t3 := ht.run
     have e : ((sts t).take (k + 1)).foldl (Sv.step t n) (passes t n j σ) = (((sts t).take k).foldl (Sv.step t n) (passes t n j σ)).step t n s := by rw [List.take_add_one, hk, Option.toList_some, List.foldl_append]; rfl
     rw [e]
     obtain ⟨_, hkf⟩ := Z2k (n := (n : Int)) ht hn6 ((sts t).take k) (passes t n j σ) hyj (fun s h => List.mem_of_mem_take h)
     have hyk : (((sts t).take k).foldl (Sv.step t n) (passes t n j σ)).y.length = 496 := by rw [Z3p]; exact hyj
     clear e
     generalize ((sts t).take k).foldl (Sv.step t n) (passes t n j σ) = υ at *
     obtain ⟨o, rfl, rfl⟩ := hI
     refine Z6J hcp1 hca1 hcb1 hck1 rfl ?_
     refine sqr 2 rfl (alc rfl Z37 rfl (fun b6 => ?_))
     refine sto rfl rfl rfl Z2n rfl rfl rfl rfl ?_
     refine Z0a ?_
     refine Z7 (Z0 ?_)
     refine Z9 [0, 1, 3, 0, 15, 31, 63, 127, 127, 127, 1023, 2047, 4095] (.ld 0 (.tk 1 (.tk 2 (.ld 3 (.big 4 (.tk 5 (.tk 6 (.ld 7 (.ld 8 (.ld 9 (.big 10 (.tk 11 (.tk 12 .done))))))))))))) Zw (by kernel_rfl) ?_
     refine ld rfl rfl (lh Z1R rfl rfl) rfl (tk rfl (PE.nilCheck rfl) rfl (tk rfl (PE.fA Z02 rfl) rfl (ld rfl rfl (lhA [_, _, _] ZG rfl rfl rfl) rfl ?_)))
     refine clV rfl Z2g rfl rfl (Z5U t ht s hs ba oa ca bt bw m υ.y o.fs hyk _ _) ?_
     refine bgT (Zi 2 rfl ?_)
     refine Z0b 54 rfl ?_ ?_ <;> intro g54
     refine ldG rfl rfl rfl rfl rfl (lh Z1R rfl rfl) rfl (ldG rfl rfl rfl rfl rfl (lhA [_, _, _] ZG rfl rfl rfl) rfl (ldG rfl rfl rfl rfl rfl (lh sc3 rfl rfl) rfl ?_))
     refine Z1X rfl rfl rfl rfl Zb0 rfl rfl (Zav t ht s hs n (by omega) ba oa ca bt bw m υ.y o.fs hyk _ _) ?_
     refine bgT (Zi 2 rfl ?_)
     refine Z4 rfl ?_ ?_ <;> intro hc1
     have e : υ.step t n s = ⟨υ.y.set s.ix (n - 1), υ.fl ++ [(s, (n : Int))]⟩ := by simp [Sv.step, Z1W, g54, hc1]
     rw [e]
     refine Z0 ?_
     refine Z9 [0, 0, 2, 0, 8, 0, 32, 0, 128, 1, 513, 1543, 3615, 8191, 16383] (.ld 0 (.tk 1 (.ld 2 (.tk 3 (.ld 4 (.tk 5 (.ld 6 (.ld 7 (tks 8 6 (.big 14 .done)))))))))) Zw (by kernel_rfl) ?_
     refine ld rfl rfl (lh Z1R rfl rfl) rfl (tk rfl (PE.fA Z07 rfl) rfl (ld rfl rfl (lh sc3 rfl rfl) rfl (tk rfl (PE.fA ZT rfl) rfl (ld rfl rfl (lh sc3 rfl rfl) rfl (tk rfl (PE.fA Z0i rfl) rfl (ld rfl rfl (lh sc3 rfl rfl) rfl (ld rfl rfl (lh sc3 rfl rfl) rfl (tk rfl (PE.sub rfl rfl (by omega)) rfl (tk rfl (PE.nilCheck rfl) rfl (tk rfl (PE.fA Z02 rfl) rfl (tk rfl (PE.indexArr Z8O rfl rfl (by omega) (by omega)) rfl (tk rfl (PE.indexArr Z9k rfl rfl (by omega) (by omega)) rfl (tk rfl (PE.indexArr Z9h rfl rfl (by omega) (by omega)) rfl ?_)))))))))))))
     refine Z5V rfl rfl rfl cn3 rfl rfl rfl (Z4c _ (i := s.ix) (by omega) (by unfold Sta.ix; omega)) (by rw [Z2D hyk]; show _ + 1 ≤ 510; omega) ?_
     refine bgT (Z0 ?_)
     refine Z9 [0, 0, 2, 6, 14, 0, 0, 96, 224, 510, 1023, 2047, 4095] (.ld 0 (.ld 1 (.tk 2 (.tk 3 (.ld 4 (.ld 5 (.ld 6 (.tk 7 (.big 8 (.big 9 (.tk 10 (.tk 11 (.big 12 .done))))))))))))) Zw (by kernel_rfl) ?_
     refine ld rfl rfl (lh Z1R rfl rfl) rfl (ld rfl rfl (lh Z1R rfl rfl) rfl (tk rfl (PE.nilCheck rfl) rfl (tk rfl (PE.fA Z71 rfl) rfl (ld rfl rfl (lh Zaz rfl (Z3l (by simpa using hyk))) rfl (ld rfl rfl (lhA [_, _, _] ZG rfl rfl rfl) rfl (ld rfl rfl (lh sc3 rfl rfl) rfl (tk rfl (PE.build (out := [_, _, _, _]) ZbD Z9u rfl rfl) rfl ?_)))))))
     refine bsl (out := [_, _, _, _]) rfl Z8o Z9u rfl rfl rfl rfl rfl rfl (fun b83 => ?_)
     refine bg (fun w hs => ⟨trivial, trivial, (lh Zaz rfl (Z3l (by simpa using hyk))) w hs, (lh Z1R rfl rfl) w hs, (lh Z1R rfl rfl) w hs, trivial⟩) ?_
     refine apO (o) rfl Zb9 rfl rfl (Z7r (row := Z2O (s, (n : Int))) rfl) rfl rfl (⟨by simp only [Ze, List.length_map, List.length_singleton]; omega, by simp only [Ze, List.length_map, List.length_singleton]; omega⟩) rfl (fun o84 => ?_)
     refine bg (fun w hs => ⟨trivial, trivial, (lh Z1R rfl rfl) w hs, trivial⟩) ?_
     refine tk rfl (PE.nilCheck rfl) rfl (tk rfl (PE.fA Z71 rfl) rfl ?_)
     refine Z5V (l' := rcs t (t.sl (some ⟨ba, oa, none⟩) ca) bt (υ.y.set s.ix (n - 1)) o84.fs m) rfl rfl rfl Zbu rfl (by rw [o84.cells.1]; first | done | rfl) (by rw [o84.cells.1]; simp [o84.cells.2]) (by rw [o84.cells.1]; exact Z8N _ (by simpa using hyk)) (by rw [o84.cells.1, Z2D (by simpa using hyk)]; show 508 + 1 ≤ 510; omega) ?_
     refine bgT ?_
     refine Z9 [0, 1, 3, 7, 0, 0, 63] (.ld 0 (.tk 1 (.tk 2 (.ld 3 (.ld 4 (.ld 5 (.big 6 .done))))))) Zw (by kernel_rfl) ?_
     refine ld rfl rfl (lh Z1R rfl rfl) rfl (tk rfl (PE.nilCheck rfl) rfl (tk rfl (PE.fA Z43 rfl) rfl (ld rfl rfl (lh Z7b rfl (Z2B (by simpa using hyk))) rfl (ld rfl rfl (lhA [_, _, _] ZG rfl rfl rfl) rfl (ld rfl rfl (lh sc3 rfl rfl) rfl ?_)))))
     refine mpu (Z24 υ.fl) [s.stock, s.short, s.dry] rfl Z1x (KeyT.of Z1g Z1p) rfl rfl rfl rfl (Z58 _) ?_
     refine bgT ?_
     first
       | exact ZA (.inl ⟨rfl, o, rfl, rfl⟩) (fun _ h => by repeat first | exact h | replace h := St.tail h | replace h := St.ftail h | replace h := St.drop h)
       | exact ZA (.inl ⟨rfl, o84.cast (by simp [Ze, Z2O]), rfl, rfl⟩) (fun w h => by
           have e2 : Z24 (υ.fl ++ [(s, (n : Int))]) = (Z24 υ.fl).put [s.stock, s.short, s.dry] (.int .i64 n) := by simp only [Z24, List.foldl_append, List.foldl_cons, List.foldl_nil]
           simp only [e2]
           repeat first | exact h | replace h := St.tail h)
     have e : υ.step t n s = υ := by simp [Sv.step, hc1]
     rw [e]
     refine Z2 ?_
     first
       | exact ZA (.inl ⟨rfl, o, rfl, rfl⟩) (fun _ h => by repeat first | exact h | replace h := St.tail h | replace h := St.ftail h | replace h := St.drop h)
       | exact ZA (.inl ⟨rfl, o84.cast (by simp [Ze, Z2O]), rfl, rfl⟩) (fun w h => by
           have e2 : Z24 (υ.fl ++ [(s, (n : Int))]) = (Z24 υ.fl).put [s.stock, s.short, s.dry] (.int .i64 n) := by simp only [Z24, List.foldl_append, List.foldl_cons, List.foldl_nil]
           simp only [e2]
           repeat first | exact h | replace h := St.tail h)
     have e : υ.step t n s = υ := by simp [Sv.step, Z1W, g54]
     rw [e]
     repeat refine ldN rfl rfl rfl rfl rfl rfl rfl rfl ?_
     refine spN rfl rfl rfl rfl rfl rfl rfl rfl ?_
     refine bgT (Zi 2 rfl ?_)
     refine Zo rfl ?_
     refine Z2 ?_
     first
       | exact ZA (.inl ⟨rfl, o, rfl, rfl⟩) (fun _ h => by repeat first | exact h | replace h := St.tail h | replace h := St.ftail h | replace h := St.drop h)
       | exact ZA (.inl ⟨rfl, o84.cast (by simp [Ze, Z2O]), rfl, rfl⟩) (fun w h => by
           have e2 : Z24 (υ.fl ++ [(s, (n : Int))]) = (Z24 υ.fl).put [s.stock, s.short, s.dry] (.int .i64 n) := by simp only [Z24, List.foldl_append, List.foldl_cons, List.foldl_nil]
           simp only [e2]
           repeat first | exact h | replace h := St.tail h)
     rintro _ _ _ _ ⟨rfl, rfl, o', rfl, rfl⟩
     refine Z6n ?_
     refine sqt 1 rfl (spL rfl rfl (lhA (rest := []) (ZI (passes t n j σ).y) Z8E rfl (by simp) (by rw [Zj]; exact hyj)) rfl (sqr 2 rfl (alc rfl Zag rfl (fun b5 => ?_))))
     refine Zak rfl rfl rfl Zaj rfl (by rw [Zj]; exact hyj) List.length_replicate (Z2i _) ?_
     exact Z5r ⟨j + 1, bd1 :: ms, _, (passes t n j σ).y, hyj, o', .inr ⟨j, rfl, rfl⟩⟩ (by
       dsimp only
       rw [if_neg hne]
       by_cases he : (passes t n j σ).y = (passes t n (j + 1) σ).y
       · rw [if_pos he, ← he]; omega
       · rw [if_neg he]
         have := Z6R (σ := passes t n j σ) ht hn6 hyj (Ne.symm he)
         show 2 * Z3R t (pass t n (passes t n j σ)).y + 1 < _
         omega) (by repeat' first | exact Sub.nil | apply Sub.cons | rfl | (simp [lk]; omega)) rfl (fun w h => (St.tail (h.perm (Z5x [_] (mkh (bd1 :: ms)) [_] _))).ftail)
    have hbe : bf = (passes t n j σ).y := by simpa using hc0
    have hfix : pass t n (passes t n j σ) = passes t n j σ := by
      rcases hbf with ⟨hb1, rfl⟩ | ⟨i, rfl, hb1⟩
      · exact Z6S (fun s => by rw [← hbe, hb1]; exact Z6Z s)
      · have e := Z78 (σ := passes t n i σ) ht hn6 (by rw [Z06]; exact hyl) (by rw [← hb1, hbe]; rfl)
        show pass t n (pass t n (passes t n i σ)) = pass t n (passes t n i σ)
        rw [e]; exact e
    refine Zm (Zt (Zt (ZU (Z0 ?_))))
    refine Z9 [0, 0, 2, 6, 14, 31] (.ld 0 (.ld 1 (.tk 2 (.tk 3 (.ld 4 (.tk 5 .done)))))) Zw (by kernel_rfl) ?_
    refine ld rfl rfl (lhA (rest := []) (ZI σ.y) Z8E rfl (by simp) (by rw [Zj]; exact hyl)) rfl (ld rfl rfl (lh Z1R rfl rfl) rfl (tk rfl (PE.nilCheck rfl) rfl (tk rfl (PE.fA Z02 rfl) rfl (ld rfl rfl (lhA (ZI (passes t n j σ).y) Z8E rfl rfl (by rw [Zj]; exact hyj)) rfl (tk rfl (PE.eqlAgg σ.y (passes t n j σ).y (Z28 10000 89 true 496 Z9G) Z9w rfl rfl hyl hyj) rfl ?_)))))
    refine Z4 rfl ?_ ?_ <;> intro hc2
    have hsame := Z2M (n := (n : Int)) (j := j) ht hn6 hyl (by simpa using hc2 : σ.y = _).symm
    refine Z3 ?_
    exact Zb ms idH rfl .nil rfl ⟨passes t n j σ, o, ⟨n, by rw [hsame]; exact hrd, hfix⟩, rfl, rfl⟩ drp
    have hdiff : passes t n j σ ≠ σ := fun e => by rw [e] at hc2; simp at hc2
    refine Z2 (Z0 (sqt 1 rfl (spL rfl rfl (lh sc3 rfl rfl) rfl (sqr 2 rfl (alc rfl zl3 rfl (fun b3 => ?_))))))
    refine sto rfl rfl rfl cn3 rfl rfl rfl rfl ?_
    refine sqr 3 rfl (spL rfl rfl (lh sc3 rfl rfl) rfl (sp rfl (PE.add rfl rfl (by omega)) rfl ?_))
    refine sto rfl rfl rfl cn3 rfl rfl rfl rfl ?_
    exact Z5r ⟨n + 1, passes t n j σ, ms, _, o, .next j hrd hfix hdiff⟩ (by
      rcases hpc with h | h
      · exact absurd h hdiff
      · exact h) (by repeat' first | exact Sub.nil | apply Sub.cons | rfl | (simp [lk]; omega)) rfl (fun w h => St.drop (G := [_, _, _]) (h.perm (Z5x [_] _ [_, _, _] _)))
theorem Zbi : apT Try.prog 73 = some (3, 1, 8) := by kernel_rfl
theorem Z7G : cal Try.prog 27 = true := by kernel_rfl
theorem Z6h : cal Try.prog 40 = true := by kernel_rfl
theorem Z9K : cal Try.prog 62 = true := by kernel_rfl
theorem Z1Y {t : Twn} (ht : t.ok) {σ : Sv} (h : Z3a t σ) : σ.y.length = 496 := by
  obtain ⟨n, h, _⟩ := h
  exact (Z2P ht h).1
def SvQ (t : Twn) (sl : Value) (H : Za) (R : Z8) : Value → Za → Z8 → Prop := fun v H' R' =>
  (t.check ≠ 0 ∧ v = .tuple #[.pointer none, .int .i64 t.check] ∧ H' = H ∧ R' = R) ∨
  (t.check = 0 ∧ ∃ (bw m bt : Nat) (σ : Sv) (o : OSl 51 4 (Ze σ.fl)), Z3a t σ ∧ v = .tuple #[.pointer (some ⟨bw, 0, none⟩), .int .i64 0] ∧
    H' = o.G ++ (bw, cel 92 (rcs t sl bt σ.y o.fs m)) :: (m, Z0o true (Z24 σ.fl)) :: H ∧ R' = RowsA (some ⟨bt, 0, none⟩) 11 [twl t sl] :: R)
def Z2h (p : Rn → Bool) (l : List Rn) (k : Nat) : List Int := ((List.range k).filter fun i => match l[i]? with | some q => p q | none => false).map fun (i : Nat) => (i : Int)
theorem Z33 {p : Rn → Bool} {l : List Rn} {k : Nat} {q : Rn} (h : l[k]? = some q) : Z2h p l (k + 1) = bif p q then Z2h p l k ++ [(k : Int)] else Z2h p l k := by
  unfold Z2h
  rw [List.range_succ, List.filter_append]
  cases hp : p q <;> simp [h, hp]
theorem Z6I (p : Rn → Bool) (l : List Rn) (k : Nat) : (Z2h p l k).length ≤ k := by
  unfold Z2h
  rw [List.length_map]
  exact Nat.le_trans (List.length_filter_le _ _) (by simp)
theorem Z2o (t : Twn) (hl : t.rats.length ≤ 9223372036854775807) (ba oa ca : Nat) (H : Za) (R : Z8) [hR : MemRows (some ⟨ba, oa, none⟩) 2 (Zx t.rats) R] :
    Fn Try.prog 27 [t.v (t.sl (some ⟨ba, oa, none⟩) ca)] H R (SvQ t (t.sl (some ⟨ba, oa, none⟩) ca) H R) := by
 refine Zv Try.func27 rfl Try.ntmps27 rfl ?_
 refine sqt 3 rfl (bx rfl rfl rfl (fun b1 => pur 2 rfl (sqt 7 rfl (spL rfl rfl (lhA [_, _, _, _, _, _, _, _, _, _, _] ZZ rfl rfl rfl) rfl ?_))))
 refine cl rfl Z6h rfl rfl (Z1G t hl ba oa ca _ _) ?_
 rintro _ _ _ (⟨hck, rfl, rfl, rfl⟩ | ⟨hck, bw, m, bt, rfl, rfl, rfl⟩)
 refine pur 5 rfl (Z0 (sqt 2 rfl (pur 2 rfl ?_)))
 refine Zp (congrArg (fun b => some (Value.bool b)) (dT hck)) ?_
 refine sqt 3 rfl (pur 3 rfl (Z3 ?_))
 exact rtB rfl rfl rfl rfl (.inl ⟨hck, rfl, rfl, rfl⟩) drp
 have hok := (Zk hck).1
 refine pur 5 rfl (Z0 (sqt 2 rfl (pur 2 rfl ?_)))
 refine Zo (rfl) ?_
 refine Z2 (sqt 2 rfl (pur 1 rfl ?_))
 refine cl rfl Z9K rfl rfl (Z6H t hok ba oa ca bt bw m _ _) ?_
 rintro v _ _ ⟨σ, o, hσ, rfl, rfl⟩
 refine sqt 3 rfl (pur 3 rfl (Z3 ?_))
 exact rtB rfl rfl rfl rfl (.inr ⟨hck, bw, m, bt, σ, o, hσ, rfl, rfl, rfl⟩) (fun w h => h.del b1)
theorem Z6V (t : Twn) (hl : t.rats.length ≤ 9223372036854775807) (ba oa ca : Nat) (H : Za) (R : Z8) [hR : MemRows (some ⟨ba, oa, none⟩) 2 (Zx t.rats) R] :
    Fn Try.prog 7 [t.v (t.sl (some ⟨ba, oa, none⟩) ca)] H R (fun v H' R' => ((t.check ≠ 0 ∧ v = .tuple #[.int .i64 0, .int .i64 t.check]) ∨ (t.check = 0 ∧ ∃ σ, Z3a t σ ∧ v = .tuple #[.int .i64 (lat σ.y t.now), .int .i64 0])) ∧ H' = H ∧ R' = R) := by
 refine Zv Try.func7 rfl Try.ntmps7 rfl ?_
 refine sqt 3 rfl (bx rfl rfl rfl (fun b1 => pur 2 rfl (sqt 7 rfl (spL rfl rfl (lhA [_, _, _, _, _, _, _, _, _, _, _] ZZ rfl rfl rfl) rfl ?_))))
 refine cl rfl Z7G rfl rfl (Z2o t hl ba oa ca _ _) ?_
 rintro _ _ _ (⟨hck, rfl, rfl, rfl⟩ | ⟨hck, bw, m, bt, σ, o, hσ, rfl, rfl, rfl⟩)
 refine pur 5 rfl (Z0 (sqt 2 rfl (pur 2 rfl ?_)))
 refine Zp (congrArg (fun b => some (Value.bool b)) (dT hck)) ?_
 refine sqt 3 rfl (pur 3 rfl (Z3 ?_))
 exact rtB rfl rfl rfl rfl ⟨.inl ⟨hck, rfl⟩, rfl, rfl⟩ drp
 have hok := (Zk hck).1
 refine pur 5 rfl (Z0 (sqt 2 rfl (pur 2 rfl ?_)))
 refine Zo (rfl) ?_
 refine Z2 (Z0 ?_)
 refine Z9 [0, 1, 3, 0, 8, 31, 63, 127] (tks 0 4 (.ld 4 (.big 5 (.tk 6 (.tk 7 .done))))) Zw (by kernel_rfl) ?_
 refine Zi 1 rfl (tk rfl (PE.nilCheck rfl) rfl (tk rfl (PE.fA Z02 rfl) rfl (tk rfl (PE.fA Z0d rfl) rfl (ld rfl rfl (lhA [_, _, _] ZG rfl rfl rfl) rfl ?_))))
 refine clV rfl Z2g rfl rfl (Z5U t hok t.now hok.now ba oa ca bt bw m σ.y o.fs (Z1Y hok hσ) _ _) ?_
 refine bgT (Zi 2 rfl (Z3 ?_))
 exact rtB rfl rfl rfl rfl ⟨.inr ⟨hck, σ, hσ, rfl⟩, rfl, rfl⟩ drp
theorem Z7X (t : Twn) (hl : t.rats.length ≤ 9223372036854775807) (ba oa ca : Nat) (H : Za) (R : Z8) [hR : MemRows (some ⟨ba, oa, none⟩) 2 (Zx t.rats) R] :
    Fn Try.prog 50 [t.v (t.sl (some ⟨ba, oa, none⟩) ca)] H R (fun v H' R' => ((t.check ≠ 0 ∧ v = .tuple #[.slice none 0 0, .int .i64 t.check] ∧ H' = H) ∨
      (t.check = 0 ∧ ∃ σ, Z3a t σ ∧ ((lat σ.y t.now = -1 ∧ v = .tuple #[.slice none 0 0, .int .i64 6] ∧ H' = H) ∨ (lat σ.y t.now ≠ -1 ∧ ∃ o : OSl 3 1 (Z0m (Z2h (fun q => t.keeps σ.y t.now q (lat σ.y t.now)) t.rats t.rats.length)), v = .tuple #[o.fs, .int .i64 0] ∧ H' = o.G ++ H)))) ∧ R' = R) := by
 refine Zv Try.func50 rfl Try.ntmps50 rfl ?_
 refine sqt 3 rfl (bx rfl rfl rfl (fun b1 => pur 2 rfl (sqt 7 rfl (spL rfl rfl (lhA [_, _, _, _, _, _, _, _, _, _, _] ZZ rfl rfl rfl) rfl ?_))))
 refine cl rfl Z7G rfl rfl (Z2o t hl ba oa ca _ _) ?_
 rintro _ _ _ (⟨hck, rfl, rfl, rfl⟩ | ⟨hck, bw, m, bt, σ, o, hσ, rfl, rfl, rfl⟩)
 refine pur 5 rfl (Z0 (sqt 2 rfl (pur 2 rfl ?_)))
 refine Zp (congrArg (fun b => some (Value.bool b)) (dT hck)) ?_
 refine sqt 3 rfl (pur 3 rfl (Z3 ?_))
 exact rtB rfl rfl rfl rfl ⟨.inl ⟨hck, rfl, rfl⟩, rfl⟩ drp
 have hok := (Zk hck).1
 have hrg := Z34 hok hσ hok.now
 refine pur 5 rfl (Z0 (sqt 2 rfl (pur 2 rfl ?_)))
 refine Zo (rfl) ?_
 refine Z2 (Z0 ?_)
 refine Z9 [0, 1, 3, 0, 8, 31, 63] (tks 0 4 (.ld 4 (.big 5 (.tk 6 .done)))) Zw (by kernel_rfl) ?_
 refine Zi 1 rfl (tk rfl (PE.nilCheck rfl) rfl (tk rfl (PE.fA Z02 rfl) rfl (tk rfl (PE.fA Z0d rfl) rfl (ld rfl rfl (lhA [_, _, _] ZG rfl rfl rfl) rfl ?_))))
 refine clV rfl Z2g rfl rfl (Z5U t hok t.now hok.now ba oa ca bt bw m σ.y o.fs (Z1Y hok hσ) _ _) ?_
 refine bgT (Zi 1 rfl (Z0 (sqt 2 rfl (pur 2 rfl ?_))))
 refine Z4 rfl ?_ ?_ <;> intro hc1
 simp only [decide_eq_true_eq] at hc1
 refine sqt 2 rfl (pur 2 rfl (Z3 ?_))
 first
   | exact rtB rfl rfl rfl rfl ⟨.inr ⟨hck, σ, hσ, .inl ⟨hc1, rfl, rfl⟩⟩, rfl⟩ drp
   | exact rtB rfl rfl rfl rfl ⟨.inr ⟨hck, σ, hσ, .inr ⟨hc1, o', rfl, rfl⟩⟩, rfl⟩ (fun w h => ((((h.del b1).del bw).del m).ftail).dropMid)
 simp only [decide_eq_false_iff_not] at hc1
 refine Z2 (sqt 1 rfl (pur 1 rfl (Z0 (sqt 4 rfl (sp rfl (PE.fA ZJ rfl) rfl (spL rfl rfl (lh Z0Z rfl rfl) rfl (sp rfl (PE.lenSl Z2L rfl) rfl (pur 1 rfl (Z7 ?_)))))))))
 have hlen := hok.many
 have hb0 : 0 ≤ lat σ.y t.now ∧ lat σ.y t.now ≤ 1000000 := by omega
 refine Zy (ι := (k : {k : Nat // k ≤ t.rats.length}) × OSl 3 1 (Z0m (Z2h (fun q => t.keeps σ.y t.now q (lat σ.y t.now)) t.rats k.1))) (fun x => ⟨[(1, .pointer (some ⟨b1, 0, none⟩)), (4, .pointer (some ⟨bw, 0, none⟩)), (6, .int .i64 (lat σ.y t.now)), (7, x.2.fs), (27, .int .i64 t.rats.length), (28, .int .i64 x.1.1)], (x.2.G ++ (b1, cel 27 (twl t (t.sl (some ⟨ba, oa, none⟩) ca))) :: (o.G ++ (bw, cel 92 (rcs t (t.sl (some ⟨ba, oa, none⟩) ca) bt (σ.y) o.fs m)) :: (m, Z0o true (Z24 σ.fl)) :: H)), RowsA (some ⟨bt, 0, none⟩) 11 [twl t (t.sl (some ⟨ba, oa, none⟩) ca)] :: R⟩) (fun x => t.rats.length - x.1.1) ⟨⟨0, by omega⟩, OSl.nil _ _⟩ ?_ (fun x => ?_)
 exact Z05 (fun w h => h.pull b1)
 obtain ⟨⟨k, hk⟩, o'⟩ := x
 dsimp only at o' ⊢
 refine sqt 1 rfl (pur 1 rfl (Z0 ?_))
 refine Z4 rfl ?_ ?_ <;> intro hc2
 simp only [cS] at hc2
 obtain ⟨q, hq⟩ : ∃ q, t.rats[k]? = some q := ⟨_, List.getElem?_eq_getElem (by omega)⟩
 refine Z2 (Z0 (Z7 (sqt 2 rfl (pur 2 rfl (sqt 6 rfl (pur 1 rfl (sp rfl (PE.fA Z0d rfl) rfl (spL rfl rfl (lhA [_, _, _] ZG rfl rfl rfl) rfl (pur 2 rfl ?_)))))))))
 refine clV rfl Z7S rfl rfl (Z3k t hok t.now hok.now k q (by omega) (by simpa using hq) (lat σ.y t.now) hb0 ba oa ca bt bw m σ.y o.fs (Z1Y hok hσ) _ _) ?_
 refine Z4 rfl ?_ ?_ <;> intro hc3
 have e := Z33 (p := fun q => t.keeps σ.y t.now q (lat σ.y t.now)) hq
 rw [hc3, cond_true] at e
 refine sqr 5 rfl (pur 2 rfl ?_)
 refine bsl (out := [_]) rfl Z8p zl3 rfl rfl rfl rfl rfl rfl (fun b39 => ?_)
 refine apO (o') rfl Zbi rfl rfl (Z7r (row := [.int .i64 k]) rfl) rfl rfl ((by have := Z6I (fun q => t.keeps σ.y t.now q (lat σ.y t.now)) t.rats k; simp only [Z0m, List.length_map, List.length_singleton]; omega)) rfl (fun o40 => ?_)
 refine pur 1 rfl (sqr 2 rfl (sp rfl (PE.add rfl rfl (by omega)) rfl (pur 1 rfl ?_)))
 first
   | exact ZQ ⟨⟨k + 1, by omega⟩, o40.cast (by rw [e]; simp [Z0m])⟩ (by dsimp only; omega) (fun w h => h.del b39)
   | exact ZQ ⟨⟨k + 1, by omega⟩, o'.cast (by rw [e])⟩ (by dsimp only; omega) idH
 have e := Z33 (p := fun q => t.keeps σ.y t.now q (lat σ.y t.now)) hq
 rw [hc3, cond_false] at e
 refine Z2 (sqr 2 rfl (sp rfl (PE.add rfl rfl (by omega)) rfl (pur 1 rfl ?_)))
 first
   | exact ZQ ⟨⟨k + 1, by omega⟩, o40.cast (by rw [e]; simp [Z0m])⟩ (by dsimp only; omega) (fun w h => h.del b39)
   | exact ZQ ⟨⟨k + 1, by omega⟩, o'.cast (by rw [e])⟩ (by dsimp only; omega) idH
 simp only [cS] at hc2
 obtain rfl : k = t.rats.length := by omega
 refine Zm (Zt (Zt (ZU (sqt 3 rfl (pur 3 rfl (Z3 ?_))))))
 first
   | exact rtB rfl rfl rfl rfl ⟨.inr ⟨hck, σ, hσ, .inl ⟨hc1, rfl, rfl⟩⟩, rfl⟩ drp
   | exact rtB rfl rfl rfl rfl ⟨.inr ⟨hck, σ, hσ, .inr ⟨hc1, o', rfl, rfl⟩⟩, rfl⟩ (fun w h => ((((h.del b1).del bw).del m).ftail).dropMid)
end Go.Proofs.Ythhdgeibokecjaa.Bd
namespace Go.Proofs.Ythhdgeibokecjaa.Bd
set_option linter.unusedSimpArgs false
set_option linter.unusedVariables false
def Z5R (s : Int) (ws : List Int) : Int := bif decide (8 < ws.length) then 2 else bif !(inb s 0 1000) then 3 else bif !(ws.all fun n => inb n 0 1000) then 3 else 0
structure ShS where
  s : Int
  o : List Int
  g : Bool
def ShS.step (ws : List Int) (σ : ShS) (i : Nat) : ShS := match ws[i]?, σ.o[i]? with
  | some n, some m => bif decide (0 < σ.s) && decide (m < n) then ⟨σ.s - 1, σ.o.set i (m + 1), true⟩ else σ
  | _, _ => σ
def ShS.pass (ws : List Int) (σ : ShS) : ShS := (List.range ws.length).foldl (ShS.step ws) { σ with g := false }
def Z0F (ws : List Int) : Nat → ShS → ShS
  | 0, σ => σ
  | j + 1, σ => (Z0F ws j σ).pass ws
def Zr (s : Int) (ws : List Int) : ShS := ⟨s, List.replicate ws.length 0, true⟩
structure ShS.ok (s0 : Int) (ws : List Int) (σ : ShS) : Prop where
  len : σ.o.length = ws.length
  s : 0 ≤ σ.s ∧ σ.s ≤ s0
  m : ∀ (i : Nat) (m n : Int), σ.o[i]? = some m → ws[i]? = some n → 0 ≤ m ∧ m ≤ n
theorem Z8x {s0 : Int} {ws : List Int} {σ : ShS} (h : σ.ok s0 ws) (i : Nat) : (σ.step ws i).ok s0 ws := by
  unfold ShS.step
  split
  · rename_i n m hn hm
    cases hc : decide (0 < σ.s) && decide (m < n) with
    | false => exact h
    | true =>
      simp only [Bool.and_eq_true, decide_eq_true_eq] at hc
      have hs := h.s
      refine ⟨by simp [h.len], by simp only [cond_true]; omega, fun k m' n' hm' hn' => ?_⟩
      simp only [cond_true] at hm'
      by_cases hk : i = k
      · subst hk
        have hi : i < σ.o.length := (List.getElem?_eq_some_iff.1 hm).1
        rw [List.getElem?_set_self hi] at hm'
        cases hm'
        rw [hn] at hn'; cases hn'
        have := h.m i m n hm hn
        omega
      · rw [List.getElem?_set_ne hk] at hm'
        exact h.m k m' n' hm' hn'
  · exact h
theorem Z91 (ws : List Int) (σ : ShS) (i : Nat) : (σ.step ws i).s ≤ σ.s ∧ ((σ.step ws i).g = true → σ.g = true ∨ (σ.step ws i).s < σ.s) := by
  unfold ShS.step
  split
  · cases hc : _ && _ <;> simp only [cond_true, cond_false] <;> first | exact ⟨Int.le_refl _, fun h => .inl h⟩ | exact ⟨by omega, fun _ => .inr (by omega)⟩
  · exact ⟨Int.le_refl _, fun h => .inl h⟩
theorem Z3O {s0 : Int} {ws : List Int} : ∀ (l : List Nat) (σ : ShS), σ.ok s0 ws → (l.foldl (ShS.step ws) σ).ok s0 ws
  | [], _, h => h
  | i :: l, σ, h => Z3O l _ (Z8x h i)
theorem Z4U (ws : List Int) : ∀ (l : List Nat) (σ : ShS), (l.foldl (ShS.step ws) σ).s ≤ σ.s ∧ ((l.foldl (ShS.step ws) σ).g = true → σ.g = true ∨ (l.foldl (ShS.step ws) σ).s < σ.s)
  | [], _ => ⟨Int.le_refl _, fun h => .inl h⟩
  | i :: l, σ => by
    obtain ⟨h1, h2⟩ := Z4U ws l (σ.step ws i)
    obtain ⟨h3, h4⟩ := Z91 ws σ i
    rw [List.foldl_cons]
    refine ⟨by omega, fun h => ?_⟩
    rcases h2 h with h | h
    · rcases h4 h with h | h
      · exact .inl h
      · exact .inr (by omega)
    · exact .inr (by omega)
theorem Z7N {s0 : Int} {ws : List Int} {σ : ShS} (h : σ.ok s0 ws) : (σ.pass ws).ok s0 ws := Z3O _ _ ⟨h.len, h.s, h.m⟩
theorem Z4L {s0 : Int} {ws : List Int} : ∀ (j : Nat) (σ : ShS), σ.ok s0 ws → (Z0F ws j σ).ok s0 ws
  | 0, _, h => h
  | j + 1, _, h => Z7N (Z4L j _ h)
theorem Z6v {s : Int} {ws : List Int} (h : Z5R s ws = 0) : (Zr s ws).ok s ws ∧ s ≤ 1000 ∧ (∀ n ∈ ws, 0 ≤ n ∧ n ≤ 1000) ∧ ws.length ≤ 8 := by
  unfold Z5R at h
  cases h1 : decide (8 < ws.length) <;> rw [h1] at h
  rotate_left
  · cases h
  cases h2 : inb s 0 1000 <;> rw [h2] at h
  · cases h
  cases h3 : ws.all fun n => inb n 0 1000 <;> rw [h3] at h
  · cases h
  simp only [inb, Bool.and_eq_true, decide_eq_true_eq, decide_eq_false_iff_not] at h1 h2
  have h4 : ∀ n ∈ ws, 0 ≤ n ∧ n ≤ 1000 := fun n hn => by
    have := List.all_eq_true.1 h3 n hn
    simpa using this
  refine ⟨⟨by simp [Zr], by simp only [Zr]; omega, fun i m n hm hn => ?_⟩, by omega, h4, by omega⟩
  simp only [Zr, List.getElem?_replicate] at hm
  split at hm <;> cases hm
  have := h4 n (List.mem_of_getElem? hn)
  omega
theorem Z40 (ws : List Int) : ∀ (l : List Nat) (σ : ShS), (l.foldl (ShS.step ws) σ).g = false → l.foldl (ShS.step ws) σ = σ
  | [], _, _ => rfl
  | i :: l, σ, h => by
    rw [List.foldl_cons] at h ⊢
    have h1 := Z40 ws l _ h
    rw [h1] at h ⊢
    unfold ShS.step at h ⊢
    split
    · rename_i n m hn hm
      rw [hn, hm] at h
      cases hc : decide (0 < σ.s) && decide (m < n) with
      | false => rfl
      | true => simp only [hc, cond_true] at h; cases h
    · rfl
theorem Z76 {ws : List Int} {σ : ShS} (h : (σ.pass ws).g = false) : σ.pass ws = { σ with g := false } := Z40 ws _ _ h
theorem Z6t {s : Int} {ws : List Int} {j : Nat} (h : (Z0F ws j (Zr s ws)).g = false) : Z0F ws (j + 1) (Zr s ws) = Z0F ws j (Zr s ws) := by
  cases j with
  | zero => cases h
  | succ j =>
    have h1 : Z0F ws (j + 1) (Zr s ws) = { Z0F ws j (Zr s ws) with g := false } := Z76 h
    show (Z0F ws (j + 1) (Zr s ws)).pass ws = _
    have h2 : (Z0F ws (j + 1) (Zr s ws)).pass ws = (Z0F ws j (Zr s ws)).pass ws := by rw [h1]; rfl
    rw [h2]; rfl
theorem Z2u {s : Int} {ws : List Int} {j : Nat} (h : (Z0F ws j (Zr s ws)).g = false) : ∀ k, Z0F ws (j + k) (Zr s ws) = Z0F ws j (Zr s ws)
  | 0 => rfl
  | k + 1 => by
    have ih := Z2u h k
    rw [← Nat.add_assoc, Z6t (by rw [ih]; exact h), ih]
theorem Z6D {s : Int} {ws : List Int} {j k : Nat} (h : (Z0F ws j (Zr s ws)).g = false) (h' : (Z0F ws k (Zr s ws)).g = false) : Z0F ws j (Zr s ws) = Z0F ws k (Zr s ws) := by
  rcases Nat.le_total j k with hle | hle
  · have := Z2u h (k - j)
    rw [show j + (k - j) = k from by omega] at this
    exact this.symm
  · have := Z2u h' (j - k)
    rw [show k + (j - k) = j from by omega] at this
    exact this
open Go
theorem Zat : cal Try.prog 74 = true := by kernel_rfl
theorem ZaW : cal Try.prog 85 = true := by kernel_rfl
theorem Z56 (xs ys : List Int) (a a2 : Option Addr) (c c2 : Nat) (hl : xs.length ≤ 9223372036854775807) (hl2 : ys.length ≤ 9223372036854775807) (H : Za) (R : Z8) [hR : MemRows a 1 (Z0m xs) R] [hR2 : MemRows a2 1 (Z0m ys) R] :
    FnV Try.prog 54 [.slice a xs.length c, .slice a2 ys.length c2] H R (.bool (decide (xs = ys))) := by
 refine Zv Try.func54 rfl Try.ntmps54 rfl ?_
 refine sqt 1 rfl (pur 1 rfl (Z0 (sqt 5 rfl (pur 1 rfl (sp rfl (PE.lenSl Z3X rfl) rfl (pur 1 rfl (sp rfl (PE.lenSl Z3X rfl) rfl (pur 1 rfl ?_))))))))
 refine Z4 rfl ?_ ?_ <;> intro hc0
 have hne : xs ≠ ys := fun e => by subst e; simp at hc0
 refine sqt 1 rfl (pur 1 rfl (Z3 ?_))
 exact rtA rfl rfl rfl ⟨by first | (simp only [ZF]; rw [dT heq]; done) | (simp only [ZF]; rw [dF hne]), rfl, rfl⟩ idH
 have hle : xs.length = ys.length := by simp only [cS] at hc0; omega
 refine Z2 (Z0 (sqt 3 rfl (pur 1 rfl (sp rfl (PE.lenSl Z3X rfl) rfl (pur 1 rfl (Z7 ?_))))))
 refine Zy (ι := {k : Nat // k ≤ xs.length ∧ xs.take k = ys.take k}) (fun k => ⟨[(0, .slice a xs.length c), (1, .slice a2 ys.length c2), (12, .int .i64 xs.length), (13, .int .i64 k.1)], H, R⟩) (fun k => xs.length - k.1) ⟨0, by simp⟩ ?_ (fun k => ?_)
 exact Z05 idH
 obtain ⟨k, hk, hn⟩ := k
 dsimp only
 refine sqt 1 rfl (pur 1 rfl (Z0 ?_))
 refine Z4 rfl ?_ ?_ <;> intro hc1
 simp only [cS] at hc1
 obtain ⟨x, hx⟩ : ∃ x, xs[k]? = some x := ⟨_, List.getElem?_eq_getElem (by omega)⟩
 obtain ⟨z, hz⟩ : ∃ z, ys[k]? = some z := ⟨_, List.getElem?_eq_getElem (by omega)⟩
 refine Z00 (a := a) (sz := 1) (rows := Z0m xs) (by intro h0; simp [Z0m] at h0; simp [h0] at hx) (fun b off he => ?_)
 subst he
 refine Z00 (a := a2) (sz := 1) (rows := Z0m ys) (by intro h0; simp [Z0m] at h0; simp [h0] at hz) (fun b2 off2 he => ?_)
 subst he
 refine Z2 (Z0 (Z7 (sqt 2 rfl (pur 2 rfl (Z0 ?_)))))
 refine Z9 [0, 0, 3, 7, 0, 0, 48, 112, 255] (tks 0 3 (.ld 3 (tks 4 3 (.ld 7 (.tk 8 .done))))) Zw (by kernel_rfl) ?_
 refine Zi 2 rfl (tk rfl (PE.indexAddr Z87 rfl rfl (by omega) (by omega)) rfl (ld rfl rfl (lf0 sc3 (by simp [Z0m, hx]; rfl) rfl) rfl (Zi 2 rfl (tk rfl (PE.indexAddr Z87 rfl rfl (by omega) (by omega)) rfl (ld rfl rfl (lf0 sc3 (by simp [Z0m, hz]; rfl) rfl) rfl (Zi 1 rfl ?_))))))
 refine Z4 rfl ?_ ?_ <;> intro hc2
 have hne : xs ≠ ys := fun e => by subst e; rw [hx] at hz; cases hz; simp at hc2
 refine sqt 1 rfl (pur 1 rfl (Z3 ?_))
 exact rtA rfl rfl rfl ⟨by first | (simp only [ZF]; rw [dT heq]; done) | (simp only [ZF]; rw [dF hne]), rfl, rfl⟩ idH
 have hxz : x = z := by simpa using hc2
 refine Z2 (sqr 2 rfl (sp rfl (PE.add rfl rfl (by omega)) rfl (pur 1 rfl ?_)))
 exact Z0z ⟨k + 1, by omega, by rw [List.take_add_one, List.take_add_one, hn, hx, hz, hxz]⟩ idH
 simp only [cS] at hc1
 obtain rfl : k = xs.length := by omega
 have heq : xs = ys := by
   rw [List.take_length] at hn
   exact hn.trans (by rw [hle]; exact List.take_length)
 refine Zm (Zt (Zt (ZU (sqt 1 rfl (pur 1 rfl (Z3 ?_))))))
 exact rtA rfl rfl rfl ⟨by first | (simp only [ZF]; rw [dT heq]; done) | (simp only [ZF]; rw [dF hne]), rfl, rfl⟩ idH
theorem Z9E (n : Int) (H : Za) (R : Z8) :
    FnV Try.prog 85 [.int .i64 n] H R (.bool (inb n 0 1000)) := by
 refine Zv Try.func85 rfl Try.ntmps85 rfl ?_
 refine sqt 1 rfl (pur 1 rfl (sqt 3 rfl (pur 1 rfl ?_)))
 refine clV rfl Z0Y rfl rfl (Z45 _ _ _ _ _) ?_
 refine pur 1 rfl (Z3 ?_)
 exact rtA rfl rfl rfl ⟨rfl, rfl, rfl⟩ drp
theorem Z8H (s : Int) (ws : List Int) (a : Option Addr) (c : Nat) (hl : ws.length ≤ 9223372036854775807) (H : Za) (R : Z8) [hR : MemRows a 1 (Z0m ws) R] :
    FnV Try.prog 74 [.int .i64 s, .slice a ws.length c] H R (.int .i64 (Z5R s ws)) := by
 refine Zv Try.func74 rfl Try.ntmps74 rfl ?_
 refine sqt 1 rfl (pur 1 rfl (Z0 (Z7 (sqt 4 rfl (pur 1 rfl (sp rfl (PE.lenSl Z3X rfl) rfl (pur 2 rfl ?_)))))))
 refine Z4 rfl ?_ ?_ <;> intro hc0
 have h8 : decide (8 < ws.length) = true := by simp only [decide_eq_true_eq] at hc0 ⊢; omega
 refine sqt 1 rfl (pur 1 rfl (Z3 ?_))
 exact rtA rfl rfl rfl ⟨congrArg (Value.int .i64) (by simp_all only [Z5R, inb, cond_true, cond_false, Bool.not_true, Bool.not_false, Bool.not_eq_true', Bool.not_eq_false']), rfl, rfl⟩ drp
 have h8 : decide (8 < ws.length) = false := by simp only [decide_eq_false_iff_not] at hc0 ⊢; omega
 refine sqt 9 rfl (pur 1 rfl ?_)
 refine clV rfl Z0Y rfl rfl (Z45 _ _ _ _ _) ?_
 refine pur 2 rfl ?_
 refine Z0b 13 rfl ?_ ?_ <;> intro g13
 refine pur 5 rfl ?_
 refine Zp rfl ?_
 refine sqt 1 rfl (pur 1 rfl (Z3 ?_))
 exact rtA rfl rfl rfl ⟨congrArg (Value.int .i64) (by simp_all only [Z5R, inb, cond_true, cond_false, Bool.not_true, Bool.not_false, Bool.not_eq_true', Bool.not_eq_false']), rfl, rfl⟩ drp
 refine pur 1 rfl ?_
 refine Z1X rfl rfl rfl rfl Z9Z rfl rfl (Z2s ws a c 85 [] [] (fun n => inb n 0 1000) ZaW hl _ _ (fun _ x _ => Z9E x _ _)) ?_
 refine pur 3 rfl ?_
 refine Z4 rfl ?_ ?_ <;> intro hc1
 refine sqt 1 rfl (pur 1 rfl (Z3 ?_))
 exact rtA rfl rfl rfl ⟨congrArg (Value.int .i64) (by simp_all only [Z5R, inb, cond_true, cond_false, Bool.not_true, Bool.not_false, Bool.not_eq_true', Bool.not_eq_false']), rfl, rfl⟩ drp
 refine Z2 (sqt 1 rfl (pur 1 rfl (Z3 ?_)))
 exact rtA rfl rfl rfl ⟨congrArg (Value.int .i64) (by simp_all only [Z5R, inb, cond_true, cond_false, Bool.not_true, Bool.not_false, Bool.not_eq_true', Bool.not_eq_false']), rfl, rfl⟩ drp
theorem Z8F (s : Int) (ws : List Int) (a : Option Addr) (c : Nat) (hl : ws.length ≤ 9223372036854775807) (H : Za) (R : Z8) [hR : MemRows a 1 (Z0m ws) R] :
    Fn Try.prog 53 [.int .i64 s, .slice a ws.length c] H R (fun v H' R' => ((Z5R s ws ≠ 0 ∧ v = .tuple #[.slice none 0 0, .int .i64 (Z5R s ws)] ∧ H' = H) ∨
      (Z5R s ws = 0 ∧ ∃ j b, (Z0F ws j (Zr s ws)).g = false ∧ v = .tuple #[.slice (some ⟨b, 0, none⟩) ws.length ws.length, .int .i64 0] ∧ H' = (b, cel 3 (ZI (Z0F ws j (Zr s ws)).o)) :: H)) ∧ R' = R) := by
 refine Zv Try.func53 rfl Try.ntmps53 rfl ?_
 refine sqt 2 rfl (pur 2 rfl (Z0 (sqt 4 rfl (pur 2 rfl ?_))))
 refine clV rfl Zat rfl rfl (Z8H s ws a c hl _ _) ?_
 refine pur 1 rfl (sqt 2 rfl (pur 2 rfl ?_))
 refine Z4 rfl ?_ ?_ <;> intro hc0
 have hck : Z5R s ws ≠ 0 := by simpa using hc0
 refine sqt 3 rfl (pur 3 rfl (Z3 ?_))
 first | exact rtB rfl rfl rfl rfl ⟨.inl ⟨hck, rfl, rfl⟩, rfl⟩ idH | exact rtB rfl rfl rfl rfl ⟨.inr ⟨hck, j, b19, hc1, rfl, rfl⟩, rfl⟩ idH
 have hck : Z5R s ws = 0 := by simpa using hc0
 obtain ⟨hi1, hi2, hi3, hi4⟩ := Z6v hck
 refine Z2 (sqt 4 rfl (pur 1 rfl (sp rfl (PE.lenSl Z3X rfl) rfl ?_)))
 refine mkS rfl Zbi zl3 rfl rfl (Nat.le_refl _) ⟨by omega, by omega⟩ rfl (fun b19 => ?_)
 rw [ZaS]
 refine pur 1 rfl (Z0 (sqt 1 rfl (pur 1 rfl (Z7 ?_))))
 refine Zy (ι := Nat) (fun j => ⟨[(0, .int .i64 (Z0F ws j (Zr s ws)).s), (1, .slice a ws.length c), (7, .slice (some ⟨b19, 0, none⟩) ws.length ws.length), (8, .bool (Z0F ws j (Zr s ws)).g)], (b19, cel 3 (ZI (Z0F ws j (Zr s ws)).o)) :: H, R⟩) (fun j => 2 * (Z0F ws j (Zr s ws)).s.toNat + if (Z0F ws j (Zr s ws)).g = true then 1 else 0) 0 ?_ (fun j => ?_)
 exact Z05 idH
 have hj := Z4L j _ hi1
 have hsj := hj.s
 dsimp only
 refine Z0 (sqt 1 rfl (pur 1 rfl ?_))
 refine Z4 rfl ?_ ?_ <;> intro hc1
 refine Z2 (Z7 (sqt 1 rfl (pur 1 rfl (sqt 3 rfl (pur 1 rfl (sp rfl (PE.lenSl Z3X rfl) rfl (pur 1 rfl (Z7 ?_))))))))
 refine Zy (ι := {k : Nat // k ≤ ws.length}) (fun k => ⟨[(0, .int .i64 ((List.range k.1).foldl (ShS.step ws) { Z0F ws j (Zr s ws) with g := false }).s), (1, .slice a ws.length c), (7, .slice (some ⟨b19, 0, none⟩) ws.length ws.length), (8, .bool ((List.range k.1).foldl (ShS.step ws) { Z0F ws j (Zr s ws) with g := false }).g), (21, .slice a ws.length c), (22, .int .i64 ws.length), (23, .int .i64 k.1)], (b19, cel 3 (ZI ((List.range k.1).foldl (ShS.step ws) { Z0F ws j (Zr s ws) with g := false }).o)) :: H, R⟩) (fun k => ws.length - k.1) ⟨0, by omega⟩ ?_ (fun k => ?_)
 exact Z05 idH
 obtain ⟨k, hk⟩ := k
 dsimp only
 have e : (List.range (k + 1)).foldl (ShS.step ws) { Z0F ws j (Zr s ws) with g := false } = ((List.range k).foldl (ShS.step ws) { Z0F ws j (Zr s ws) with g := false }).step ws k := by rw [List.range_succ, List.foldl_append]; rfl
 have hok := Z3O (List.range k) { Z0F ws j (Zr s ws) with g := false } ⟨hj.len, hj.s, hj.m⟩
 have hke : k = ws.length → (List.range k).foldl (ShS.step ws) { Z0F ws j (Zr s ws) with g := false } = (Z0F ws j (Zr s ws)).pass ws := fun h => by subst h; rfl
 generalize (List.range k).foldl (ShS.step ws) { Z0F ws j (Zr s ws) with g := false } = τ at e hok hke ⊢
 have hso := hok.s
 refine sqt 1 rfl (pur 1 rfl (Z0 ?_))
 refine Z4 rfl ?_ ?_ <;> intro hc2
 simp only [cS] at hc2
 obtain ⟨n, hn⟩ : ∃ n, ws[k]? = some n := ⟨_, List.getElem?_eq_getElem (by omega)⟩
 obtain ⟨m, hm⟩ : ∃ m, τ.o[k]? = some m := ⟨_, List.getElem?_eq_getElem (by rw [hok.len]; omega)⟩
 have hmn := hok.m k m n hm hn
 have hn1 := hi3 n (List.mem_of_getElem? hn)
 refine Z00 (a := a) (sz := 1) (rows := Z0m ws) (by intro h0; simp [Z0m] at h0; simp [h0] at hn) (fun ba oa he => ?_)
 subst he
 refine Z2 (Z0 (Z7 (sqt 5 rfl (pur 1 rfl (sp rfl (PE.indexAddr Z87 rfl rfl (by omega) (by omega)) rfl (spL rfl rfl (lf0 sc3 (by simp [Z0m, hn]; rfl) rfl) rfl (pur 2 rfl (sqt 10 rfl (pur 3 rfl ?_)))))))))
 refine Z0b 30 rfl ?_ ?_ <;> intro g30
 simp only [cS] at g30
 refine pur 2 rfl ?_
 refine spG rfl rfl rfl rfl (PE.indexAddr Z87 rfl rfl (by omega) (by omega)) rfl ?_
 refine Z0K rfl rfl rfl rfl rfl (lh (v := .int .i64 m) sc3 rfl (by simp [ZI, hm])) rfl (pur 3 rfl ?_)
 refine Z4 rfl ?_ ?_ <;> intro hc3
 simp only [cS] at hc3
 have hst : τ.step ws k = ⟨τ.s - 1, τ.o.set k (m + 1), true⟩ := by unfold ShS.step; rw [hn, hm]; simp [g30, hc3]
 refine sqt 7 rfl (pur 2 rfl (sp rfl (PE.indexAddr Z87 rfl rfl (by omega) (by omega)) rfl (spL rfl rfl (lh (v := .int .i64 m) sc3 rfl (by simp [ZI, hm])) rfl (sp rfl (PE.add rfl rfl (by omega)) rfl (sp rfl (PE.indexAddr Z87 rfl rfl (by omega) (by omega)) rfl ?_)))))
 refine Z5V (l' := ZI (τ.o.set k (m + 1))) rfl rfl rfl cn3 rfl rfl rfl (by show spl _ _ [_] = _; rw [Z4R (by simp [ZI, hok.len]; omega), Z53]; simp) (by simp [ZI, hok.len, Value.cells]; omega) ?_
 refine sqt 3 rfl (pur 1 rfl (sp rfl (PE.sub rfl rfl (by omega)) rfl (pur 1 rfl (sqr 1 rfl (pur 1 rfl (sqr 2 rfl (sp rfl (PE.add rfl rfl (by omega)) rfl (pur 1 rfl ?_))))))))
 exact Zc ⟨k + 1, by omega⟩ (by dsimp only; omega) (by rw [e, hst]; exact (by repeat' first | exact Sub.nil | apply Sub.cons | rfl | (simp [lk]; omega))) (fun w h => by rw [e, hst]; exact h)
 simp only [cS] at hc3
 have hst : τ.step ws k = τ := by unfold ShS.step; rw [hn, hm]; simp [Int.not_lt.2 hc3]
 refine Z2 (sqr 2 rfl (sp rfl (PE.add rfl rfl (by omega)) rfl (pur 1 rfl ?_)))
 exact Zc ⟨k + 1, by omega⟩ (by dsimp only; omega) (by rw [e, hst]; exact (by repeat' first | exact Sub.nil | apply Sub.cons | rfl | (simp [lk]; omega))) (fun w h => by rw [e, hst]; exact h)
 simp only [cS] at g30
 have hst : τ.step ws k = τ := by unfold ShS.step; rw [hn, hm]; simp [Int.not_lt.2 g30]
 refine pur 7 rfl ?_
 refine Zo rfl ?_
 refine Z2 (sqr 2 rfl (sp rfl (PE.add rfl rfl (by omega)) rfl (pur 1 rfl ?_)))
 exact Zc ⟨k + 1, by omega⟩ (by dsimp only; omega) (by rw [e, hst]; exact (by repeat' first | exact Sub.nil | apply Sub.cons | rfl | (simp [lk]; omega))) (fun w h => by rw [e, hst]; exact h)
 simp only [cS] at hc2
 have hkw : k = ws.length := by omega
 rw [hke hkw] at *
 refine Zm (Zt (Zt (ZU ?_)))
 exact Zc (j + 1) (by
   rw [if_pos hc1]
   have h1 := Z4U ws (List.range ws.length) { Z0F ws j (Zr s ws) with g := false }
   have h2 := (Z4L (j + 1) _ hi1).s
   change ((Z0F ws j (Zr s ws)).pass ws).s ≤ _ ∧ (((Z0F ws j (Zr s ws)).pass ws).g = true → _ ∨ ((Z0F ws j (Zr s ws)).pass ws).s < _) at h1
   change 0 ≤ ((Z0F ws j (Zr s ws)).pass ws).s ∧ _ at h2
   show 2 * ((Z0F ws j (Zr s ws)).pass ws).s.toNat + (if ((Z0F ws j (Zr s ws)).pass ws).g = true then 1 else 0) < _
   obtain ⟨h3, h4⟩ := h1
   simp only at h3 h4
   split
   · rename_i hg
     rcases h4 hg with h | h
     · cases h
     · omega
   · omega) (by repeat' first | exact Sub.nil | apply Sub.cons | rfl | (simp [lk]; omega)) idH
 refine Zm (Zt (Zt (ZU (sqt 3 rfl (pur 3 rfl (Z3 ?_))))))
 first | exact rtB rfl rfl rfl rfl ⟨.inl ⟨hck, rfl, rfl⟩, rfl⟩ idH | exact rtB rfl rfl rfl rfl ⟨.inr ⟨hck, j, b19, hc1, rfl, rfl⟩, rfl⟩ idH
end Go.Proofs.Ythhdgeibokecjaa.Bd
namespace Go.Proofs.Ythhdgeibokecjaa.Bd
set_option linter.unusedSimpArgs false
set_option linter.unusedVariables false
def Z01 (t : Twn) (g : Sta → Int) (s : Sta) (q : Rn) : Int := bif decide (s.dry < t.run) then min (g (t.next s q false)) (g (t.next s q true)) else g (t.next s q false)
def efQ (t : Twn) (g : Sta → Int) (s : Sta) (best : Int) (q : Rn) : Int :=
  bif t.can s q then (bif decide (Z01 t g s q = -1) then best else max best (Z01 t g s q + q.sacks * q.price)) else best
def ef (t : Twn) : Nat → Sta → Int
  | 0, _ => 0
  | n + 1, s => t.rats.foldl (efQ t (ef t n) s) (-1)
theorem Z88 {a b : Int} (h1 : 0 ≤ a) (h2 : a ≤ 30) (h3 : 0 ≤ b) (h4 : b ≤ 100) : 0 ≤ a * b ∧ a * b ≤ 3000 := by
  have h5 := Int.mul_nonneg h1 h3
  have h6 := Int.mul_le_mul h2 h4 h3 (by omega)
  omega
theorem Z3Q {t : Twn} {g : Sta → Int} {B : Int} (hg : ∀ s, -1 ≤ g s ∧ g s ≤ B) (s : Sta) (q : Rn) : -1 ≤ Z01 t g s q ∧ Z01 t g s q ≤ B := by
  unfold Z01
  have h1 := hg (t.next s q false)
  have h2 := hg (t.next s q true)
  cases decide (s.dry < t.run) <;> simp only [cond_true, cond_false] <;> omega
theorem Z75 {t : Twn} {g : Sta → Int} {B : Int} (hB : 0 ≤ B) (hg : ∀ s, -1 ≤ g s ∧ g s ≤ B) (s : Sta) : ∀ (l : List Rn), (∀ q ∈ l, 0 ≤ q.sacks ∧ q.sacks ≤ 30 ∧ 0 ≤ q.price ∧ q.price ≤ 100) → ∀ b, -1 ≤ b → b ≤ B + 3000 →
    -1 ≤ l.foldl (efQ t g s) b ∧ l.foldl (efQ t g s) b ≤ B + 3000
  | [], _, b, h1, h2 => ⟨h1, h2⟩
  | q :: l, hl, b, h1, h2 => by
    have hq := hl q (by simp)
    have h3 := Z3Q (t := t) hg s q
    have h4 := Z88 hq.1 hq.2.1 hq.2.2.1 hq.2.2.2
    rw [List.foldl_cons]
    refine Z75 hB hg s l (fun q hq => hl q (by simp [hq])) _ ?_ ?_ <;>
    · unfold efQ
      cases t.can s q <;> cases decide (Z01 t g s q = -1) <;> simp only [cond_true, cond_false] <;> omega
theorem Z9V {t : Twn} (ht : t.ok) : ∀ (n : Nat) (s : Sta), -1 ≤ ef t n s ∧ ef t n s ≤ n * 3000
  | 0, _ => by simp [ef]
  | n + 1, s => by
    have h := Z75 (t := t) (g := ef t n) (B := n * 3000) (by omega) (Z9V ht n) s t.rats ht.rats (-1) (by omega) (by omega)
    unfold ef
    push_cast
    omega
structure Rw where
  st : Sta
  lasts : Int
  ration : Int
  deriving DecidableEq
def Twn.rat (t : Twn) (r : Int) : Option Rn := bif decide (0 ≤ r) then t.rats[r.toNat]? else none
def Zn (t : Twn) : List Rw → Bool → List Int → Except Int (Bool × List Int)
  | [], tw, y => .ok (tw, y)
  | x :: l, tw, y => bif !(x.st.right t) || !(inb x.lasts 0 1000000) then .error 3 else match t.rat x.ration with
    | none => .error 1
    | some q => bif !(t.can x.st q) then .error 9 else Zn t l (tw || decide (lat y x.st ≠ -1)) (y.set x.st.ix x.lasts)
def ZX (t : Twn) (y : List Int) (x : Rw) : Bool := match t.rat x.ration with
  | some q => t.keeps y x.st q x.lasts
  | none => false
def Z4q (t : Twn) : List Int := (sts t).foldl (fun y s => y.set s.ix (-1)) (List.replicate 496 0)
def Z1l (t : Twn) (tb : List Rw) (tw : Bool) (y : List Int) : Int × Int :=
  bif tw then (0, 5) else bif !(tb.all (ZX t y)) then (0, 8) else bif decide (lat y t.now = -1) then (0, 6) else (lat y t.now, 0)
def Zu (t : Twn) (tb : List Rw) : Int × Int :=
  bif decide (t.check ≠ 0) then (0, t.check) else bif decide (496 < tb.length) then (0, 2) else match Zn t tb false (Z4q t) with
  | .error e => (0, e)
  | .ok p => Z1l t tb p.1 p.2
theorem Z2p (v : Int) : ∀ (l : List Sta) (y : List Int), (l.foldl (fun y s => y.set s.ix v) y).length = y.length
  | [], _ => rfl
  | s :: l, y => by rw [List.foldl_cons, Z2p v l]; simp
theorem Z5g {t : Twn} {r : Int} {q : Rn} (h0 : 0 ≤ r) (h : t.rats[r.toNat]? = some q) : t.rat r = some q := by simp [Twn.rat, h0, h]
theorem rat_iff {t : Twn} {r : Int} {q : Rn} : t.rat r = some q ↔ 0 ≤ r ∧ t.rats[r.toNat]? = some q := by
  unfold Twn.rat
  by_cases h : 0 ≤ r <;> simp [h]
theorem Z7O {t : Twn} {r : Int} (h : (decide (0 ≤ r) && decide (r ≤ (t.rats.length : Int) - 1)) = false) : t.rat r = none := by
  unfold Twn.rat
  by_cases h0 : 0 ≤ r
  · simp only [h0, decide_true, Bool.true_and, decide_eq_false_iff_not] at h ⊢
    exact List.getElem?_eq_none (by omega)
  · simp [h0]
theorem Z9t {t : Twn} {r : Int} (h : (decide (0 ≤ r) && decide (r ≤ (t.rats.length : Int) - 1)) = true) : 0 ≤ r ∧ ∃ q, t.rats[r.toNat]? = some q := by
  simp only [Bool.and_eq_true, decide_eq_true_eq] at h
  exact ⟨h.1, _, List.getElem?_eq_getElem (by omega)⟩
theorem Z3j {α : Type} {l : List α} {k : Nat} {x : α} (h : l[k]? = some x) : l.drop k = x :: l.drop (k + 1) := by
  obtain ⟨h1, h2⟩ := List.getElem?_eq_some_iff.1 h
  rw [List.drop_eq_getElem_cons h1, h2]
theorem Z1F {t : Twn} {tb : List Rw} {e : Int} (h0 : t.check = 0) (h1 : tb.length ≤ 496) (h : Zn t tb false (Z4q t) = .error e) : Zu t tb = (0, e) := by
  unfold Zu
  have h2 : ¬ 496 < tb.length := by omega
  simp [h0, h2, h]
theorem Z19 {t : Twn} {tb : List Rw} {tw : Bool} {y : List Int} (h0 : t.check = 0) (h1 : tb.length ≤ 496) (h : Zn t tb false (Z4q t) = .ok (tw, y)) : Zu t tb = Z1l t tb tw y := by
  unfold Zu
  have h2 : ¬ 496 < tb.length := by omega
  simp [h0, h2, h]
theorem Z2C {t : Twn} : ∀ (l : List Rw) (tw : Bool) (y : List Int) (p : Bool × List Int), Zn t l tw y = .ok p → ∀ x ∈ l, x.st.right t = true ∧ (0 ≤ x.lasts ∧ x.lasts ≤ 1000000) ∧ ∃ q, t.rat x.ration = some q ∧ t.can x.st q = true
  | [], _, _, _, _, _, hx => by cases hx
  | x :: l, tw, y, p, h, z, hz => by
    unfold Zn at h
    cases h1 : x.st.right t <;> rw [h1] at h
    · cases h
    cases h2 : inb x.lasts 0 1000000 <;> rw [h2] at h
    · cases h
    cases h3 : t.rat x.ration <;> rw [h3] at h
    · cases h
    rename_i q
    cases h4 : t.can x.st q with
    | false => rw [show (bif !true || !true then Except.error 3 else match some q with | none => Except.error 1 | some q => bif !(t.can x.st q) then Except.error 9 else Zn t l (tw || decide (lat y x.st ≠ -1)) (y.set x.st.ix x.lasts) : Except Int (Bool × List Int)) = bif !(t.can x.st q) then Except.error 9 else Zn t l (tw || decide (lat y x.st ≠ -1)) (y.set x.st.ix x.lasts) from rfl, h4] at h; cases h
    | true =>
      rw [show (bif !true || !true then Except.error 3 else match some q with | none => Except.error 1 | some q => bif !(t.can x.st q) then Except.error 9 else Zn t l (tw || decide (lat y x.st ≠ -1)) (y.set x.st.ix x.lasts) : Except Int (Bool × List Int)) = bif !(t.can x.st q) then Except.error 9 else Zn t l (tw || decide (lat y x.st ≠ -1)) (y.set x.st.ix x.lasts) from rfl, h4] at h
      rcases List.mem_cons.1 hz with rfl | hz
      · simp only [inb, Bool.and_eq_true, decide_eq_true_eq] at h2
        exact ⟨h1, h2, q, h3, h4⟩
      · exact Z2C l _ _ p h z hz
def ZS (t : Twn) (y : List Int) (s : Sta) : Option Rw := bif decide (lat y s = -1) then none else (t.rats.findIdx? fun q => t.keeps y s q (lat y s)).map fun (r : Nat) => ⟨s, lat y s, r⟩
def tab (t : Twn) (y : List Int) : List Rw := (sts t).filterMap (ZS t y)
theorem Z5H {t : Twn} {y : List Int} {s : Sta} {k : Nat} {q : Rn} (h0 : lat y s ≠ -1) (hq : t.rats[k]? = some q) (hn : ∀ i q', i < k → t.rats[i]? = some q' → t.keeps y s q' (lat y s) = false) (h : t.keeps y s q (lat y s) = true) : ZS t y s = some ⟨s, lat y s, k⟩ := by
  unfold ZS
  have hk : k < t.rats.length := (List.getElem?_eq_some_iff.1 hq).1
  have : t.rats.findIdx? (fun q => t.keeps y s q (lat y s)) = some k := by
    rw [List.findIdx?_eq_some_iff_getElem]
    refine ⟨hk, ?_, fun j hj => ?_⟩
    · rw [List.getElem?_eq_getElem hk] at hq; cases hq; exact h
    · simp [hn j _ hj (List.getElem?_eq_getElem (by omega))]
  rw [this]; simp [h0]
theorem Z4x {t : Twn} {y : List Int} {s : Sta} (hn : ∀ i q', i < t.rats.length → t.rats[i]? = some q' → lat y s = -1 ∨ t.keeps y s q' (lat y s) = false) : ZS t y s = none := by
  unfold ZS
  cases hc : decide (lat y s = -1) with
  | true => rfl
  | false =>
    have : t.rats.findIdx? (fun q => t.keeps y s q (lat y s)) = none := by
      rw [List.findIdx?_eq_none_iff]
      intro q hq
      obtain ⟨i, hi⟩ := List.getElem?_of_mem hq
      rcases hn i q (List.getElem?_eq_some_iff.1 hi).1 hi with h | h
      · simp [h] at hc
      · exact h
    rw [this]; rfl
end Go.Proofs.Ythhdgeibokecjaa.Bd
