/- Walks of the functions of the program, and the laws that join them: what the last theorem of this claim needs, in order. -/
import Derived.Test.YtjoajfdnlomapaaGreatPa1
namespace Go.Proofs.YtjoajfdnlomapaaGreat
set_option linter.unusedSimpArgs false
set_option linter.unusedVariables false
open Go
theorem St.pullG {H : Z6} {R : Z3} {w : World} (F : Z6) {C : Z6 → Z6} [r : RepF F H C] (h : St H R w) : St (F ++ C []) R w := by
  obtain ⟨T, h1, h2⟩ := r.rep
  exact h.perm (h1.trans (List.Perm.append_left F (h2 [])))
theorem Z7D {P : Program} {k : IntKind} {i : Int} {y : Nat} {c : BoundsCode} (h : 0 ≤ i ∧ i ≤ y) (w : World) : (Instr.sliceBound (.int k i) y c).run P w = .ok i.toNat w := by
  unfold Instr.sliceBound
  simp only [asIntOf, Sem.run_bind, Sem.run_pure, Result.andThen]
  rw [if_pos h]; rfl
section pe
variable {P : Program} {L : Zh} {d : Option Tmp} {ty : TypeId} {pos : String} {af : Array Edge} {g : Option (Nat × Bool)}
theorem PE.slHi {T e s : Nat} {x y : Operand} {a : Option Addr} {len cap h : Nat} {k : IntKind} (hT : slE P T = some (e, s)) (hx : ev L x = some (.slice a len cap)) (hy : ev L y = some (.int k h)) (hh : h ≤ cap) :
    PE P L ⟨d, .slice T x none (some y) none, ty, pos, af, g⟩ (.slice a h cap) := fun ρ hρ w => by
  obtain ⟨i, hu, hi, _⟩ := Z7m hT
  have hb : ∀ c w, (Instr.sliceBound (.int k (h : Int)) cap c).run P w = .ok h w := fun c w => by rw [Z7D (by omega)]; simp
  have e1 : (if cap = 0 then a else a.map (·.add (0 * i.size))) = a := by
    have : a.map (·.add (0 * i.size)) = a := by
      cases a with
      | none => rfl
      | some ad => simp [Addr.add]
    rw [this]; split <;> rfl
  simp only [execOp, hρ _ _ hx, hρ _ _ hy, Option.map_none, Option.map_some, Instr.sliceAt, Instr.slice, Sem.run_bind, run_underlying hu, Result.andThen, Sem.run_pure, Instr.sliceBounds, hb, sizeOf, typeInfo, program, hi, Sem.run]
  rw [e1]; simp
def arE (P : Program) (T : Nat) : Option (Nat × Nat) := match P.underlying T with | some (.array n e) => some (n, e) | _ => none
theorem PE.indexI {T len e s i : Nat} {b : Bool} {x y : Operand} {k : IntKind} {l : List Int} (hT : arE P T = some (len, e)) (hE : EQ P 10000 b e s) (hs : b = false → s = 1) (hx : ev L x = some (.agg (Zd l).toArray)) (hy : ev L y = some (.int k i)) (hi : i < len) (hl : i * s + s ≤ l.length) :
    PE P L ⟨d, .index T x y, ty, pos, af, g⟩ (mkv b ((l.drop (i * s)).take s)) := fun ρ hρ w => by
  unfold arE at hT
  split at hT
  · rename_i n e' hu
    cases hT
    have hsz := Z3Q hE.1.1
    have hp := Z0C hE hs l (i * s) hl
    simp only [execOp, hρ _ _ hx, hρ _ _ hy, Instr.index, asIntOf, Sem.run_bind, Sem.run_pure, run_underlying hu, Result.andThen]
    rw [if_pos ⟨by omega, by omega⟩]
    simp only [Sem.run_bind, hsz, Result.andThen, Int.toNat_natCast, hp, Sem.run_pure]
  · cases hT
end pe
section calls
variable {P : Program} {r : Option Nat} {ops : Array Oper} {n : Nat} {L : Zh} {D : List Deferred} {H : Z6} {R : Z3} {K : Act → World → Prop}
  {i : Nat} {ty : TypeId} {pos : String} {af : Array Edge}
end calls
theorem FnV.app {P : Program} {f : FuncId} {a : List Value} {G G2 H : Z6} {R : Z3} {v : Value} (h : FnV P f a ((G ++ G2) ++ H) R v) : FnV P f a (G ++ (G2 ++ H)) R v := by rw [← List.append_assoc]; exact h
theorem Yd.app {P : Program} {l : Nat} {a : List Value} {G G2 H : Z6} {R : Z3} {Q : Value → Z6 → Z3 → Prop} (h : Yd P l a ((G ++ G2) ++ H) R Q) : Yd P l a (G ++ (G2 ++ H)) R Q := by rw [← List.append_assoc]; exact h
theorem Yd.mono {P : Program} {l : Nat} {a : List Value} {H : Z6} {R : Z3} {Q Q' : Value → Z6 → Z3 → Prop} (h : Yd P l a H R Q) (hq : ∀ v H' R', Q v H' R' → Q' v H' R') : Yd P l a H R Q' := fun w hs => by
  obtain ⟨f, tm, asg, bo, h1, h2⟩ := h w hs
  exact ⟨f, tm, asg, bo, h1, RoundIn.mono h2 fun e w' ⟨v, H', R', q, he, hs'⟩ => ⟨v, H', R', hq _ _ _ q, he, hs'⟩⟩
theorem Z1D (n : Int) : 0 ≤ IntKind.u32.wrap n ∧ IntKind.u32.wrap n ≤ 4294967295 := by
  have e : IntKind.u32.wrap n = n % 4294967296 := rfl
  rw [e]; omega
theorem Z57 {n : Int} (h0 : 0 ≤ n) (h1 : n ≤ 4294967295) : IntKind.u32.wrap n = n := by
  have e : IntKind.u32.wrap n = n % 4294967296 := rfl
  rw [e]; omega
theorem ZO {n : Int} (h0 : -9223372036854775808 ≤ n) (h1 : n ≤ 9223372036854775807) : IntKind.i64.wrap n = n := by
  have e : IntKind.i64.wrap n = if n % 18446744073709551616 ≥ 9223372036854775808 then n % 18446744073709551616 - 18446744073709551616 else n % 18446744073709551616 := by
    unfold IntKind.wrap
    simp [IntKind.signed, IntKind.bits]
  rw [e]
  split <;> omega
def U32 (m : Int) (v : Value) : Prop := ∃ x : Int, v = .int .u32 x ∧ 0 ≤ x ∧ x ≤ m
section pe
variable {P : Program} {L : Zh} {d : Option Tmp} {ty : TypeId} {pos : String} {af : Array Edge} {g : Option (Nat × Bool)}
theorem Z9q {op : BinOp} {T : TypeId} {k : IntKind} {m n : Int} (hop : op = .and ∨ op = .or ∨ op = .xor ∨ op = .andNot) : binOp op T (.int k m) (.int k n) = Op.intBits op k m n := by
  rcases hop with rfl | rfl | rfl | rfl <;> simp [binOp]
theorem PE.bits {op : BinOp} {T U : TypeId} {x y : Operand} {k : IntKind} {m n : Int} {v : Value} (hop : op = .and ∨ op = .or ∨ op = .xor ∨ op = .andNot) (hx : ev L x = some (.int k m)) (hy : ev L y = some (.int k n))
    (h : ∀ w, (Op.intBits op k m n).run P w = .ok v w) : PE P L ⟨d, .binOp op T x y U, ty, pos, af, g⟩ v := fun ρ hρ w => by
  have hg : ∀ w, (eqGuard op T x y (.int k m) (.int k n)).run P w = .ok () w := fun w => by rcases hop with rfl | rfl | rfl | rfl <;> rfl
  simp only [execOp, hρ _ _ hx, hρ _ _ hy, Sem.run_bind, hg, Z9q hop, h, Result.andThen, Sem.run_pure]
theorem PE.xorU {T U : TypeId} {x y : Operand} {m n : Int} (hx : ev L x = some (.int .u32 m)) (hy : ev L y = some (.int .u32 n)) : ∃ v, PE P L ⟨d, .binOp .xor T x y U, ty, pos, af, g⟩ v ∧ U32 4294967295 v :=
  ⟨_, PE.bits (by simp) hx hy (fun w => rfl), _, rfl, Z1D _⟩
theorem PE.mulU {T U : TypeId} {x y : Operand} {m n : Int} (hx : ev L x = some (.int .u32 m)) (hy : ev L y = some (.int .u32 n)) : ∃ v, PE P L ⟨d, .binOp .mul T x y U, ty, pos, af, g⟩ v ∧ U32 4294967295 v := ⟨_, PE.mulW hx hy, _, rfl, Z1D _⟩
theorem PE.addU {T U : TypeId} {x y : Operand} {m n : Int} (hx : ev L x = some (.int .u32 m)) (hy : ev L y = some (.int .u32 n)) : ∃ v, PE P L ⟨d, .binOp .add T x y U, ty, pos, af, g⟩ v ∧ U32 4294967295 v := ⟨_, PE.addW hx hy, _, rfl, Z1D _⟩
theorem PE.convU {S T : TypeId} {x : Operand} {k : IntKind} {m : Int} (hS : (P.underlying S).isSome = true) (hT : Z8i P T = some .u32) (hx : ev L x = some (.int k m)) : ∃ v, PE P L ⟨d, .convert S T x, ty, pos, af, g⟩ v ∧ U32 4294967295 v := ⟨_, PE.convert hS hT hx, _, rfl, Z1D _⟩
theorem PE.conv64 {S T : TypeId} {x : Operand} {k : IntKind} {m : Int} (hS : (P.underlying S).isSome = true) (hT : Z8i P T = some .i64) (hx : ev L x = some (.int k m)) (h0 : -9223372036854775808 ≤ m ∧ m ≤ 9223372036854775807) : PE P L ⟨d, .convert S T x, ty, pos, af, g⟩ (.int .i64 m) := by
  have := PE.convert (P := P) (L := L) (d := d) (ty := ty) (pos := pos) (af := af) (g := g) hS hT hx
  rwa [ZO h0.1 h0.2] at this
theorem PE.andU {T U : TypeId} {x y : Operand} {m n : Int} (hx : ev L x = some (.int .u32 m)) (hy : ev L y = some (.int .u32 n)) (h0 : 0 ≤ n) (h1 : n ≤ 4294967295) : ∃ v, PE P L ⟨d, .binOp .and T x y U, ty, pos, af, g⟩ v ∧ U32 n v := by
  refine ⟨_, PE.bits (by simp) hx hy (fun w => rfl), _, rfl, (Z1D _).1, ?_⟩
  have hb : (BitVec.ofInt 32 n).toNat = n.toNat := by
    rw [BitVec.toNat_ofInt]; omega
  have hle : (BitVec.ofInt 32 m &&& BitVec.ofInt 32 n).toNat ≤ n.toNat := by
    rw [BitVec.toNat_and, hb]; exact Nat.and_le_right
  show IntKind.u32.wrap ((BitVec.ofInt 32 m &&& BitVec.ofInt 32 n).toNat : Int) ≤ n
  rw [Z57 (by omega) (by omega)]
  omega
theorem PE.shrU {T U : TypeId} {x y : Operand} {q : IntKind} {m n : Int} (hx : ev L x = some (.int .u32 m)) (hy : ev L y = some (.int q n)) (hn : 0 ≤ n) (h0 : 0 ≤ m) (h1 : m ≤ 4294967295) : ∃ v, PE P L ⟨d, .binOp .shr T x y U, ty, pos, af, g⟩ v ∧ U32 4294967295 v := by
  refine ⟨.int .u32 (m.fdiv (2 ^ (Min.min n.toNat 32))), fun ρ hρ w => ?_, _, rfl, ?_, ?_⟩
  · have hg : ∀ w, (eqGuard .shr T x y (.int .u32 m) (.int q n)).run P w = .ok () w := fun w => rfl
    have hb : binOp .shr T (.int .u32 m) (.int q n) = Op.shift .shr .u32 m q n := by simp [binOp]
    have hs : ∀ w, (Op.shift .shr .u32 m q n).run P w = .ok (.int .u32 (m.fdiv (2 ^ (Min.min n.toNat 32)))) w := fun w => by
      unfold Op.shift
      rw [if_neg (by omega)]
      rfl
    simp only [execOp, hρ _ _ hx, hρ _ _ hy, Sem.run_bind, hg, hb, hs, Result.andThen, Sem.run_pure]
  · rw [Int.fdiv_eq_ediv_of_nonneg _ (Int.pow_nonneg (by omega))]
    exact Int.ediv_nonneg h0 (Int.pow_nonneg (by omega))
  · rw [Int.fdiv_eq_ediv_of_nonneg _ (Int.pow_nonneg (by omega))]
    have := Int.ediv_le_self (a := m) (2 ^ (Min.min n.toNat 32)) h0
    omega
end pe
section steps
variable {P : Program} {r : Option Nat} {ops : Array Oper} {n : Nat} {L : Zh} {D : List Deferred} {H : Z6} {R : Z3} {K : Act → World → Prop}
  {bm : List Nat} {X : Act → World → Prop} {p : Plan} {pend : Z29}
  {i d : Nat} {op : Op} {ty : TypeId} {pos : String} {af : Array Edge}
theorem spE {q : Value → Prop} (ho : ops[i]? = some ⟨some d, op, ty, pos, af, none⟩) (hv : ∃ v, PE P L ⟨some d, op, ty, pos, af, none⟩ v ∧ q v) (hd : Nat.blt d n = true)
    (h : ∀ v, q v → Sy n ((d, v) :: L) D H R K) : Sy n L D H R (stp P r ops i K) := by
  obtain ⟨v, hv, hq⟩ := hv
  exact sp ho hv hd (h v hq)
theorem tkE {q : Value → Prop} (ho : ops[i]? = some ⟨some d, op, ty, pos, af, none⟩) (hv : ∃ v, PE P L ⟨some d, op, ty, pos, af, none⟩ v ∧ q v) (hd : Nat.blt d n = true)
    (h : ∀ v, q v → Sy n ((d, v) :: L) D H R (Dv P r ops bm X p pend)) : Sy n L D H R (Dv P r ops bm X (.tk i p) pend) := by
  obtain ⟨v, hv, hq⟩ := hv
  exact tk ho hv hd (h v hq)
end steps
section pe
variable {P : Program} {L : Zh} {d : Option Tmp} {ty : TypeId} {pos : String} {af : Array Edge} {g : Option (Nat × Bool)}
theorem PE.shlN {T U : TypeId} {x y : Operand} {m : Nat} {k : Int} {n : Nat} {q : IntKind} (hx : ev L x = some (.int .i64 k)) (hy : ev L y = some (.int q (n : Int))) (hk : k = (m : Int)) (hn : n ≤ 62) (hb : m * 2 ^ n ≤ 9223372036854775807) :
    PE P L ⟨d, .binOp .shl T x y U, ty, pos, af, g⟩ (.int .i64 ((m * 2 ^ n : Nat) : Int)) := fun ρ hρ w => by
  subst hk
  have hg : ∀ w, (eqGuard .shl T x y (.int .i64 (m : Int)) (.int q (n : Int))).run P w = .ok () w := fun w => rfl
  have hbo : binOp .shl T (.int .i64 (m : Int)) (.int q (n : Int)) = Op.shift .shl .i64 m q n := by simp [binOp]
  have hs : ∀ w, (Op.shift .shl .i64 (m : Int) q (n : Int)).run P w = .ok (.int .i64 ((m * 2 ^ n : Nat) : Int)) w := fun w => by
    unfold Op.shift
    rw [if_neg (by omega)]
    have e : Min.min ((n : Int).toNat) (IntKind.i64.bits) = n := by
      have : IntKind.i64.bits = 64 := rfl
      rw [this, Int.toNat_natCast]; omega
    have e2 : ((m : Int) * 2 ^ n) = ((m * 2 ^ n : Nat) : Int) := by push_cast; rfl
    show Result.ok (Value.int .i64 (IntKind.i64.wrap ((m : Int) * 2 ^ (Min.min ((n : Int).toNat) (IntKind.i64.bits))))) w = _
    rw [e, e2, ZO (by omega) (by omega)]
  simp only [execOp, hρ _ _ hx, hρ _ _ hy, Sem.run_bind, hg, hbo, hs, Result.andThen, Sem.run_pure]
theorem Z0q {m : Nat} (h : m ≤ 9223372036854775807) : (BitVec.ofInt 64 (m : Int)).toNat = m := by
  rw [BitVec.toNat_ofInt]; omega
theorem PE.andN {T U : TypeId} {x y : Operand} {m n : Nat} {k : Int} (hx : ev L x = some (.int .i64 (m : Int))) (hy : ev L y = some (.int .i64 k)) (hk : k = (n : Int)) (hm : m ≤ 9223372036854775807) (hn : n ≤ 9223372036854775807) :
    PE P L ⟨d, .binOp .and T x y U, ty, pos, af, g⟩ (.int .i64 ((m &&& n : Nat) : Int)) := by
  subst hk
  refine PE.bits (by simp) hx hy (fun w => ?_)
  show Result.ok (Value.int .i64 (IntKind.i64.wrap ((BitVec.ofInt 64 (m : Int) &&& BitVec.ofInt 64 (n : Int)).toNat : Int))) w = _
  have : m &&& n ≤ m := Nat.and_le_left
  rw [BitVec.toNat_and, Z0q hm, Z0q hn, ZO (by omega) (by omega)]
theorem PE.orN {T U : TypeId} {x y : Operand} {m n : Nat} (hx : ev L x = some (.int .i64 (m : Int))) (hy : ev L y = some (.int .i64 (n : Int))) (hm : m < 2 ^ 62) (hn : n < 2 ^ 62) :
    PE P L ⟨d, .binOp .or T x y U, ty, pos, af, g⟩ (.int .i64 ((m ||| n : Nat) : Int)) := by
  refine PE.bits (by simp) hx hy (fun w => ?_)
  show Result.ok (Value.int .i64 (IntKind.i64.wrap ((BitVec.ofInt 64 (m : Int) ||| BitVec.ofInt 64 (n : Int)).toNat : Int))) w = _
  have : m ||| n < 2 ^ 62 := Nat.or_lt_two_pow hm hn
  rw [BitVec.toNat_or, Z0q (by omega), Z0q (by omega), ZO (by omega) (by omega)]
end pe
section look
variable {P : Program} {r : Option Nat} {ops : Array Oper} {n : Nat} {L : Zh} {D : List Deferred} {H : Z6} {R : Z3} {K : Act → World → Prop}
  {bm : List Nat} {X : Act → World → Prop} {p : Plan} {pend : Z29} {i d : Nat} {ty : TypeId} {pos : String} {af : Array Edge}
theorem Zgc {T : TypeId} {x y : Operand} {vx vy v : Value} {c : Bool} {j t : Nat} {b : Bool} {oj : Oper} (ho : ops[i]? = some ⟨some d, .lookup T x y c, ty, pos, af, some (j, b)⟩) (hj : ops[j]? = some oj) (ht : oj.dst = some t) (hb : lk L t = some (.bool b)) (hx : ev L x = some vx) (hy : ev L y = some vy)
    (hl : ∀ w, St H R w → Lkp P T vx vy c v w) (hd : Nat.blt d n = true) (h : Sy n ((d, v) :: L) D H R (Dv P r ops bm X p ((i, Lkp P T vx vy c v) :: pend))) : Sy n L D H R (Dv P r ops bm X (.ld i p) pend) := fun a w ha hD hs =>
  ⟨_, v, Lkp P T vx vy c v, ho, .inl ⟨by simp [Region.wanted, ZE ha hj ht hb], fun w hw => ZT (Z0B ha.reads hx hy hw) (by simp)⟩, hl w hs, h _ w (ha.put (by simpa using hd) v) hD hs⟩
theorem Zar {T KT E s m : Nat} {b : Bool} (l : KV) (k : List Int) {zv : Value} (hT : Z2W P T = some (KT, E)) (hK : KeyT P b KT s) (hz : ∀ w, (zeroValue E).run P w = .ok zv w) (hk : k.length = s) (hl : ∀ e ∈ l, e.1.length = s)
    (hm : ∀ w, St H R w → w.heap[m]? = some (Z0M b l)) (c : Bool) : ∀ w, St H R w → Lkp P T (.map (some m)) (mkv b k) c (bif c then .tuple #[(l.get k).getD zv, .bool (l.get k).isSome] else (l.get k).getD zv) w := fun w hs => by
  unfold Z2W at hT
  split at hT <;> cases hT
  rename_i hu
  have h1 := Z11 (P := P) (hm w hs)
  have h3 := Z1l hK k hk l hl w
  unfold Lkp Instr.lookup
  simp only [Sem.run_bind, run_underlying hu, Result.andThen, h1, Z0M, hK.ck _ k hk, h3, Sem.run_pure]
  rw [← Z3F]
  cases hf : l.findIdx? fun e => decide (e.1 = k) with
  | none => simp only [Option.map_none, Sem.run_bind, hz, Result.andThen, Sem.run_pure]; cases c <;> rfl
  | some j => simp only [Option.map_some, Sem.run_pure]; cases c <;> rfl
end look
section nested
variable {P : Program} {n : Nat} {L : Zh} {D : List Deferred} {H : Z6} {R : Z3} {Q : Exit → Act → World → Prop}
end nested
theorem Z9s {P : Program} {ax : Option Addr} {s dl sc : Nat} {rows : List (List Value)} {w : World} (hr : RowsA ax s rows w) (hl : ∀ q ∈ rows, q.length = s) (hle : rows.length ≤ dl) :
    (Builtin.firstCells s (Nat.min rows.length dl) (.slice ax rows.length sc)).run P w = .ok rows.flatten.toArray w := by
  rw [show Nat.min rows.length dl = rows.length from Nat.min_eq_left hle]
  have hf := ZN hl
  match ax, hr with
  | none, hr =>
    match rows, hr with
    | [], _ => rfl
    | q :: qs, hr =>
      obtain ⟨_, b, off, h, _⟩ := hr 0 q rfl
      cases h
  | some a, hr =>
    have hc : ∀ j v, rows.flatten[j]? = some v → w.cell? (a.add j) = some v := by
      match rows, hr with
      | [], _ => intro j v h; simp at h
      | q :: qs, hr =>
        obtain ⟨_, b, off, h, _⟩ := hr 0 q rfl
        cases h
        intro j v h
        rw [Z08]; exact Z2w hr j v h
    have := run_loadCells_list (P := P) w a rows.flatten hc
    rw [hf] at this
    exact this
section steps
variable {P : Program} {r : Option Nat} {ops : Array Oper} {n : Nat} {L : Zh} {D : List Deferred} {H : Z6} {R : Z3} {K : Act → World → Prop}
  {i d : Nat} {ty : TypeId} {pos : String} {af : Array Edge}
theorem Zf5 {T T2 e s : Nat} {x y : Operand} {b dl dc sc e2 : Nat} {l : List Value} {ax : Option Addr} {rows : List (List Value)} {H' : Z6}
    (ho : ops[i]? = some ⟨some d, .call { callee := .builtin .copy, args := #[x, y], argTypes := #[T, T2] }, ty, pos, af, none⟩) (hT : slE P T = some (e, s))
    (hx : ev L x = some (.slice (some ⟨b, 0, none⟩) dl dc)) (hy : ev L y = some (.slice ax rows.length sc)) [mr : MemRows ax s rows R] (hl : ∀ q ∈ rows, q.length = s) (hle : rows.length ≤ dl)
    (h1 : rows.flatten.all (·.oneCell') = true) (hb : rows.flatten.length ≤ l.length) (hd : Nat.blt d n = true)
    [m : Mem1 b (cel e2 l) H] [rp : Rep [(b, cel e2 l)] [(b, cel e2 (spl l 0 rows.flatten))] H H']
    (h : Sy n ((d, .int .i64 rows.length) :: L) D H' R K) : Sy n L D H R (stp P r ops i K) := fun a w ha hD hs => by
  obtain ⟨ie, hu, hi, rfl⟩ := Z7m hT
  have hr := Z9s (P := P) (sc := sc) (hs.now mr.mem) hl hle
  have hst : (storeCells ⟨b, 0, none⟩ rows.flatten).run P w = .ok () { w with heap := w.heap.setIfInBounds b (cel e2 (spl l 0 rows.flatten)) } := Z61 (P := P) (e := e2) h1 hb (hs.held _ m.mem)
  refine Zw ho (Zg _ rfl _) (v := .int .i64 rows.length) (w' := { w with heap := w.heap.setIfInBounds b (cel e2 (spl l 0 rows.flatten)) }) ?_
    (h _ _ (ha.put (by simpa using hd) _) hD (hs.rep (F := [(b, cel e2 l)]) (F' := [(b, cel e2 (spl l 0 rows.flatten))]) fun T hT => St.set hT))
  simp only [execOp, resolve, invoke, builtin, Sem.run_bind, Sem.run_pure, Result.andThen, List.map_toArray, List.map_cons, List.map_nil, ha.reads _ _ hx, ha.reads _ _ hy]
  have e1 : (Builtin.copy_ #[T, T2] ty #[.slice (some ⟨b, 0, none⟩) dl dc, .slice ax rows.length sc]).run P w = .ok (goInt (rows.length : Nat)) { w with heap := w.heap.setIfInBounds b (cel e2 (spl l 0 rows.flatten)) } := by
    have e3 : (Builtin.firstCells ie.size rows.length (.slice ax rows.length sc)).run P w = .ok rows.flatten.toArray w := by
      rw [show Nat.min rows.length dl = rows.length from Nat.min_eq_left hle] at hr; exact hr
    simp [Builtin.copy_, run_underlying hu, Builtin.lenOf, sizeOf, typeInfo, hi, e3, hst, Nat.min_eq_left hle]
  rw [e1]
  rfl
end steps
def ZaM (P : Program) (T : Nat) : Bool := match P.underlying T with | some .string => true | _ => false
def U8 (v : Value) : Prop := ∃ x : Int, v = .int .u8 x ∧ 0 ≤ x ∧ x ≤ 255
theorem Z63 {n : Int} (h0 : 0 ≤ n) (h1 : n ≤ 255) : IntKind.u8.wrap n = n := by
  have e : IntKind.u8.wrap n = n % 256 := rfl
  rw [e]; omega
theorem Z2G {n : Int} (h0 : 0 ≤ n) (h1 : n ≤ 18446744073709551615) : IntKind.u64.wrap n = n := by
  have e : IntKind.u64.wrap n = n % 18446744073709551616 := rfl
  rw [e]; omega
section pe
variable {P : Program} {L : Zh} {d : Option Tmp} {ty : TypeId} {pos : String} {af : Array Edge} {g : Option (Nat × Bool)}
theorem PE.indexS {T : TypeId} {x y : Operand} {k : IntKind} {s : ByteArray} {i m : Nat} (hT : ZaM P T = true) (hx : ev L x = some (.string s)) (hy : ev L y = some (.int k i)) (hz : s.size = m) (hi : i < m) :
    ∃ v, PE P L ⟨d, .index T x y, ty, pos, af, g⟩ v ∧ U8 v := by
  have hu : P.underlying T = some .string := by
    unfold ZaM at hT
    split at hT
    · assumption
    · cases hT
  refine ⟨.int .u8 (s[i]'(by omega)).toNat, fun ρ hρ w => ?_, _, rfl, by omega, ?_⟩
  · have e1 : s[i]? = some (s[i]'(by omega)) := getElem?_pos s i (by omega)
    simp only [execOp, hρ _ _ hx, hρ _ _ hy, Instr.index, asIntOf, Sem.run_bind, Sem.run_pure, run_underlying hu, Result.andThen]
    rw [if_pos (by omega), Int.toNat_natCast, e1]
    rfl
  · have := UInt8.toNat_lt (s[i]'(by omega)); omega
end pe
section steps
variable {P : Program} {r : Option Nat} {ops : Array Oper} {n : Nat} {L : Zh} {D : List Deferred} {H : Z6} {R : Z3} {K : Act → World → Prop}
  {i d : Nat} {ty : TypeId} {pos : String} {af : Array Edge}
end steps
section dag
variable {P : Program} {r : Option Nat} {ops : Array Oper} {bm : List Nat} {X : Act → World → Prop} {n : Nat} {L : Zh} {D : List Deferred} {H : Z6} {R : Z3} {p : Plan} {pend : Z29}
end dag
section pe
variable {P : Program} {L : Zh} {d : Option Tmp} {ty : TypeId} {pos : String} {af : Array Edge} {g : Option (Nat × Bool)}
end pe
section steps
variable {P : Program} {r : Option Nat} {ops : Array Oper} {n : Nat} {L : Zh} {D : List Deferred} {H : Z6} {R : Z3} {K : Act → World → Prop}
  {i d : Nat} {ty : TypeId} {pos : String} {af : Array Edge}
end steps
def AllS : List Nat → (Nat → Prop) → Prop
  | [], _ => True
  | i :: l, p => p i ∧ AllS l p
theorem AllS.all {p : Nat → Prop} : ∀ {l : List Nat}, AllS l p → ∀ i ∈ l, p i
  | [], _, i, h => by cases h
  | j :: l, h, i, hi => by
    rcases List.mem_cons.1 hi with rfl | hi
    · exact h.1
    · exact AllS.all h.2 i hi
section free
variable {P : Program} {r : Option Nat} {ops : Array Oper} {n : Nat} {L : Zh} {D : List Deferred} {H : Z6} {R : Z3}
end free
def pvl (L : Zh) : Op → Option Value
  | .move x => ev L x
  | .assign x => ev L x
  | .pick c x y => match ev L c with
    | some (.bool b) => match ev L x with
      | some u => match ev L y with
        | some v => some (bif b then u else v)
        | none => none
      | none => none
    | _ => none
  | .extract x k => match ev L x with
    | some (.tuple l) => l.toList[k]?
    | _ => none
  | .unOp .not _ x => match ev L x with
    | some (.bool b) => some (.bool !b)
    | _ => none
  | .binOp .lss _ x y _ => match ev L x with
    | some (.int .i64 m) => match ev L y with
      | some (.int .i64 n) => some (.bool (decide (m < n)))
      | _ => none
    | _ => none
  | .binOp .leq _ x y _ => match ev L x with
    | some (.int .i64 m) => match ev L y with
      | some (.int .i64 n) => some (.bool (decide (m ≤ n)))
      | _ => none
    | _ => none
  | .binOp .gtr _ x y _ => match ev L x with
    | some (.int .i64 m) => match ev L y with
      | some (.int .i64 n) => some (.bool (decide (n < m)))
      | _ => none
    | _ => none
  | .binOp .geq _ x y _ => match ev L x with
    | some (.int .i64 m) => match ev L y with
      | some (.int .i64 n) => some (.bool (decide (n ≤ m)))
      | _ => none
    | _ => none
  | .binOp .eql _ x y _ => match ev L x with
    | some (.int .i64 m) => match ev L y with
      | some (.int .i64 n) => some (.bool (decide (m = n)))
      | _ => none
    | _ => none
  | .binOp .neq _ x y _ => match ev L x with
    | some (.int .i64 m) => match ev L y with
      | some (.int .i64 n) => some (.bool (decide (m ≠ n)))
      | _ => none
    | _ => none
  | _ => none
theorem Z5I {P : Program} {L : Zh} {o : Oper} {v : Value} (h : pvl L o.op = some v) : PE P L o v := by
  obtain ⟨d, op, ty, pos, af, g⟩ := o
  dsimp only at h
  unfold pvl at h
  split at h
  · exact PE.move h
  · exact PE.assign h
  · split at h
    · rename_i b hb
      split at h
      · rename_i u hu
        split at h
        · rename_i w hw
          obtain rfl := Option.some.inj h
          exact PE.pick hb hu hw
        · cases h
      · cases h
    · cases h
  · split at h
    · rename_i l hl
      exact PE.extract (l := l.toList) hl h
    · cases h
  · split at h
    · rename_i b hb
      obtain rfl := Option.some.inj h
      exact PE.not hb
    · cases h
  · split at h
    · rename_i m hm
      split at h
      · rename_i k hk
        obtain rfl := Option.some.inj h
        exact PE.lss hm hk
      · cases h
    · cases h
  · split at h
    · rename_i m hm
      split at h
      · rename_i k hk
        obtain rfl := Option.some.inj h
        exact PE.leq hm hk
      · cases h
    · cases h
  · split at h
    · rename_i m hm
      split at h
      · rename_i k hk
        obtain rfl := Option.some.inj h
        exact PE.gtr hm hk
      · cases h
    · cases h
  · split at h
    · rename_i m hm
      split at h
      · rename_i k hk
        obtain rfl := Option.some.inj h
        exact PE.geq hm hk
      · cases h
    · cases h
  · split at h
    · rename_i m hm
      split at h
      · rename_i k hk
        obtain rfl := Option.some.inj h
        exact PE.eql hm hk
      · cases h
    · cases h
  · split at h
    · rename_i m hm
      split at h
      · rename_i k hk
        obtain rfl := Option.some.inj h
        exact PE.neq hm hk
      · cases h
    · cases h
  · cases h
def gok (ops : Array Oper) (L : Zh) : Option (Nat × Bool) → Option Bool
  | none => some true
  | some (j, b) => match ops[j]? with
    | some oj => match oj.dst with
      | some t => match lk L t with
        | some (.bool c) => some (b == c)
        | _ => none
      | none => none
    | none => none
def prS (ops : Array Oper) (n : Nat) (L : Zh) (i : Nat) : Option Zh := match ops[i]? with
  | some o => match o.dst with
    | some d => bif Nat.blt d n then
        match gok ops L o.guard with
        | some true => match pvl L o.op with
          | some v => some ((d, v) :: L)
          | none => none
        | some false => some ((d, undef) :: L)
        | none => none
      else none
    | none => none
  | none => none
section ops
variable {P : Program} {r : Option Nat} {ops : Array Oper} {n : Nat} {L L' : Zh} {D : List Deferred} {H : Z6} {R : Z3} {K : Act → World → Prop}
  {bm : List Nat} {X : Act → World → Prop} {p p' : Plan} {pend : Z29} {i : Nat}
theorem Z4x (h : prS ops n L i = some L') : ∃ o d, ops[i]? = some o ∧ o.dst = some d ∧ Nat.blt d n = true ∧
    ((∃ v, pvl L o.op = some v ∧ L' = (d, v) :: L ∧ (o.guard = none ∨ ∃ j b oj t, o.guard = some (j, b) ∧ ops[j]? = some oj ∧ oj.dst = some t ∧ lk L t = some (.bool b))) ∨
     (L' = (d, undef) :: L ∧ ∃ j b oj t c, o.guard = some (j, b) ∧ ops[j]? = some oj ∧ oj.dst = some t ∧ lk L t = some (.bool c) ∧ b = !c)) := by
  unfold prS at h
  split at h
  · rename_i o ho
    split at h
    · rename_i d hd
      cases hb : Nat.blt d n with
      | false => rw [hb] at h; cases h
      | true =>
        rw [hb, cond_true] at h
        refine ⟨o, d, ho, hd, hb, ?_⟩
        have hg : ∀ x, gok ops L o.guard = some x → (o.guard = none ∧ x = true) ∨ ∃ j b oj t c, o.guard = some (j, b) ∧ ops[j]? = some oj ∧ oj.dst = some t ∧ lk L t = some (.bool c) ∧ x = (b == c) := by
          intro x hx
          unfold gok at hx
          split at hx
          · rename_i h0; exact .inl ⟨h0, (Option.some.inj hx).symm⟩
          · rename_i j b h0
            split at hx
            · rename_i oj hj
              split at hx
              · rename_i t ht
                split at hx
                · rename_i c hc
                  exact .inr ⟨j, b, oj, t, c, h0, hj, ht, hc, (Option.some.inj hx).symm⟩
                · cases hx
              · cases hx
            · cases hx
        split at h
        · rename_i h0
          split at h
          · rename_i v hv
            refine .inl ⟨v, hv, (Option.some.inj h).symm, ?_⟩
            rcases hg _ h0 with ⟨h1, _⟩ | ⟨j, b, oj, t, c, h1, h2, h3, h4, h5⟩
            · exact .inl h1
            · obtain rfl := eq_of_beq h5.symm
              exact .inr ⟨j, b, oj, t, h1, h2, h3, h4⟩
          · cases h
        · rename_i h0
          refine .inr ⟨(Option.some.inj h).symm, ?_⟩
          rcases hg _ h0 with ⟨_, h1⟩ | ⟨j, b, oj, t, c, h1, h2, h3, h4, h5⟩
          · cases h1
          · exact ⟨j, b, oj, t, c, h1, h2, h3, h4, by cases b <;> cases c <;> first | rfl | cases h5⟩
        · cases h
    · cases h
  · cases h
theorem ZcA (h : prS ops n L i = some L') (hk : Sy n L' D H R K) : Sy n L D H R (stp P r ops i K) := by
  obtain ⟨⟨dst, op, ty, pos, af, g⟩, d, ho, hd, hb, h1⟩ := Z4x h
  dsimp only at hd h1
  subst hd
  rcases h1 with ⟨v, hv, rfl, rfl | ⟨j, b, oj, t, rfl, hj, ht, hl⟩⟩ | ⟨rfl, j, b, oj, t, c, hg, hj, ht, hl, hbc⟩
  · exact sp ho (Z5I hv) hb hk
  · exact spG ho hj ht hl (Z5I hv) hb hk
  · exact spN ho hg hj ht hl hbc rfl hb hk
theorem ZdD (h : prS ops n L i = some L') (hk : Sy n L' D H R (Dv P r ops bm X p pend)) : Sy n L D H R (Dv P r ops bm X (.tk i p) pend) := by
  obtain ⟨⟨dst, op, ty, pos, af, g⟩, d, ho, hd, hb, h1⟩ := Z4x h
  dsimp only at hd h1
  subst hd
  rcases h1 with ⟨v, hv, rfl, rfl | ⟨j, b, oj, t, rfl, hj, ht, hl⟩⟩ | ⟨rfl, j, b, oj, t, c, hg, hj, ht, hl, hbc⟩
  · exact tk ho (Z5I hv) hb hk
  · exact tkG ho hj ht hl (Z5I hv) hb hk
  · exact tkN ho hg hj ht hl hbc rfl hb hk
def prK (ops : Array Oper) (n : Nat) : Nat → List Nat → Zh → Option (List Nat × Zh)
  | 0, l, L => some (l, L)
  | _ + 1, [], _ => none
  | k + 1, i :: l, L => match prS ops n L i with
    | some L' => prK ops n k l L'
    | none => none
theorem pur (k : Nat) {l l' : List Nat} (h : prK ops n k l L = some (l', L')) (hk : Sy n L' D H R (Z3I P r ops X l')) : Sy n L D H R (Z3I P r ops X l) := by
  induction k generalizing l L with
  | zero =>
    simp only [prK, Option.some.injEq, Prod.mk.injEq] at h
    obtain ⟨rfl, rfl⟩ := h
    exact hk
  | succ k ih =>
    cases l with
    | nil => cases h
    | cons i l =>
      unfold prK at h
      split at h
      · rename_i L1 h1
        exact ZcA h1 (ih h)
      · cases h
def prP (ops : Array Oper) (n : Nat) : Nat → Plan → Zh → Option (Plan × Zh)
  | 0, p, L => some (p, L)
  | k + 1, .tk i p, L => match prS ops n L i with
    | some L' => prP ops n k p L'
    | none => none
  | _ + 1, _, _ => none
theorem Zf (k : Nat) (h : prP ops n k p L = some (p', L')) (hk : Sy n L' D H R (Dv P r ops bm X p' pend)) : Sy n L D H R (Dv P r ops bm X p pend) := by
  induction k generalizing p L with
  | zero =>
    simp only [prP, Option.some.injEq, Prod.mk.injEq] at h
    obtain ⟨rfl, rfl⟩ := h
    exact hk
  | succ k ih =>
    cases p with
    | tk i p =>
      unfold prP at h
      split at h
      · rename_i L1 h1
        exact ZdD h1 (ih h)
      · cases h
    | done => cases h
    | ld i p => cases h
    | big i p => cases h
    | any p => cases h
    | alt i p q => cases h
    | stop => cases h
theorem Zp {X : Act → World → Prop} (t : Nat) {b : Bool} (hb : lk L t = some (.bool b)) (h1 : b = true → Sy n ((t, .bool true) :: L) D H R X) (h0 : b = false → Sy n ((t, .bool false) :: L) D H R X) : Sy n L D H R X := Zby hb h1 h0
theorem bgT (h : Sy n L D H R (Dv P r ops bm X p (keepP bm i pend))) (hp : ∀ w, St H R w → ZS bm i pend w := by intro w hs; repeat' first | exact trivial | constructor) : Sy n L D H R (fun a w => ZS bm i pend w ∧ Dv P r ops bm X p (keepP bm i pend) a w) := bg hp h
theorem PE.fA {ty : TypeId} {pos : String} {af : Array Edge} {g : Option (Nat × Bool)} {d : Option Tmp} {T k o b off : Nat} {x : Operand} (ho : ZJ P T k = some o) (hx : ev L x = some (.pointer (some ⟨b, off, none⟩))) : PE P L ⟨d, .fieldAddr T x k, ty, pos, af, g⟩ (.pointer (some ⟨b, off + o, none⟩)) := PE.fieldAddr ho hx
end ops
theorem cS : (∀ (p : Prop) [Decidable p], (decide p = true) = p) ∧ (∀ (p : Prop) [Decidable p], (decide p = false) = ¬ p) ∧ (∀ a b : Bool, ((a && b) = true) = (a = true ∧ b = true)) ∧ (∀ a b : Bool, ((a || b) = true) = (a = true ∨ b = true)) ∧ (∀ b : Bool, ((!b) = true) = (b = false)) ∧ (∀ a b : Int, (¬ a ≤ b) = (b < a)) ∧ (∀ a b : Int, (¬ a < b) = (b ≤ a)) :=
  ⟨fun _ _ => decide_eq_true_eq, fun p _ => propext decide_eq_false_iff_not, fun a b => by simp, fun a b => by simp, fun b => by simp, fun a b => propext Int.not_le, fun a b => propext Int.not_lt⟩
def tks : Nat → Nat → Plan → Plan
  | _, 0, p => p
  | i, k + 1, p => .tk i (tks (i + 1) k p)
theorem idH {H : Z6} {R : Z3} : ∀ w, St H R w → St H R w := fun _ h => h
theorem nl {m n : Nat} (h : Nat.ble m n = true) : m ≤ n := Nat.le_of_ble_eq_true h
theorem dF {p : Prop} [i : Decidable p] (h : ¬ p) : decide p = false := decide_eq_false h
theorem dT {p : Prop} [i : Decidable p] (h : p) : decide p = true := decide_eq_true h
section steps
variable {P : Program} {r : Option Nat} {n : Nat} {L : Zh} {D : List Deferred} {H : Z6} {R : Z3} {Q : Exit → Act → World → Prop}
theorem Zk {ι : Type} {inv : ι → Head} {j : ι} (hH : ∀ w, St H R w → St (inv j).H (inv j).R w) (hL : Sub (inv j).L L := by repeat' first | exact Sub.nil | apply Sub.cons | rfl | (simp [lk]; omega)) : Sy n L D H R (Z3i n D inv j) := ZaD hL hH
theorem Zi {ι : Type} {inv : ι → Head} {μ : ι → Nat} {i : ι} (j : ι) (hm : μ j < μ i) (hH : ∀ w, St H R w → St (inv j).H (inv j).R w) (hL : Sub (inv j).L L := by repeat' first | exact Sub.nil | apply Sub.cons | rfl | (simp [lk]; omega)) : Sy n L D H R (Z86 n D inv μ i) := ZX j hm hL hH
theorem Ze {ι : Type} {inv : ι → Head} {μ : ι → Nat} {i : ι} (j : ι) (hH : ∀ w, St H R w → St (inv j).H (inv j).R w) (hm : μ j < μ i := by dsimp only; omega) (hL : Sub (inv j).L L := by repeat' first | exact Sub.nil | apply Sub.cons | rfl | (simp [lk]; omega)) : Sy n L D H R (Z86 n D inv μ i) := ZX j hm hL hH
theorem Zv {ι : Type} {hd : ι → Head} (j : ι) (hH : ∀ w, St H R w → St (hd j).H (hd j).R w) (hL : Sub (hd j).L L := by repeat' first | exact Sub.nil | apply Sub.cons | rfl | (simp [lk]; omega)) : Sy n L D H R (Zaw n D hd .normal) := Z7W j hL hH
theorem Z5s {ι : Type} {hd : ι → Head} (j : ι) (hH : ∀ w, St H R w → St (hd j).H (hd j).R w) (hL : Sub (hd j).L L := by repeat' first | exact Sub.nil | apply Sub.cons | rfl | (simp [lk]; omega)) : Sy n L D H R (Z6B n D hd Q .normal) := Zam j hL hH
def rg : Nat → Nat → List Nat
  | _, 0 => []
  | i, k + 1 => i :: rg (i + 1) k
theorem sqt {id : Nat} {ops : Array Oper} {y : Code} (k : Nat) (hl : List.range ops.size = rg 0 k) (h : Sy n L D H R (Z3I P r ops (wpc P r y Q) (rg 0 k))) : Sy n L D H R (wpc P r (.seq (.region id ops false) y) Q) :=
  Z0 (Z9H _ hl h)
theorem sqr {id : Nat} {ops : Array Oper} (k : Nat) (hl : List.range ops.size = rg 0 k) (h : Sy n L D H R (Z3I P r ops (Q .normal) (rg 0 k))) : Sy n L D H R (wpc P r (.region id ops false) Q) := Z9H _ hl h
variable {fn : Func} {G : Value → Z6 → Z3 → Prop} {H' : Z6} {R' : Z3}
theorem rtA {t : Nat} {v u : Value} (hr : fn.results = #[.tmp t]) (hv : lk L t = some v) (he : Zz [v] = u) (hq : G u H' R') (hs : ∀ w, St H R w → St H' R' w) : Sy n L [] H R (Ret P fn G .ret) := Z7 (vs := [v]) hr (.cons (RV.tmp hv) .nil) he hq hs
theorem rtB {t t2 : Nat} {v x u : Value} (hr : fn.results = #[.tmp t, .tmp t2]) (hv : lk L t = some v) (hx : lk L t2 = some x) (he : Zz [v, x] = u) (hq : G u H' R') (hs : ∀ w, St H R w → St H' R' w) : Sy n L [] H R (Ret P fn G .ret) := Z7 (vs := [v, x]) hr (.cons (RV.tmp hv) (.cons (RV.tmp hx) .nil)) he hq hs
theorem rtC {t t2 t3 : Nat} {v x y u : Value} (hr : fn.results = #[.tmp t, .tmp t2, .tmp t3]) (hv : lk L t = some v) (hx : lk L t2 = some x) (hy : lk L t3 = some y) (he : Zz [v, x, y] = u) (hq : G u H' R') (hs : ∀ w, St H R w → St H' R' w) : Sy n L [] H R (Ret P fn G .ret) := Z7 (vs := [v, x, y]) hr (.cons (RV.tmp hv) (.cons (RV.tmp hx) (.cons (RV.tmp hy) .nil))) he hq hs
end steps
theorem Zo : Tryz.prog.follows .mixedOrders = true := by kernel_rfl
end Go.Proofs.YtjoajfdnlomapaaGreat
namespace Go.Proofs.YtjoajfdnlomapaaGreat.Gt
set_option linter.unusedSimpArgs false
set_option linter.unusedVariables false
abbrev Box := List Int
abbrev Mix := List Int
def nn (l : List Int) (k : Nat) : Int := l.getD k 0
@[reducible] def bl (b : Box) (k : Nat) : Int := nn b (2 * k)
@[reducible] def bh (b : Box) (k : Nat) : Int := nn b (2 * k + 1)
def met (l h l2 h2 : Int) : Int × Int := bif decide (min h h2 < max l l2) then (1, 0) else (max l l2, min h h2)
def Z16 (b : Box) (k : Nat) (s : Int × Int) : Box := (b.set (2 * k) s.1).set (2 * k + 1) s.2
def oth (f : Nat → Int) (k : Nat) : Int := (bif k == 0 then 0 else f 0) + (bif k == 1 then 0 else f 1) + (bif k == 2 then 0 else f 2) + (bif k == 3 then 0 else f 3)
def ZG (b : Box) (k : Nat) : Int × Int := met (bl b k) (bh b k) (40 - oth (bh b) k) (40 - oth (bl b) k)
def Z2S (b : Box) : Nat → Option Box
  | 0 => some b
  | k + 1 => match Z2S b k with
    | none => none
    | some c => bif ZG c k == (1, 0) then none else some (Z16 c k (ZG c k))
inductive CloseR : Box → Option Box → Prop where
  | no {b : Box} (h : Z2S b 4 = none) : CloseR b none
  | fix {b : Box} (h : Z2S b 4 = some b) : CloseR b (some b)
  | go {b c : Box} {r : Option Box} (h : Z2S b 4 = some c) (hc : c ≠ b) (hr : CloseR c r) : CloseR b r
def Z5z : Nat → Box → Option Box
  | 0, _ => none
  | n + 1, b => match Z2S b 4 with
    | none => none
    | some c => bif decide (c = b) then some b else Z5z n c
@[irreducible] def clo (b : Box) : Option Box := Z5z 200 b
def Z1w (m : List Int) : Int := nn m 0 + nn m 1 + nn m 2 + nn m 3
structure Mx (b : Box) (m : Mix) : Prop where
  len : m.length = 4
  sum : Z1w m = 40
  at_ : ∀ k < 4, bl b k ≤ nn m k ∧ nn m k ≤ bh b k
structure Bok (b : Box) : Prop where
  len : b.length = 8
  at_ : ∀ k < 4, (bl b k = 1 ∧ bh b k = 0) ∨ (0 ≤ bl b k ∧ bl b k ≤ bh b k ∧ bh b k ≤ 40)
def wid (b : Box) : Nat := ((bh b 0 - bl b 0 + 1) + (bh b 1 - bl b 1 + 1) + (bh b 2 - bl b 2 + 1) + (bh b 3 - bl b 3 + 1)).toNat
theorem Z42 {b : Box} (h : b.length = 8) : ∃ a0 a1 a2 a3 a4 a5 a6 a7, b = [a0, a1, a2, a3, a4, a5, a6, a7] := by
  match b, h with
  | [a0, a1, a2, a3, a4, a5, a6, a7], _ => exact ⟨a0, a1, a2, a3, a4, a5, a6, a7, rfl⟩
theorem Z3S {m : List Int} (h : m.length = 4) : ∃ a b c d, m = [a, b, c, d] := by
  match m, h with
  | [a, b, c, d], _ => exact ⟨a, b, c, d, rfl⟩
theorem lt4 {k : Nat} (h : k < 4) : k = 0 ∨ k = 1 ∨ k = 2 ∨ k = 3 := by omega
theorem Z4B {p : Nat → Prop} (h : ∀ k < 4, p k) : p 0 ∧ p 1 ∧ p 2 ∧ p 3 := ⟨h 0 (by omega), h 1 (by omega), h 2 (by omega), h 3 (by omega)⟩
theorem of4 {p : Nat → Prop} (h : p 0 ∧ p 1 ∧ p 2 ∧ p 3) : ∀ k < 4, p k := fun k hk => by
  obtain ⟨h0, h1, h2, h3⟩ := h
  rcases lt4 hk with rfl | rfl | rfl | rfl <;> assumption
theorem Z1B (b : Box) (k : Nat) (s : Int × Int) : (Z16 b k s).length = b.length := by simp [Z16]
theorem Z0P {b : Box} (hb : b.length = 8) {k j : Nat} (hk : k < 4) (hj : j < 4) (s : Int × Int) : bl (Z16 b k s) j = (bif k == j then s.1 else bl b j) ∧ bh (Z16 b k s) j = (bif k == j then s.2 else bh b j) := by
  obtain ⟨a0, a1, a2, a3, a4, a5, a6, a7, rfl⟩ := Z42 hb
  rcases lt4 hk with rfl | rfl | rfl | rfl <;> rcases lt4 hj with rfl | rfl | rfl | rfl <;> exact ⟨rfl, rfl⟩
theorem Z2f {l h l2 h2 : Int} : met l h l2 h2 = (1, 0) ∨ (met l h l2 h2 = (max l l2, min h h2) ∧ max l l2 ≤ min h h2) := by
  unfold met
  by_cases hc : min h h2 < max l l2
  · rw [decide_eq_true hc]; exact .inl rfl
  · rw [decide_eq_false hc]; exact .inr ⟨rfl, by omega⟩
theorem Zd6 {l h l2 h2 x : Int} (h1 : l ≤ x ∧ x ≤ h) (h2' : l2 ≤ x ∧ x ≤ h2) : met l h l2 h2 = (max l l2, min h h2) := by
  unfold met
  rw [decide_eq_false (by omega)]; rfl
theorem met_iff {l h l2 h2 x : Int} : ((met l h l2 h2).1 ≤ x ∧ x ≤ (met l h l2 h2).2) ↔ ((l ≤ x ∧ x ≤ h) ∧ (l2 ≤ x ∧ x ≤ h2)) := by
  rcases Z2f (l := l) (h := h) (l2 := l2) (h2 := h2) with e | ⟨e, h3⟩
  · rw [e]
    constructor
    · intro hx; have := hx.1; have := hx.2; simp only at *; omega
    · rintro ⟨h1, h4⟩
      rw [Zd6 h1 h4] at e
      simp only [Prod.mk.injEq] at e
      simp only; omega
  · rw [e]; simp only; omega
theorem Z9E {l h l2 h2 : Int} (hb : (l = 1 ∧ h = 0) ∨ (0 ≤ l ∧ l ≤ h ∧ h ≤ 40)) : ((met l h l2 h2).1 = 1 ∧ (met l h l2 h2).2 = 0) ∨ (0 ≤ (met l h l2 h2).1 ∧ (met l h l2 h2).1 ≤ (met l h l2 h2).2 ∧ (met l h l2 h2).2 ≤ 40) := by
  rcases Z2f (l := l) (h := h) (l2 := l2) (h2 := h2) with e | ⟨e, h3⟩
  · rw [e]; exact .inl ⟨rfl, rfl⟩
  · rw [e]; simp only; omega
theorem Bok.set {b : Box} (h : Bok b) {k : Nat} (hk : k < 4) {l2 h2 : Int} : Bok (Z16 b k (met (bl b k) (bh b k) l2 h2)) := by
  refine ⟨by rw [Z1B]; exact h.len, fun j hj => ?_⟩
  obtain ⟨e1, e2⟩ := Z0P h.len hk hj (met (bl b k) (bh b k) l2 h2)
  rw [e1, e2]
  by_cases hkj : k = j
  · subst hkj
    simp only [beq_self_eq_true, cond_true]
    exact Z9E (h.at_ k hk)
  · have : (k == j) = false := by simpa using hkj
    rw [this]; exact h.at_ j hj
theorem Mx.set {b : Box} (hb : b.length = 8) {k : Nat} (hk : k < 4) {l2 h2 : Int} {m : Mix} : Mx (Z16 b k (met (bl b k) (bh b k) l2 h2)) m ↔ (Mx b m ∧ l2 ≤ nn m k ∧ nn m k ≤ h2) := by
  constructor
  · rintro ⟨h1, h2', h3⟩
    have hk2 := h3 k hk
    obtain ⟨e1, e2⟩ := Z0P hb hk hk (met (bl b k) (bh b k) l2 h2)
    simp only [beq_self_eq_true, cond_true] at e1 e2
    rw [e1, e2, met_iff] at hk2
    refine ⟨⟨h1, h2', fun j hj => ?_⟩, hk2.2⟩
    by_cases hkj : k = j
    · subst hkj; exact hk2.1
    · have h4 := h3 j hj
      obtain ⟨e3, e4⟩ := Z0P hb hk hj (met (bl b k) (bh b k) l2 h2)
      have : (k == j) = false := by simpa using hkj
      rw [e3, e4, this] at h4
      exact h4
  · rintro ⟨⟨h1, h2', h3⟩, h4⟩
    refine ⟨h1, h2', fun j hj => ?_⟩
    obtain ⟨e3, e4⟩ := Z0P hb hk hj (met (bl b k) (bh b k) l2 h2)
    rw [e3, e4]
    by_cases hkj : k = j
    · subst hkj
      simp only [beq_self_eq_true, cond_true]
      exact met_iff.2 ⟨h3 k hk, h4⟩
    · have : (k == j) = false := by simpa using hkj
      rw [this]; exact h3 j hj
theorem Mx.oth {b : Box} {m : Mix} (h : Mx b m) {k : Nat} (hk : k < 4) : 40 - oth (bh b) k ≤ nn m k ∧ nn m k ≤ 40 - oth (bl b) k := by
  obtain ⟨h0, h1, h2, h3⟩ := Z4B h.at_
  have hs := h.sum
  unfold Z1w at hs
  rcases lt4 hk with rfl | rfl | rfl | rfl <;> simp [Go.Proofs.YtjoajfdnlomapaaGreat.Gt.oth] <;> omega
theorem Z7o {b : Box} (hb : b.length = 8) {k : Nat} (hk : k < 4) {m : Mix} : Mx (Z16 b k (ZG b k)) m ↔ Mx b m := by
  unfold ZG
  rw [Mx.set hb hk]
  exact ⟨fun h => h.1, fun h => ⟨h, h.oth hk⟩⟩
theorem Zbz {b : Box} (hb : b.length = 8) {k : Nat} (hk : k < 4) (h : ZG b k = (1, 0)) {m : Mix} : ¬ Mx b m := fun hm => by
  have h1 := (Z7o hb hk).2 hm
  have h2 := h1.at_ k hk
  obtain ⟨e1, e2⟩ := Z0P hb hk hk (ZG b k)
  simp only [beq_self_eq_true, cond_true] at e1 e2
  rw [e1, e2, h] at h2
  have := h2.1; have := h2.2
  simp only at *; omega
theorem Z3f {b : Box} (hb : Bok b) : ∀ k, k ≤ 4 → match Z2S b k with
    | none => ∀ m, ¬ Mx b m
    | some c => Bok c ∧ (∀ m, Mx c m ↔ Mx b m) ∧ (∀ j < 4, bl b j ≤ bl c j ∧ bh c j ≤ bh b j) ∧ ∀ j < k, bl c j ≤ bh c j
  | 0, _ => ⟨hb, fun _ => Iff.rfl, fun _ _ => ⟨Int.le_refl _, Int.le_refl _⟩, fun j hj => by omega⟩
  | k + 1, hk => by
    have ih := Z3f hb k (by omega)
    unfold Z2S
    cases hr : Z2S b k with
    | none => rw [hr] at ih; exact ih
    | some c =>
      rw [hr] at ih
      obtain ⟨h1, h2, h3, h4⟩ := ih
      simp only
      by_cases hs : ZG c k = (1, 0)
      · have : (ZG c k == (1, 0)) = true := by simp [hs]
        rw [this]
        exact fun m hm => Zbz h1.len (by omega) hs ((h2 m).2 hm)
      · have : (ZG c k == (1, 0)) = false := by simpa using hs
        rw [this]
        simp only [cond_false]
        have h5 : ZG c k = (max (bl c k) (40 - oth (bh c) k), min (bh c k) (40 - oth (bl c) k)) ∧ max (bl c k) (40 - oth (bh c) k) ≤ min (bh c k) (40 - oth (bl c) k) := by
          unfold ZG at hs ⊢
          rcases Z2f (l := bl c k) (h := bh c k) (l2 := 40 - oth (bh c) k) (h2 := 40 - oth (bl c) k) with e | e
          · exact absurd e hs
          · exact e
        refine ⟨h1.set (by omega), fun m => (Z7o h1.len (by omega)).trans (h2 m), fun j hj => ?_, fun j hj => ?_⟩
        · obtain ⟨e1, e2⟩ := Z0P h1.len (k := k) (j := j) (by omega) hj (ZG c k)
          rw [e1, e2]
          have h6 := h3 j hj
          by_cases hkj : k = j
          · subst hkj; simp only [beq_self_eq_true, cond_true]; rw [h5.1]; simp only; omega
          · have : (k == j) = false := by simpa using hkj
            rw [this]; exact h6
        · obtain ⟨e1, e2⟩ := Z0P h1.len (k := k) (j := j) (by omega) (by omega) (ZG c k)
          rw [e1, e2]
          by_cases hkj : k = j
          · subst hkj; simp only [beq_self_eq_true, cond_true]; rw [h5.1]; exact h5.2
          · have : (k == j) = false := by simpa using hkj
            rw [this]; exact h4 j (by omega)
theorem Z6w {b c : Box} (hb : b.length = 8) (hc : c.length = 8) (h : ∀ k < 4, bl b k = bl c k ∧ bh b k = bh c k) : b = c := by
  obtain ⟨a0, a1, a2, a3, a4, a5, a6, a7, rfl⟩ := Z42 hb
  obtain ⟨b0, b1, b2, b3, b4, b5, b6, b7, rfl⟩ := Z42 hc
  obtain ⟨h0, h1, h2, h3⟩ := Z4B h
  simp [bl, bh, nn] at h0 h1 h2 h3
  simp [h0, h1, h2, h3]
theorem Z7i {b c : Box} (hb : Bok b) (h : Z2S b 4 = some c) (hne : c ≠ b) : wid c < wid b := by
  have h1 := Z3f hb 4 (by omega)
  rw [h] at h1
  obtain ⟨h2, _, h3, h4⟩ := h1
  have h5 : ¬ (∀ k < 4, bl c k = bl b k ∧ bh c k = bh b k) := fun h5 => hne (Z6w h2.len hb.len h5)
  obtain ⟨a0, a1, a2, a3⟩ := Z4B h3
  obtain ⟨c0, c1, c2, c3⟩ := Z4B h4
  have h6 : ¬ ((bl c 0 = bl b 0 ∧ bh c 0 = bh b 0) ∧ (bl c 1 = bl b 1 ∧ bh c 1 = bh b 1) ∧ (bl c 2 = bl b 2 ∧ bh c 2 = bh b 2) ∧ (bl c 3 = bl b 3 ∧ bh c 3 = bh b 3)) := fun h6 => h5 (of4 h6)
  unfold wid
  omega
theorem Zc9 {b : Box} (hb : Bok b) : wid b ≤ 164 := by
  obtain ⟨a0, a1, a2, a3⟩ := Z4B hb.at_
  unfold wid
  omega
theorem Z5O : ∀ {n : Nat} {b : Box}, Bok b → wid b < n → CloseR b (Z5z n b)
  | 0, b, _, h => by omega
  | n + 1, b, hb, h => by
    have h1 := Z3f hb 4 (by omega)
    unfold Z5z
    cases hr : Z2S b 4 with
    | none => exact .no hr
    | some c =>
      rw [hr] at h1
      simp only
      by_cases hc : c = b
      · subst hc; simp only [decide_true, cond_true]; exact .fix hr
      · simp only [hc, decide_false, cond_false]
        exact .go hr hc (Z5O h1.1 (by have := Z7i hb hr hc; omega))
theorem CloseR.uniq {b : Box} {r r' : Option Box} (h : CloseR b r) (h' : CloseR b r') : r = r' := by
  induction h with
  | no h => cases h' with
    | no _ => rfl
    | fix h2 => rw [h] at h2; cases h2
    | go h2 _ _ => rw [h] at h2; cases h2
  | fix h => cases h' with
    | no h2 => rw [h] at h2; cases h2
    | fix _ => rfl
    | go h2 hc _ => rw [h] at h2; cases h2; exact absurd rfl hc
  | go h hc hr ih => cases h' with
    | no h2 => rw [h] at h2; cases h2
    | fix h2 => rw [h] at h2; cases h2; exact absurd rfl hc
    | go h2 _ hr' => rw [h] at h2; cases h2; exact ih hr'
theorem Zbt {b : Box} (hb : Bok b) : CloseR b (clo b) := by unfold clo; exact Z5O hb (by have := Zc9 hb; omega)
theorem CloseR.clo {b : Box} {r : Option Box} (hb : Bok b) (h : CloseR b r) : clo b = r := (Zbt hb).uniq h
structure Tight (b : Box) : Prop where
  ok : Bok b
  fit : ∀ k < 4, bl b k ≤ bh b k ∧ 40 - oth (bh b) k ≤ bl b k ∧ bh b k ≤ 40 - oth (bl b) k
theorem Zbn {b : Box} (hb : Bok b) (h : Z2S b 4 = some b) : Tight b := by
  have key : ∀ k, k ≤ 4 → ∀ c, Z2S b k = some c → (c = b ∧ ∀ j < k, bl b j ≤ bh b j ∧ 40 - oth (bh b) j ≤ bl b j ∧ bh b j ≤ 40 - oth (bl b) j) ∨ wid c < wid b := by
    intro k
    induction k with
    | zero => intro _ c hc; cases hc; exact .inl ⟨rfl, fun j hj => by omega⟩
    | succ k ih =>
      intro hk d hd
      unfold Z2S at hd
      cases hr : Z2S b k with
      | none => rw [hr] at hd; cases hd
      | some c =>
        rw [hr] at hd
        have h1 := Z3f hb k (by omega)
        rw [hr] at h1
        obtain ⟨hc, _, hle, _⟩ := h1
        simp only at hd
        by_cases hs : ZG c k = (1, 0)
        · have : (ZG c k == (1, 0)) = true := by simp [hs]
          rw [this] at hd; cases hd
        · have : (ZG c k == (1, 0)) = false := by simpa using hs
          rw [this] at hd
          simp only [cond_false, Option.some.injEq] at hd
          have h5 : ZG c k = (max (bl c k) (40 - oth (bh c) k), min (bh c k) (40 - oth (bl c) k)) ∧ max (bl c k) (40 - oth (bh c) k) ≤ min (bh c k) (40 - oth (bl c) k) := by
            unfold ZG at hs ⊢
            rcases Z2f (l := bl c k) (h := bh c k) (l2 := 40 - oth (bh c) k) (h2 := 40 - oth (bl c) k) with e | e
            · exact absurd e hs
            · exact e
          subst hd
          have hat := fun j (hj : j < 4) => Z0P hc.len (k := k) (j := j) (by omega) hj (ZG c k)
          -- no wider than c, and as wide just if the same
          have hmon : wid (Z16 c k (ZG c k)) ≤ wid c ∧ (wid (Z16 c k (ZG c k)) = wid c → 40 - oth (bh c) k ≤ bl c k ∧ bh c k ≤ 40 - oth (bl c) k ∧ bl c k ≤ bh c k) := by
            obtain ⟨x0, x1, x2, x3⟩ := Z4B hat
            obtain ⟨a0, a1, a2, a3⟩ := Z4B hc.at_
            rw [h5.1] at x0 x1 x2 x3
            rcases lt4 (show k < 4 by omega) with rfl | rfl | rfl | rfl <;> simp at x0 x1 x2 x3 <;> rw [h5.1] <;> unfold wid <;> omega
          rcases ih (by omega) c hr with ⟨rfl, h6⟩ | h6
          · rcases Nat.lt_or_ge (wid (Z16 c k (ZG c k))) (wid c) with h7 | h7
            · exact .inr h7
            · have h8 := hmon.2 (by omega)
              refine .inl ⟨Z6w (by rw [Z1B]; exact hc.len) hc.len (fun j hj => ?_), fun j hj => ?_⟩
              · obtain ⟨e1, e2⟩ := hat j hj
                rw [e1, e2]
                by_cases hkj : k = j
                · subst hkj; simp only [beq_self_eq_true, cond_true]; rw [h5.1]; simp only; omega
                · have : (k == j) = false := by simpa using hkj
                  rw [this]; exact ⟨rfl, rfl⟩
              · by_cases hkj : k = j
                · subst hkj; omega
                · exact h6 j (by omega)
          · exact .inr (by omega)
  rcases key 4 (by omega) b h with ⟨_, h1⟩ | h1
  · exact ⟨hb, h1⟩
  · omega
def Zgr (b : Box) : Option Box → Prop
  | none => ∀ m, ¬ Mx b m
  | some c => Tight c ∧ ∀ m, Mx c m ↔ Mx b m
theorem Z5H {b : Box} {r : Option Box} (h : CloseR b r) : Bok b → Zgr b r := by
  induction h with
  | no h => intro hb; have := Z3f hb 4 (by omega); rw [h] at this; exact this
  | fix h => intro hb; exact ⟨Zbn hb h, fun _ => Iff.rfl⟩
  | go h hc hr ih =>
    rename_i b c r
    intro hb
    have h1 := Z3f hb 4 (by omega)
    rw [h] at h1
    obtain ⟨h2, h3, _⟩ := h1
    have h4 := ih h2
    cases r with
    | none => exact fun m hm => h4 m ((h3 m).2 hm)
    | some d => exact ⟨h4.1, fun m => (h4.2 m).trans (h3 m)⟩
theorem Z3Y {b : Box} (hb : Bok b) (h : clo b = none) : ∀ m, ¬ Mx b m := by
  have := Z5H (Zbt hb) hb
  rw [h] at this; exact this
theorem Z1A {b c : Box} (hb : Bok b) (h : clo b = some c) : Tight c ∧ ∀ m, Mx c m ↔ Mx b m := by
  have := Z5H (Zbt hb) hb
  rw [h] at this; exact this
theorem Z8Q {l1 h1 l2 h2 l3 h3 t : Int} (a : l1 ≤ h1) (b : l2 ≤ h2) (c : l3 ≤ h3) (hl : l1 + l2 + l3 ≤ t) (hh : t ≤ h1 + h2 + h3) : ∃ x y z, (l1 ≤ x ∧ x ≤ h1) ∧ (l2 ≤ y ∧ y ≤ h2) ∧ (l3 ≤ z ∧ z ≤ h3) ∧ x + y + z = t :=
  ⟨min h1 (t - l2 - l3), min h2 (t - min h1 (t - l2 - l3) - l3), t - min h1 (t - l2 - l3) - min h2 (t - min h1 (t - l2 - l3) - l3), by omega, by omega, by omega, by omega⟩
theorem Tight.had {b : Box} (h : Tight b) {k : Nat} (hk : k < 4) {v : Int} (hv : bl b k ≤ v ∧ v ≤ bh b k) : ∃ m, Mx b m ∧ nn m k = v := by
  have h1 := h.fit k hk
  obtain ⟨⟨a0, _⟩, ⟨a1, _⟩, ⟨a2, _⟩, ⟨a3, _⟩⟩ := Z4B h.fit
  rcases lt4 hk with rfl | rfl | rfl | rfl <;> simp [oth] at h1
  · obtain ⟨x, y, z, h2, h3, h4, h5⟩ := Z8Q a1 a2 a3 (t := 40 - v) (by omega) (by omega)
    exact ⟨[v, x, y, z], ⟨rfl, by simp [Z1w, nn]; omega, of4 ⟨hv, h2, h3, h4⟩⟩, rfl⟩
  · obtain ⟨x, y, z, h2, h3, h4, h5⟩ := Z8Q a0 a2 a3 (t := 40 - v) (by omega) (by omega)
    exact ⟨[x, v, y, z], ⟨rfl, by simp [Z1w, nn]; omega, of4 ⟨h2, hv, h3, h4⟩⟩, rfl⟩
  · obtain ⟨x, y, z, h2, h3, h4, h5⟩ := Z8Q a0 a1 a3 (t := 40 - v) (by omega) (by omega)
    exact ⟨[x, y, v, z], ⟨rfl, by simp [Z1w, nn]; omega, of4 ⟨h2, h3, hv, h4⟩⟩, rfl⟩
  · obtain ⟨x, y, z, h2, h3, h4, h5⟩ := Z8Q a0 a1 a2 (t := 40 - v) (by omega) (by omega)
    exact ⟨[x, y, z, v], ⟨rfl, by simp [Z1w, nn]; omega, of4 ⟨h2, h3, h4, hv⟩⟩, rfl⟩
def ZbR (b : Box) (m : Mix) (k : Nat) : Mix := m.set k (nn m k + min (bh b k - bl b k) (40 - Z1w m))
def Zgk (b : Box) : Nat → Mix
  | 0 => [bl b 0, bl b 1, bl b 2, bl b 3]
  | k + 1 => ZbR b (Zgk b k) k
def Zds (b : Box) : Mix := Zgk b 4
theorem Z85 {b : Box} (h : Tight b) : Mx b (Zds b) := by
  obtain ⟨a0, a1, a2, a3⟩ := Z4B h.fit
  simp [oth] at a0 a1 a2 a3
  have e : Zds b = ZbR b (ZbR b (ZbR b (ZbR b [bl b 0, bl b 1, bl b 2, bl b 3] 0) 1) 2) 3 := rfl
  rw [e]
  simp only [ZbR, List.set, nn, Z1w, List.getD_cons_zero, List.getD_cons_succ]
  refine ⟨rfl, ?_, of4 ⟨?_, ?_, ?_, ?_⟩⟩ <;> simp only [Z1w, nn, List.getD_cons_zero, List.getD_cons_succ] <;> simp only [bl, bh, nn] at * <;> omega
structure Grd where
  corn : Int
  chaff : Int
  stones : Int
  damp : Int
  price : Int
  deriving DecidableEq, Repr
structure Hnd where
  spot : Int
  a : Int
  b : Int
  c : Int
  d : Int
  deriving DecidableEq, Repr
structure Crt where
  full : Int
  empty : Int
  hs : List Hnd
  deriving DecidableEq, Repr
structure Gat where
  err : Int
  miss : Int
  grs : List Grd
  deriving DecidableEq, Repr
@[reducible] def inb (n lo hi : Int) : Bool := decide (lo ≤ n) && decide (n ≤ hi)
def Grd.ns (x : Grd) : List Int := [x.corn, x.chaff, x.stones, x.damp]
def Hnd.gs (h : Hnd) : List Int := [h.a, h.b, h.c, h.d]
def Hnd.tot (h : Hnd) : Int := Z1w h.gs
def Z0o (l : List Grd) (i : Nat) : Bool := match l[i]?, l[i + 1]? with
  | some a, some b => decide (a.price < b.price)
  | _, _ => false
def Grd.fine (x : Grd) : Bool := inb x.price 0 100 && x.ns.all fun n => inb n 0 40
def Gat.check (g : Gat) : Int := bif decide (4 < g.grs.length) then 2 else bif !(inb g.err 0 50) || !(inb g.miss 0 20) then 3 else bif !(g.grs.all Grd.fine) then 3 else bif (List.range g.grs.length).any (Z0o g.grs) then 4 else 0
def Hnd.fine (h : Hnd) : Bool := inb h.spot 0 2 && h.gs.all fun n => inb n 0 200
def Crt.check (c : Crt) : Int := bif decide (6 < c.hs.length) then 2 else bif !(inb c.full 0 10000) || !(inb c.empty 0 10000) then 3 else bif !(c.hs.all Hnd.fine) then 3 else bif !(c.hs.all fun h => inb h.tot 10 200) then 8 else 0
def Z0w (g : Gat) (c : Crt) : Int := bif decide (g.check ≠ 0) then g.check else c.check
structure Hnd.ok (h : Hnd) : Prop where
  spot : 0 ≤ h.spot ∧ h.spot ≤ 2
  at_ : ∀ k < 4, 0 ≤ nn h.gs k ∧ nn h.gs k ≤ 200
  tot : 10 ≤ h.tot ∧ h.tot ≤ 200
structure Gat.ok (g : Gat) : Prop where
  many : g.grs.length ≤ 4
  err : 0 ≤ g.err ∧ g.err ≤ 50
  miss : 0 ≤ g.miss ∧ g.miss ≤ 20
  grs : ∀ x ∈ g.grs, (0 ≤ x.price ∧ x.price ≤ 100) ∧ ∀ k < 4, 0 ≤ nn x.ns k ∧ nn x.ns k ≤ 40
  ord : ∀ i, Z0o g.grs i = false
structure Crt.ok (c : Crt) : Prop where
  many : c.hs.length ≤ 6
  full : 0 ≤ c.full ∧ c.full ≤ 10000
  empty : 0 ≤ c.empty ∧ c.empty ≤ 10000
  hs : ∀ h ∈ c.hs, h.ok
theorem gat_ok {g : Gat} : g.check = 0 ↔ g.ok := by
  constructor
  · intro h
    unfold Gat.check at h
    cases h1 : decide (4 < g.grs.length) <;> rw [h1] at h
    case true => cases h
    cases h2 : !(inb g.err 0 50) || !(inb g.miss 0 20) <;> rw [h2] at h
    case true => cases h
    cases h3 : g.grs.all Grd.fine <;> rw [h3] at h
    case false => cases h
    cases h4 : (List.range g.grs.length).any (Z0o g.grs) <;> rw [h4] at h
    case true => cases h
    simp only [decide_eq_false_iff_not] at h1
    simp only [inb, Bool.or_eq_false_iff, Bool.not_eq_false', Bool.and_eq_true, decide_eq_true_eq] at h2
    refine ⟨by omega, h2.1, h2.2, fun x hx => ?_, fun i => ?_⟩
    · have := List.all_eq_true.1 h3 x hx
      simp only [Grd.fine, Grd.ns, inb, List.all_cons, List.all_nil, Bool.and_true, Bool.and_eq_true, decide_eq_true_eq] at this
      exact ⟨this.1, of4 ⟨this.2.1, this.2.2.1, this.2.2.2.1, this.2.2.2.2⟩⟩
    · rcases Nat.lt_or_ge i g.grs.length with hi | hi
      · have := List.any_eq_false.1 h4 i (List.mem_range.2 hi)
        simpa using this
      · simp [Z0o, List.getElem?_eq_none hi]
  · intro h
    unfold Gat.check
    have e1 := h.many
    have e2 : (!(inb g.err 0 50) || !(inb g.miss 0 20)) = false := by
      have := h.err; have := h.miss
      simp only [inb, Bool.or_eq_false_iff, Bool.not_eq_false', Bool.and_eq_true, decide_eq_true_eq]; omega
    have e3 : g.grs.all Grd.fine = true := List.all_eq_true.2 fun x hx => by
      obtain ⟨a, b⟩ := h.grs x hx
      obtain ⟨b0, b1, b2, b3⟩ := Z4B b
      simp only [nn, Grd.ns, List.getD_cons_zero, List.getD_cons_succ] at b0 b1 b2 b3
      simp only [Grd.fine, Grd.ns, inb, List.all_cons, List.all_nil, Bool.and_true, Bool.and_eq_true, decide_eq_true_eq]
      exact ⟨a, b0, b1, b2, b3⟩
    have e4 : (List.range g.grs.length).any (Z0o g.grs) = false := List.any_eq_false.2 fun i _ => by rw [h.ord i]; simp
    rw [decide_eq_false (by omega), e2, e3, e4]; rfl
theorem hnd_ok {h : Hnd} : (h.fine = true ∧ inb h.tot 10 200 = true) ↔ h.ok := by
  simp only [Hnd.fine, inb, Bool.and_eq_true, decide_eq_true_eq, Hnd.gs, List.all_cons, List.all_nil, Bool.and_true]
  constructor
  · rintro ⟨⟨a, b0, b1, b2, b3⟩, c⟩
    exact ⟨a, of4 ⟨b0, b1, b2, b3⟩, c⟩
  · rintro ⟨a, b, c⟩
    obtain ⟨b0, b1, b2, b3⟩ := Z4B b
    exact ⟨⟨a, b0, b1, b2, b3⟩, c⟩
theorem crt_ok {c : Crt} : c.check = 0 ↔ c.ok := by
  constructor
  · intro h
    unfold Crt.check at h
    cases h1 : decide (6 < c.hs.length) <;> rw [h1] at h
    case true => cases h
    cases h2 : !(inb c.full 0 10000) || !(inb c.empty 0 10000) <;> rw [h2] at h
    case true => cases h
    cases h3 : c.hs.all Hnd.fine <;> rw [h3] at h
    case false => cases h
    cases h4 : c.hs.all fun h => inb h.tot 10 200 <;> rw [h4] at h
    case false => cases h
    simp only [decide_eq_false_iff_not] at h1
    simp only [inb, Bool.or_eq_false_iff, Bool.not_eq_false', Bool.and_eq_true, decide_eq_true_eq] at h2
    exact ⟨by omega, h2.1, h2.2, fun x hx => hnd_ok.1 ⟨List.all_eq_true.1 h3 x hx, List.all_eq_true.1 h4 x hx⟩⟩
  · intro h
    unfold Crt.check
    have e1 := h.many
    have e2 : (!(inb c.full 0 10000) || !(inb c.empty 0 10000)) = false := by
      have := h.full; have := h.empty
      simp only [inb, Bool.or_eq_false_iff, Bool.not_eq_false', Bool.and_eq_true, decide_eq_true_eq]; omega
    have e3 : c.hs.all Hnd.fine = true := List.all_eq_true.2 fun x hx => (hnd_ok.2 (h.hs x hx)).1
    have e4 : (c.hs.all fun h => inb h.tot 10 200) = true := List.all_eq_true.2 fun x hx => (hnd_ok.2 (h.hs x hx)).2
    rw [decide_eq_false (by omega), e2, e3, e4]; rfl
def Z9u (miss : Int) (h : Hnd) (k : Nat) : Int × Int := (max 0 ((40 * (nn h.gs k - miss) + h.tot - 1).tdiv h.tot), min 40 ((40 * (nn h.gs k + miss)).tdiv h.tot))
def ZbI (miss : Int) (h : Hnd) (k : Nat) (x : Int) : Bool := decide (x * h.tot - 40 * nn h.gs k ≤ 40 * miss) && decide (-(x * h.tot - 40 * nn h.gs k) ≤ 40 * miss)
theorem Z7p {miss : Int} {h : Hnd} (hm : 0 ≤ miss) (hh : h.ok) {k : Nat} (hk : k < 4) {x : Int} (hx : 0 ≤ x ∧ x ≤ 40) : ((Z9u miss h k).1 ≤ x ∧ x ≤ (Z9u miss h k).2) ↔ ZbI miss h k x = true := by
  have ht := hh.tot
  have hg := hh.at_ k hk
  generalize hn : h.tot = n at *
  generalize hgr : nn h.gs k = y at *
  simp only [Z9u, ZbI, hn, hgr, Bool.and_eq_true, decide_eq_true_eq]
  have e2 : (40 * (y + miss)).tdiv n = (40 * (y + miss)) / n := Int.tdiv_eq_ediv_of_nonneg (by omega)
  have h2 : x ≤ (40 * (y + miss)) / n ↔ x * n ≤ 40 * (y + miss) := Int.le_ediv_iff_mul_le (by omega)
  have h1 : (40 * (y - miss) + n - 1).tdiv n ≤ x ↔ 40 * (y - miss) ≤ x * n := by
    by_cases h0 : 0 ≤ 40 * (y - miss) + n - 1
    · rw [Int.tdiv_eq_ediv_of_nonneg h0]
      have h3 : (40 * (y - miss) + n - 1) / n < x + 1 ↔ 40 * (y - miss) + n - 1 < (x + 1) * n := Int.ediv_lt_iff_lt_mul (by omega)
      rw [Int.add_mul, Int.one_mul] at h3
      omega
    · have h3 : (40 * (y - miss) + n - 1).tdiv n ≤ 0 := by
        have h4 : (40 * (y - miss) + n - 1).tdiv n = -((-(40 * (y - miss) + n - 1)).tdiv n) := by rw [Int.neg_tdiv]; omega
        have h5 : 0 ≤ (-(40 * (y - miss) + n - 1)).tdiv n := Int.tdiv_nonneg (by omega) (by omega)
        omega
      have h6 : 0 ≤ x * n := Int.mul_nonneg hx.1 (by omega)
      omega
  rw [e2]
  omega
def Z5U (miss : Int) (h : Hnd) (m : Mix) : Bool := (List.range 4).all fun k => ZbI miss h k (nn m k)
def ZR (miss : Int) (hs : List Hnd) (f : Nat → Bool) (k : Nat) : Nat → Int × Int
  | 0 => (0, 40)
  | n + 1 => match hs[n]? with
    | some h => bif f n then met (ZR miss hs f k n).1 (ZR miss hs f k n).2 (Z9u miss h k).1 (Z9u miss h k).2 else ZR miss hs f k n
    | none => ZR miss hs f k n
def Z2c (miss : Int) (hs : List Hnd) (f : Nat → Bool) (k : Nat) : Int × Int := ZR miss hs f k hs.length
def Z3d (miss : Int) (hs : List Hnd) (f : Nat → Bool) : Box := [(Z2c miss hs f 0).1, (Z2c miss hs f 0).2, (Z2c miss hs f 1).1, (Z2c miss hs f 1).2, (Z2c miss hs f 2).1, (Z2c miss hs f 2).2, (Z2c miss hs f 3).1, (Z2c miss hs f 3).2]
theorem Z8e (miss : Int) (hs : List Hnd) (f : Nat → Bool) {k : Nat} (hk : k < 4) : bl (Z3d miss hs f) k = (Z2c miss hs f k).1 ∧ bh (Z3d miss hs f) k = (Z2c miss hs f k).2 := by
  rcases lt4 hk with rfl | rfl | rfl | rfl <;> exact ⟨rfl, rfl⟩
theorem Z5m {miss : Int} (hs : List Hnd) (f : Nat → Bool) (k : Nat) : ∀ n, ((ZR miss hs f k n).1 = 1 ∧ (ZR miss hs f k n).2 = 0) ∨ (0 ≤ (ZR miss hs f k n).1 ∧ (ZR miss hs f k n).1 ≤ (ZR miss hs f k n).2 ∧ (ZR miss hs f k n).2 ≤ 40)
  | 0 => .inr (by simp [ZR])
  | n + 1 => by
    have ih := Z5m (miss := miss) hs f k n
    unfold ZR
    cases hs[n]? with
    | none => exact ih
    | some h => cases f n with
      | false => exact ih
      | true => exact Z9E ih
theorem Z3X (miss : Int) (hs : List Hnd) (f : Nat → Bool) : Bok (Z3d miss hs f) := ⟨rfl, fun k hk => by
  obtain ⟨e1, e2⟩ := Z8e miss hs f hk
  rw [e1, e2]; exact Z5m hs f k _⟩
theorem Z4G {miss : Int} (hm : 0 ≤ miss) {hs : List Hnd} (hh : ∀ h ∈ hs, h.ok) (f : Nat → Bool) {k : Nat} (hk : k < 4) (x : Int) : ∀ n, ((ZR miss hs f k n).1 ≤ x ∧ x ≤ (ZR miss hs f k n).2) ↔ ((0 ≤ x ∧ x ≤ 40) ∧ ∀ i h, i < n → hs[i]? = some h → f i = true → ZbI miss h k x = true)
  | 0 => by simp [ZR]
  | n + 1 => by
    have ih := Z4G hm hh f hk x n
    unfold ZR
    cases hn : hs[n]? with
    | none =>
      simp only
      rw [ih]
      exact ⟨fun ⟨a, b⟩ => ⟨a, fun i h hi hg hf => by
        rcases Nat.lt_or_ge i n with h1 | h1
        · exact b i h h1 hg hf
        · obtain rfl : i = n := by omega
          rw [hn] at hg; cases hg⟩, fun ⟨a, b⟩ => ⟨a, fun i h hi => b i h (by omega)⟩⟩
    | some y =>
      simp only
      cases hf : f n with
      | false =>
        simp only [cond_false]
        rw [ih]
        exact ⟨fun ⟨a, b⟩ => ⟨a, fun i h hi hg hff => by
          rcases Nat.lt_or_ge i n with h1 | h1
          · exact b i h h1 hg hff
          · obtain rfl : i = n := by omega
            rw [hf] at hff; cases hff⟩, fun ⟨a, b⟩ => ⟨a, fun i h hi => b i h (by omega)⟩⟩
      | true =>
        simp only [cond_true]
        rw [met_iff, ih]
        constructor
        · rintro ⟨⟨a, b⟩, c⟩
          refine ⟨a, fun i h hi hg hff => ?_⟩
          rcases Nat.lt_or_ge i n with h1 | h1
          · exact b i h h1 hg hff
          · obtain rfl : i = n := by omega
            rw [hn] at hg; cases hg
            exact (Z7p hm (hh y (List.mem_of_getElem? hn)) hk a).1 c
        · rintro ⟨a, b⟩
          exact ⟨⟨a, fun i h hi => b i h (by omega)⟩, (Z7p hm (hh y (List.mem_of_getElem? hn)) hk a).2 (b n y (by omega) hn hf)⟩
structure Mxt (m : Mix) : Prop where
  len : m.length = 4
  sum : Z1w m = 40
  at_ : ∀ k < 4, 0 ≤ nn m k ∧ nn m k ≤ 40
theorem ZaH {miss : Int} (hm : 0 ≤ miss) {hs : List Hnd} (hh : ∀ h ∈ hs, h.ok) (f : Nat → Bool) (m : Mix) : Mx (Z3d miss hs f) m ↔ (Mxt m ∧ ∀ i h, hs[i]? = some h → f i = true → Z5U miss h m = true) := by
  have key : ∀ k < 4, (bl (Z3d miss hs f) k ≤ nn m k ∧ nn m k ≤ bh (Z3d miss hs f) k) ↔ ((0 ≤ nn m k ∧ nn m k ≤ 40) ∧ ∀ i h, hs[i]? = some h → f i = true → ZbI miss h k (nn m k) = true) := fun k hk => by
    obtain ⟨e1, e2⟩ := Z8e miss hs f hk
    rw [e1, e2]
    unfold Z2c
    rw [Z4G hm hh f hk]
    exact ⟨fun ⟨a, b⟩ => ⟨a, fun i h hg hf => b i h (List.getElem?_eq_some_iff.1 hg).1 hg hf⟩, fun ⟨a, b⟩ => ⟨a, fun i h _ => b i h⟩⟩
  constructor
  · rintro ⟨h1, h2, h3⟩
    refine ⟨⟨h1, h2, fun k hk => ((key k hk).1 (h3 k hk)).1⟩, fun i h hg hf => ?_⟩
    unfold Z5U
    rw [List.all_eq_true]
    intro k hk
    exact ((key k (List.mem_range.1 hk)).1 (h3 k (List.mem_range.1 hk))).2 i h hg hf
  · rintro ⟨⟨h1, h2, h3⟩, h4⟩
    refine ⟨h1, h2, fun k hk => (key k hk).2 ⟨h3 k hk, fun i h hg hf => ?_⟩⟩
    have := h4 i h hg hf
    unfold Z5U at this
    exact List.all_eq_true.1 this k (List.mem_range.2 hk)
def Grd.lo (x : Grd) (k : Nat) : Int := bif k == 0 then x.corn else 0
def Grd.hi (x : Grd) (k : Nat) : Int := bif k == 0 then 40 else nn x.ns k
def Grd.kept (x : Grd) (m : Mix) : Bool := (List.range 4).all fun k => inb (nn m k) (x.lo k) (x.hi k)
def Z6f (b : Box) (x : Grd) : Nat → Box
  | 0 => b
  | k + 1 => Z16 (Z6f b x k) k (met (bl (Z6f b x k) k) (bh (Z6f b x k) k) (x.lo k) (x.hi k))
def Z8B (b : Box) (x : Grd) : Box := Z6f b x 4
def Z0E (x : Grd) (k : Nat) : Int × Int := bif k == 0 then (0, x.corn - 1) else (nn x.ns k + 1, 40)
def Z4E (b : Box) (x : Grd) (k : Nat) : Box := Z16 b k (met (bl b k) (bh b k) (Z0E x k).1 (Z0E x k).2)
def Z68 : List Grd → Box → Option Box
  | [], b => clo b
  | x :: l, b => match clo b with
    | none => none
    | some c => (((Z68 l (Z4E c x 0)).or (Z68 l (Z4E c x 1))).or (Z68 l (Z4E c x 2))).or (Z68 l (Z4E c x 3))
theorem Z5n {b : Box} (hb : Bok b) (x : Grd) : ∀ k, k ≤ 4 → Bok (Z6f b x k) ∧ ∀ m, Mx (Z6f b x k) m ↔ (Mx b m ∧ ∀ j < k, x.lo j ≤ nn m j ∧ nn m j ≤ x.hi j)
  | 0, _ => ⟨hb, fun m => ⟨fun h => ⟨h, fun j hj => by omega⟩, fun h => h.1⟩⟩
  | k + 1, hk => by
    obtain ⟨h1, h2⟩ := Z5n hb x k (by omega)
    refine ⟨h1.set (by omega), fun m => ?_⟩
    show Mx (Z16 _ _ _) m ↔ _
    rw [Mx.set h1.len (by omega), h2]
    constructor
    · rintro ⟨⟨a, b⟩, c⟩
      refine ⟨a, fun j hj => ?_⟩
      rcases Nat.lt_or_ge j k with h3 | h3
      · exact b j h3
      · obtain rfl : j = k := by omega
        exact c
    · rintro ⟨a, b⟩
      exact ⟨⟨a, fun j hj => b j (by omega)⟩, b k (by omega)⟩
theorem Z5M {x : Grd} {m : Mix} : x.kept m = true ↔ ∀ k < 4, x.lo k ≤ nn m k ∧ nn m k ≤ x.hi k := by
  unfold Grd.kept
  rw [List.all_eq_true]
  simp only [List.mem_range, inb, Bool.and_eq_true, decide_eq_true_eq]
theorem Z8N {b : Box} (hb : Bok b) (x : Grd) : Bok (Z8B b x) ∧ ∀ m, Mx (Z8B b x) m ↔ (Mx b m ∧ x.kept m = true) := by
  obtain ⟨h1, h2⟩ := Z5n hb x 4 (by omega)
  exact ⟨h1, fun m => by rw [Z5M]; exact h2 m⟩
theorem Z9j {b : Box} (hb : Bok b) (x : Grd) {k : Nat} (hk : k < 4) : Bok (Z4E b x k) ∧ ∀ m, Mx (Z4E b x k) m ↔ (Mx b m ∧ (Z0E x k).1 ≤ nn m k ∧ nn m k ≤ (Z0E x k).2) := ⟨hb.set hk, fun _ => Mx.set hb.len hk⟩
theorem Mx.bd {b : Box} (hb : Bok b) {m : Mix} (h : Mx b m) : Mxt m := ⟨h.len, h.sum, fun k hk => by
  have h1 := h.at_ k hk
  have h2 := hb.at_ k hk
  omega⟩
theorem Z4J {x : Grd} {m : Mix} (hm : Mxt m) : (∃ k < 4, (Z0E x k).1 ≤ nn m k ∧ nn m k ≤ (Z0E x k).2) ↔ x.kept m = false := by
  rw [← Bool.not_eq_true, Z5M]
  obtain ⟨a0, a1, a2, a3⟩ := Z4B hm.at_
  constructor
  · rintro ⟨k, hk, h⟩ h2
    have h3 := h2 k hk
    rcases lt4 hk with rfl | rfl | rfl | rfl <;> simp [Z0E, Grd.lo, Grd.hi] at h h3 <;> omega
  · intro h
    false_or_by_contra
    rename_i h2
    refine h (of4 ⟨?_, ?_, ?_, ?_⟩)
    · have : ¬ ((Z0E x 0).1 ≤ nn m 0 ∧ nn m 0 ≤ (Z0E x 0).2) := fun h3 => h2 ⟨0, by omega, h3⟩
      simp [Z0E, Grd.lo, Grd.hi] at this ⊢; omega
    · have : ¬ ((Z0E x 1).1 ≤ nn m 1 ∧ nn m 1 ≤ (Z0E x 1).2) := fun h3 => h2 ⟨1, by omega, h3⟩
      simp [Z0E, Grd.lo, Grd.hi] at this ⊢; omega
    · have : ¬ ((Z0E x 2).1 ≤ nn m 2 ∧ nn m 2 ≤ (Z0E x 2).2) := fun h3 => h2 ⟨2, by omega, h3⟩
      simp [Z0E, Grd.lo, Grd.hi] at this ⊢; omega
    · have : ¬ ((Z0E x 3).1 ≤ nn m 3 ∧ nn m 3 ≤ (Z0E x 3).2) := fun h3 => h2 ⟨3, by omega, h3⟩
      simp [Z0E, Grd.lo, Grd.hi] at this ⊢; omega
theorem Z52 : ∀ (l : List Grd) {b : Box}, Bok b → (∀ c, Z68 l b = some c → Tight c ∧ ∀ m, Mx c m → Mx b m ∧ ∀ x ∈ l, x.kept m = false) ∧ (Z68 l b = none → ∀ m, Mx b m → ∃ x ∈ l, x.kept m = true)
  | [], b, hb => ⟨fun c hc => ⟨(Z1A hb hc).1, fun m hm => ⟨((Z1A hb hc).2 m).1 hm, fun x hx => by cases hx⟩⟩, fun h m hm => absurd hm (Z3Y hb h m)⟩
  | x :: l, b, hb => by
    unfold Z68
    cases hc : clo b with
    | none => exact ⟨(fun c h => by cases h), fun _ m hm => absurd hm (Z3Y hb hc m)⟩
    | some c =>
      obtain ⟨ht, hm⟩ := Z1A hb hc
      have hk := fun k (hk : k < 4) => Z9j ht.ok x hk
      have ih := fun k (h4 : k < 4) => Z52 l (hk k h4).1
      simp only
      constructor
      · intro d hd
        have : ∃ k, k < 4 ∧ Z68 l (Z4E c x k) = some d := by
          simp only [Option.or_eq_some_iff] at hd
          rcases hd with ((h | ⟨_, h⟩) | ⟨_, h⟩) | ⟨_, h⟩
          · exact ⟨0, by omega, h⟩
          · exact ⟨1, by omega, h⟩
          · exact ⟨2, by omega, h⟩
          · exact ⟨3, by omega, h⟩
        obtain ⟨k, h4, h⟩ := this
        obtain ⟨h5, h6⟩ := (ih k h4).1 d h
        refine ⟨h5, fun m hmd => ?_⟩
        obtain ⟨h7, h8⟩ := h6 m hmd
        obtain ⟨h9, h10⟩ := ((hk k h4).2 m).1 h7
        refine ⟨(hm m).1 h9, fun y hy => ?_⟩
        rcases List.mem_cons.1 hy with rfl | hy
        · exact (Z4J (h9.bd ht.ok)).1 ⟨k, h4, h10⟩
        · exact h8 y hy
      · intro hn m hmb
        have hmc := (hm m).2 hmb
        simp only [Option.or_eq_none_iff] at hn
        obtain ⟨⟨⟨n0, n1⟩, n2⟩, n3⟩ := hn
        have hn : ∀ k < 4, Z68 l (Z4E c x k) = none := of4 ⟨n0, n1, n2, n3⟩
        cases hx : x.kept m with
        | true => exact ⟨x, by simp, hx⟩
        | false =>
          obtain ⟨k, h4, h5⟩ := (Z4J (hmc.bd ht.ok)).2 hx
          obtain ⟨y, hy, hy2⟩ := (ih k h4).2 (hn k h4) m (((hk k h4).2 m).2 ⟨hmc, h5⟩)
          exact ⟨y, by simp [hy], hy2⟩
def Z8b (l : List Grd) (m : Mix) : Int := match l.findIdx? fun x => x.kept m with
  | some i => i
  | none => -1
def Z4L (l : List Grd) (b : Box) (gr : Int) : Option Box := bif decide (gr = -1) then Z68 l b else match l[gr.toNat]? with
  | some x => Z68 (l.take gr.toNat) (Z8B b x)
  | none => none
def Zbv (l : List Grd) (b : Box) : List Int := (((List.range l.length).filter fun (i : Nat) => (Z4L l b (i : Nat)).isSome).map fun (i : Nat) => (i : Int)) ++ bif (Z4L l b (-1)).isSome then [-1] else []
theorem hasG_none {l : List Grd} {m : Mix} : Z8b l m = -1 ↔ ∀ x ∈ l, x.kept m = false := by
  unfold Z8b
  cases h : l.findIdx? fun x => x.kept m with
  | none => simpa using h
  | some i =>
    obtain ⟨hi, h1, _⟩ := List.findIdx?_eq_some_iff_getElem.1 h
    constructor
    · intro h2; simp only at h2; omega
    · intro h2; rw [h2 _ (List.getElem_mem hi)] at h1; cases h1
theorem Z75 {l : List Grd} {m : Mix} {i : Nat} {x : Grd} (hx : l[i]? = some x) : Z8b l m = i ↔ (x.kept m = true ∧ ∀ y ∈ l.take i, y.kept m = false) := by
  have hi := (List.getElem?_eq_some_iff.1 hx).1
  unfold Z8b
  cases h : l.findIdx? fun x => x.kept m with
  | none =>
    have h1 := List.findIdx?_eq_none_iff.1 h
    constructor
    · intro h2; simp only at h2; omega
    · rintro ⟨h2, _⟩; rw [h1 x (List.mem_of_getElem? hx)] at h2; cases h2
  | some j =>
    obtain ⟨hj, h1, h2⟩ := List.findIdx?_eq_some_iff_getElem.1 h
    have hxe : l[i] = x := by rw [List.getElem?_eq_getElem hi] at hx; exact Option.some.inj hx
    constructor
    · intro h3
      obtain rfl : j = i := by simp only at h3; omega
      refine ⟨by rw [← hxe]; exact h1, fun y hy => ?_⟩
      obtain ⟨k, hk, rfl⟩ := List.getElem_of_mem hy
      rw [List.length_take] at hk
      rw [List.getElem_take]
      simpa using h2 k (by omega)
    · rintro ⟨h3, h4⟩
      show (j : Int) = i
      rcases Nat.lt_trichotomy i j with h5 | h5 | h5
      · have := h2 i h5
        rw [hxe, h3] at this; simp at this
      · omega
      · have := h4 (l[j]) (by rw [List.mem_take_iff_getElem]; exact ⟨j, by omega, rfl⟩)
        rw [this] at h1; cases h1
theorem Z87 (l : List Grd) (m : Mix) : Z8b l m = -1 ∨ ∃ i x, l[i]? = some x ∧ Z8b l m = (i : Nat) := by
  unfold Z8b
  cases h : l.findIdx? fun x => x.kept m with
  | none => exact .inl rfl
  | some i =>
    obtain ⟨hi, _⟩ := List.findIdx?_eq_some_iff_getElem.1 h
    exact .inr ⟨i, l[i], List.getElem?_eq_getElem hi, rfl⟩
theorem Ze4 {l : List Grd} {b : Box} (hb : Bok b) {gr : Int} (hg : gr = -1 ∨ ∃ i x, l[i]? = some x ∧ gr = (i : Nat)) : (∀ c, Z4L l b gr = some c → Mx b (Zds c) ∧ Z8b l (Zds c) = gr ∧ Tight c) ∧ (Z4L l b gr = none → ∀ m, Mx b m → Z8b l m ≠ gr) := by
  rcases hg with rfl | ⟨i, x, hx, rfl⟩
  · have h := Z52 l hb
    have e : Z4L l b (-1) = Z68 l b := rfl
    rw [e]
    refine ⟨fun c hc => ?_, fun hn m hm => ?_⟩
    · obtain ⟨h1, h2⟩ := h.1 c hc
      obtain ⟨h3, h4⟩ := h2 _ (Z85 h1)
      exact ⟨h3, hasG_none.2 h4, h1⟩
    · obtain ⟨x, hx, hk⟩ := h.2 hn m hm
      intro h2
      rw [hasG_none.1 h2 x hx] at hk; cases hk
  · have e : Z4L l b ((i : Nat) : Int) = Z68 (l.take i) (Z8B b x) := by
      unfold Z4L
      rw [decide_eq_false (by omega), Int.toNat_natCast, hx]; rfl
    obtain ⟨k1, k2⟩ := Z8N hb x
    have h := Z52 (l.take i) k1
    rw [e]
    refine ⟨fun c hc => ?_, fun hn m hm => ?_⟩
    · obtain ⟨h1, h2⟩ := h.1 c hc
      obtain ⟨h3, h4⟩ := h2 _ (Z85 h1)
      obtain ⟨h5, h6⟩ := (k2 _).1 h3
      exact ⟨h5, (Z75 hx).2 ⟨h6, h4⟩, h1⟩
    · intro h2
      obtain ⟨h3, h4⟩ := (Z75 hx).1 h2
      obtain ⟨y, hy, hk⟩ := h.2 hn m ((k2 m).2 ⟨hm, h3⟩)
      rw [h4 y hy] at hk; cases hk
theorem Z6J {l : List Grd} {b : Box} (hb : Bok b) {gr : Int} : gr ∈ Zbv l b ↔ ∃ m, Mx b m ∧ Z8b l m = gr := by
  have key : ∀ gr : Int, (gr = -1 ∨ ∃ i x, l[i]? = some x ∧ gr = (i : Nat)) → ((Z4L l b gr).isSome = true ↔ ∃ m, Mx b m ∧ Z8b l m = gr) := fun gr hg => by
    obtain ⟨h1, h2⟩ := Ze4 hb hg
    cases h : Z4L l b gr with
    | none => exact ⟨fun h3 => by simp at h3, fun ⟨m, hm, hh⟩ => absurd hh (h2 h m hm)⟩
    | some c => obtain ⟨h3, h4, _⟩ := h1 c h; exact ⟨fun _ => ⟨_, h3, h4⟩, fun _ => rfl⟩
  have hmem : gr ∈ Zbv l b ↔ (gr = -1 ∨ ∃ i x, l[i]? = some x ∧ gr = (i : Nat)) ∧ (Z4L l b gr).isSome = true := by
    unfold Zbv
    rw [List.mem_append, List.mem_map]
    constructor
    · rintro (⟨i, hi, rfl⟩ | h)
      · obtain ⟨h1, h2⟩ := List.mem_filter.1 hi
        exact ⟨.inr ⟨i, l[i]'(List.mem_range.1 h1), List.getElem?_eq_getElem _, rfl⟩, h2⟩
      · cases hs : (Z4L l b (-1)).isSome with
        | false => rw [hs] at h; simp at h
        | true => rw [hs] at h; simp at h; subst h; exact ⟨.inl rfl, hs⟩
    · rintro ⟨rfl | ⟨i, x, hx, rfl⟩, h⟩
      · right; rw [h]; simp
      · left; exact ⟨i, List.mem_filter.2 ⟨List.mem_range.2 (List.getElem?_eq_some_iff.1 hx).1, h⟩, rfl⟩
  rw [hmem]
  constructor
  · rintro ⟨h1, h2⟩; exact (key gr h1).1 h2
  · rintro ⟨m, hm, rfl⟩; exact ⟨Z87 l m, (key _ (Z87 l m)).2 ⟨m, hm, rfl⟩⟩
open Go
theorem Z35 : Z0W Tryz.prog 31 = some 4 := by kernel_rfl
theorem Z8m : Z0W Tryz.prog 38 = some 5 := by kernel_rfl
theorem ZcN : Z0W Tryz.prog 99 = some 5 := by kernel_rfl
theorem Z2m : arN Tryz.prog 31 = some (4, 1) := by kernel_rfl
theorem ZcO : cal Tryz.prog 141 = true := by kernel_rfl
theorem Zcf : cal Tryz.prog 142 = true := by kernel_rfl
theorem Z6L : cal Tryz.prog 143 = true := by kernel_rfl
theorem Zde : cal Tryz.prog 144 = true := by kernel_rfl
theorem ZcM : cal Tryz.prog 148 = true := by kernel_rfl
theorem Zcq : cal Tryz.prog 149 = true := by kernel_rfl
theorem ZdH : cal Tryz.prog 150 = true := by kernel_rfl
theorem ZcD : cal Tryz.prog 151 = true := by kernel_rfl
theorem ZcQ : cal Tryz.prog 152 = true := by kernel_rfl
theorem ZdN : cal Tryz.prog 153 = true := by kernel_rfl
theorem Zct : cal Tryz.prog 191 = true := by kernel_rfl
theorem Z6r : cal Tryz.prog 192 = true := by kernel_rfl
theorem Zeh : cal Tryz.prog 193 = true := by kernel_rfl
theorem Zdq : cal Tryz.prog 194 = true := by kernel_rfl
theorem Ze7 : cal Tryz.prog 222 = true := by kernel_rfl
theorem Z2N : cal Tryz.prog 33 = true := by kernel_rfl
theorem ZcU : cal Tryz.prog 66 = true := by kernel_rfl
theorem Zfv : cal Tryz.prog 67 = true := by kernel_rfl
theorem ZdM : cal Tryz.prog 68 = true := by kernel_rfl
theorem ZeK : cal Tryz.prog 69 = true := by kernel_rfl
theorem ZfK : cal Tryz.prog 70 = true := by kernel_rfl
theorem ZcS : cal Tryz.prog 71 = true := by kernel_rfl
theorem ZeX : elN Tryz.prog 25 = some 5 := by kernel_rfl
theorem Zep : elN Tryz.prog 28 = some 5 := by kernel_rfl
theorem Z73 : elN Tryz.prog 47 = some 1 := by kernel_rfl
theorem Z7A : ZJ Tryz.prog 27 0 = some 0 := by kernel_rfl
theorem Z4u : ZJ Tryz.prog 27 1 = some 1 := by kernel_rfl
theorem Z4K : ZJ Tryz.prog 27 2 = some 2 := by kernel_rfl
theorem Z8g : ZJ Tryz.prog 30 0 = some 0 := by kernel_rfl
theorem Z7u : ZJ Tryz.prog 30 1 = some 1 := by kernel_rfl
theorem Z06 : ZJ Tryz.prog 30 2 = some 2 := by kernel_rfl
theorem Zdx : ZJ Tryz.prog 38 0 = some 0 := by kernel_rfl
theorem Z0r : ZJ Tryz.prog 38 1 = some 1 := by kernel_rfl
theorem Zeg : ZJ Tryz.prog 99 0 = some 0 := by kernel_rfl
theorem Zda : ZJ Tryz.prog 99 1 = some 1 := by kernel_rfl
theorem Zeb : ZJ Tryz.prog 99 2 = some 2 := by kernel_rfl
theorem ZbY : ZJ Tryz.prog 99 3 = some 3 := by kernel_rfl
theorem Z7t : ZJ Tryz.prog 99 4 = some 4 := by kernel_rfl
theorem ZaC : Z2X Tryz.prog 25 = true := by kernel_rfl
theorem Z55 : Z2X Tryz.prog 28 = true := by kernel_rfl
theorem Z2x : Z2X Tryz.prog 47 = true := by kernel_rfl
theorem Z3w : Z0b Tryz.prog 112 = true := by kernel_rfl
theorem Zfz : Z0b Tryz.prog 155 = true := by kernel_rfl
theorem ZeP : Z0b Tryz.prog 234 = true := by kernel_rfl
theorem Z8I : Z0b Tryz.prog 25 = true := by kernel_rfl
theorem Z49 : Z0b Tryz.prog 28 = true := by kernel_rfl
theorem sc3 : Z0b Tryz.prog 3 = true := by kernel_rfl
theorem Z4a : slE Tryz.prog 47 = some (3, 1) := by kernel_rfl
theorem zl3 : Zs Tryz.prog 3 = some ([.int .i64 0]) := by kernel_rfl
def Z3J (x : Grd) : List Value := [.int .i64 x.corn, .int .i64 x.chaff, .int .i64 x.stones, .int .i64 x.damp, .int .i64 x.price]
def grows (l : List Grd) : List (List Value) := l.map Z3J
def Z12 (h : Hnd) : List Value := [.int .i64 h.spot, .int .i64 h.a, .int .i64 h.b, .int .i64 h.c, .int .i64 h.d]
def hrows (l : List Hnd) : List (List Value) := l.map Z12
def gtl (g : Gat) (sl : Value) : List Value := [.int .i64 g.err, .int .i64 g.miss, sl]
def Gat.v (g : Gat) (sl : Value) : Value := .agg (gtl g sl).toArray
def Gat.sl (g : Gat) (a : Option Addr) (c : Nat) : Value := .slice a g.grs.length c
def ctl (c : Crt) (sl : Value) : List Value := [.int .i64 c.full, .int .i64 c.empty, sl]
def Crt.v (c : Crt) (sl : Value) : Value := .agg (ctl c sl).toArray
def Crt.sl (c : Crt) (a : Option Addr) (cc : Nat) : Value := .slice a c.hs.length cc
def Z9k (g : Gat) (c : Crt) (sg sh : Value) : List Value := [.int .i64 c.full, .int .i64 c.empty, sh, .int .i64 g.err, .int .i64 g.miss, sg]
def Grd.v (x : Grd) : Value := .agg (Z3J x).toArray
def Hnd.v (h : Hnd) : Value := .agg (Z12 h).toArray
def spv (l h : Int) : Value := .agg #[.int .i64 l, .int .i64 h]
def bxv (b : Box) : Value := .agg (Zd b).toArray
abbrev irows (l : List Int) : List (List Value) := l.map fun z => [.int .i64 z]
theorem Z9N {l : List Grd} {k : Nat} {x : Grd} (h : l[k]? = some x) : (grows l)[k]? = some (Z3J x) := by simp [grows, h]
theorem ZbS {l : List Hnd} {k : Nat} {x : Hnd} (h : l[k]? = some x) : (hrows l)[k]? = some (Z12 x) := by simp [hrows, h]
theorem ints_length (l : List Int) : (Zd l).length = l.length := by simp [Zd]
theorem ints_get {l : List Int} {k : Nat} {v : Int} (h : l[k]? = some v) : (Zd l)[k]? = some (.int .i64 v) := by simp [Zd, h]
theorem St.rows1 {b e : Nat} {h : Hnd} {H : Z6} {R : Z3} {w : World} (hs : St ((b, cel e (Z12 h)) :: H) R w) : St H (RowsA (some ⟨b, 1, none⟩) 1 (irows h.gs) :: R) w := by
  have h1 := (St.freeze hs).also (f := RowsA (some ⟨b, 1, none⟩) 1 (irows h.gs)) (fun w' hw => by
    have hb := hw (fun w => w.heap[b]? = some (cel e (Z12 h))) (by simp)
    have one : ∀ (i : Nat) (z : Int), (Z12 h)[1 + i]? = some (.int .i64 z) → ∀ j x, [Value.int .i64 z][j]? = some x → w'.cell? ⟨b, 1 + i * 1 + j, none⟩ = some x := fun i z hz j x hx => by
      match j, hx with
      | 0, hx => rw [Z1c hb, Nat.mul_one, Nat.add_zero]; simp only [List.getElem?_cons_zero] at hx; rw [← hx]; simpa using hz
    intro i row hi
    match i, hi with
    | 0, hi => cases hi; exact ⟨rfl, b, 1, rfl, one 0 h.a rfl⟩
    | 1, hi => cases hi; exact ⟨rfl, b, 1, rfl, one 1 h.b rfl⟩
    | 2, hi => cases hi; exact ⟨rfl, b, 1, rfl, one 2 h.c rfl⟩
    | 3, hi => cases hi; exact ⟨rfl, b, 1, rfl, one 3 h.d rfl⟩
    | i + 4, hi => cases hi)
  exact h1.facts (fun g hg => by rcases List.mem_cons.1 hg with h2 | h2 <;> simp [h2])
theorem Zn {α : Type} {xs : List α} {p : α → Bool} {k : Nat} {x : α} (hx : xs[k]? = some x) (hn : ∀ y ∈ xs.take k, p y = false) (h : p x = true) : xs.findIdx? p = some k := by
  induction xs generalizing k with
  | nil => simp at hx
  | cons y ys ih =>
    cases k with
    | zero => simp only [List.getElem?_cons_zero, Option.some.injEq] at hx; subst hx; simp [List.findIdx?_cons, h]
    | succ k =>
      have hy := hn y (by simp)
      have := ih (by simpa using hx) (fun z hz => hn z (by simp [hz]))
      simp [List.findIdx?_cons, hy, this]
theorem Zj {α : Type} {xs : List α} {p : α → Bool} (hn : ∀ y ∈ xs, p y = false) : xs.findIdx? p = none := by
  rw [List.findIdx?_eq_none_iff]; exact hn
theorem ZF {α : Type} {xs : List α} {p : α → Bool} {k : Nat} {x : α} (hx : xs[k]? = some x) (hn : ∀ y ∈ xs.take k, p y = false) (h : p x = false) : ∀ y ∈ xs.take (k + 1), p y = false := by
  intro y hy
  rw [List.take_add_one, hx] at hy
  rcases List.mem_append.1 hy with h1 | h1
  · exact hn y h1
  · simp only [Option.toList_some, List.mem_singleton] at h1; subst h1; exact h
theorem ZY {α : Type} (xs : List α) (p : α → Bool) : Value.bool (decide (0 ≤ (match xs.findIdx? p with | some k => (k : Int) | none => -1))) = .bool (xs.any p) := by
  congr 1
  cases h : xs.findIdx? p with
  | none =>
    have := List.findIdx?_eq_none_iff.1 h
    have h2 : xs.any p = false := by simpa using this
    rw [h2]; rfl
  | some k =>
    have h2 : xs.any p = true := by
      rw [← Bool.not_eq_false]; intro h3
      have : xs.findIdx? p = none := List.findIdx?_eq_none_iff.2 (by simpa using h3)
      rw [this] at h; cases h
    rw [h2]; simp
theorem Zt {α : Type} (xs : List α) (p : α → Bool) : Value.bool (!xs.any fun x => !p x) = .bool (xs.all p) := by
  congr 1
  induction xs with
  | nil => rfl
  | cons x xs ih => simp [← ih]
theorem Z5X {l : List Grd} {k : Nat} {x y : Grd} (hx : l[k]? = some x) (hy : l[k + 1]? = some y) (h : x.price < y.price) : (List.range l.length).any (Z0o l) = true := by
  rw [List.any_eq_true]
  refine ⟨k, List.mem_range.2 (List.getElem?_eq_some_iff.1 hx).1, ?_⟩
  unfold Z0o
  rw [hx, hy]; simpa using h
theorem Z9a {l : List Grd} (h : ∀ i, i + 1 < l.length → Z0o l i = false) : (List.range l.length).any (Z0o l) = false := by
  rw [List.any_eq_false]
  intro i _
  rw [Bool.not_eq_true]
  rcases Nat.lt_or_ge (i + 1) l.length with h1 | h1
  · exact h i h1
  · unfold Z0o
    rw [List.getElem?_eq_none (l := l) (i := i + 1) (by omega)]
    split <;> simp_all
theorem Z2d (n lo hi : Int) (H : Z6) (R : Z3) :
    FnV Tryz.prog 33 [.int .i64 n, .int .i64 lo, .int .i64 hi] H R (.bool (inb n lo hi)) := by
 refine Z8 Tryz.func33 rfl Tryz.ntmps33 rfl ?_
 refine sqt 1 rfl (pur 1 rfl (sqt 9 rfl (pur 4 rfl ?_)))
 refine Zp 10 rfl ?_ ?_ <;> intro g10
 refine pur 5 rfl (Z1 ?_)
 exact rtA rfl rfl rfl ⟨by simp_all only [Zz, inb, ge_iff_le, Bool.true_and, Bool.false_and, cond_true, cond_false], rfl, rfl⟩ drp
 refine pur 5 rfl (Z1 ?_)
 exact rtA rfl rfl rfl ⟨by simp_all only [Zz, inb, ge_iff_le, Bool.true_and, Bool.false_and, cond_true, cond_false], rfl, rfl⟩ drp
theorem Z2M (xs : List Int) (a : Option Addr) (c g : Nat) (fst cap : List Value) (p : Int → Bool) (hg : cal Tryz.prog g = true) (hl : xs.length ≤ 9223372036854775807) (H : Z6) (R : Z3) [hR : MemRows a 1 (irows xs) R] (hp : ∀ x, x ∈ xs → FnV Tryz.prog g (fst ++ [.int .i64 x] ++ cap) H R (.bool (p x))) :
    FnV Tryz.prog 192 [.slice a xs.length c, .func (.func g) fst.toArray cap.toArray] H R (.int .i64 (match xs.findIdx? p with | some k => (k : Int) | none => -1)) := by
 refine Z8 Tryz.func192 rfl Tryz.ntmps192 rfl ?_
 refine sqt 1 rfl (pur 1 rfl (Z0 (sqt 3 rfl (pur 1 rfl (sp rfl (PE.lenSl Z2x rfl) rfl (pur 1 rfl (Z4 ?_)))))))
 refine Zc (ι := {k : Nat // k ≤ xs.length ∧ ∀ x ∈ xs.take k, p x = false}) (fun k => ⟨[(0, .slice a xs.length c), (1, .func (.func g) fst.toArray cap.toArray), (7, .int .i64 xs.length), (8, .int .i64 k.1)], H, R⟩) (fun k => xs.length - k.1) ⟨0, by simp⟩ ?_ (fun k => ?_)
 exact Zk idH
 obtain ⟨k, hk, hn⟩ := k
 dsimp only
 refine sqt 1 rfl (pur 1 rfl (Z0 ?_))
 refine Z2 rfl ?_ ?_ <;> intro hc0
 simp only [cS] at hc0
 obtain ⟨x, hx⟩ : ∃ x, xs[k]? = some x := ⟨_, List.getElem?_eq_getElem (by omega)⟩
 have hxm := List.mem_of_getElem? hx
 refine Zl (a := a) (sz := 1) (rows := irows xs) (by cases xs <;> simp_all [irows]) (fun b off he => ?_)
 subst he
 refine Z5 (Z0 (Z4 (sqt 2 rfl (pur 2 rfl (sqt 6 rfl (pur 3 rfl (sp rfl (PE.indexAddr Z73 rfl rfl (by omega) (by omega)) rfl (spL rfl rfl (lf0 sc3 (by simp [irows, hx]; rfl) rfl) rfl ?_))))))))
 refine Z1M rfl rfl (hg) rfl rfl (hp x hxm) ?_
 refine Z2 rfl ?_ ?_ <;> intro hc1
 refine sqt 2 rfl (pur 2 rfl (Z1 ?_))
 first | (exact rtA rfl rfl rfl ⟨by rw [Zn hx hn hc1]; rfl, rfl, rfl⟩ idH) | (exact rtA rfl rfl rfl ⟨by rw [Zj (by simpa using hn)]; rfl, rfl, rfl⟩ idH)
 refine Z5 (sqr 2 rfl (sp rfl (PE.add rfl rfl (by omega)) rfl (pur 1 rfl ?_)))
 exact Ze ⟨k + 1, by omega, ZF hx hn hc1⟩ idH
 simp only [cS] at hc0
 obtain rfl : k = xs.length := by omega
 refine Za (Zb (Zb (Zr (sqt 1 rfl (pur 1 rfl (Z1 ?_))))))
 first | (exact rtA rfl rfl rfl ⟨by rw [Zn hx hn hc1]; rfl, rfl, rfl⟩ idH) | (exact rtA rfl rfl rfl ⟨by rw [Zj (by simpa using hn)]; rfl, rfl, rfl⟩ idH)
theorem Z2s (xs : List Int) (a : Option Addr) (c g : Nat) (fst cap : List Value) (p : Int → Bool) (hg : cal Tryz.prog g = true) (hl : xs.length ≤ 9223372036854775807) (H : Z6) (R : Z3) [hR : MemRows a 1 (irows xs) R] (hp : ∀ x, x ∈ xs → FnV Tryz.prog g (fst ++ [.int .i64 x] ++ cap) H R (.bool (p x))) :
    FnV Tryz.prog 143 [.slice a xs.length c, .func (.func g) fst.toArray cap.toArray] H R (.bool (xs.any p)) := by
 refine Z8 Tryz.func143 rfl Tryz.ntmps143 rfl ?_
 refine sqt 1 rfl (pur 1 rfl (sqt 5 rfl (pur 2 rfl ?_)))
 refine clV rfl Z6r rfl rfl (Z2M xs a c g fst cap p hg hl _ _ hp) ?_
 refine pur 2 rfl (Z1 ?_)
 exact rtA rfl rfl rfl ⟨by simp only [Zz]; exact ZY _ _, rfl, rfl⟩ drp
theorem Z2L (x : Int) (g bf : Nat) (fst cap : List Value) (p : Bool) (hg : cal Tryz.prog g = true) (H : Z6) (R : Z3) [hM : Mem1 bf (cel 112 [.func (.func g) fst.toArray cap.toArray]) H] (hp : FnV Tryz.prog g (fst ++ [.int .i64 x] ++ cap) H R (.bool p)) :
    FnV Tryz.prog 144 [.int .i64 x, .pointer (some ⟨bf, 0, none⟩)] H R (.bool !p) := by
 refine Z8 Tryz.func144 rfl Tryz.ntmps144 rfl ?_
 refine sqt 1 rfl (pur 1 rfl (sqt 5 rfl (spL rfl rfl (lh Z3w rfl rfl) rfl (pur 1 rfl ?_))))
 refine Z1M rfl rfl (hg) rfl rfl (hp) ?_
 refine pur 2 rfl (Z1 ?_)
 exact rtA rfl rfl rfl ⟨rfl, rfl, rfl⟩ drp
theorem Z0d (xs : List Int) (a : Option Addr) (c g : Nat) (fst cap : List Value) (p : Int → Bool) (hg : cal Tryz.prog g = true) (hl : xs.length ≤ 9223372036854775807) (H : Z6) (R : Z3) [hR : MemRows a 1 (irows xs) R] (hp : ∀ b x, x ∈ xs → FnV Tryz.prog g (fst ++ [.int .i64 x] ++ cap) ((b, cel 112 [.func (.func g) fst.toArray cap.toArray]) :: H) R (.bool (p x))) :
    FnV Tryz.prog 68 [.slice a xs.length c, .func (.func g) fst.toArray cap.toArray] H R (.bool (xs.all p)) := by
 refine Z8 Tryz.func68 rfl Tryz.ntmps68 rfl ?_
 refine sqt 2 rfl (bx rfl rfl rfl (fun b3 => pur 1 rfl (sqt 5 rfl (pur 1 rfl (sp rfl (PE.makeFunc rfl rfl) rfl ?_)))))
 refine clV rfl Z6L rfl rfl (Z2s xs a c 144 [] [_] (fun x => !p x) Zde hl _ _ (hp := fun x hx => Z2L x g _ fst cap (p x) hg _ _ (hp := hp _ x hx))) ?_
 refine pur 2 rfl (Z1 ?_)
 exact rtA rfl rfl rfl ⟨by simp only [Zz]; rw [Zt], rfl, rfl⟩ drp
theorem Z7M (xs : List Grd) (a : Option Addr) (c g : Nat) (fst cap : List Value) (p : Grd → Bool) (hg : cal Tryz.prog g = true) (hl : xs.length ≤ 9223372036854775807) (H : Z6) (R : Z3) [hR : MemRows a 5 (grows xs) R] (hp : ∀ x, x ∈ xs → FnV Tryz.prog g (fst ++ [.agg (Z3J x).toArray] ++ cap) H R (.bool (p x))) :
    FnV Tryz.prog 222 [.slice a xs.length c, .func (.func g) fst.toArray cap.toArray] H R (.int .i64 (match xs.findIdx? p with | some k => (k : Int) | none => -1)) := by
 refine Z8 Tryz.func222 rfl Tryz.ntmps222 rfl ?_
 refine sqt 1 rfl (pur 1 rfl (Z0 (sqt 3 rfl (pur 1 rfl (sp rfl (PE.lenSl ZaC rfl) rfl (pur 1 rfl (Z4 ?_)))))))
 refine Zc (ι := {k : Nat // k ≤ xs.length ∧ ∀ x ∈ xs.take k, p x = false}) (fun k => ⟨[(0, .slice a xs.length c), (1, .func (.func g) fst.toArray cap.toArray), (7, .int .i64 xs.length), (8, .int .i64 k.1)], H, R⟩) (fun k => xs.length - k.1) ⟨0, by simp⟩ ?_ (fun k => ?_)
 exact Zk idH
 obtain ⟨k, hk, hn⟩ := k
 dsimp only
 refine sqt 1 rfl (pur 1 rfl (Z0 ?_))
 refine Z2 rfl ?_ ?_ <;> intro hc0
 simp only [cS] at hc0
 obtain ⟨x, hx⟩ : ∃ x, xs[k]? = some x := ⟨_, List.getElem?_eq_getElem (by omega)⟩
 have hxm := List.mem_of_getElem? hx
 refine Zl (a := a) (sz := 5) (rows := grows xs) (by cases xs <;> simp_all [grows]) (fun b off he => ?_)
 subst he
 refine Z5 (Z0 (Z4 (sqt 2 rfl (pur 2 rfl (sqt 6 rfl (pur 3 rfl (sp rfl (PE.indexAddr ZeX rfl rfl (by omega) (by omega)) rfl (spL rfl rfl (lfA ZcN (row := Z3J x) (by simp [grows, hx]) rfl) rfl ?_))))))))
 refine Z1M rfl rfl (hg) rfl rfl (hp x hxm) ?_
 refine Z2 rfl ?_ ?_ <;> intro hc1
 refine sqt 2 rfl (pur 2 rfl (Z1 ?_))
 first | (exact rtA rfl rfl rfl ⟨by rw [Zn hx hn hc1]; rfl, rfl, rfl⟩ idH) | (exact rtA rfl rfl rfl ⟨by rw [Zj (by simpa using hn)]; rfl, rfl, rfl⟩ idH)
 refine Z5 (sqr 2 rfl (sp rfl (PE.add rfl rfl (by omega)) rfl (pur 1 rfl ?_)))
 exact Ze ⟨k + 1, by omega, ZF hx hn hc1⟩ idH
 simp only [cS] at hc0
 obtain rfl : k = xs.length := by omega
 refine Za (Zb (Zb (Zr (sqt 1 rfl (pur 1 rfl (Z1 ?_))))))
 first | (exact rtA rfl rfl rfl ⟨by rw [Zn hx hn hc1]; rfl, rfl, rfl⟩ idH) | (exact rtA rfl rfl rfl ⟨by rw [Zj (by simpa using hn)]; rfl, rfl, rfl⟩ idH)
theorem Z7f (xs : List Grd) (a : Option Addr) (c g : Nat) (fst cap : List Value) (p : Grd → Bool) (hg : cal Tryz.prog g = true) (hl : xs.length ≤ 9223372036854775807) (H : Z6) (R : Z3) [hR : MemRows a 5 (grows xs) R] (hp : ∀ x, x ∈ xs → FnV Tryz.prog g (fst ++ [.agg (Z3J x).toArray] ++ cap) H R (.bool (p x))) :
    FnV Tryz.prog 193 [.slice a xs.length c, .func (.func g) fst.toArray cap.toArray] H R (.bool (xs.any p)) := by
 refine Z8 Tryz.func193 rfl Tryz.ntmps193 rfl ?_
 refine sqt 1 rfl (pur 1 rfl (sqt 5 rfl (pur 2 rfl ?_)))
 refine clV rfl Ze7 rfl rfl (Z7M xs a c g fst cap p hg hl _ _ hp) ?_
 refine pur 2 rfl (Z1 ?_)
 exact rtA rfl rfl rfl ⟨by simp only [Zz]; exact ZY _ _, rfl, rfl⟩ drp
theorem Z7h (x : Grd) (g bf : Nat) (fst cap : List Value) (p : Bool) (hg : cal Tryz.prog g = true) (H : Z6) (R : Z3) [hM : Mem1 bf (cel 234 [.func (.func g) fst.toArray cap.toArray]) H] (hp : ∀ b, FnV Tryz.prog g (fst ++ [.agg (Z3J x).toArray] ++ cap) ((b, cel 99 (Z3J x)) :: H) R (.bool p)) :
    FnV Tryz.prog 194 [.agg (Z3J x).toArray, .pointer (some ⟨bf, 0, none⟩)] H R (.bool !p) := by
 refine Z8 Tryz.func194 rfl Tryz.ntmps194 rfl ?_
 refine sqt 2 rfl (bx rfl rfl rfl (fun b2 => pur 1 rfl (sqt 5 rfl (spL rfl rfl (lh ZeP rfl rfl) rfl (spL rfl rfl (lhA [_, _, _, _, _] ZcN rfl rfl rfl) rfl ?_)))))
 refine Z1M rfl rfl (hg) rfl rfl (hp _) ?_
 refine pur 2 rfl (Z1 ?_)
 exact rtA rfl rfl rfl ⟨rfl, rfl, rfl⟩ drp
theorem Z5a (xs : List Grd) (a : Option Addr) (c g : Nat) (fst cap : List Value) (p : Grd → Bool) (hg : cal Tryz.prog g = true) (hl : xs.length ≤ 9223372036854775807) (H : Z6) (R : Z3) [hR : MemRows a 5 (grows xs) R] (hp : ∀ b b2 x, x ∈ xs → FnV Tryz.prog g (fst ++ [.agg (Z3J x).toArray] ++ cap) ((b2, cel 99 (Z3J x)) :: (b, cel 234 [.func (.func g) fst.toArray cap.toArray]) :: H) R (.bool (p x))) :
    FnV Tryz.prog 148 [.slice a xs.length c, .func (.func g) fst.toArray cap.toArray] H R (.bool (xs.all p)) := by
 refine Z8 Tryz.func148 rfl Tryz.ntmps148 rfl ?_
 refine sqt 2 rfl (bx rfl rfl rfl (fun b3 => pur 1 rfl (sqt 5 rfl (pur 1 rfl (sp rfl (PE.makeFunc rfl rfl) rfl ?_)))))
 refine clV rfl Zeh rfl rfl (Z7f xs a c 194 [] [_] (fun x => !p x) Zdq hl _ _ (hp := fun x hx => Z7h x g _ fst cap (p x) hg _ _ (hp := fun b => hp _ _ x hx))) ?_
 refine pur 2 rfl (Z1 ?_)
 exact rtA rfl rfl rfl ⟨by simp only [Zz]; rw [Zt], rfl, rfl⟩ drp
theorem Z7U (xs : List Hnd) (a : Option Addr) (c g : Nat) (fst cap : List Value) (p : Hnd → Bool) (hg : cal Tryz.prog g = true) (hl : xs.length ≤ 9223372036854775807) (H : Z6) (R : Z3) [hR : MemRows a 5 (hrows xs) R] (hp : ∀ x, x ∈ xs → FnV Tryz.prog g (fst ++ [.agg (Z12 x).toArray] ++ cap) H R (.bool (p x))) :
    FnV Tryz.prog 191 [.slice a xs.length c, .func (.func g) fst.toArray cap.toArray] H R (.int .i64 (match xs.findIdx? p with | some k => (k : Int) | none => -1)) := by
 refine Z8 Tryz.func191 rfl Tryz.ntmps191 rfl ?_
 refine sqt 1 rfl (pur 1 rfl (Z0 (sqt 3 rfl (pur 1 rfl (sp rfl (PE.lenSl Z55 rfl) rfl (pur 1 rfl (Z4 ?_)))))))
 refine Zc (ι := {k : Nat // k ≤ xs.length ∧ ∀ x ∈ xs.take k, p x = false}) (fun k => ⟨[(0, .slice a xs.length c), (1, .func (.func g) fst.toArray cap.toArray), (7, .int .i64 xs.length), (8, .int .i64 k.1)], H, R⟩) (fun k => xs.length - k.1) ⟨0, by simp⟩ ?_ (fun k => ?_)
 exact Zk idH
 obtain ⟨k, hk, hn⟩ := k
 dsimp only
 refine sqt 1 rfl (pur 1 rfl (Z0 ?_))
 refine Z2 rfl ?_ ?_ <;> intro hc0
 simp only [cS] at hc0
 obtain ⟨x, hx⟩ : ∃ x, xs[k]? = some x := ⟨_, List.getElem?_eq_getElem (by omega)⟩
 have hxm := List.mem_of_getElem? hx
 refine Zl (a := a) (sz := 5) (rows := hrows xs) (by cases xs <;> simp_all [hrows]) (fun b off he => ?_)
 subst he
 refine Z5 (Z0 (Z4 (sqt 2 rfl (pur 2 rfl (sqt 6 rfl (pur 3 rfl (sp rfl (PE.indexAddr Zep rfl rfl (by omega) (by omega)) rfl (spL rfl rfl (lfA Z8m (row := Z12 x) (by simp [hrows, hx]) rfl) rfl ?_))))))))
 refine Z1M rfl rfl (hg) rfl rfl (hp x hxm) ?_
 refine Z2 rfl ?_ ?_ <;> intro hc1
 refine sqt 2 rfl (pur 2 rfl (Z1 ?_))
 first | (exact rtA rfl rfl rfl ⟨by rw [Zn hx hn hc1]; rfl, rfl, rfl⟩ idH) | (exact rtA rfl rfl rfl ⟨by rw [Zj (by simpa using hn)]; rfl, rfl, rfl⟩ idH)
 refine Z5 (sqr 2 rfl (sp rfl (PE.add rfl rfl (by omega)) rfl (pur 1 rfl ?_)))
 exact Ze ⟨k + 1, by omega, ZF hx hn hc1⟩ idH
 simp only [cS] at hc0
 obtain rfl : k = xs.length := by omega
 refine Za (Zb (Zb (Zr (sqt 1 rfl (pur 1 rfl (Z1 ?_))))))
 first | (exact rtA rfl rfl rfl ⟨by rw [Zn hx hn hc1]; rfl, rfl, rfl⟩ idH) | (exact rtA rfl rfl rfl ⟨by rw [Zj (by simpa using hn)]; rfl, rfl, rfl⟩ idH)
theorem Z6x (xs : List Hnd) (a : Option Addr) (c g : Nat) (fst cap : List Value) (p : Hnd → Bool) (hg : cal Tryz.prog g = true) (hl : xs.length ≤ 9223372036854775807) (H : Z6) (R : Z3) [hR : MemRows a 5 (hrows xs) R] (hp : ∀ x, x ∈ xs → FnV Tryz.prog g (fst ++ [.agg (Z12 x).toArray] ++ cap) H R (.bool (p x))) :
    FnV Tryz.prog 141 [.slice a xs.length c, .func (.func g) fst.toArray cap.toArray] H R (.bool (xs.any p)) := by
 refine Z8 Tryz.func141 rfl Tryz.ntmps141 rfl ?_
 refine sqt 1 rfl (pur 1 rfl (sqt 5 rfl (pur 2 rfl ?_)))
 refine clV rfl Zct rfl rfl (Z7U xs a c g fst cap p hg hl _ _ hp) ?_
 refine pur 2 rfl (Z1 ?_)
 exact rtA rfl rfl rfl ⟨by simp only [Zz]; exact ZY _ _, rfl, rfl⟩ drp
theorem Z6M (x : Hnd) (g bf : Nat) (fst cap : List Value) (p : Bool) (hg : cal Tryz.prog g = true) (H : Z6) (R : Z3) [hM : Mem1 bf (cel 155 [.func (.func g) fst.toArray cap.toArray]) H] (hp : ∀ b, FnV Tryz.prog g (fst ++ [.agg (Z12 x).toArray] ++ cap) ((b, cel 38 (Z12 x)) :: H) R (.bool p)) :
    FnV Tryz.prog 142 [.agg (Z12 x).toArray, .pointer (some ⟨bf, 0, none⟩)] H R (.bool !p) := by
 refine Z8 Tryz.func142 rfl Tryz.ntmps142 rfl ?_
 refine sqt 2 rfl (bx rfl rfl rfl (fun b2 => pur 1 rfl (sqt 5 rfl (spL rfl rfl (lh Zfz rfl rfl) rfl (spL rfl rfl (lhA [_, _, _, _, _] Z8m rfl rfl rfl) rfl ?_)))))
 refine Z1M rfl rfl (hg) rfl rfl (hp _) ?_
 refine pur 2 rfl (Z1 ?_)
 exact rtA rfl rfl rfl ⟨rfl, rfl, rfl⟩ drp
theorem Z2u (xs : List Hnd) (a : Option Addr) (c g : Nat) (fst cap : List Value) (p : Hnd → Bool) (hg : cal Tryz.prog g = true) (hl : xs.length ≤ 9223372036854775807) (H : Z6) (R : Z3) [hR : MemRows a 5 (hrows xs) R] (hp : ∀ b b2 x, x ∈ xs → FnV Tryz.prog g (fst ++ [.agg (Z12 x).toArray] ++ cap) ((b2, cel 38 (Z12 x)) :: (b, cel 155 [.func (.func g) fst.toArray cap.toArray]) :: H) R (.bool (p x))) :
    FnV Tryz.prog 66 [.slice a xs.length c, .func (.func g) fst.toArray cap.toArray] H R (.bool (xs.all p)) := by
 refine Z8 Tryz.func66 rfl Tryz.ntmps66 rfl ?_
 refine sqt 2 rfl (bx rfl rfl rfl (fun b3 => pur 1 rfl (sqt 5 rfl (pur 1 rfl (sp rfl (PE.makeFunc rfl rfl) rfl ?_)))))
 refine clV rfl ZcO rfl rfl (Z6x xs a c 142 [] [_] (fun x => !p x) Zcf hl _ _ (hp := fun x hx => Z6M x g _ fst cap (p x) hg _ _ (hp := fun b => hp _ _ x hx))) ?_
 refine pur 2 rfl (Z1 ?_)
 exact rtA rfl rfl rfl ⟨by simp only [Zz]; rw [Zt], rfl, rfl⟩ drp
theorem ZbX (a b c d : Int) (hb : ∀ x ∈ [a, b, c, d], -1000000 ≤ x ∧ x ≤ 1000000000000000) (H : Z6) (R : Z3) :
    FnV Tryz.prog 71 [.agg (Zd [a, b, c, d]).toArray] H R (.int .i64 (a + b + c + d)) := by
 have ha := hb a (by simp)
 have hb1 := hb b (by simp)
 have hc := hb c (by simp)
 have hd := hb d (by simp)
 clear hb
 refine Z8 Tryz.func71 rfl Tryz.ntmps71 rfl ?_
 refine sqt 2 rfl (bx rfl rfl rfl (fun b1 => pur 1 rfl (sqt 12 rfl (sp rfl (PE.indexArr Z2m rfl rfl (by omega) (by omega)) rfl (spL rfl rfl (lh sc3 rfl rfl) rfl (sp rfl (PE.indexArr Z2m rfl rfl (by omega) (by omega)) rfl (spL rfl rfl (lh sc3 rfl rfl) rfl (sp rfl (PE.add rfl rfl (by omega)) rfl (sp rfl (PE.indexArr Z2m rfl rfl (by omega) (by omega)) rfl (spL rfl rfl (lh sc3 rfl rfl) rfl (sp rfl (PE.add rfl rfl (by omega)) rfl (sp rfl (PE.indexArr Z2m rfl rfl (by omega) (by omega)) rfl (spL rfl rfl (lh sc3 rfl rfl) rfl (sp rfl (PE.add rfl rfl (by omega)) rfl (pur 1 rfl ?_)))))))))))))))
 refine Z1 ?_
 exact rtA rfl rfl rfl ⟨rfl, rfl, rfl⟩ drp
theorem Z77 (x : Grd) (H : Z6) (R : Z3) :
    Fn Tryz.prog 150 [.agg (Z3J x).toArray] H R (fun v H' R' => ∃ b, v = .slice (some ⟨b, 0, none⟩) 4 4 ∧ H' = H ∧ R' = RowsA (some ⟨b, 0, none⟩) 1 (irows x.ns) :: R) := by
 refine Z8 Tryz.func150 rfl Tryz.ntmps150 rfl ?_
 refine sqt 2 rfl (bx rfl rfl rfl (fun b1 => pur 1 rfl (sqt 10 rfl (sp rfl (PE.fA Zeg rfl) rfl (spL rfl rfl (lh sc3 rfl rfl) rfl (sp rfl (PE.fA Zda rfl) rfl (spL rfl rfl (lh sc3 rfl rfl) rfl (sp rfl (PE.fA Zeb rfl) rfl (spL rfl rfl (lh sc3 rfl rfl) rfl (sp rfl (PE.fA ZbY rfl) rfl (spL rfl rfl (lh sc3 rfl rfl) rfl ?_)))))))))))
 refine bsl (out := [_, _, _, _]) rfl Z4a zl3 rfl rfl rfl rfl rfl rfl (fun b11 => ?_)
 refine pur 1 rfl (Z1 ?_)
 refine Sy.heap (fun w h => St.intRows (l := x.ns) h) ?_
 exact rtA rfl rfl rfl ⟨_, rfl, rfl, rfl⟩ drp
theorem Z6m (xs : List Int) (a : Option Addr) (c : Nat) (hl : xs.length ≤ 9223372036854775807) (H : Z6) (R : Z3) [hR : MemRows a 1 (irows xs) R] :
    FnV Tryz.prog 75 [.slice a xs.length c] H R (.int .i64 (xs.foldl max 0)) := by
 refine Z8 Tryz.func75 rfl Tryz.ntmps75 rfl ?_
 refine sqt 1 rfl (pur 1 rfl (sqt 1 rfl (pur 1 rfl (Z0 (sqt 3 rfl (pur 1 rfl (sp rfl (PE.lenSl Z2x rfl) rfl (pur 1 rfl (Z4 ?_)))))))))
 refine Zc (ι := {k : Nat // k ≤ xs.length}) (fun k => ⟨[(3, .int .i64 ((xs.take k.1).foldl max 0)), (6, .slice a xs.length c), (7, .int .i64 xs.length), (8, .int .i64 k.1)], H, R⟩) (fun k => xs.length - k.1) ⟨0, by simp⟩ ?_ (fun k => ?_)
 exact Zk idH
 obtain ⟨k, hk⟩ := k
 dsimp only
 refine sqt 1 rfl (pur 1 rfl (Z0 ?_))
 refine Z2 rfl ?_ ?_ <;> intro hc0 <;> try simp only [cS] at hc0
 obtain ⟨x, hx⟩ : ∃ x, xs[k]? = some x := ⟨_, List.getElem?_eq_getElem (by omega)⟩
 have hst : (xs.take (k + 1)).foldl max 0 = max ((xs.take k).foldl max 0) x := by rw [List.take_add_one, hx, List.foldl_append]; rfl
 refine Zl (a := a) (sz := 1) (rows := irows xs) (by cases xs <;> simp_all [irows]) (fun b off he => ?_)
 subst he
 refine Z5 (Z0 (Z4 (sqt 3 rfl (sp rfl (PE.indexAddr Z73 rfl rfl (by omega) (by omega)) rfl (spL rfl rfl (lf0 sc3 (by simp [irows, hx]; rfl) rfl) rfl (pur 1 rfl (sqr 4 rfl (pur 2 rfl (sp rfl (PE.max rfl rfl) rfl (pur 1 rfl (sqr 2 rfl (sp rfl (PE.add rfl rfl (by omega)) rfl (pur 1 rfl ?_)))))))))))))
 exact ZX ⟨k + 1, by omega⟩ (by dsimp only; omega) (by dsimp only; rw [hst]; exact (by repeat' first | exact Sub.nil | apply Sub.cons | rfl | (simp [lk]; omega))) idH
 obtain rfl : k = xs.length := by omega
 rw [List.take_length]
 refine Za (Zb (Zb (Zr (sqt 2 rfl (pur 2 rfl (Z1 ?_))))))
 exact rtA rfl rfl rfl ⟨rfl, rfl, rfl⟩ drp
theorem Z0A (x : Int) (b : Nat) (H : Z6) (R : Z3) {T : Z6} [pl : Pull b (cel 3 [.int .i64 x]) H T] : FnV Tryz.prog 75 [.slice (some ⟨b, 0, none⟩) 1 1] H R (.int .i64 (max 0 x)) :=
  FnV.lend (pl := pl) (sz := 1) (rows := irows [x]) (junk := []) (by simp) (fun B => Z6m [x] (some ⟨b, 0, none⟩) 1 (by simp) T _)
theorem Zat (n : Int) (H : Z6) (R : Z3) :
    FnV Tryz.prog 151 [.int .i64 n] H R (.bool (inb n 0 40)) := by
 refine Z8 Tryz.func151 rfl Tryz.ntmps151 rfl ?_
 refine sqt 1 rfl (pur 1 rfl (sqt 3 rfl (pur 1 rfl ?_)))
 refine clV rfl Z2N rfl rfl (Z2d _ _ _ _ _) ?_
 refine pur 1 rfl (Z1 ?_)
 exact rtA rfl rfl rfl ⟨rfl, rfl, rfl⟩ drp
theorem Z4g (x : Grd) (H : Z6) (R : Z3) :
    FnV Tryz.prog 149 [.agg (Z3J x).toArray] H R (.bool x.fine) := by
 refine Z8 Tryz.func149 rfl Tryz.ntmps149 rfl ?_
 refine sqt 2 rfl (bx rfl rfl rfl (fun b1 => pur 1 rfl (sqt 9 rfl (sp rfl (PE.fA Z7t rfl) rfl (spL rfl rfl (lh sc3 rfl rfl) rfl ?_)))))
 refine clV rfl Z2N rfl rfl (Z2d _ _ _ _ _) ?_
 refine pur 1 rfl ?_
 refine Zp 6 rfl ?_ ?_ <;> intro g6
 refine Z0K rfl rfl rfl rfl rfl (lhA [_, _, _, _, _] ZcN rfl rfl rfl) rfl ?_
 refine clG rfl rfl rfl rfl ZdH rfl rfl (Z77 x _ _) ?_
 rintro _ _ _ ⟨bn, rfl, rfl, rfl⟩
 refine Z3c rfl rfl rfl rfl ZdM rfl rfl (Z0d x.ns (some ⟨bn, 0, none⟩) 4 151 [] [] (fun n => inb n 0 40) ZcD (by simp [Grd.ns]) _ _ (fun _ y _ => Zat y _ _)) ?_
 refine pur 2 rfl (Z1 ?_)
 exact rtA rfl rfl rfl ⟨by simp_all only [Zz, Grd.fine, Bool.true_and, Bool.false_and, cond_true, cond_false], rfl, rfl⟩ drp
 refine pur 5 rfl (Z1 ?_)
 exact rtA rfl rfl rfl ⟨by simp_all only [Zz, Grd.fine, Bool.true_and, Bool.false_and, cond_true, cond_false], rfl, rfl⟩ drp
theorem Z4t (x y : Grd) (hb : -9223372036854775808 ≤ y.price - x.price ∧ y.price - x.price ≤ 9223372036854775807) (H : Z6) (R : Z3) :
    FnV Tryz.prog 153 [.agg (Z3J x).toArray, .agg (Z3J y).toArray] H R (.int .i64 (y.price - x.price)) := by
 refine Z8 Tryz.func153 rfl Tryz.ntmps153 rfl ?_
 refine sqt 3 rfl (bx rfl rfl rfl (fun b2 => bx rfl rfl rfl (fun b3 => pur 1 rfl (sqt 6 rfl (sp rfl (PE.fA Z7t rfl) rfl (spL rfl rfl (lh sc3 rfl rfl) rfl (sp rfl (PE.fA Z7t rfl) rfl (spL rfl rfl (lh sc3 rfl rfl) rfl (sp rfl (PE.sub rfl rfl (by omega)) rfl (pur 1 rfl (Z1 ?_)))))))))))
 exact rtA rfl rfl rfl ⟨rfl, rfl, rfl⟩ drp
theorem Z9p (xs : List Grd) (a : Option Addr) (c : Nat) (hl : xs.length ≤ 9223372036854775807) (hb : ∀ x ∈ xs, 0 ≤ x.price ∧ x.price ≤ 100) (H : Z6) (R : Z3) [hR : MemRows a 5 (grows xs) R] :
    FnV Tryz.prog 152 [.slice a xs.length c, .func (.func 153) #[] #[]] H R (.bool (!((List.range xs.length).any (Z0o xs)))) := by
 refine Z8 Tryz.func152 rfl Tryz.ntmps152 rfl ?_
 refine sqt 1 rfl (pur 1 rfl (Z0 (sqt 4 rfl (pur 1 rfl (sp rfl (PE.lenSl ZaC rfl) rfl (sp rfl (PE.sub rfl rfl (by omega)) rfl (pur 1 rfl (Z4 ?_))))))))
 refine Zc (ι := {k : Nat // k ≤ xs.length ∧ ∀ i, k ≤ i + 1 → i + 1 < xs.length → Z0o xs i = false}) (fun k => ⟨[(0, .slice a xs.length c), (1, .func (.func 153) #[] #[]), (5, .int .i64 ((k.1 : Int) - 1))], H, R⟩) (fun k => k.1) ⟨xs.length, by omega, fun i h1 h2 => by omega⟩ ?_ (fun k => ?_)
 exact Zk idH
 obtain ⟨k, hk, hn⟩ := k
 dsimp only
 refine Z0 (sqt 2 rfl (pur 2 rfl ?_))
 refine Z2 rfl ?_ ?_ <;> intro hc0 <;> try simp only [cS] at hc0
 obtain ⟨k, rfl⟩ : ∃ j, k = j + 2 := ⟨k - 2, by omega⟩
 obtain ⟨y, hy⟩ : ∃ y, xs[k + 1]? = some y := ⟨_, List.getElem?_eq_getElem (by omega)⟩
 obtain ⟨x, hx⟩ : ∃ x, xs[k]? = some x := ⟨_, List.getElem?_eq_getElem (by omega)⟩
 have hbx := hb x (List.mem_of_getElem? hx)
 have hby := hb y (List.mem_of_getElem? hy)
 rw [show (((k + 2 : Nat) : Int) - 1) = (k + 1 : Nat) from by omega]
 refine Zl (a := a) (sz := 5) (rows := grows xs) (by cases xs <;> simp_all [grows]) (fun b off he => ?_)
 subst he
 refine Z5 (Z0 (Z4 (Z0 ?_)))
 refine Z9 [0, 0, 0, 6, 14, 0, 0, 64, 224, 480, 1023, 2047] (tks 0 4 (.ld 4 (tks 5 4 (.ld 9 (.big 10 (.tk 11 .done)))))) Zo (by kernel_rfl) ?_
 refine Zf 3 rfl (tk rfl (PE.indexAddr ZeX rfl rfl (by omega) (by omega)) rfl (ld rfl rfl (lfA ZcN (row := Z3J y) (Z9N (by simpa using hy)) rfl) rfl (Zf 2 rfl (tk rfl (PE.sub rfl rfl (by omega)) rfl (tk rfl (PE.indexAddr ZeX rfl rfl (by omega) (by omega)) rfl (ld rfl rfl (lfA ZcN (row := Z3J x) (Z9N (by rw [show (((k + 1 : Nat) : Int) - 1).toNat = k from by omega]; exact hx)) rfl) rfl ?_))))))
 refine Z1M rfl rfl (ZdN) rfl rfl (Z4t y x (by omega) _ _) ?_
 refine bgT (Zf 1 rfl ?_)
 refine Z2 rfl ?_ ?_ <;> intro hc1 <;> try simp only [cS] at hc1
 have hbn := Z5X hx hy (by omega)
 refine sqt 1 rfl (pur 1 rfl (Z1 ?_))
 exact rtA rfl rfl rfl ⟨by simp only [Zz]; rw [hbn]; rfl, rfl, rfl⟩ drp
 refine Z5 (sqr 3 rfl (pur 1 rfl (sp rfl (PE.sub rfl rfl (by omega)) rfl (pur 1 rfl ?_))))
 refine ZX ⟨k + 1, by omega, fun i h1 h2 => ?_⟩ (by dsimp only; omega) (by dsimp only; rw [show ((k + 1 : Nat) : Int) - 1 = ((k + 1 : Nat) : Int) - 1 from rfl]; exact (by repeat' first | exact Sub.nil | apply Sub.cons | rfl | (simp [lk]; omega))) idH
 rcases Nat.lt_or_ge k i with h3 | h3
 · exact hn i (by omega) h2
 · obtain rfl : i = k := by omega
   unfold Z0o
   rw [hx, hy]
   simp only [decide_eq_false_iff_not]
   omega
 have hbn := Z9a (l := xs) (fun i hi => hn i (by omega) hi)
 refine Za (Zb (Zb (Zr (sqt 1 rfl (pur 1 rfl (Z1 ?_))))))
 exact rtA rfl rfl rfl ⟨by simp only [Zz]; rw [hbn]; rfl, rfl, rfl⟩ drp
theorem Z1d (g : Gat) (ag : Option Addr) (cg : Nat) (hlg : g.grs.length ≤ 9223372036854775807) (H : Z6) (R : Z3) [hG : MemRows ag 5 (grows g.grs) R] :
    FnV Tryz.prog 76 [g.v (g.sl ag cg)] H R (.int .i64 g.check) := by
 refine Z8 Tryz.func76 rfl Tryz.ntmps76 rfl ?_
 refine sqt 2 rfl (bx rfl rfl rfl (fun b1 => pur 1 rfl (Z0 (Z4 (sqt 5 rfl (sp rfl (PE.fA Z4K rfl) rfl (spL rfl rfl (lh Z8I rfl rfl) rfl (sp rfl (PE.lenSl ZaC rfl) rfl (pur 2 rfl ?_)))))))))
 refine Z2 rfl ?_ ?_ <;> intro hc0
 have h8 : decide (4 < g.grs.length) = true := by simp only [decide_eq_true_eq] at hc0 ⊢; omega
 refine sqt 1 rfl (pur 1 rfl (Z1 ?_))
 exact rtA rfl rfl rfl ⟨congrArg (Value.int .i64) (by simp_all only [Zz, Gat.check, inb, cond_true, cond_false, Bool.not_true, Bool.not_false, Bool.not_eq_true', Bool.not_eq_false', Bool.true_or, Bool.or_true, Bool.false_or, Bool.or_false, gt_iff_lt]), rfl, rfl⟩ drp
 have h8 : decide (4 < g.grs.length) = false := by simp only [decide_eq_false_iff_not] at hc0 ⊢; omega
 refine sqt 11 rfl (sp rfl (PE.fA Z7A rfl) rfl (spL rfl rfl (lh sc3 rfl rfl) rfl ?_))
 refine clV rfl Z2N rfl rfl (Z2d _ _ _ _ _) ?_
 refine pur 2 rfl ?_
 refine Zp 13 rfl ?_ ?_ <;> intro g13
 refine pur 6 rfl ?_
 refine Zy rfl ?_
 refine sqt 1 rfl (pur 1 rfl (Z1 ?_))
 exact rtA rfl rfl rfl ⟨congrArg (Value.int .i64) (by simp_all only [Zz, Gat.check, inb, cond_true, cond_false, Bool.not_true, Bool.not_false, Bool.not_eq_true', Bool.not_eq_false', Bool.true_or, Bool.or_true, Bool.false_or, Bool.or_false, gt_iff_lt]), rfl, rfl⟩ drp
 refine spG rfl rfl rfl rfl (PE.fA Z4u rfl) rfl ?_
 refine Z0K rfl rfl rfl rfl rfl (lh sc3 rfl rfl) rfl ?_
 refine Z3c rfl rfl rfl rfl Z2N rfl rfl (Z2d _ _ _ _ _) ?_
 refine pur 3 rfl ?_
 refine Z2 rfl ?_ ?_ <;> intro hc1
 refine sqt 1 rfl (pur 1 rfl (Z1 ?_))
 exact rtA rfl rfl rfl ⟨congrArg (Value.int .i64) (by simp_all only [Zz, Gat.check, inb, cond_true, cond_false, Bool.not_true, Bool.not_false, Bool.not_eq_true', Bool.not_eq_false', Bool.true_or, Bool.or_true, Bool.false_or, Bool.or_false, gt_iff_lt]), rfl, rfl⟩ drp
 refine sqt 5 rfl (sp rfl (PE.fA Z4K rfl) rfl (spL rfl rfl (lh Z8I rfl rfl) rfl ?_))
 refine clV rfl ZcM rfl rfl (Z5a g.grs ag cg 149 [] [] Grd.fine Zcq (by omega) _ _ (fun _ _ x _ => Z4g x _ _)) ?_
 refine pur 2 rfl ?_
 refine Z2 rfl ?_ ?_ <;> intro hc2
 refine sqt 1 rfl (pur 1 rfl (Z1 ?_))
 exact rtA rfl rfl rfl ⟨congrArg (Value.int .i64) (by simp_all only [Zz, Gat.check, inb, cond_true, cond_false, Bool.not_true, Bool.not_false, Bool.not_eq_true', Bool.not_eq_false', Bool.true_or, Bool.or_true, Bool.false_or, Bool.or_false, gt_iff_lt]), rfl, rfl⟩ drp
 have hfi : g.grs.all Grd.fine = true := by rw [← Bool.not_eq_false']; exact hc2
 refine sqt 5 rfl (sp rfl (PE.fA Z4K rfl) rfl (spL rfl rfl (lh Z8I rfl rfl) rfl ?_))
 refine clV rfl ZcQ rfl rfl (Z9p g.grs ag cg (by omega) (fun x hx => by have := List.all_eq_true.1 hfi x hx; simp only [Grd.fine, inb, Bool.and_eq_true, decide_eq_true_eq] at this; exact this.1) _ _) ?_
 refine pur 2 rfl ?_
 refine Z2 rfl ?_ ?_ <;> intro hc3
 refine sqt 1 rfl (pur 1 rfl (Z1 ?_))
 exact rtA rfl rfl rfl ⟨congrArg (Value.int .i64) (by simp_all only [Zz, Gat.check, inb, cond_true, cond_false, Bool.not_true, Bool.not_false, Bool.not_eq_true', Bool.not_eq_false', Bool.true_or, Bool.or_true, Bool.false_or, Bool.or_false, gt_iff_lt]), rfl, rfl⟩ drp
 refine Z5 (sqt 1 rfl (pur 1 rfl (Z1 ?_)))
 exact rtA rfl rfl rfl ⟨congrArg (Value.int .i64) (by simp_all only [Zz, Gat.check, inb, cond_true, cond_false, Bool.not_true, Bool.not_false, Bool.not_eq_true', Bool.not_eq_false', Bool.true_or, Bool.or_true, Bool.false_or, Bool.or_false, gt_iff_lt]), rfl, rfl⟩ drp
theorem Zau (n : Int) (H : Z6) (R : Z3) :
    FnV Tryz.prog 69 [.int .i64 n] H R (.bool (inb n 0 200)) := by
 refine Z8 Tryz.func69 rfl Tryz.ntmps69 rfl ?_
 refine sqt 1 rfl (pur 1 rfl (sqt 3 rfl (pur 1 rfl ?_)))
 refine clV rfl Z2N rfl rfl (Z2d _ _ _ _ _) ?_
 refine pur 1 rfl (Z1 ?_)
 exact rtA rfl rfl rfl ⟨rfl, rfl, rfl⟩ drp
theorem Zc6 (h : Hnd) (H : Z6) (R : Z3) :
    FnV Tryz.prog 67 [.agg (Z12 h).toArray] H R (.bool h.fine) := by
 refine Z8 Tryz.func67 rfl Tryz.ntmps67 rfl ?_
 refine sqt 2 rfl (bx rfl rfl rfl (fun b1 => pur 1 rfl (sqt 9 rfl (sp rfl (PE.fA Zdx rfl) rfl (spL rfl rfl (lh sc3 rfl rfl) rfl ?_)))))
 refine clV rfl Z2N rfl rfl (Z2d _ _ _ _ _) ?_
 refine pur 1 rfl ?_
 refine Zp 6 rfl ?_ ?_ <;> intro g6
 refine spG rfl rfl rfl rfl (PE.fA Z0r rfl) rfl ?_
 refine spG rfl rfl rfl rfl (PE.slArr Z2m rfl) rfl ?_
 refine Sy.heap (fun w h => St.rows1 h) ?_
 refine Z3c rfl rfl rfl rfl ZdM rfl rfl (Z0d h.gs (some ⟨b1, 1, none⟩) 4 69 [] [] (fun n => inb n 0 200) ZeK (by simp [Hnd.gs]) _ _ (fun _ y _ => Zau y _ _)) ?_
 refine pur 2 rfl (Z1 ?_)
 exact rtA rfl rfl rfl ⟨by simp_all only [Zz, Hnd.fine, Bool.true_and, Bool.false_and, cond_true, cond_false], rfl, rfl⟩ drp
 refine pur 5 rfl (Z1 ?_)
 exact rtA rfl rfl rfl ⟨by simp_all only [Zz, Hnd.fine, Bool.true_and, Bool.false_and, cond_true, cond_false], rfl, rfl⟩ drp
theorem Ze1 (h : Hnd) (hf : h.fine = true) (H : Z6) (R : Z3) :
    FnV Tryz.prog 70 [.agg (Z12 h).toArray] H R (.bool (inb h.tot 10 200)) := by
 refine Z8 Tryz.func70 rfl Tryz.ntmps70 rfl ?_
 refine sqt 2 rfl (bx rfl rfl rfl (fun b1 => pur 1 rfl (sqt 5 rfl (sp rfl (PE.fA Z0r rfl) rfl (spL rfl rfl (lhA [.int .i64 h.a, .int .i64 h.b, .int .i64 h.c, .int .i64 h.d] Z35 rfl rfl rfl) rfl ?_)))))
 refine clV rfl ZcS rfl rfl (ZbX h.a h.b h.c h.d (by simp only [Hnd.fine, Hnd.gs, inb, List.all_cons, List.all_nil, Bool.and_true, Bool.and_eq_true, decide_eq_true_eq] at hf; intro x hx; simp only [List.mem_cons, List.not_mem_nil, or_false] at hx; rcases hx with rfl | rfl | rfl | rfl <;> omega) _ _) ?_
 refine clV rfl Z2N rfl rfl (Z2d _ _ _ _ _) ?_
 refine pur 1 rfl (Z1 ?_)
 exact rtA rfl rfl rfl ⟨rfl, rfl, rfl⟩ drp
theorem Z0F (c : Crt) (ah : Option Addr) (ch : Nat) (hlh : c.hs.length ≤ 9223372036854775807) (H : Z6) (R : Z3) [hA : MemRows ah 5 (hrows c.hs) R] :
    FnV Tryz.prog 31 [c.v (c.sl ah ch)] H R (.int .i64 c.check) := by
 refine Z8 Tryz.func31 rfl Tryz.ntmps31 rfl ?_
 refine sqt 2 rfl (bx rfl rfl rfl (fun b1 => pur 1 rfl (Z0 (Z4 (sqt 5 rfl (sp rfl (PE.fA Z06 rfl) rfl (spL rfl rfl (lh Z49 rfl rfl) rfl (sp rfl (PE.lenSl Z55 rfl) rfl (pur 2 rfl ?_)))))))))
 refine Z2 rfl ?_ ?_ <;> intro hc0
 have h8 : decide (6 < c.hs.length) = true := by simp only [decide_eq_true_eq] at hc0 ⊢; omega
 refine sqt 1 rfl (pur 1 rfl (Z1 ?_))
 exact rtA rfl rfl rfl ⟨congrArg (Value.int .i64) (by simp_all only [Zz, Crt.check, inb, cond_true, cond_false, Bool.not_true, Bool.not_false, Bool.not_eq_true', Bool.not_eq_false', Bool.true_or, Bool.or_true, Bool.false_or, Bool.or_false, gt_iff_lt]), rfl, rfl⟩ drp
 have h8 : decide (6 < c.hs.length) = false := by simp only [decide_eq_false_iff_not] at hc0 ⊢; omega
 refine sqt 11 rfl (sp rfl (PE.fA Z8g rfl) rfl (spL rfl rfl (lh sc3 rfl rfl) rfl ?_))
 refine clV rfl Z2N rfl rfl (Z2d _ _ _ _ _) ?_
 refine pur 2 rfl ?_
 refine Zp 13 rfl ?_ ?_ <;> intro g13
 refine pur 6 rfl ?_
 refine Zy rfl ?_
 refine sqt 1 rfl (pur 1 rfl (Z1 ?_))
 exact rtA rfl rfl rfl ⟨congrArg (Value.int .i64) (by simp_all only [Zz, Crt.check, inb, cond_true, cond_false, Bool.not_true, Bool.not_false, Bool.not_eq_true', Bool.not_eq_false', Bool.true_or, Bool.or_true, Bool.false_or, Bool.or_false, gt_iff_lt]), rfl, rfl⟩ drp
 refine spG rfl rfl rfl rfl (PE.fA Z7u rfl) rfl ?_
 refine Z0K rfl rfl rfl rfl rfl (lh sc3 rfl rfl) rfl ?_
 refine Z3c rfl rfl rfl rfl Z2N rfl rfl (Z2d _ _ _ _ _) ?_
 refine pur 3 rfl ?_
 refine Z2 rfl ?_ ?_ <;> intro hc1
 refine sqt 1 rfl (pur 1 rfl (Z1 ?_))
 exact rtA rfl rfl rfl ⟨congrArg (Value.int .i64) (by simp_all only [Zz, Crt.check, inb, cond_true, cond_false, Bool.not_true, Bool.not_false, Bool.not_eq_true', Bool.not_eq_false', Bool.true_or, Bool.or_true, Bool.false_or, Bool.or_false, gt_iff_lt]), rfl, rfl⟩ drp
 refine sqt 5 rfl (sp rfl (PE.fA Z06 rfl) rfl (spL rfl rfl (lh Z49 rfl rfl) rfl ?_))
 refine clV rfl ZcU rfl rfl (Z2u c.hs ah ch 67 [] [] Hnd.fine Zfv (by omega) _ _ (fun _ _ x _ => Zc6 x _ _)) ?_
 refine pur 2 rfl ?_
 refine Z2 rfl ?_ ?_ <;> intro hc2
 refine sqt 1 rfl (pur 1 rfl (Z1 ?_))
 exact rtA rfl rfl rfl ⟨congrArg (Value.int .i64) (by simp_all only [Zz, Crt.check, inb, cond_true, cond_false, Bool.not_true, Bool.not_false, Bool.not_eq_true', Bool.not_eq_false', Bool.true_or, Bool.or_true, Bool.false_or, Bool.or_false, gt_iff_lt]), rfl, rfl⟩ drp
 have hfi : c.hs.all Hnd.fine = true := by rw [← Bool.not_eq_false']; exact hc2
 refine sqt 5 rfl (sp rfl (PE.fA Z06 rfl) rfl (spL rfl rfl (lh Z49 rfl rfl) rfl ?_))
 refine clV rfl ZcU rfl rfl (Z2u c.hs ah ch 70 [] [] (fun h => inb h.tot 10 200) ZfK (by omega) _ _ (fun _ _ x hx => Ze1 x (List.all_eq_true.1 hfi x hx) _ _)) ?_
 refine pur 2 rfl ?_
 refine Z2 rfl ?_ ?_ <;> intro hc3
 refine sqt 1 rfl (pur 1 rfl (Z1 ?_))
 exact rtA rfl rfl rfl ⟨congrArg (Value.int .i64) (by simp_all only [Zz, Crt.check, inb, cond_true, cond_false, Bool.not_true, Bool.not_false, Bool.not_eq_true', Bool.not_eq_false', Bool.true_or, Bool.or_true, Bool.false_or, Bool.or_false, gt_iff_lt]), rfl, rfl⟩ drp
 refine Z5 (sqt 1 rfl (pur 1 rfl (Z1 ?_)))
 exact rtA rfl rfl rfl ⟨congrArg (Value.int .i64) (by simp_all only [Zz, Crt.check, inb, cond_true, cond_false, Bool.not_true, Bool.not_false, Bool.not_eq_true', Bool.not_eq_false', Bool.true_or, Bool.or_true, Bool.false_or, Bool.or_false, gt_iff_lt]), rfl, rfl⟩ drp
theorem Z0m : Z0W Tryz.prog 104 = some 8 := by kernel_rfl
theorem Z34 : Z0W Tryz.prog 27 = some 3 := by kernel_rfl
theorem Z0N : Z0W Tryz.prog 30 = some 3 := by kernel_rfl
theorem Z2T : Z0W Tryz.prog 41 = some 2 := by kernel_rfl
theorem Z1i : arN Tryz.prog 104 = some (4, 2) := by kernel_rfl
theorem ZdO : arE Tryz.prog 104 = some (4, 41) := by kernel_rfl
theorem Z9U : cal Tryz.prog 145 = true := by kernel_rfl
theorem Zdf : cal Tryz.prog 146 = true := by kernel_rfl
theorem Z9d : cal Tryz.prog 31 = true := by kernel_rfl
theorem Z4R : cal Tryz.prog 75 = true := by kernel_rfl
theorem Zg0 : cal Tryz.prog 76 = true := by kernel_rfl
theorem Z1g : Zx Tryz.prog 104 = some 8 := by kernel_rfl
theorem ZbL : Zx Tryz.prog 38 = some 5 := by kernel_rfl
theorem Z1E : Zx Tryz.prog 41 = some 2 := by kernel_rfl
theorem Zdl : eqB Tryz.prog 10000 104 = some (true, 8) := by kernel_rfl
theorem Z9g : eqB Tryz.prog 10000 41 = some (true, 2) := by kernel_rfl
theorem ZcX : Tryz.prog.eqGuardType Tryz.prog.depth 104 = false := by kernel_rfl
theorem ZbF : Tryz.prog.eqGuardType Tryz.prog.depth 41 = false := by kernel_rfl
theorem Zb4 : ZJ Tryz.prog 160 0 = some 0 := by kernel_rfl
theorem Z5g : ZJ Tryz.prog 164 0 = some 0 := by kernel_rfl
theorem Z46 : ZJ Tryz.prog 164 1 = some 3 := by kernel_rfl
theorem ZM : ZJ Tryz.prog 41 0 = some 0 := by kernel_rfl
theorem ZQ : ZJ Tryz.prog 41 1 = some 1 := by kernel_rfl
theorem ZeS : ZB Tryz.prog 164 = some [(0, 3), (3, 3)] := by kernel_rfl
theorem Z3j : ZB Tryz.prog 41 = some [(0, 1), (1, 1)] := by kernel_rfl
theorem Z1G : Zs Tryz.prog 104 = some ([.int .i64 0, .int .i64 0, .int .i64 0, .int .i64 0, .int .i64 0, .int .i64 0, .int .i64 0, .int .i64 0]) := by kernel_rfl
theorem Zfn : Zs Tryz.prog 164 = some ([.int .i64 0, .int .i64 0, .slice none 0 0, .int .i64 0, .int .i64 0, .slice none 0 0]) := by kernel_rfl
theorem ZaT : Zs Tryz.prog 38 = some ([.int .i64 0, .int .i64 0, .int .i64 0, .int .i64 0, .int .i64 0]) := by kernel_rfl
theorem Z0R : Zs Tryz.prog 41 = some ([.int .i64 0, .int .i64 0]) := by kernel_rfl
theorem Z8U {b : Box} (hb : b.length = 8) {k : Nat} (hk : k < 4) : (Zd b).drop (0 + ((k : Nat) : Int).toNat * 2) = [.int .i64 (bl b k), .int .i64 (bh b k)] ++ (Zd b).drop (2 * k + 2) := by
  obtain ⟨a0, a1, a2, a3, a4, a5, a6, a7, rfl⟩ := Z42 hb
  rcases lt4 hk with rfl | rfl | rfl | rfl <;> rfl
theorem Z2t {b : Box} (hb : b.length = 8) {k : Nat} (hk : k < 4) (s : Int × Int) : (Zd (Z16 b k s)).drop (0 + ((k : Nat) : Int).toNat * 2) = [.int .i64 s.1, .int .i64 s.2] ++ (Zd b).drop (2 * k + 2) := by
  obtain ⟨a0, a1, a2, a3, a4, a5, a6, a7, rfl⟩ := Z42 hb
  rcases lt4 hk with rfl | rfl | rfl | rfl <;> rfl
theorem Z4O {b : Box} (hb : b.length = 8) {k : Nat} (hk : k < 4) (x y : Int) : spl (Zd b) (0 + ((k : Nat) : Int).toNat * 2) [.int .i64 x, .int .i64 y] = Zd (Z16 b k (x, y)) := by
  obtain ⟨a0, a1, a2, a3, a4, a5, a6, a7, rfl⟩ := Z42 hb
  rcases lt4 hk with rfl | rfl | rfl | rfl <;> rfl
theorem Z6N {b : Box} (hb : b.length = 8) {k : Nat} (hk : k < 4) (s t : Int × Int) : Z16 (Z16 b k s) k t = Z16 b k t := by
  obtain ⟨a0, a1, a2, a3, a4, a5, a6, a7, rfl⟩ := Z42 hb
  rcases lt4 hk with rfl | rfl | rfl | rfl <;> rfl
theorem Z8x {b : Box} (hb : b.length = 8) {k : Nat} (hk : k < 4) : (b.drop (k * 2)).take 2 = [bl b k, bh b k] := by
  obtain ⟨a0, a1, a2, a3, a4, a5, a6, a7, rfl⟩ := Z42 hb
  rcases lt4 hk with rfl | rfl | rfl | rfl <;> rfl
theorem Z6V {h : Hnd} {k : Nat} (hk : k < 4) : (Z12 h)[0 + 1 + ((k : Nat) : Int).toNat * 1]? = some (.int .i64 (nn h.gs k)) := by
  rcases lt4 hk with rfl | rfl | rfl | rfl <;> rfl
theorem mix_at {m : List Int} (hm : m.length = 4) {k : Nat} (hk : k < 4) : (Zd m)[0 + ((k : Nat) : Int).toNat * 1]? = some (.int .i64 (nn m k)) := by
  obtain ⟨a, b, c, d, rfl⟩ := Z3S hm
  rcases lt4 hk with rfl | rfl | rfl | rfl <;> rfl
theorem Z3o {m : List Int} (hm : m.length = 4) {k : Nat} (hk : k < 4) (v : Int) : spl (Zd m) (0 + ((k : Nat) : Int).toNat * 1) [.int .i64 v] = Zd (m.set k v) := by
  obtain ⟨a, b, c, d, rfl⟩ := Z3S hm
  rcases lt4 hk with rfl | rfl | rfl | rfl <;> rfl
theorem Z5c {m n : Int} (hm : -1000000 ≤ m ∧ m ≤ 1000000) (hn : 1 ≤ n) : IntKind.i64.wrap (m.tdiv n) = m.tdiv n := by
  have h : -1000000 ≤ m.tdiv n ∧ m.tdiv n ≤ 1000000 := by
    by_cases h0 : 0 ≤ m
    · rw [Int.tdiv_eq_ediv_of_nonneg h0]
      have := Int.ediv_le_self (a := m) n h0
      have := Int.ediv_nonneg h0 (show 0 ≤ n by omega)
      omega
    · have h4 : m.tdiv n = -((-m).tdiv n) := by rw [Int.neg_tdiv]; omega
      have h5 : 0 ≤ (-m).tdiv n := Int.tdiv_nonneg (by omega) (by omega)
      have h6 : (-m).tdiv n ≤ -m := by rw [Int.tdiv_eq_ediv_of_nonneg (by omega)]; exact Int.ediv_le_self n (by omega)
      omega
  exact ZO (by omega) (by omega)
def Z9J (miss : Int) (hs : List Hnd) (f : Nat → Bool) : Nat → Box
  | 0 => [0, 0, 0, 0, 0, 0, 0, 0]
  | k + 1 => Z16 (Z9J miss hs f k) k (Z2c miss hs f k)
theorem Z5P (miss : Int) (hs : List Hnd) (f : Nat → Bool) : ∀ k, (Z9J miss hs f k).length = 8
  | 0 => rfl
  | k + 1 => by unfold Z9J; rw [Z1B, Z5P miss hs f k]
theorem Z94 (miss : Int) (hs : List Hnd) (f : Nat → Bool) : Z9J miss hs f 4 = Z3d miss hs f := rfl
theorem Z6v {miss : Int} {hs : List Hnd} {f : Nat → Bool} {k n : Nat} {h : Hnd} (hh : hs[n]? = some h) (hf : f n = true) : ZR miss hs f k (n + 1) = met (ZR miss hs f k n).1 (ZR miss hs f k n).2 (Z9u miss h k).1 (Z9u miss h k).2 := by
  rw [ZR, hh]; simp only [hf, cond_true]
theorem Z6n {miss : Int} {hs : List Hnd} {f : Nat → Bool} {k n : Nat} {h : Hnd} (hh : hs[n]? = some h) (hf : f n = false) : ZR miss hs f k (n + 1) = ZR miss hs f k n := by
  rw [ZR, hh]; simp only [hf, cond_false]
def Z2C (f : Nat → Int) (k : Nat) : Nat → Int
  | 0 => 0
  | j + 1 => Z2C f k j + bif j == k then 0 else f j
theorem Z7c (f : Nat → Int) {k : Nat} (hk : k < 4) : Z2C f k 4 = oth f k := by
  rcases lt4 hk with rfl | rfl | rfl | rfl <;> simp [Z2C, oth]
theorem Z7J {b : Box} (hb : Bok b) (k : Nat) : ∀ j, j ≤ 4 → (0 ≤ Z2C (bl b) k j ∧ Z2C (bl b) k j ≤ 40 * j) ∧ (0 ≤ Z2C (bh b) k j ∧ Z2C (bh b) k j ≤ 40 * j)
  | 0, _ => by simp [Z2C]
  | j + 1, hj => by
    have ih := Z7J hb k j (by omega)
    have h := hb.at_ j (by omega)
    unfold Z2C
    cases j == k <;> simp only [cond_true, cond_false] <;> omega
theorem Z6G {b : Box} {k : Nat} : ∀ {j : Nat}, Z2S b k = none → k ≤ j → Z2S b j = none
  | 0, h, hj => by
    have : k = 0 := by omega
    subst this; exact h
  | j + 1, h, hj => by
    rcases Nat.lt_or_ge j k with h1 | h1
    · obtain rfl : k = j + 1 := by omega
      exact h
    · unfold Z2S; rw [Z6G h h1]
theorem Z0y (g : Gat) (ag : Option Addr) (cg : Nat) (hlg : g.grs.length ≤ 9223372036854775807) (c : Crt) (ah : Option Addr) (ch : Nat) (hlh : c.hs.length ≤ 9223372036854775807) (H : Z6) (R : Z3) [hG : MemRows ag 5 (grows g.grs) R] [hA : MemRows ah 5 (hrows c.hs) R] :
    Fn Tryz.prog 35 [g.v (g.sl ag cg), c.v (c.sl ah ch)] H R (fun v H' R' => H' = H ∧ ((Z0w g c ≠ 0 ∧ v = .tuple #[.pointer none, .int .i64 (Z0w g c)] ∧ R' = R) ∨ (g.ok ∧ c.ok ∧ Z0w g c = 0 ∧ ∃ bw, v = .tuple #[.pointer (some ⟨bw, 0, none⟩), .int .i64 0] ∧ R' = RowsA (some ⟨bw, 0, none⟩) 6 [Z9k g c (g.sl ag cg) (c.sl ah ch)] :: R))) := by
 refine Z8 Tryz.func35 rfl Tryz.ntmps35 rfl ?_
 refine sqt 4 rfl (bx rfl rfl rfl (fun b2 => bx rfl rfl rfl (fun b3 => pur 2 rfl (Z0 (sqt 3 rfl (spL rfl rfl (lhA [_, _, _] Z34 rfl rfl rfl) rfl ?_))))))
 refine clV rfl Zg0 rfl rfl (Z1d g ag cg hlg _ _) ?_
 refine pur 1 rfl (sqt 2 rfl (pur 2 rfl ?_))
 refine Z2 rfl ?_ ?_ <;> intro hc0
 have e : Z0w g c = g.check := by simp [Z0w, hc0]
 have hne : Z0w g c ≠ 0 := by rw [e]; simpa using hc0
 refine sqt 3 rfl (pur 3 rfl (Z1 ?_))
 first
   | (rw [h1] at e; refine Sy.heap (fun w h => St.rows (sz := 6) (rows := [Z9k g c (g.sl ag cg) (c.sl ah ch)]) (rest := []) h (by intro r hr; obtain rfl := List.mem_singleton.1 hr; rfl)) ?_; exact rtB rfl rfl rfl rfl ⟨rfl, .inr ⟨gat_ok.1 h0, crt_ok.1 h1, e, _, rfl, rfl⟩⟩ drp)
   | (rw [← e]; exact rtB rfl rfl rfl rfl ⟨rfl, .inl ⟨hne, rfl, rfl⟩⟩ drp)
 have h0 : g.check = 0 := by simpa using hc0
 have e : Z0w g c = c.check := by simp [Z0w, h0]
 refine Z5 (Z0 (sqt 3 rfl (spL rfl rfl (lhA [_, _, _] Z0N rfl rfl rfl) rfl ?_)))
 refine clV rfl Z9d rfl rfl (Z0F c ah ch hlh _ _) ?_
 refine pur 1 rfl (sqt 2 rfl (pur 2 rfl ?_))
 refine Z2 rfl ?_ ?_ <;> intro hc1
 have hne : Z0w g c ≠ 0 := by rw [e]; simpa using hc1
 refine sqt 3 rfl (pur 3 rfl (Z1 ?_))
 first
   | (rw [h1] at e; refine Sy.heap (fun w h => St.rows (sz := 6) (rows := [Z9k g c (g.sl ag cg) (c.sl ah ch)]) (rest := []) h (by intro r hr; obtain rfl := List.mem_singleton.1 hr; rfl)) ?_; exact rtB rfl rfl rfl rfl ⟨rfl, .inr ⟨gat_ok.1 h0, crt_ok.1 h1, e, _, rfl, rfl⟩⟩ drp)
   | (rw [← e]; exact rtB rfl rfl rfl rfl ⟨rfl, .inl ⟨hne, rfl, rfl⟩⟩ drp)
 have h1 : c.check = 0 := by simpa using hc1
 refine Z5 (sqt 6 rfl (spL rfl rfl (lhA [_, _, _] Z0N rfl rfl rfl) rfl (spL rfl rfl (lhA [_, _, _] Z34 rfl rfl rfl) rfl (sp rfl (PE.build (out := Z9k g c (g.sl ag cg) (c.sl ah ch)) ZeS Zfn rfl rfl) rfl (bx rfl rfl rfl (fun b21 => pur 2 rfl (Z1 ?_)))))))
 first
   | (rw [h1] at e; refine Sy.heap (fun w h => St.rows (sz := 6) (rows := [Z9k g c (g.sl ag cg) (c.sl ah ch)]) (rest := []) h (by intro r hr; obtain rfl := List.mem_singleton.1 hr; rfl)) ?_; exact rtB rfl rfl rfl rfl ⟨rfl, .inr ⟨gat_ok.1 h0, crt_ok.1 h1, e, _, rfl, rfl⟩⟩ drp)
   | (rw [← e]; exact rtB rfl rfl rfl rfl ⟨rfl, .inl ⟨hne, rfl, rfl⟩⟩ drp)
theorem Z8L (g : Gat) (hg : g.ok) (ag : Option Addr) (cg : Nat) (c : Crt) (hc : c.ok) (ah : Option Addr) (ch : Nat) (bw : Nat) (H : Z6) (R : Z3) [hW : MemRows (some ⟨bw, 0, none⟩) 6 [Z9k g c (g.sl ag cg) (c.sl ah ch)] R] [hG : MemRows ag 5 (grows g.grs) R] [hA : MemRows ah 5 (hrows c.hs) R] :
    FnV Tryz.prog 34 [.pointer (some ⟨bw, 0, none⟩)] H R (spv (max 0 (c.full - c.empty - 2 * g.err)) (max 0 (c.full - c.empty + 2 * g.err))) := by
 refine Z8 Tryz.func34 rfl Tryz.ntmps34 rfl ?_
 refine sqt 1 rfl (alc rfl Z0R rfl (fun b2 => Z0 ?_))
 refine Z9 [0, 1, 3, 7, 15, 0, 32, 96, 224, 480, 1023, 2047] (tks 0 4 (.ld 4 (tks 5 4 (.ld 9 (.tk 10 (.tk 11 .done)))))) Zo (by kernel_rfl) ?_
 refine Zf 1 rfl (tk rfl (PE.nilCheck rfl) rfl (tk rfl (PE.fA Z5g rfl) rfl (tk rfl (PE.fA Z8g rfl) rfl (ld rfl rfl (lfB (sz := 6) sc3 rfl) rfl (Zf 1 rfl (tk rfl (PE.nilCheck rfl) rfl (tk rfl (PE.fA Z5g rfl) rfl (tk rfl (PE.fA Z7u rfl) rfl (ld rfl rfl (lfB (sz := 6) sc3 rfl) rfl (tk rfl (PE.sub rfl rfl (by have := hc.full; have := hc.empty; have := hg.err; omega)) rfl (Zf 1 rfl (Z0 ?_))))))))))))
 refine Z9 [0, 0, 2, 6, 14, 30, 62, 127, 255, 511, 0, 0, 2048, 6144, 14336, 30720, 63488, 130048, 261120, 524287, 1048575, 2097151] (tks 0 5 (.ld 5 (.tk 6 (.tk 7 (tks 10 5 (.ld 15 (.tk 16 (.tk 17 (.any (.alt 8 (.any (.alt 9 (.big 18 (.big 19 (.tk 20 (.big 21 .done)))) (.alt 18 (.big 9 (.big 19 (.tk 20 (.big 21 .done)))) .stop))) (.alt 18 (.big 8 (.big 9 (.big 19 (.tk 20 (.big 21 .done))))) .stop))))))))))) Zo (by kernel_rfl) ?_
 refine Zf 2 rfl (tk rfl (PE.nilCheck rfl) rfl (tk rfl (PE.fA Z46 rfl) rfl (tk rfl (PE.fA Z7A rfl) rfl (ld rfl rfl (lfB (sz := 6) sc3 rfl) rfl (tk rfl (PE.mul rfl rfl (by have := hc.full; have := hc.empty; have := hg.err; omega)) rfl (tk rfl (PE.sub rfl rfl (by have := hc.full; have := hc.empty; have := hg.err; omega)) rfl (Zf 2 rfl (tk rfl (PE.nilCheck rfl) rfl (tk rfl (PE.fA Z46 rfl) rfl (tk rfl (PE.fA Z7A rfl) rfl (ld rfl rfl (lfB (sz := 6) sc3 rfl) rfl (tk rfl (PE.mul rfl rfl (by have := hc.full; have := hc.empty; have := hg.err; omega)) rfl (tk rfl (PE.add rfl rfl (by have := hc.full; have := hc.empty; have := hg.err; omega)) rfl ?_)))))))))))))
 refine ZH ?_ ?_
 refine bsl (out := [_]) rfl Z4a zl3 rfl rfl rfl rfl rfl rfl (fun b23 => ?_)
 refine bg (fun w hs => ⟨(lfB (sz := 6) sc3 rfl) w hs, trivial, trivial⟩) ?_
 refine ZH ?_ ?_
 refine clV rfl Z4R rfl rfl (Z0A _ b23 _ _) ?_
 refine bg (fun w hs => ⟨(lfB (sz := 6) sc3 rfl) w hs, trivial⟩) ?_
 refine bsl (out := [_]) rfl Z4a zl3 rfl rfl rfl rfl rfl rfl (fun b33 => ?_)
 refine bgT ?_
 refine clV rfl Z4R rfl rfl (Z0A _ b33 _ _) ?_
 refine bgT (tk rfl (PE.build (out := [_, _]) Z3j Z0R rfl rfl) rfl ?_)
 refine sto rfl rfl rfl Z1E rfl rfl rfl rfl ?_
 refine bgT (Z1 ?_)
 exact Z7 (vs := [_]) rfl (.cons (RV.cell rfl (lhA [_, _] Z2T rfl rfl rfl)) .nil) rfl ⟨rfl, rfl, rfl⟩ drp
 refine ZH ?_ ?_
 refine bsl (out := [_]) rfl Z4a zl3 rfl rfl rfl rfl rfl rfl (fun b33 => ?_)
 refine bgT ?_
 refine clV rfl Z4R rfl rfl (Z0A _ b23 _ _) ?_
 refine bgT ?_
 refine clV rfl Z4R rfl rfl (Z0A _ b33 _ _) ?_
 refine bgT (tk rfl (PE.build (out := [_, _]) Z3j Z0R rfl rfl) rfl ?_)
 refine sto rfl rfl rfl Z1E rfl rfl rfl rfl ?_
 refine bgT (Z1 ?_)
 exact Z7 (vs := [_]) rfl (.cons (RV.cell rfl (lhA [_, _] Z2T rfl rfl rfl)) .nil) rfl ⟨rfl, rfl, rfl⟩ drp
 exact ZZ
 refine ZH ?_ ?_
 refine bsl (out := [_]) rfl Z4a zl3 rfl rfl rfl rfl rfl rfl (fun b33 => ?_)
 refine bg (fun w hs => ⟨trivial, (lfB (sz := 6) sc3 rfl) w hs, trivial⟩) ?_
 refine bsl (out := [_]) rfl Z4a zl3 rfl rfl rfl rfl rfl rfl (fun b23 => ?_)
 refine bgT ?_
 refine clV rfl Z4R rfl rfl (Z0A _ b23 _ _) ?_
 refine bgT ?_
 refine clV rfl Z4R rfl rfl (Z0A _ b33 _ _) ?_
 refine bgT (tk rfl (PE.build (out := [_, _]) Z3j Z0R rfl rfl) rfl ?_)
 refine sto rfl rfl rfl Z1E rfl rfl rfl rfl ?_
 refine bgT (Z1 ?_)
 exact Z7 (vs := [_]) rfl (.cons (RV.cell rfl (lhA [_, _] Z2T rfl rfl rfl)) .nil) rfl ⟨rfl, rfl, rfl⟩ drp
 exact ZZ
theorem Zch (g : Gat) (hg : g.ok) (ag : Option Addr) (cg : Nat) (c : Crt) (hc : c.ok) (ah : Option Addr) (ch : Nat) (bw : Nat) (h : Hnd) (hh : h.ok) (k : Nat) (hk : k < 4) (H : Z6) (R : Z3) [hW : MemRows (some ⟨bw, 0, none⟩) 6 [Z9k g c (g.sl ag cg) (c.sl ah ch)] R] [hG : MemRows ag 5 (grows g.grs) R] [hA : MemRows ah 5 (hrows c.hs) R] :
    FnV Tryz.prog 146 [.pointer (some ⟨bw, 0, none⟩), .agg (Z12 h).toArray, .int .i64 k] H R (spv (Z9u g.miss h k).1 (Z9u g.miss h k).2) := by
 have hm := hg.miss
 have ht := hh.tot
 have hgr := hh.at_ k hk
 have hab : ∀ x ∈ [h.a, h.b, h.c, h.d], -1000000 ≤ x ∧ x ≤ 1000000000000000 := fun x hx => by
   obtain ⟨a0, a1, a2, a3⟩ := Z4B hh.at_
   simp only [nn, Hnd.gs, List.getD_cons_zero, List.getD_cons_succ] at a0 a1 a2 a3
   simp only [List.mem_cons, List.not_mem_nil, or_false] at hx
   rcases hx with rfl | rfl | rfl | rfl <;> omega
 refine Z8 Tryz.func146 rfl Tryz.ntmps146 rfl ?_
 refine sqt 2 rfl (bx rfl rfl rfl (fun b4 => alc rfl Z0R rfl (fun b6 => Z0 ?_)))
 refine Z9 [0, 1, 3, 0, 0, 24, 56, 7, 255] (.tk 0 (.ld 1 (tks 3 3 (.ld 6 (.big 2 (.tk 7 (.tk 8 .done))))))) Zo (by kernel_rfl) ?_
 refine tk rfl (PE.fA Z0r rfl) rfl (ld rfl rfl (lhA [.int .i64 h.a, .int .i64 h.b, .int .i64 h.c, .int .i64 h.d] Z35 rfl rfl rfl) rfl (Zf 1 rfl (tk rfl (PE.fA Z0r rfl) rfl (tk rfl (PE.indexArr Z2m rfl rfl (by omega) (by omega)) rfl (ld rfl rfl (lh sc3 rfl (Z6V hk)) rfl ?_)))))
 refine clV rfl ZcS rfl rfl (ZbX h.a h.b h.c h.d hab _ _) ?_
 refine bg (fun w hs => ⟨(lh sc3 rfl (Z6V hk)) w hs, trivial, trivial⟩) ?_
 refine Zf 2 rfl (Z0 ?_)
 refine Z9 [0, 0, 2, 6, 14, 30, 63, 127, 0, 0, 512, 1536, 3584, 7680, 16128, 32512, 255, 131071] (tks 0 5 (.ld 5 (tks 6 7 (.ld 13 (tks 14 4 .done))))) Zo (by kernel_rfl) ?_
 rw [show h.a + h.b + h.c + h.d = h.tot from rfl]
 refine Zf 2 rfl (tk rfl (PE.nilCheck rfl) rfl (tk rfl (PE.fA Z46 rfl) rfl (tk rfl (PE.fA Z4u rfl) rfl (ld rfl rfl (lfB (sz := 6) sc3 rfl) rfl (tk rfl (PE.sub rfl rfl (by omega)) rfl (tk rfl (PE.mul rfl rfl (by omega)) rfl (Zf 2 rfl (tk rfl (PE.nilCheck rfl) rfl (tk rfl (PE.fA Z46 rfl) rfl (tk rfl (PE.fA Z4u rfl) rfl (ld rfl rfl (lfB (sz := 6) sc3 rfl) rfl (tk rfl (PE.add rfl rfl (by omega)) rfl (tk rfl (PE.mul rfl rfl (by omega)) rfl (Zf 2 rfl (Z0 ?_)))))))))))))))
 refine Z9 [0, 0, 3, 7, 0, 31, 63, 127, 0, 0, 768, 1792, 4095, 8191] (tks 0 6 (tks 8 4 (.big 6 (.big 7 (.tk 12 (.big 13 .done)))))) Zo (by kernel_rfl) ?_
 refine Zf 2 rfl (tk rfl (PE.add rfl rfl (by omega)) rfl (tk rfl (PE.sub rfl rfl (by omega)) rfl (Zf 1 rfl ?_)))
 refine tk rfl ((PE.quoW rfl rfl (by omega)).to (by rw [Z5c (by omega) (by omega)])) rfl ?_
 refine Zf 2 rfl ?_
 refine tk rfl ((PE.quoW rfl rfl (by omega)).to (by rw [Z5c (by omega) (by omega)])) rfl ?_
 refine tk rfl (PE.min rfl rfl) rfl ?_
 refine bsl (out := [_]) rfl Z4a zl3 rfl rfl rfl rfl rfl rfl (fun b40 => ?_)
 refine bgT ?_
 refine clV rfl Z4R rfl rfl (Z0A _ b40 _ _) ?_
 refine bgT (tk rfl (PE.build (out := [_, _]) Z3j Z0R rfl rfl) rfl ?_)
 refine sto rfl rfl rfl Z1E rfl rfl rfl rfl ?_
 refine bgT (Z1 ?_)
 exact Z7 (vs := [_]) rfl (.cons (RV.cell rfl (lhA [_, _] Z2T rfl rfl rfl)) .nil) rfl ⟨rfl, rfl, rfl⟩ drp
theorem Zcs (l h l2 h2 : Int) (H : Z6) (R : Z3) :
    FnV Tryz.prog 145 [spv l h, spv l2 h2] H R (spv (met l h l2 h2).1 (met l h l2 h2).2) := by
 refine Z8 Tryz.func145 rfl Tryz.ntmps145 rfl ?_
 refine sqt 3 rfl (bx rfl rfl rfl (fun b2 => bx rfl rfl rfl (fun b3 => alc rfl Z0R rfl (fun b4 => sqt 13 rfl (sp rfl (PE.fA ZM rfl) rfl (spL rfl rfl (lh sc3 rfl rfl) rfl (sp rfl (PE.fA ZM rfl) rfl (spL rfl rfl (lh sc3 rfl rfl) rfl (sp rfl (PE.max rfl rfl) rfl (sp rfl (PE.fA ZQ rfl) rfl (spL rfl rfl (lh sc3 rfl rfl) rfl (sp rfl (PE.fA ZQ rfl) rfl (spL rfl rfl (lh sc3 rfl rfl) rfl (sp rfl (PE.min rfl rfl) rfl (sp rfl (PE.build (out := [_, _]) Z3j Z0R rfl rfl) rfl ?_)))))))))))))))
 refine alc rfl Z0R rfl (fun b5 => ?_)
 refine sto rfl rfl rfl Z1E rfl rfl rfl rfl ?_
 refine Z0 (sqt 5 rfl (sp rfl (PE.fA ZM rfl) rfl (spL rfl rfl (lh sc3 rfl rfl) rfl (sp rfl (PE.fA ZQ rfl) rfl (spL rfl rfl (lh sc3 rfl rfl) rfl (pur 1 rfl ?_))))))
 refine Z2 rfl ?_ ?_ <;> intro hc0
 have e : met l h l2 h2 = (1, 0) := by unfold met; rw [dT (show min h h2 < max l l2 by simpa using hc0)]; rfl
 refine sqt 2 rfl (sp rfl (PE.build (out := [_, _]) Z3j Z0R rfl rfl) rfl ?_)
 refine sto rfl rfl rfl Z1E rfl rfl rfl rfl ?_
 refine Z1 ?_
 rw [e]
 exact Z7 (vs := [_]) rfl (.cons (RV.cell rfl (lhA [_, _] Z2T rfl rfl rfl)) .nil) rfl ⟨rfl, rfl, rfl⟩ drp
 have e : met l h l2 h2 = (max l l2, min h h2) := by unfold met; rw [dF (show ¬ min h h2 < max l l2 by simpa using hc0)]; rfl
 refine Z5 (sqt 2 rfl (spL rfl rfl (lhA [_, _] Z2T rfl rfl rfl) rfl ?_))
 refine sto rfl rfl rfl Z1E rfl rfl rfl rfl ?_
 refine Z1 ?_
 rw [e]
 exact Z7 (vs := [_]) rfl (.cons (RV.cell rfl (lhA [_, _] Z2T rfl rfl rfl)) .nil) rfl ⟨rfl, rfl, rfl⟩ drp
theorem ZeW (g : Gat) (hg : g.ok) (ag : Option Addr) (cg : Nat) (c : Crt) (hc : c.ok) (ah : Option Addr) (ch : Nat) (bw : Nat) (gf : Nat) (cap : List Value) (f : Nat → Bool) (hgf : cal Tryz.prog gf = true) (H : Z6) (R : Z3) [hW : MemRows (some ⟨bw, 0, none⟩) 6 [Z9k g c (g.sl ag cg) (c.sl ah ch)] R] [hG : MemRows ag 5 (grows g.grs) R] [hA : MemRows ah 5 (hrows c.hs) R] (hf : ∀ (G : Z6) (i : Nat), i < c.hs.length → FnV Tryz.prog gf ([.int .i64 i] ++ cap) (G ++ H) R (.bool (f i))) :
    FnV Tryz.prog 72 [.pointer (some ⟨bw, 0, none⟩), .agg #[.func (.func gf) #[] cap.toArray]] H R (bxv (Z3d g.miss c.hs f)) := by
 refine Z8 Tryz.func72 rfl Tryz.ntmps72 rfl ?_
 refine sqt 2 rfl (bx rfl rfl rfl (fun b3 => alc rfl Z1G rfl (fun b4 => sqt 1 rfl (alc rfl Z1G rfl (fun b5 => Z0 (sqt 1 rfl (pur 1 rfl (Z4 ?_))))))))
 refine Zc (ι := {k : Nat // k ≤ 4}) (fun k => ⟨[(0, .pointer (some ⟨bw, 0, none⟩)), (3, .pointer (some ⟨b3, 0, none⟩)), (4, .pointer (some ⟨b4, 0, none⟩)), (5, .pointer (some ⟨b5, 0, none⟩)), (9, .int .i64 k.1)], (b5, cel 104 (Zd (Z9J g.miss c.hs f k.1))) :: (b4, cel 104 (Zd [0, 0, 0, 0, 0, 0, 0, 0])) :: (b3, cel 160 [.func (.func gf) #[] cap.toArray]) :: H, R⟩) (fun k => 4 - k.1) ⟨0, by omega⟩ ?_ (fun k => ?_)
 exact Zk idH
 obtain ⟨k, hk⟩ := k
 dsimp only at hk ⊢
 refine sqt 1 rfl (pur 1 rfl (Z0 ?_))
 refine Z2 rfl ?_ ?_ <;> intro hc0 <;> try simp only [cS] at hc0
 have hk4 : k < 4 := by omega
 have hbl := Z5P g.miss c.hs f k
 refine Z5 (Z0 (Z4 (sqt 2 rfl (pur 2 rfl (sqt 4 rfl (pur 1 rfl (sp rfl (PE.build (out := [_, _]) Z3j Z0R rfl rfl) rfl (sp rfl (PE.indexArr Z1i rfl rfl (by omega) (by omega)) rfl ?_))))))))
 refine Z02 (l' := Zd (Z16 (Z9J g.miss c.hs f k) k (0, 40))) rfl rfl rfl Z1E rfl rfl rfl (Z4O hbl hk4 0 40) (by rw [ints_length, hbl]; show 0 + ((k : Nat) : Int).toNat * 2 + 2 ≤ 8; omega) ?_
 refine sqt 7 rfl (pur 1 rfl (sp rfl (PE.nilCheck rfl) rfl (sp rfl (PE.fA Z5g rfl) rfl (sp rfl (PE.fA Z06 rfl) rfl (spL rfl rfl (lfB (sz := 6) Z49 rfl) rfl (sp rfl (PE.lenSl Z55 rfl) rfl (pur 1 rfl (Z4 ?_))))))))
 refine Zc (ι := {i : Nat // i ≤ c.hs.length}) (fun i => ⟨[(0, .pointer (some ⟨bw, 0, none⟩)), (3, .pointer (some ⟨b3, 0, none⟩)), (4, .pointer (some ⟨b4, 0, none⟩)), (5, .pointer (some ⟨b5, 0, none⟩)), (9, .int .i64 k), (6, .int .i64 k), (19, c.sl ah ch), (20, .int .i64 c.hs.length), (21, .int .i64 i.1)], (b5, cel 104 (Zd (Z16 (Z9J g.miss c.hs f k) k (ZR g.miss c.hs f k i.1)))) :: (b4, cel 104 (Zd [0, 0, 0, 0, 0, 0, 0, 0])) :: (b3, cel 160 [.func (.func gf) #[] cap.toArray]) :: H, R⟩) (fun i => c.hs.length - i.1) ⟨0, by omega⟩ ?_ (fun i => ?_)
 exact Zk idH
 obtain ⟨i, hi⟩ := i
 dsimp only at hi ⊢
 have hmany := hc.many
 refine sqt 1 rfl (pur 1 rfl (Z0 ?_))
 refine Z2 rfl ?_ ?_ <;> intro hc1 <;> try simp only [cS] at hc1
 obtain ⟨h, hh⟩ : ∃ h, c.hs[i]? = some h := ⟨_, List.getElem?_eq_getElem (by omega)⟩
 have hok := hc.hs h (List.mem_of_getElem? hh)
 refine Zl (a := ah) (sz := 5) (rows := hrows c.hs) (by intro h0; simp [hrows] at h0; simp [h0] at hh) (fun ba oa he => ?_)
 subst he
 refine Z5 (Z0 (Z4 (sqt 6 rfl (pur 1 rfl (sp rfl (PE.indexAddr Zep rfl rfl (by omega) (by omega)) rfl (spL rfl rfl (lfA Z8m (row := Z12 h) (ZbS (by simpa using hh)) rfl) rfl (alc rfl ZaT rfl (fun b8 => pur 1 rfl ?_))))))))
 refine sto rfl rfl rfl ZbL rfl rfl rfl rfl ?_
 refine sqt 4 rfl (sp rfl (PE.fA Zb4 rfl) rfl (spL rfl rfl (lh Z3w rfl rfl) rfl (pur 1 rfl ?_)))
 refine Z1M rfl rfl (hgf) rfl rfl (hf [_, _, _, _] i (by omega)) ?_
 refine Z2 rfl ?_ ?_ <;> intro hc2
 have hst := Z6v (miss := g.miss) (k := k) hh hc2
 refine Z9 [0, 0, 2, 6, 0, 0, 0, 112, 254, 511, 1023] (tks 0 3 (.ld 3 (.tk 4 (.ld 5 (.tk 6 (.big 7 (.big 8 (.tk 9 (.big 10 .done))))))))) Zo (by kernel_rfl) ?_
 refine Zf 2 rfl (tk rfl (PE.indexArr Z1i rfl rfl (by omega) (by omega)) rfl (ld rfl rfl (lhA [.int .i64 (ZR g.miss c.hs f k i).1, .int .i64 (ZR g.miss c.hs f k i).2] Z2T rfl (Z2t hbl hk4 _) rfl) rfl (Zf 1 rfl (ld rfl rfl (lhA [_, _, _, _, _] Z8m rfl rfl rfl) rfl (Zf 1 rfl ?_)))))
 refine clV rfl Zdf rfl rfl (Zch g hg ag cg c hc (some ⟨ba, oa, none⟩) ch bw h hok k hk4 _ _) ?_
 refine bg (fun w hs => ⟨trivial, (lhA [.int .i64 (ZR g.miss c.hs f k i).1, .int .i64 (ZR g.miss c.hs f k i).2] Z2T rfl (Z2t hbl hk4 _) rfl) w hs, trivial⟩) ?_
 refine clV rfl Z9U rfl rfl (Zcs _ _ _ _ _ _) ?_
 refine bgT (tk rfl (PE.indexArr Z1i rfl rfl (by omega) (by omega)) rfl ?_)
 rw [← hst]
 refine Z02 (l' := Zd (Z16 (Z9J g.miss c.hs f k) k (ZR g.miss c.hs f k (i + 1)))) rfl rfl rfl Z1E rfl rfl rfl (by show spl _ _ [.int .i64 _, .int .i64 _] = _; rw [Z4O (by rw [Z1B]; exact hbl) hk4, Z6N hbl hk4]) (by rw [ints_length, Z1B, hbl]; show 0 + ((k : Nat) : Int).toNat * 2 + 2 ≤ 8; omega) ?_
 refine bgT (sqr 2 rfl (sp rfl (PE.add rfl rfl (by omega)) rfl (pur 1 rfl ?_)))
 first
   | exact Zi ⟨i + 1, by omega⟩ (by dsimp only; omega) (fun w h => h.del b8)
   | exact Zi ⟨i + 1, by omega⟩ (by dsimp only; omega) (fun w h => by dsimp only; rw [hst]; exact h.del b8)
 have hst := Z6n (miss := g.miss) (k := k) hh hc2
 refine Z5 (sqr 2 rfl (sp rfl (PE.add rfl rfl (by omega)) rfl (pur 1 rfl ?_)))
 first
   | exact Zi ⟨i + 1, by omega⟩ (by dsimp only; omega) (fun w h => h.del b8)
   | exact Zi ⟨i + 1, by omega⟩ (by dsimp only; omega) (fun w h => by dsimp only; rw [hst]; exact h.del b8)
 obtain rfl : i = c.hs.length := by omega
 refine Za (Zb (Zb (Zr (sqr 2 rfl (sp rfl (PE.add rfl rfl (by omega)) rfl (pur 1 rfl ?_))))))
 exact Ze ⟨k + 1, by omega⟩ idH
 obtain rfl : k = 4 := by omega
 rw [Z94]
 refine Za (Zb (Zb (Zr (sqt 2 rfl (spL rfl rfl (lhA [_, _, _, _, _, _, _, _] Z0m rfl rfl rfl) rfl ?_)))))
 refine sto rfl rfl rfl Z1g rfl rfl rfl rfl ?_
 refine Z1 ?_
 exact Z7 (vs := [_]) rfl (.cons (RV.cell rfl (lhA [_, _, _, _, _, _, _, _] Z0m rfl rfl rfl)) .nil) rfl ⟨rfl, rfl, rfl⟩ drp
theorem Z95 (b : Box) (hb : Bok b) (H : Z6) (R : Z3) :
    Fn Tryz.prog 74 [bxv b] H R (fun v H' R' => H' = H ∧ R' = R ∧ ∃ c, c.length = 8 ∧ v = .tuple #[bxv c, .bool (clo b).isSome] ∧ ((clo b).isSome = true → clo b = some c)) := by
 refine Z8 Tryz.func74 rfl Tryz.ntmps74 rfl ?_
 refine sqt 3 rfl (bx rfl rfl rfl (fun b1 => alc rfl Z1G rfl (fun b2 => pur 1 rfl (sqt 3 rfl (sp rfl (PE.build (out := [_, _]) Z3j Z0R rfl rfl) rfl (alc rfl Z0R rfl (fun b4 => ?_)))))))
 refine sto rfl rfl rfl Z1E rfl rfl rfl rfl ?_
 refine Z4 ?_
 refine Zc (ι := {d : Box // Bok d ∧ ∀ r, CloseR d r → CloseR b r}) (fun d => ⟨[(1, .pointer (some ⟨b1, 0, none⟩)), (2, .pointer (some ⟨b2, 0, none⟩)), (4, .pointer (some ⟨b4, 0, none⟩))], (b1, cel 104 (Zd d.1)) :: (b4, cel 41 (Zd [1, 0])) :: (b2, cel 104 (Zd [0, 0, 0, 0, 0, 0, 0, 0])) :: H, R⟩) (fun d => wid d.1) ⟨b, hb, fun _ h => h⟩ ?_ (fun d => ?_)
 exact Zk (fun _ h => St.sub (((h.pull b2).pull b4).pull b1))
 obtain ⟨d, hd, hdr⟩ := d
 dsimp only at hd hdr ⊢
 refine Z4 (sqt 3 rfl (spL rfl rfl (lhA (Zd d) Z0m rfl (rest := []) (by simp) (by rw [ints_length]; exact hd.len)) rfl (alc rfl Z1G rfl (fun b5 => ?_))))
 refine Z48 rfl rfl rfl Z1g rfl (by rw [ints_length]; exact hd.len) rfl (ZD _) ?_
 refine Z0 (sqt 1 rfl (pur 1 rfl (Z4 ?_)))
 refine Zc (ι := {x : Nat × Box // x.1 ≤ 4 ∧ Z2S d x.1 = some x.2 ∧ Bok x.2}) (fun x => ⟨[(1, .pointer (some ⟨b1, 0, none⟩)), (2, .pointer (some ⟨b2, 0, none⟩)), (4, .pointer (some ⟨b4, 0, none⟩)), (5, .pointer (some ⟨b5, 0, none⟩)), (13, .int .i64 x.1.1)], (b5, cel 104 (Zd d)) :: (b1, cel 104 (Zd x.1.2)) :: (b4, cel 41 (Zd [1, 0])) :: (b2, cel 104 (Zd [0, 0, 0, 0, 0, 0, 0, 0])) :: H, R⟩) (fun x => 4 - x.1.1) ⟨(0, d), by omega, rfl, hd⟩ ?_ (fun x => ?_)
 exact Zk idH
 obtain ⟨⟨k, e⟩, hk, hr, he⟩ := x
 dsimp only at hk hr he ⊢
 refine sqt 1 rfl (pur 1 rfl (Z0 ?_))
 refine Z2 rfl ?_ ?_ <;> intro hc0 <;> try simp only [cS] at hc0
 have hk4 : k < 4 := by omega
 refine Z5 (Z0 (Z4 (sqt 2 rfl (pur 2 rfl (sqt 2 rfl (pur 2 rfl (Z0 (sqt 2 rfl (spL rfl rfl (lhA (Zd e) Z0m rfl (rest := []) (by simp) (by rw [ints_length]; exact he.len)) rfl (pur 1 rfl (Z4 ?_)))))))))))
 refine Zc (ι := {j : Nat // j ≤ 4}) (fun j => ⟨[(1, .pointer (some ⟨b1, 0, none⟩)), (2, .pointer (some ⟨b2, 0, none⟩)), (4, .pointer (some ⟨b4, 0, none⟩)), (5, .pointer (some ⟨b5, 0, none⟩)), (6, .int .i64 k), (7, .int .i64 (Z2C (bl e) k j.1)), (8, .int .i64 (Z2C (bh e) k j.1)), (13, .int .i64 k), (16, bxv e), (17, .int .i64 j.1)], (b5, cel 104 (Zd d)) :: (b1, cel 104 (Zd e)) :: (b4, cel 41 (Zd [1, 0])) :: (b2, cel 104 (Zd [0, 0, 0, 0, 0, 0, 0, 0])) :: H, R⟩) (fun j => 4 - j.1) ⟨0, by omega⟩ ?_ (fun j => ?_)
 exact Zk idH
 obtain ⟨j, hj⟩ := j
 dsimp only at hj ⊢
 have hob := Z7J he k j hj
 refine sqt 1 rfl (pur 1 rfl (Z0 ?_))
 refine Z2 rfl ?_ ?_ <;> intro hc1 <;> try simp only [cS] at hc1
 have hj4 : j < 4 := by omega
 have hej := he.at_ j hj4
 refine Z5 (Z0 (Z4 (sqt 5 rfl (pur 1 rfl ?_))))
 refine sp rfl ((PE.indexI (l := e) ZdO (Z0n 10000 41 true 2 Z9g) (by simp) rfl rfl hj4 (by rw [he.len]; omega)).to (by rw [Z8x he.len hj4])) rfl ?_
 refine alc rfl Z0R rfl (fun b10 => pur 1 rfl ?_)
 refine sto rfl rfl rfl Z1E rfl rfl rfl rfl ?_
 refine sqt 3 rfl (pur 3 rfl ?_)
 refine Z2 rfl ?_ ?_ <;> intro hc2 <;> try simp only [cS] at hc2
 have e1 : Z2C (bl e) k (j + 1) = Z2C (bl e) k j + bl e j := by rw [Z2C, show (j == k) = false from by simp; omega]; rfl
 have e2 : Z2C (bh e) k (j + 1) = Z2C (bh e) k j + bh e j := by rw [Z2C, show (j == k) = false from by simp; omega]; rfl
 refine Z9 [0, 0, 2, 7, 0, 0, 32, 112, 15, 511] (.tk 0 (.tk 1 (.ld 2 (tks 3 3 (.ld 6 (tks 7 3 .done)))))) Zo (by kernel_rfl) ?_
 refine Zf 1 rfl (tk rfl (PE.fA ZM rfl) rfl (ld rfl rfl (lh sc3 rfl rfl) rfl (tk rfl (PE.add rfl rfl (by omega)) rfl (Zf 1 rfl (tk rfl (PE.fA ZQ rfl) rfl (ld rfl rfl (lh sc3 rfl rfl) rfl (tk rfl (PE.add rfl rfl (by omega)) rfl (Zf 2 rfl (sqr 2 rfl (sp rfl (PE.add rfl rfl (by omega)) rfl (pur 1 rfl ?_)))))))))))
 exact ZX ⟨j + 1, by omega⟩ (by dsimp only; omega) (by dsimp only; rw [e1, e2]; exact (by repeat' first | exact Sub.nil | apply Sub.cons | rfl | (simp [lk]; omega))) (fun w h => h.del b10)
 have e1 : Z2C (bl e) k (j + 1) = Z2C (bl e) k j := by rw [Z2C, show (j == k) = true from by simp; omega]; simp
 have e2 : Z2C (bh e) k (j + 1) = Z2C (bh e) k j := by rw [Z2C, show (j == k) = true from by simp; omega]; simp
 refine Z5 (sqr 2 rfl (sp rfl (PE.add rfl rfl (by omega)) rfl (pur 1 rfl ?_)))
 exact ZX ⟨j + 1, by omega⟩ (by dsimp only; omega) (by dsimp only; rw [e1, e2]; exact (by repeat' first | exact Sub.nil | apply Sub.cons | rfl | (simp [lk]; omega))) (fun w h => h.del b10)
 obtain rfl : j = 4 := by omega
 rw [Z7c _ hk4, Z7c _ hk4] at *
 refine Za (Zb (Zb (Zr (sqt 12 rfl (pur 2 rfl (sp rfl (PE.indexArr Z1i rfl rfl (by omega) (by omega)) rfl (spL rfl rfl (lhA [.int .i64 (bl e k), .int .i64 (bh e k)] Z2T rfl (Z8U he.len hk4) rfl) rfl (pur 1 rfl (sp rfl (PE.sub rfl rfl (by omega)) rfl (pur 1 rfl (sp rfl (PE.sub rfl rfl (by omega)) rfl (sp rfl (PE.build (out := [_, _]) Z3j Z0R rfl rfl) rfl ?_))))))))))))
 refine clV rfl Z9U rfl rfl (Zcs _ _ _ _ _ _) ?_
 refine sp rfl (PE.indexArr Z1i rfl rfl (by omega) (by omega)) rfl ?_
 refine Z02 (l' := Zd (Z16 e k (ZG e k))) rfl rfl rfl Z1E rfl rfl rfl (Z4O he.len hk4 _ _) (by rw [ints_length, he.len]; show 0 + ((k : Nat) : Int).toNat * 2 + 2 ≤ 8; omega) ?_
 have hbk : Bok (Z16 e k (ZG e k)) := he.set hk4
 refine Z0 ?_
 refine Z9 [0, 1, 3, 0, 15] (.tk 0 (.tk 1 (.ld 2 (.ld 3 (.tk 4 .done))))) Zo (by kernel_rfl) ?_
 refine Zf 1 rfl (tk rfl (PE.indexArr Z1i rfl rfl (by omega) (by omega)) rfl (ld rfl rfl (lhA [.int .i64 (ZG e k).1, .int .i64 (ZG e k).2] Z2T rfl (Z2t he.len hk4 _) rfl) rfl (ld rfl rfl (lhA [_, _] Z2T rfl rfl rfl) rfl (tk rfl (PE.eqlAgg [(ZG e k).1, (ZG e k).2] [1, 0] (Z0n 10000 41 true 2 Z9g) ZbF rfl rfl rfl rfl) rfl ?_))))
 refine Z2 rfl ?_ ?_ <;> intro hc3
 have hs1 : ZG e k = (1, 0) := by simpa [Prod.ext_iff] using hc3
 have hrn : Z2S d 4 = none := Z6G (k := k + 1) (by unfold Z2S; rw [hr]; simp [hs1]) (by omega)
 have hcl := (hdr _ (.no hrn)).clo hb
 refine sqt 3 rfl (spL rfl rfl (lhA (Zd (Z16 e k (ZG e k))) Z0m rfl (rest := []) (by simp) (by rw [ints_length]; exact hbk.len)) rfl ?_)
 refine Z48 rfl rfl rfl Z1g rfl (by rw [ints_length]; exact hbk.len) rfl (ZD _) ?_
 refine pur 1 rfl (Z1 ?_)
 rw [hcl]
 first
   | exact Z7 (vs := [_, _]) rfl (.cons (RV.cell rfl (lhA (Zd e) Z0m rfl (rest := []) (by simp) (by rw [ints_length]; exact he.len))) (.cons (RV.tmp rfl) .nil)) rfl ⟨rfl, rfl, e, he.len, rfl, fun _ => rfl⟩ (fun w h => ((h.del b5).del b1).tail.tail)
   | exact Z7 (vs := [_, _]) rfl (.cons (RV.cell rfl (lhA (Zd (Z16 e k (ZG e k))) Z0m rfl (rest := []) (by simp) (by rw [ints_length]; exact hbk.len))) (.cons (RV.tmp rfl) .nil)) rfl ⟨rfl, rfl, Z16 e k (ZG e k), hbk.len, rfl, fun h => by cases h⟩ (fun w h => ((h.del b5).del b1).tail.tail)
 have hs1 : ZG e k ≠ (1, 0) := by simpa [Prod.ext_iff] using hc3
 have hrn : Z2S d (k + 1) = some (Z16 e k (ZG e k)) := by
   unfold Z2S
   rw [hr]
   show (bif ZG e k == (1, 0) then none else some (Z16 e k (ZG e k))) = _
   rw [show (ZG e k == (1, 0)) = false from by rw [beq_eq_false_iff_ne]; exact hs1]
   rfl
 refine Z5 (sqr 2 rfl (sp rfl (PE.add rfl rfl (by omega)) rfl (pur 1 rfl ?_)))
 exact Ze ⟨(k + 1, Z16 e k (ZG e k)), by omega, hrn, hbk⟩ idH
 obtain rfl : k = 4 := by omega
 refine Za (Zb (Zb (Zr (sqt 3 rfl (spL rfl rfl (lhA (Zd e) Z0m rfl (rest := []) (by simp) (by rw [ints_length]; exact he.len)) rfl (spL rfl rfl (lhA (Zd d) Z0m rfl (rest := []) (by simp) (by rw [ints_length]; exact hd.len)) rfl (sp rfl (PE.eqlAgg e d (Z0n 10000 104 true 8 Zdl) ZcX rfl rfl he.len hd.len) rfl ?_)))))))
 refine Z2 rfl ?_ ?_ <;> intro hc4
 obtain rfl : e = d := by simpa using hc4
 have hcl := (hdr _ (.fix hr)).clo hb
 refine sqt 3 rfl (spL rfl rfl (lhA (Zd e) Z0m rfl (rest := []) (by simp) (by rw [ints_length]; exact he.len)) rfl ?_)
 refine Z48 rfl rfl rfl Z1g rfl (by rw [ints_length]; exact he.len) rfl (ZD _) ?_
 refine pur 1 rfl (Z1 ?_)
 rw [hcl]
 first
   | exact Z7 (vs := [_, _]) rfl (.cons (RV.cell rfl (lhA (Zd e) Z0m rfl (rest := []) (by simp) (by rw [ints_length]; exact he.len))) (.cons (RV.tmp rfl) .nil)) rfl ⟨rfl, rfl, e, he.len, rfl, fun _ => rfl⟩ (fun w h => ((h.del b5).del b1).tail.tail)
   | exact Z7 (vs := [_, _]) rfl (.cons (RV.cell rfl (lhA (Zd (Z16 e k (ZG e k))) Z0m rfl (rest := []) (by simp) (by rw [ints_length]; exact hbk.len))) (.cons (RV.tmp rfl) .nil)) rfl ⟨rfl, rfl, Z16 e k (ZG e k), hbk.len, rfl, fun h => by cases h⟩ (fun w h => ((h.del b5).del b1).tail.tail)
 have hne : e ≠ d := by simpa using hc4
 refine Z5 ?_
 exact Zi ⟨e, he, fun r h => hdr r (.go hr hne h)⟩ (Z7i hd hr hne) (fun w h => h.del b5)
theorem ZeM : Z0W Tryz.prog 160 = some 1 := by kernel_rfl
theorem ZdK : cal Tryz.prog 147 = true := by kernel_rfl
theorem Z8Y : cal Tryz.prog 34 = true := by kernel_rfl
theorem ZcZ : cal Tryz.prog 35 = true := by kernel_rfl
theorem Zey : cal Tryz.prog 72 = true := by kernel_rfl
theorem Zg7 : cal Tryz.prog 73 = true := by kernel_rfl
theorem ZeN : cal Tryz.prog 74 = true := by kernel_rfl
theorem Zfd : Zx Tryz.prog 160 = some 1 := by kernel_rfl
theorem ZeR : ZB Tryz.prog 160 = some [(0, 1)] := by kernel_rfl
theorem Zdg : Zs Tryz.prog 160 = some ([.nilFunc]) := by kernel_rfl
theorem Z18 {l : List Int} {i j : Nat} {v : Int} (h : i < l.length) : nn (l.set i v) j = bif i == j then v else nn l j := by
  unfold nn
  simp only [List.getD_eq_getElem?_getD, List.getElem?_set]
  by_cases hij : i = j
  · subst hij; simp [h]
  · have : (i == j) = false := by simpa using hij
    simp [hij, this]
theorem Z1R {l : List Int} (h : l.length = 4) {i : Nat} (hi : i < 4) (v : Int) : Z1w (l.set i v) = Z1w l + v - nn l i := by
  obtain ⟨a, b, c, d, rfl⟩ := Z3S h
  rcases lt4 hi with rfl | rfl | rfl | rfl <;> simp [Z1w, nn] <;> omega
def ZU (g : Gat) (c : Crt) (bad : Bool) : Int := bif decide (Z0w g c ≠ 0) then Z0w g c else bif bad then 1 else bif (clo (Z3d g.miss c.hs fun _ => true)).isNone then 7 else 0
def zbx : Box := [0, 0, 0, 0, 0, 0, 0, 0]
theorem Zf9 (H : Z6) (R : Z3) :
    FnV Tryz.prog 73 [] H R (.agg #[.func (.func 147) #[] #[]]) := by
 refine Z8 Tryz.func73 rfl Tryz.ntmps73 rfl ?_
 refine sqt 1 rfl (alc rfl Zdg rfl (fun b0 => sqt 2 rfl (sp rfl (PE.build (out := [_]) ZeR Zdg rfl rfl) rfl ?_)))
 refine sto rfl rfl rfl Zfd rfl rfl rfl rfl ?_
 refine Z1 ?_
 exact Z7 (vs := [_]) rfl (.cons (RV.cell rfl (lhA [_] ZeM rfl rfl rfl)) .nil) rfl ⟨rfl, rfl, rfl⟩ drp
theorem ZcE (i : Int) (H : Z6) (R : Z3) :
    FnV Tryz.prog 147 [.int .i64 i] H R (.bool true) := by
 refine Z8 Tryz.func147 rfl Tryz.ntmps147 rfl ?_
 refine sqt 1 rfl (pur 1 rfl (sqt 1 rfl (pur 1 rfl (Z1 ?_))))
 exact rtA rfl rfl rfl ⟨rfl, rfl, rfl⟩ drp
theorem Z4p (g : Gat) (ag : Option Addr) (cg : Nat) (hlg : g.grs.length ≤ 9223372036854775807) (c : Crt) (ah : Option Addr) (ch : Nat) (hlh : c.hs.length ≤ 9223372036854775807) (bad : Bool) (H : Z6) (R : Z3) [hG : MemRows ag 5 (grows g.grs) R] [hA : MemRows ah 5 (hrows c.hs) R] :
    Fn Tryz.prog 32 [g.v (g.sl ag cg), c.v (c.sl ah ch), .bool bad] H R (fun v H' R' => H' = H ∧ ((ZU g c bad ≠ 0 ∧ v = .tuple #[.pointer none, bxv zbx, .int .i64 (ZU g c bad)] ∧ R' = R) ∨ (ZU g c bad = 0 ∧ g.ok ∧ c.ok ∧ ∃ bw b, clo (Z3d g.miss c.hs fun _ => true) = some b ∧ v = .tuple #[.pointer (some ⟨bw, 0, none⟩), bxv b, .int .i64 0] ∧ R' = RowsA (some ⟨bw, 0, none⟩) 6 [Z9k g c (g.sl ag cg) (c.sl ah ch)] :: R))) := by
 refine Z8 Tryz.func32 rfl Tryz.ntmps32 rfl ?_
 refine sqt 5 rfl (bx rfl rfl rfl (fun b3 => bx rfl rfl rfl (fun b4 => pur 1 rfl (alc rfl Z1G rfl (fun b7 => pur 1 rfl (sqt 8 rfl (spL rfl rfl (lhA [_, _, _] Z34 rfl rfl rfl) rfl (spL rfl rfl (lhA [_, _, _] Z0N rfl rfl rfl) rfl ?_))))))))
 refine cl rfl ZcZ rfl rfl (Z0y g ag cg hlg c ah ch hlh _ _) ?_
 rintro _ _ _ ⟨rfl, ho⟩
 rcases ho with ⟨hne, rfl, rfl⟩ | ⟨hg, hc, h0, bw, rfl, rfl⟩
 refine pur 5 rfl (Z0 (Z4 (sqt 3 rfl (pur 3 rfl ?_))))
 refine Z2 rfl ?_ ?_ <;> intro hc0
 have e : ZU g c bad = Z0w g c := by simp [ZU, hne]
 refine sqt 5 rfl (sp rfl (PE.zero (.inr (by rw [Z1i]; rfl)) Z1G) rfl (pur 2 rfl ?_))
 refine sto rfl rfl rfl Z1g rfl rfl rfl rfl ?_
 refine pur 1 rfl (Z1 ?_)
 rw [← e]
 rw [← e] at hne
 exact Z7 (vs := [_, _, _]) rfl (.cons (RV.tmp rfl) (.cons (RV.cell rfl (lhA (Zd zbx) Z0m rfl rfl rfl)) (.cons (RV.tmp rfl) .nil))) rfl ⟨rfl, .inl ⟨hne, rfl, rfl⟩⟩ drp
 exact absurd hc0 (by simp [hne])
 refine pur 5 rfl (Z0 (Z4 (sqt 3 rfl (pur 3 rfl ?_))))
 refine Z2 rfl ?_ ?_ <;> intro hc0
 exact absurd hc0 (by simp)
 refine sqt 2 rfl (pur 2 rfl ?_)
 refine Z2 rfl ?_ ?_ <;> intro hc1
 have e : ZU g c bad = 1 := by simp [ZU, h0, hc1]
 have hne : ZU g c bad ≠ 0 := by omega
 refine sqt 4 rfl (sp rfl (PE.zero (.inr (by rw [Z1i]; rfl)) Z1G) rfl (pur 1 rfl ?_))
 refine sto rfl rfl rfl Z1g rfl rfl rfl rfl ?_
 refine pur 1 rfl (Z1 ?_)
 first
   | exact Z7 (vs := [_, _, _]) rfl (.cons (RV.tmp rfl) (.cons (RV.cell rfl (lhA (Zd b) Z0m rfl (rest := []) (by rw [List.append_nil]; rfl) (by rw [ints_length]; exact hbl))) (.cons (RV.tmp rfl) .nil))) rfl ⟨rfl, .inr ⟨e, hg, hc, bw, b, hb, rfl, rfl⟩⟩ drp
   | (rw [e] at *; exact Z7 (vs := [_, _, _]) rfl (.cons (RV.tmp rfl) (.cons (RV.cell rfl (lhA (Zd zbx) Z0m rfl rfl rfl)) (.cons (RV.tmp rfl) .nil))) rfl ⟨rfl, .inl ⟨hne, rfl, rfl⟩⟩ drp)
 subst hc1
 refine Z5 (sqt 10 rfl (pur 1 rfl ?_))
 refine clV rfl Zg7 rfl rfl (Zf9 _ _) ?_
 refine clV rfl Zey rfl rfl (ZeW g hg ag cg c hc ah ch bw 147 [] (fun _ => true) ZdK _ _ (fun G i _ => ZcE i _ _)) ?_
 refine cl rfl ZeN rfl rfl (Z95 (Z3d g.miss c.hs fun _ => true) (Z3X _ _ _) _ _) ?_
 rintro _ _ _ ⟨rfl, rfl, b, hbl, rfl, hcl⟩
 refine pur 3 rfl (alc rfl Z1G rfl (fun b11 => ?_))
 refine Z48 rfl rfl rfl Z1g rfl (by rw [ints_length]; exact hbl) rfl (ZD _) ?_
 refine pur 1 rfl (Z0 (sqt 2 rfl (pur 2 rfl ?_)))
 refine Z2 rfl ?_ ?_ <;> intro hc2
 have hn : clo (Z3d g.miss c.hs fun _ => true) = none := by simpa using hc2
 have e : ZU g c false = 7 := by simp [ZU, h0, hn]
 have hne : ZU g c false ≠ 0 := by omega
 refine sqt 4 rfl (sp rfl (PE.zero (.inr (by rw [Z1i]; rfl)) Z1G) rfl (pur 1 rfl ?_))
 refine sto rfl rfl rfl Z1g rfl rfl rfl rfl ?_
 refine pur 1 rfl (Z1 ?_)
 first
   | exact Z7 (vs := [_, _, _]) rfl (.cons (RV.tmp rfl) (.cons (RV.cell rfl (lhA (Zd b) Z0m rfl (rest := []) (by rw [List.append_nil]; rfl) (by rw [ints_length]; exact hbl))) (.cons (RV.tmp rfl) .nil))) rfl ⟨rfl, .inr ⟨e, hg, hc, bw, b, hb, rfl, rfl⟩⟩ drp
   | (rw [e] at *; exact Z7 (vs := [_, _, _]) rfl (.cons (RV.tmp rfl) (.cons (RV.cell rfl (lhA (Zd zbx) Z0m rfl rfl rfl)) (.cons (RV.tmp rfl) .nil))) rfl ⟨rfl, .inl ⟨hne, rfl, rfl⟩⟩ drp)
 have hs : (clo (Z3d g.miss c.hs fun _ => true)).isSome = true := by simpa using hc2
 have hb := hcl hs
 have e : ZU g c false = 0 := by simp [ZU, h0, hb]
 refine Z5 (Z0 ?_)
 refine Z9 [0, 0, 1, 7, 15] (.tk 0 (.ld 1 (.tk 2 (.big 3 (.tk 4 .done))))) Zo (by kernel_rfl) ?_
 refine Zf 1 rfl (ld rfl rfl (lhA (Zd b) Z0m rfl (rest := []) (by rw [List.append_nil]; rfl) (by rw [ints_length]; exact hbl)) rfl (Zf 1 rfl ?_))
 refine Z48 rfl rfl rfl Z1g rfl (by rw [ints_length]; exact hbl) rfl (ZD _) ?_
 refine bgT (Zf 1 rfl (Z1 ?_))
 first
   | exact Z7 (vs := [_, _, _]) rfl (.cons (RV.tmp rfl) (.cons (RV.cell rfl (lhA (Zd b) Z0m rfl (rest := []) (by rw [List.append_nil]; rfl) (by rw [ints_length]; exact hbl))) (.cons (RV.tmp rfl) .nil))) rfl ⟨rfl, .inr ⟨e, hg, hc, bw, b, hb, rfl, rfl⟩⟩ drp
   | (rw [e] at *; exact Z7 (vs := [_, _, _]) rfl (.cons (RV.tmp rfl) (.cons (RV.cell rfl (lhA (Zd zbx) Z0m rfl rfl rfl)) (.cons (RV.tmp rfl) .nil))) rfl ⟨rfl, .inl ⟨hne, rfl, rfl⟩⟩ drp)
def netP (g : Gat) (c : Crt) : Int × Int := (max 0 (c.full - c.empty - 2 * g.err), max 0 (c.full - c.empty + 2 * g.err))
def netR (g : Gat) (c : Crt) : Value := bif decide (Z0w g c ≠ 0) then .tuple #[spv 0 0, .int .i64 (Z0w g c)] else .tuple #[spv (netP g c).1 (netP g c).2, .int .i64 0]
def ZbQ (g : Gat) (c : Crt) : Box := bif decide (ZU g c false ≠ 0) then zbx else (clo (Z3d g.miss c.hs fun _ => true)).getD zbx
theorem Z1S {g : Gat} {c : Crt} {b : Box} (h : clo (Z3d g.miss c.hs fun _ => true) = some b) : Tight b := (Z1A (Z3X _ _ _) h).1
theorem c_Net (g : Gat) (ag : Option Addr) (cg : Nat) (hlg : g.grs.length ≤ 9223372036854775807) (c : Crt) (ah : Option Addr) (ch : Nat) (hlh : c.hs.length ≤ 9223372036854775807) (H : Z6) (R : Z3) [hG : MemRows ag 5 (grows g.grs) R] [hA : MemRows ah 5 (hrows c.hs) R] :
    FnV Tryz.prog 10 [g.v (g.sl ag cg), c.v (c.sl ah ch)] H R (netR g c) := by
 refine Z8 Tryz.func10 rfl Tryz.ntmps10 rfl ?_
 refine sqt 4 rfl (bx rfl rfl rfl (fun b2 => bx rfl rfl rfl (fun b3 => alc rfl Z0R rfl (fun b4 => pur 1 rfl (sqt 8 rfl (spL rfl rfl (lhA [_, _, _] Z34 rfl rfl rfl) rfl (spL rfl rfl (lhA [_, _, _] Z0N rfl rfl rfl) rfl ?_)))))))
 refine cl rfl ZcZ rfl rfl (Z0y g ag cg hlg c ah ch hlh _ _) ?_
 rintro _ _ _ ⟨rfl, ho⟩
 rcases ho with ⟨hne, rfl, rfl⟩ | ⟨hg, hc, h0, bw, rfl, rfl⟩
 refine pur 5 rfl (Z0 (sqt 2 rfl (pur 2 rfl ?_)))
 refine Z2 rfl ?_ ?_ <;> intro hc0
 refine sqt 4 rfl (sp rfl (PE.build (out := [_, _]) Z3j Z0R rfl rfl) rfl (pur 1 rfl ?_))
 refine sto rfl rfl rfl Z1E rfl rfl rfl rfl ?_
 refine pur 1 rfl (Z1 ?_)
 exact Z7 (vs := [_, _]) rfl (.cons (RV.cell rfl (lhA [_, _] Z2T rfl rfl rfl)) (.cons (RV.tmp rfl) .nil)) (by unfold netR; rw [dT hne]; rfl) ⟨rfl, rfl, rfl⟩ drp
 exact absurd hc0 (by simp [hne])
 refine pur 5 rfl (Z0 (sqt 2 rfl (pur 2 rfl ?_)))
 refine Z2 rfl ?_ ?_ <;> intro hc0
 exact absurd hc0 (by simp)
 refine Z5 (sqt 4 rfl (pur 1 rfl ?_))
 refine clV rfl Z8Y rfl rfl (Z8L g hg ag cg c hc ah ch bw _ _) ?_
 refine sto rfl rfl rfl Z1E rfl rfl rfl rfl ?_
 refine pur 1 rfl (Z1 ?_)
 exact Z7 (vs := [_, _]) rfl (.cons (RV.cell rfl (lhA [_, _] Z2T rfl rfl rfl)) (.cons (RV.tmp rfl) .nil)) (by unfold netR; rw [dF (by omega)]; rfl) ⟨rfl, rfl, rfl⟩ drp
theorem Yd.ftail {P : Program} {l : Nat} {a : List Value} {H : Z6} {R : Z3} {f : World → Prop} {Q : Value → Z6 → Z3 → Prop} (h : Yd P l a H R Q) : Yd P l a H (f :: R) Q := fun w hs => h w hs.ftail
def mxv (b : Box) : Value := .agg (Zd (Zds b)).toArray
structure KOk (l : List Grd) (b : Box) (k : Nat) (kv : KV) : Prop where
  one : ∀ e ∈ kv, e.1.length = 1
  at_ : ∀ j : Int, kv.get [j] = bif decide (-1 ≤ j) && decide (j < (k : Int) - 1) then (Z4L l b j).map mxv else none
theorem KOk.nil (l : List Grd) (b : Box) : KOk l b 0 [] := ⟨by simp, fun j => by
  have : (decide (-1 ≤ j) && decide (j < ((0 : Nat) : Int) - 1)) = false := by rw [← Bool.decide_and]; exact decide_eq_false (by omega)
  rw [this]; rfl⟩
theorem KOk.skip {l : List Grd} {b : Box} {k : Nat} {kv : KV} (h : KOk l b k kv) (hn : Z4L l b ((k : Int) - 1) = none) : KOk l b (k + 1) kv := ⟨h.one, fun j => by
  rw [h.at_ j]
  by_cases hj : j = (k : Int) - 1
  · subst hj
    have e1 : (decide (-1 ≤ (k : Int) - 1) && decide ((k : Int) - 1 < (k : Int) - 1)) = false := by rw [← Bool.decide_and]; exact decide_eq_false (by omega)
    rw [e1, hn]; cases decide (-1 ≤ (k : Int) - 1) && decide ((k : Int) - 1 < ((k + 1 : Nat) : Int) - 1) <;> rfl
  · have e1 : (decide (-1 ≤ j) && decide (j < (k : Int) - 1)) = (decide (-1 ≤ j) && decide (j < ((k + 1 : Nat) : Int) - 1)) := by
      rw [← Bool.decide_and, ← Bool.decide_and]; exact decide_eq_decide.2 (by omega)
    rw [e1]⟩
theorem KOk.put {l : List Grd} {b x : Box} {k : Nat} {kv : KV} (h : KOk l b k kv) (hn : Z4L l b ((k : Int) - 1) = some x) : KOk l b (k + 1) (kv.put [(k : Int) - 1] (mxv x)) := ⟨fun e he => by
  rcases KV.put_mem he with rfl | he
  · rfl
  · exact h.one e he, fun j => by
  rw [KV.get_put]
  by_cases hj : (k : Int) - 1 = j
  · subst hj
    have e1 : (decide (-1 ≤ (k : Int) - 1) && decide ((k : Int) - 1 < ((k + 1 : Nat) : Int) - 1)) = true := by rw [← Bool.decide_and]; exact decide_eq_true (by omega)
    rw [e1, hn]; simp
  · have e0 : decide (([(k : Int) - 1] : List Int) = [j]) = false := by simpa using hj
    have e1 : (decide (-1 ≤ j) && decide (j < (k : Int) - 1)) = (decide (-1 ≤ j) && decide (j < ((k + 1 : Nat) : Int) - 1)) := by
      rw [← Bool.decide_and, ← Bool.decide_and]; exact decide_eq_decide.2 (by omega)
    rw [e0, h.at_ j, e1]; rfl⟩
theorem Zb0 : cal Tryz.prog 32 = true := by kernel_rfl
def Zfm (l : List Grd) (b : Box) (k : Nat) : List Int := ((List.range k).filter fun (i : Nat) => (Z4L l b (i : Nat)).isSome).map fun (i : Nat) => (i : Int)
theorem Z8H (l : List Grd) (b : Box) (k : Nat) : (Zfm l b k).length ≤ k := by
  unfold Zfm
  rw [List.length_map]
  exact Nat.le_trans (List.length_filter_le _ _) (by simp)
theorem Z6Q (l : List Grd) (b : Box) : (Zbv l b).length ≤ l.length + 1 := by
  have h := Z8H l b l.length
  show (Zfm l b l.length ++ _).length ≤ _
  rw [List.length_append]
  cases (Z4L l b (-1)).isSome <;> simp <;> omega
def Zc5 (g : Gat) (c : Crt) : List Int := bif decide (ZU g c false ≠ 0) then [] else Zbv g.grs (ZbQ g c)
theorem Z3n {g : Gat} {c : Crt} {b : Box} (h0 : ZU g c false = 0) (hb : clo (Z3d g.miss c.hs fun _ => true) = some b) : ZbQ g c = b := by
  unfold ZbQ; rw [decide_eq_false (by omega), hb]; rfl
theorem ZaK {g : Gat} {c : Crt} {b : Box} (h0 : ZU g c false = 0) (hb : clo (Z3d g.miss c.hs fun _ => true) = some b) : Zc5 g c = Zbv g.grs b := by
  unfold Zc5; rw [decide_eq_false (by omega), Z3n h0 hb]; rfl
theorem Z7y {g : Gat} {c : Crt} (hg : g.ok) (hc : c.ok) : (0 ≤ (netP g c).1 ∧ (netP g c).1 ≤ 10100) ∧ (0 ≤ (netP g c).2 ∧ (netP g c).2 ≤ 10100) := by
  have := hg.err; have := hc.full; have := hc.empty
  unfold netP; simp only; omega
theorem mul_b {a b A B : Int} (h1 : 0 ≤ a) (h2 : a ≤ A) (h3 : 0 ≤ b) (h4 : b ≤ B) : 0 ≤ a * b ∧ a * b ≤ A * B := by
  have e1 := Int.mul_nonneg h1 h3
  have e2 := Int.mul_le_mul h2 h4 h3 (by omega)
  exact ⟨e1, e2⟩
def Z90 (g : Gat) (c : Crt) (k : Int) : Value := bif decide (ZU g c (!(inb k 0 3)) ≠ 0) then .tuple #[spv 0 0, .int .i64 (ZU g c (!(inb k 0 3)))] else .tuple #[spv ((netP g c).1 * bl (ZbQ g c) k.toNat / 40) ((netP g c).2 * bh (ZbQ g c) k.toNat / 40), .int .i64 0]
theorem Z3Z {g : Gat} {c : Crt} (h : ZU g c true = 0) : False := by
  unfold ZU at h
  cases hb : decide (Z0w g c ≠ 0) with
  | true => rw [hb] at h; simp only [cond_true] at h; have := of_decide_eq_true hb; omega
  | false => rw [hb] at h; cases h
theorem Z3V {b : Box} (hb : b.length = 8) {k : Nat} (hk : k < 4) : (Zd b)[0 + ((k : Nat) : Int).toNat * 2 + 0]? = some (.int .i64 (bl b k)) ∧ (Zd b)[0 + ((k : Nat) : Int).toNat * 2 + 1]? = some (.int .i64 (bh b k)) := by
  obtain ⟨a0, a1, a2, a3, a4, a5, a6, a7, rfl⟩ := Z42 hb
  rcases lt4 hk with rfl | rfl | rfl | rfl <;> exact ⟨rfl, rfl⟩
theorem c_Weight (g : Gat) (ag : Option Addr) (cg : Nat) (hlg : g.grs.length ≤ 9223372036854775807) (c : Crt) (ah : Option Addr) (ch : Nat) (hlh : c.hs.length ≤ 9223372036854775807) (k : Int) (H : Z6) (R : Z3) [hG : MemRows ag 5 (grows g.grs) R] [hA : MemRows ah 5 (hrows c.hs) R] :
    FnV Tryz.prog 9 [g.v (g.sl ag cg), c.v (c.sl ah ch), .int .i64 k] H R (Z90 g c k) := by
 refine Z8 Tryz.func9 rfl Tryz.ntmps9 rfl ?_
 refine sqt 4 rfl (bx rfl rfl rfl (fun b3 => bx rfl rfl rfl (fun b4 => alc rfl Z0R rfl (fun b6 => pur 1 rfl (Z0 ?_)))))
 refine Z9 [0, 0, 0, 4, 12, 31, 63, 127, 127, 127, 0, 1279, 3583, 8191] (.ld 0 (.ld 1 (.tk 2 (.any (.alt 3 (.tk 4 (.any (.alt 5 (tks 6 4 (.big 10 (.tk 11 (.big 12 (.tk 13 .done))))) (.alt 10 (.big 5 (tks 6 4 (.tk 11 (.big 12 (.tk 13 .done))))) .stop)))) (.alt 10 (.big 3 (.tk 4 (.big 5 (tks 6 4 (.tk 11 (.big 12 (.tk 13 .done))))))) .stop)))))) Zo (by kernel_rfl) ?_
 refine ld rfl rfl (lhA [_, _, _] Z34 rfl rfl rfl) rfl (ld rfl rfl (lhA [_, _, _] Z0N rfl rfl rfl) rfl (Zf 1 rfl ?_))
 refine ZH ?_ ?_
 refine clV rfl Z2N rfl rfl (Z2d _ _ _ _ _) ?_
 refine bg (fun w hs => ⟨(lhA [_, _, _] Z0N rfl rfl rfl) w hs, (lhA [_, _, _] Z34 rfl rfl rfl) w hs, trivial⟩) ?_
 refine Zf 1 rfl ?_
 refine ZH ?_ ?_
 refine cl rfl Zb0 rfl rfl (Z4p g ag cg hlg c ah ch hlh (!(inb k 0 3)) _ _) ?_
 rintro _ _ _ ⟨rfl, hT⟩
 rcases hT with ⟨hne, rfl, rfl⟩ | ⟨h0, hg, hc, bw, b, hb, rfl, rfl⟩
 refine bgT (Zf 4 rfl (alc rfl Z1G rfl (fun b9 => bgT (Zf 1 rfl ?_))))
 refine Z48 rfl rfl rfl Z1g rfl (by rw [ints_length]; exact rfl) rfl (ZD _) ?_
 refine bgT (Zf 1 rfl (Z0 (sqt 2 rfl (pur 2 rfl ?_))))
 refine Z2 rfl ?_ ?_ <;> intro hc0
 refine sqt 4 rfl (sp rfl (PE.build (out := [_, _]) Z3j Z0R rfl rfl) rfl (pur 1 rfl ?_))
 refine sto rfl rfl rfl Z1E rfl rfl rfl rfl ?_
 refine pur 1 rfl (Z1 ?_)
 exact Z7 (vs := [_, _]) rfl (.cons (RV.cell rfl (lhA [_, _] Z2T rfl rfl rfl)) (.cons (RV.tmp rfl) .nil)) (by unfold Z90; rw [dT hne]; rfl) ⟨rfl, rfl, rfl⟩ drp
 exact absurd hc0 (by rw [dT hne]; simp)
 refine bgT ?_
 have hbt := Z1S hb
 have hbl := hbt.ok.len
 have hin : inb k 0 3 = true := by
   cases hin : inb k 0 3 with
   | true => rfl
   | false => rw [hin] at h0; exact (Z3Z h0).elim
 have h00 : ZU g c false = 0 := by rw [hin] at h0; exact h0
 have hbd := Z3n h00 hb
 simp only [inb, Bool.and_eq_true, decide_eq_true_eq] at hin
 obtain ⟨q, rfl⟩ : ∃ q : Nat, k = q := ⟨k.toNat, by omega⟩
 have hq4 : q < 4 := by omega
 obtain ⟨hn1, hn2⟩ := Z7y hg hc
 have hbq := hbt.ok.at_ q hq4
 have hbf := hbt.fit q hq4
 have hm1 := mul_b hn1.1 hn1.2 (show 0 ≤ bl b q by omega) (show bl b q ≤ 40 by omega)
 have hm2 := mul_b hn2.1 hn2.2 (show 0 ≤ bh b q by omega) (show bh b q ≤ 40 by omega)
 obtain ⟨hx1, hx2⟩ := Z3V hbl hq4
 simp only [netP] at hm1 hm2
 refine Zf 4 rfl (alc rfl Z1G rfl (fun b9 => bgT (Zf 1 rfl ?_)))
 refine Z48 rfl rfl rfl Z1g rfl (by rw [ints_length]; exact hbl) rfl (ZD _) ?_
 refine bgT (Zf 1 rfl (Z0 (sqt 2 rfl (pur 2 rfl ?_))))
 refine Z2 rfl ?_ ?_ <;> intro hc0
 exact absurd hc0 (by simp)
 refine Z5 (sqt 4 rfl (pur 1 rfl ?_))
 refine clV rfl Z8Y rfl rfl (Z8L g hg ag cg c hc ah ch bw _ _) ?_
 refine alc rfl Z0R rfl (fun b11 => ?_)
 refine sto rfl rfl rfl Z1E rfl rfl rfl rfl ?_
 refine Z0 ?_
 refine Z9 [0, 1, 0, 4, 12, 28, 63, 127, 0, 256, 0, 1024, 3072, 7168, 16128, 32512, 65535, 131071, 262143] (.tk 0 (.ld 1 (tks 2 3 (.ld 5 (tks 6 3 (.ld 9 (tks 10 3 (.ld 13 (tks 14 3 (.big 17 (.tk 18 .done))))))))))) Zo (by kernel_rfl) ?_
 refine tk rfl (PE.fA ZM rfl) rfl (ld rfl rfl (lh sc3 rfl rfl) rfl (Zf 1 rfl (tk rfl (PE.indexArr Z1i rfl rfl (by omega) (by omega)) rfl (tk rfl (PE.fA ZM rfl) rfl (ld rfl rfl (lh sc3 rfl hx1) rfl (tk rfl (PE.mul rfl rfl (by omega)) rfl (tk rfl (PE.quo rfl rfl (by omega)) rfl (tk rfl (PE.fA ZQ rfl) rfl (ld rfl rfl (lh sc3 rfl rfl) rfl (Zf 1 rfl (tk rfl (PE.indexArr Z1i rfl rfl (by omega) (by omega)) rfl (tk rfl (PE.fA ZQ rfl) rfl (ld rfl rfl (lh sc3 rfl hx2) rfl (tk rfl (PE.mul rfl rfl (by omega)) rfl (tk rfl (PE.quo rfl rfl (by omega)) rfl ?_)))))))))))))))
 refine tk rfl (PE.build (out := [_, _]) Z3j Z0R rfl rfl) rfl ?_
 refine sto rfl rfl rfl Z1E rfl rfl rfl rfl ?_
 refine bgT (Zf 1 rfl (Z1 ?_))
 exact Z7 (vs := [_, _]) rfl (.cons (RV.cell rfl (lhA [_, _] Z2T rfl rfl rfl)) (.cons (RV.tmp rfl) .nil)) (by unfold Z90; rw [dF (by omega), hbd]; rfl) ⟨rfl, rfl, rfl⟩ drp
 refine ZH ?_ ?_
 refine alc rfl Z1G rfl (fun b9 => ?_)
 refine bg (fun w hs => ⟨(lhA [_, _, _] Z0N rfl rfl rfl) w hs, (lhA [_, _, _] Z34 rfl rfl rfl) w hs, trivial⟩) ?_
 refine cl rfl Zb0 rfl rfl (Z4p g ag cg hlg c ah ch hlh (!(inb k 0 3)) _ _) ?_
 rintro _ _ _ ⟨rfl, hT⟩
 rcases hT with ⟨hne, rfl, rfl⟩ | ⟨h0, hg, hc, bw, b, hb, rfl, rfl⟩
 refine bgT (Zf 5 rfl ?_)
 refine Z48 rfl rfl rfl Z1g rfl (by rw [ints_length]; exact rfl) rfl (ZD _) ?_
 refine bgT (Zf 1 rfl (Z0 (sqt 2 rfl (pur 2 rfl ?_))))
 refine Z2 rfl ?_ ?_ <;> intro hc0
 refine sqt 4 rfl (sp rfl (PE.build (out := [_, _]) Z3j Z0R rfl rfl) rfl (pur 1 rfl ?_))
 refine sto rfl rfl rfl Z1E rfl rfl rfl rfl ?_
 refine pur 1 rfl (Z1 ?_)
 exact Z7 (vs := [_, _]) rfl (.cons (RV.cell rfl (lhA [_, _] Z2T rfl rfl rfl)) (.cons (RV.tmp rfl) .nil)) (by unfold Z90; rw [dT hne]; rfl) ⟨rfl, rfl, rfl⟩ drp
 exact absurd hc0 (by rw [dT hne]; simp)
 refine bgT ?_
 have hbt := Z1S hb
 have hbl := hbt.ok.len
 have hin : inb k 0 3 = true := by
   cases hin : inb k 0 3 with
   | true => rfl
   | false => rw [hin] at h0; exact (Z3Z h0).elim
 have h00 : ZU g c false = 0 := by rw [hin] at h0; exact h0
 have hbd := Z3n h00 hb
 simp only [inb, Bool.and_eq_true, decide_eq_true_eq] at hin
 obtain ⟨q, rfl⟩ : ∃ q : Nat, k = q := ⟨k.toNat, by omega⟩
 have hq4 : q < 4 := by omega
 obtain ⟨hn1, hn2⟩ := Z7y hg hc
 have hbq := hbt.ok.at_ q hq4
 have hbf := hbt.fit q hq4
 have hm1 := mul_b hn1.1 hn1.2 (show 0 ≤ bl b q by omega) (show bl b q ≤ 40 by omega)
 have hm2 := mul_b hn2.1 hn2.2 (show 0 ≤ bh b q by omega) (show bh b q ≤ 40 by omega)
 obtain ⟨hx1, hx2⟩ := Z3V hbl hq4
 simp only [netP] at hm1 hm2
 refine Zf 5 rfl ?_
 refine Z48 rfl rfl rfl Z1g rfl (by rw [ints_length]; exact hbl) rfl (ZD _) ?_
 refine bgT (Zf 1 rfl (Z0 (sqt 2 rfl (pur 2 rfl ?_))))
 refine Z2 rfl ?_ ?_ <;> intro hc0
 exact absurd hc0 (by simp)
 refine Z5 (sqt 4 rfl (pur 1 rfl ?_))
 refine clV rfl Z8Y rfl rfl (Z8L g hg ag cg c hc ah ch bw _ _) ?_
 refine alc rfl Z0R rfl (fun b11 => ?_)
 refine sto rfl rfl rfl Z1E rfl rfl rfl rfl ?_
 refine Z0 ?_
 refine Z9 [0, 1, 0, 4, 12, 28, 63, 127, 0, 256, 0, 1024, 3072, 7168, 16128, 32512, 65535, 131071, 262143] (.tk 0 (.ld 1 (tks 2 3 (.ld 5 (tks 6 3 (.ld 9 (tks 10 3 (.ld 13 (tks 14 3 (.big 17 (.tk 18 .done))))))))))) Zo (by kernel_rfl) ?_
 refine tk rfl (PE.fA ZM rfl) rfl (ld rfl rfl (lh sc3 rfl rfl) rfl (Zf 1 rfl (tk rfl (PE.indexArr Z1i rfl rfl (by omega) (by omega)) rfl (tk rfl (PE.fA ZM rfl) rfl (ld rfl rfl (lh sc3 rfl hx1) rfl (tk rfl (PE.mul rfl rfl (by omega)) rfl (tk rfl (PE.quo rfl rfl (by omega)) rfl (tk rfl (PE.fA ZQ rfl) rfl (ld rfl rfl (lh sc3 rfl rfl) rfl (Zf 1 rfl (tk rfl (PE.indexArr Z1i rfl rfl (by omega) (by omega)) rfl (tk rfl (PE.fA ZQ rfl) rfl (ld rfl rfl (lh sc3 rfl hx2) rfl (tk rfl (PE.mul rfl rfl (by omega)) rfl (tk rfl (PE.quo rfl rfl (by omega)) rfl ?_)))))))))))))))
 refine tk rfl (PE.build (out := [_, _]) Z3j Z0R rfl rfl) rfl ?_
 refine sto rfl rfl rfl Z1E rfl rfl rfl rfl ?_
 refine bgT (Zf 1 rfl (Z1 ?_))
 exact Z7 (vs := [_, _]) rfl (.cons (RV.cell rfl (lhA [_, _] Z2T rfl rfl rfl)) (.cons (RV.tmp rfl) .nil)) (by unfold Z90; rw [dF (by omega), hbd]; rfl) ⟨rfl, rfl, rfl⟩ drp
 exact ZZ
 refine ZH ?_ ?_
 refine alc rfl Z1G rfl (fun b9 => ?_)
 refine bg (fun w hs => ⟨(lhA [_, _, _] Z0N rfl rfl rfl) w hs, (lhA [_, _, _] Z34 rfl rfl rfl) w hs, trivial⟩) ?_
 refine clV rfl Z2N rfl rfl (Z2d _ _ _ _ _) ?_
 refine bg (fun w hs => ⟨(lhA [_, _, _] Z0N rfl rfl rfl) w hs, (lhA [_, _, _] Z34 rfl rfl rfl) w hs, trivial⟩) ?_
 refine Zf 1 rfl ?_
 refine cl rfl Zb0 rfl rfl (Z4p g ag cg hlg c ah ch hlh (!(inb k 0 3)) _ _) ?_
 rintro _ _ _ ⟨rfl, hT⟩
 rcases hT with ⟨hne, rfl, rfl⟩ | ⟨h0, hg, hc, bw, b, hb, rfl, rfl⟩
 refine bgT (Zf 5 rfl ?_)
 refine Z48 rfl rfl rfl Z1g rfl (by rw [ints_length]; exact rfl) rfl (ZD _) ?_
 refine bgT (Zf 1 rfl (Z0 (sqt 2 rfl (pur 2 rfl ?_))))
 refine Z2 rfl ?_ ?_ <;> intro hc0
 refine sqt 4 rfl (sp rfl (PE.build (out := [_, _]) Z3j Z0R rfl rfl) rfl (pur 1 rfl ?_))
 refine sto rfl rfl rfl Z1E rfl rfl rfl rfl ?_
 refine pur 1 rfl (Z1 ?_)
 exact Z7 (vs := [_, _]) rfl (.cons (RV.cell rfl (lhA [_, _] Z2T rfl rfl rfl)) (.cons (RV.tmp rfl) .nil)) (by unfold Z90; rw [dT hne]; rfl) ⟨rfl, rfl, rfl⟩ drp
 exact absurd hc0 (by rw [dT hne]; simp)
 refine bgT ?_
 have hbt := Z1S hb
 have hbl := hbt.ok.len
 have hin : inb k 0 3 = true := by
   cases hin : inb k 0 3 with
   | true => rfl
   | false => rw [hin] at h0; exact (Z3Z h0).elim
 have h00 : ZU g c false = 0 := by rw [hin] at h0; exact h0
 have hbd := Z3n h00 hb
 simp only [inb, Bool.and_eq_true, decide_eq_true_eq] at hin
 obtain ⟨q, rfl⟩ : ∃ q : Nat, k = q := ⟨k.toNat, by omega⟩
 have hq4 : q < 4 := by omega
 obtain ⟨hn1, hn2⟩ := Z7y hg hc
 have hbq := hbt.ok.at_ q hq4
 have hbf := hbt.fit q hq4
 have hm1 := mul_b hn1.1 hn1.2 (show 0 ≤ bl b q by omega) (show bl b q ≤ 40 by omega)
 have hm2 := mul_b hn2.1 hn2.2 (show 0 ≤ bh b q by omega) (show bh b q ≤ 40 by omega)
 obtain ⟨hx1, hx2⟩ := Z3V hbl hq4
 simp only [netP] at hm1 hm2
 refine Zf 5 rfl ?_
 refine Z48 rfl rfl rfl Z1g rfl (by rw [ints_length]; exact hbl) rfl (ZD _) ?_
 refine bgT (Zf 1 rfl (Z0 (sqt 2 rfl (pur 2 rfl ?_))))
 refine Z2 rfl ?_ ?_ <;> intro hc0
 exact absurd hc0 (by simp)
 refine Z5 (sqt 4 rfl (pur 1 rfl ?_))
 refine clV rfl Z8Y rfl rfl (Z8L g hg ag cg c hc ah ch bw _ _) ?_
 refine alc rfl Z0R rfl (fun b11 => ?_)
 refine sto rfl rfl rfl Z1E rfl rfl rfl rfl ?_
 refine Z0 ?_
 refine Z9 [0, 1, 0, 4, 12, 28, 63, 127, 0, 256, 0, 1024, 3072, 7168, 16128, 32512, 65535, 131071, 262143] (.tk 0 (.ld 1 (tks 2 3 (.ld 5 (tks 6 3 (.ld 9 (tks 10 3 (.ld 13 (tks 14 3 (.big 17 (.tk 18 .done))))))))))) Zo (by kernel_rfl) ?_
 refine tk rfl (PE.fA ZM rfl) rfl (ld rfl rfl (lh sc3 rfl rfl) rfl (Zf 1 rfl (tk rfl (PE.indexArr Z1i rfl rfl (by omega) (by omega)) rfl (tk rfl (PE.fA ZM rfl) rfl (ld rfl rfl (lh sc3 rfl hx1) rfl (tk rfl (PE.mul rfl rfl (by omega)) rfl (tk rfl (PE.quo rfl rfl (by omega)) rfl (tk rfl (PE.fA ZQ rfl) rfl (ld rfl rfl (lh sc3 rfl rfl) rfl (Zf 1 rfl (tk rfl (PE.indexArr Z1i rfl rfl (by omega) (by omega)) rfl (tk rfl (PE.fA ZQ rfl) rfl (ld rfl rfl (lh sc3 rfl hx2) rfl (tk rfl (PE.mul rfl rfl (by omega)) rfl (tk rfl (PE.quo rfl rfl (by omega)) rfl ?_)))))))))))))))
 refine tk rfl (PE.build (out := [_, _]) Z3j Z0R rfl rfl) rfl ?_
 refine sto rfl rfl rfl Z1E rfl rfl rfl rfl ?_
 refine bgT (Zf 1 rfl (Z1 ?_))
 exact Z7 (vs := [_, _]) rfl (.cons (RV.cell rfl (lhA [_, _] Z2T rfl rfl rfl)) (.cons (RV.tmp rfl) .nil)) (by unfold Z90; rw [dF (by omega), hbd]; rfl) ⟨rfl, rfl, rfl⟩ drp
 exact ZZ
theorem Zd1 : apT Tryz.prog 47 = some (3, 1, 8) := by kernel_rfl
theorem Z0O (l : List Hnd) : ∀ q ∈ hrows l, q.length = 5 := fun q hq => by obtain ⟨x, _, rfl⟩ := List.mem_map.1 hq; rfl
end Go.Proofs.YtjoajfdnlomapaaGreat.Gt
namespace Go.Proofs.YtjoajfdnlomapaaGreat.Gt
set_option linter.unusedSimpArgs false
set_option linter.unusedVariables false
def g0 (n : Int) (m : Mix) (k : Nat) : Int := n * nn m k / 40
def Z1J (n : Int) (m : Mix) : Nat → List Int × Int
  | 0 => ([0, 0, 0, 0], n)
  | k + 1 => ((Z1J n m k).1.set k (g0 n m k), (Z1J n m k).2 - g0 n m k)
def Z5x (n : Int) (m : Mix) (s : List Int × Int) (k : Nat) : Bool := decide (0 < s.2) && decide (0 < n * nn m k % 40)
def Z0j (n : Int) (m : Mix) : Nat → List Int × Int
  | 0 => Z1J n m 4
  | k + 1 => bif Z5x n m (Z0j n m k) k then ((Z0j n m k).1.set k (nn (Z0j n m k).1 k + 1), (Z0j n m k).2 - 1) else Z0j n m k
theorem ZeL {n : Int} {m : Mix} (hm : Mxt m) : n * nn m 0 + n * nn m 1 + n * nn m 2 + n * nn m 3 = 40 * n := by
  have := hm.sum
  unfold Z1w at this
  rw [← Int.mul_add, ← Int.mul_add, ← Int.mul_add, this, Int.mul_comm]
theorem Z0I {n : Int} {m : Mix} (hm : Mxt m) (hn : 0 ≤ n ∧ n ≤ 200) {k : Nat} (hk : k < 4) : 0 ≤ n * nn m k ∧ n * nn m k ≤ 8000 ∧ n * nn m k ≤ 40 * n := by
  have h := hm.at_ k hk
  have h1 := Int.mul_nonneg hn.1 h.1
  have h2 := Int.mul_le_mul_of_nonneg_left h.2 hn.1
  omega
theorem Z4X {n : Int} {m : Mix} (hm : Mxt m) (hn : 0 ≤ n ∧ n ≤ 200) : ∀ k, k ≤ 4 → (Z1J n m k).1.length = 4 ∧ Z1w (Z1J n m k).1 + (Z1J n m k).2 = n ∧ (∀ j < k, nn (Z1J n m k).1 j = g0 n m j) ∧ (∀ j, k ≤ j → nn (Z1J n m k).1 j = 0) ∧ (Z1J n m k).2 ≤ n ∧ -1000 * k ≤ (Z1J n m k).2
  | 0, _ => ⟨rfl, by simp [Z1J, Z1w, nn], fun j hj => by omega, fun j _ => by
      show nn [0, 0, 0, 0] j = 0
      unfold nn
      match j with
      | 0 => rfl
      | 1 => rfl
      | 2 => rfl
      | 3 => rfl
      | j + 4 => rfl, Int.le_refl _, by show -1000 * ((0 : Nat) : Int) ≤ n; omega⟩
  | k + 1, hk => by
    obtain ⟨h1, h2, h3, h4, h5, h6⟩ := Z4X hm hn k (by omega)
    have hb := Z0I hm hn (k := k) (by omega)
    have hg : 0 ≤ g0 n m k ∧ g0 n m k ≤ 200 := by unfold g0; omega
    refine ⟨by simp [Z1J, h1], ?_, fun j hj => ?_, fun j hj => ?_, ?_, ?_⟩
    · show Z1w ((Z1J n m k).1.set k _) + ((Z1J n m k).2 - g0 n m k) = n
      rw [Z1R h1 (by omega), h4 k (Nat.le_refl _)]; omega
    · show nn ((Z1J n m k).1.set k _) j = _
      rw [Z18 (by omega)]
      by_cases hkj : k = j
      · subst hkj; simp
      · have : (k == j) = false := by simpa using hkj
        rw [this]; exact h3 j (by omega)
    · show nn ((Z1J n m k).1.set k _) j = _
      rw [Z18 (by omega)]
      have : (k == j) = false := by simp; omega
      rw [this]; exact h4 j (by omega)
    · show (Z1J n m k).2 - g0 n m k ≤ n; omega
    · show -1000 * ((k + 1 : Nat) : Int) ≤ (Z1J n m k).2 - g0 n m k; omega
def rst (n : Int) (m : Mix) (k : Nat) : Int := (bif decide (k ≤ 0) then n * nn m 0 % 40 else 0) + (bif decide (k ≤ 1) then n * nn m 1 % 40 else 0) + (bif decide (k ≤ 2) then n * nn m 2 % 40 else 0) + (bif decide (k ≤ 3) then n * nn m 3 % 40 else 0)
theorem Z8o {n : Int} {m : Mix} {k : Nat} (hk : k < 4) : rst n m k = n * nn m k % 40 + rst n m (k + 1) := by
  rcases lt4 hk with rfl | rfl | rfl | rfl <;> simp [rst] <;> omega
theorem Zap (n : Int) (m : Mix) (k : Nat) : 0 ≤ rst n m k := by
  unfold rst
  cases decide (k ≤ 0) <;> cases decide (k ≤ 1) <;> cases decide (k ≤ 2) <;> cases decide (k ≤ 3) <;> simp only [cond_true, cond_false] <;> omega
structure TakP (n : Int) (m : Mix) (k : Nat) (s : List Int × Int) : Prop where
  len : s.1.length = 4
  sum : Z1w s.1 + s.2 = n
  lo : 0 ≤ s.2
  hi : 40 * s.2 ≤ rst n m k
  at_ : ∀ j < 4, g0 n m j ≤ nn s.1 j ∧ nn s.1 j ≤ g0 n m j + 1 ∧ (n * nn m j % 40 = 0 → nn s.1 j = g0 n m j)
  new : ∀ j < 4, k ≤ j → nn s.1 j = g0 n m j
theorem Z4U {n : Int} {m : Mix} (hm : Mxt m) (hn : 0 ≤ n ∧ n ≤ 200) : ∀ k, k ≤ 4 → TakP n m k (Z0j n m k)
  | 0, _ => by
    obtain ⟨h1, h2, h3, _, _, _⟩ := Z4X hm hn 4 (by omega)
    have hs := ZeL (n := n) hm
    have e : Z1w (Z1J n m 4).1 = n * nn m 0 / 40 + n * nn m 1 / 40 + n * nn m 2 / 40 + n * nn m 3 / 40 := by
      unfold Z1w
      rw [h3 0 (by omega), h3 1 (by omega), h3 2 (by omega), h3 3 (by omega)]; rfl
    refine ⟨h1, h2, ?_, ?_, fun j hj => ?_, fun j hj _ => h3 j hj⟩
    · show 0 ≤ (Z1J n m 4).2; omega
    · show 40 * (Z1J n m 4).2 ≤ _
      have : rst n m 0 = n * nn m 0 % 40 + n * nn m 1 % 40 + n * nn m 2 % 40 + n * nn m 3 % 40 := by simp [rst]
      rw [this]; omega
    · show _ ≤ nn (Z1J n m 4).1 j ∧ _
      rw [show (Z0j n m 0) = Z1J n m 4 from rfl, h3 j hj]; omega
  | k + 1, hk => by
    have ih := Z4U hm hn k (by omega)
    have hr := Z8o (n := n) (m := m) (k := k) (by omega)
    have hp := Zap n m (k + 1)
    have hnew := ih.new k (by omega) (Nat.le_refl _)
    have hlo := ih.lo
    have hhi := ih.hi
    unfold Z0j
    cases hc : Z5x n m (Z0j n m k) k with
    | true =>
      simp only [Z5x, Bool.and_eq_true, decide_eq_true_eq] at hc
      simp only [cond_true]
      have hset : ∀ j, nn ((Z0j n m k).1.set k (nn (Z0j n m k).1 k + 1)) j = bif k == j then nn (Z0j n m k).1 k + 1 else nn (Z0j n m k).1 j := fun j => Z18 (by rw [ih.len]; omega)
      refine ⟨by simp [ih.len], ?_, by simp only; omega, by simp only; omega, fun j hj => ?_, fun j hj hkj => ?_⟩
      · have := ih.sum
        simp only
        rw [Z1R ih.len (by omega)]; omega
      · simp only
        rw [hset]
        by_cases hkj : k = j
        · subst hkj; simp only [beq_self_eq_true, cond_true]; omega
        · have : (k == j) = false := by simpa using hkj
          rw [this]; exact ih.at_ j hj
      · simp only
        rw [hset]
        have : (k == j) = false := by simp; omega
        rw [this]; exact ih.new j hj (by omega)
    | false =>
      simp only [cond_false]
      have h5 : ¬ (0 < (Z0j n m k).2 ∧ 0 < n * nn m k % 40) := fun h => by
        have : Z5x n m (Z0j n m k) k = true := by simp [Z5x, h.1, h.2]
        rw [this] at hc; cases hc
      exact ⟨ih.len, ih.sum, hlo, by omega, ih.at_, fun j hj hkj => ih.new j hj (by omega)⟩
theorem Z7j {n : Int} {m : Mix} (hm : Mxt m) (hn : 0 ≤ n ∧ n ≤ 200) : (Z0j n m 4).1.length = 4 ∧ Z1w (Z0j n m 4).1 = n ∧ ∀ j < 4, g0 n m j ≤ nn (Z0j n m 4).1 j ∧ nn (Z0j n m 4).1 j ≤ g0 n m j + 1 ∧ (n * nn m j % 40 = 0 → nn (Z0j n m 4).1 j = g0 n m j) := by
  have h := Z4U hm hn 4 (by omega)
  have h1 := h.hi
  have h2 := h.lo
  have h3 := h.sum
  have : rst n m 4 = 0 := by simp [rst]
  exact ⟨h.len, by omega, h.at_⟩
def tkM (l : List Int) (a b : Nat) (t : Int) : List Int := bif a == b then l else (l.set a (nn l a - t)).set b (nn l b + t)
theorem Z9M {l : List Int} (h : l.length = 4) {a b : Nat} (ha : a < 4) (hb : b < 4) (t : Int) : (tkM l a b t).length = 4 ∧ Z1w (tkM l a b t) = Z1w l ∧ ∀ j < 4, nn (tkM l a b t) j = nn l j ∨ (j = a ∧ nn (tkM l a b t) j = nn l a - t) ∨ (j = b ∧ nn (tkM l a b t) j = nn l b + t) := by
  unfold tkM
  by_cases hab : a = b
  · have : (a == b) = true := by simpa using hab
    rw [this]; exact ⟨h, rfl, fun j _ => .inl rfl⟩
  · have : (a == b) = false := by simpa using hab
    rw [this]
    simp only [cond_false]
    refine ⟨by simp [h], ?_, fun j hj => ?_⟩
    · rw [Z1R (by simp [h]) hb, Z1R h ha, Z18 (by omega), this]
      simp only [cond_false]; omega
    · rw [Z18 (by simp; omega), Z18 (by omega)]
      by_cases h1 : b = j
      · subst h1; simp
      · by_cases h2 : a = j
        · subst h2
          have : (b == a) = false := by simpa using h1
          simp [this]
        · have e1 : (b == j) = false := by simpa using h1
          have e2 : (a == j) = false := by simpa using h2
          simp [e1, e2]
theorem Z7q {n miss t : Int} {m : Mix} {a b : Nat} {spot : Int} (hm : Mxt m) (hn : 10 ≤ n ∧ n ≤ 200) (hs : 0 ≤ spot ∧ spot ≤ 2) (hmi : 0 ≤ miss) (h0 : miss = 0 → ∃ j : Int, n = 40 * j) (ha : a < 4) (hb : b < 4) (ht : 0 ≤ t ∧ t ≤ nn (Z0j n m 4).1 a ∧ (t = 0 ∨ t < miss)) {x0 x1 x2 x3 : Int}
    (hx : tkM (Z0j n m 4).1 a b t = [x0, x1, x2, x3]) : Hnd.ok ⟨spot, x0, x1, x2, x3⟩ ∧ Z5U miss ⟨spot, x0, x1, x2, x3⟩ m = true := by
  obtain ⟨h1, h2, h3⟩ := Z7j hm (n := n) (by omega)
  obtain ⟨k1, k2, k3⟩ := Z9M h1 ha hb t
  rw [hx] at k2 k3
  have htot : Hnd.tot ⟨spot, x0, x1, x2, x3⟩ = n := by
    show Z1w [x0, x1, x2, x3] = n
    rw [k2, h2]
  have hgs : Hnd.gs ⟨spot, x0, x1, x2, x3⟩ = [x0, x1, x2, x3] := rfl
  have hz : ∀ k < 4, miss = 0 → n * nn m k % 40 = 0 := fun k _ h => by
    obtain ⟨j, rfl⟩ := h0 h
    rw [Int.mul_assoc]; omega
  have hall : ∀ k < 4, 0 ≤ nn [x0, x1, x2, x3] k ∧ (nn [x0, x1, x2, x3] k * 40 - n * nn m k ≤ 40 * miss ∧ n * nn m k - nn [x0, x1, x2, x3] k * 40 ≤ 40 * miss) := fun k hk => by
    have hb1 := Z0I hm (n := n) (by omega) hk
    have h4 := h3 k hk
    have h4a := h3 a ha
    have h4b := h3 b hb
    have hza := hz k hk
    unfold g0 at h4 h4a h4b
    have hb2 := Z0I hm (n := n) (by omega) ha
    have hb3 := Z0I hm (n := n) (by omega) hb
    rcases k3 k hk with h5 | ⟨rfl, h5⟩ | ⟨rfl, h5⟩ <;> omega
  have hsum : x0 + x1 + x2 + x3 = n := htot
  obtain ⟨p0, p1, p2, p3⟩ := Z4B hall
  simp only [nn, List.getD_cons_zero, List.getD_cons_succ] at p0 p1 p2 p3
  refine ⟨⟨hs, ?_, by rw [htot]; omega⟩, ?_⟩
  · rw [hgs]
    exact of4 ⟨by simp [nn]; omega, by simp [nn]; omega, by simp [nn]; omega, by simp [nn]; omega⟩
  · unfold Z5U
    rw [List.all_eq_true]
    intro k hk
    have hk := List.mem_range.1 hk
    have := (hall k hk).2
    simp only [ZbI, htot, hgs, Bool.and_eq_true, decide_eq_true_eq]
    rw [Int.mul_comm (nn m k) n]
    omega
end Go.Proofs.YtjoajfdnlomapaaGreat.Gt
