/- Walks of the functions of the program, and the laws that join them: what the last theorem of this claim needs, in order. -/
import Derived.Test.YtndhkpnaeocnhaaGreatDe1
namespace Go.Proofs.YtndhkpnaeocnhaaGreat
set_option linter.unusedSimpArgs false
set_option linter.unusedVariables false
open Go
section pe
variable {P : Program} {L : Slots} {d : Option Tmp} {ty : TypeId} {pos : String} {af : Array Edge} {g : Option (Nat × Bool)}
theorem arN_und {P : Program} {T m n : Nat} (h : arN P T = some (m, n)) : ∃ e i, P.underlying T = some (.array m e) ∧ P.info? e = some i ∧ i.size = n := by
  unfold arN at h
  split at h
  · rename_i k e hu
    rw [Option.map_eq_some_iff] at h
    obtain ⟨i, hi, he⟩ := h
    cases he
    exact ⟨e, i, hu, hi, rfl⟩
  · cases h
theorem PE.slArr {T m n b off : Nat} {x : Operand} (hT : arN P T = some (m, n)) (hx : ev L x = some (.pointer (some ⟨b, off, none⟩))) :
    PE P L ⟨d, .slice T x none none none, ty, pos, af, g⟩ (.slice (some ⟨b, off, none⟩) m m) := fun ρ hρ w => by
  obtain ⟨e, i, hu, hi, rfl⟩ := arN_und hT
  have ha : (⟨b, off, none⟩ : Addr).add (0 * i.size) = ⟨b, off, none⟩ := by rw [addr_add]; simp
  simp only [execOp, hρ _ _ hx, Option.map_none, Instr.sliceAt, Sem.run_bind, run_underlying hu, Result.andThen, Instr.sureAddr, Sem.run_pure, Instr.sliceBounds, sizeOf, typeInfo, program, hi, Sem.run]
  rw [ha]
  by_cases h : m = 0 <;> simp [h]
end pe
section steps
variable {P : Program} {r : Option Nat} {ops : Array Oper} {n : Nat} {L : Slots} {D : List Deferred} {H : Heap} {R : Facts} {K : Act → World → Prop}
  {i d : Nat} {ty : TypeId} {pos : String} {af : Array Edge}
theorem slE_und {P : Program} {T e s : Nat} (h : slE P T = some (e, s)) : ∃ i, P.underlying T = some (.slice e) ∧ P.info? e = some i ∧ i.size = s := by
  unfold slE at h
  split at h
  · rename_i e' hu
    rw [Option.map_eq_some_iff] at h
    obtain ⟨i, hi, he⟩ := h
    cases he
    exact ⟨i, hu, hi, rfl⟩
  · cases h
theorem run_store0 {P : Program} {b e : Nat} {l vs : List Value} (h1 : vs.all (·.oneCell') = true) (hb : vs.length ≤ l.length) {w : World} (h : w.heap[b]? = some (cel e l)) :
    (storeCells ⟨b, 0, none⟩ vs).run P w = .ok () { w with heap := w.heap.setIfInBounds b (cel e (spl l 0 vs)) } := by
  have := run_storeCells_at (P := P) b 0 e vs 0 l.toArray w h (by simpa using hb) (fun x hx => List.all_eq_true.1 h1 x hx)
  rw [setRow_cells h] at this
  simpa [spl] using this
theorem clr {T e s : Nat} {x : Operand} {rows : List (List Value)} (o : OSl e s rows) {z : List Value} {C : Heap → Heap} {dd : Option Nat}
    (ho : ops[i]? = some ⟨dd, .call { callee := .builtin .clear, args := #[x], argTypes := #[T] }, ty, pos, af, none⟩) (hdd : dd = none) (hT : slE P T = some (e, s)) (hz : zeroL P e = some z) (hzs : z.length = s) (hz1 : z.all (·.oneCell') = true)
    (hx : ev L x = some o.fs) [rp : RepF o.G H C]
    (h : ∀ o' : OSl e s (List.replicate rows.length z), o'.fs = o.fs → Sy n L D (C o'.G) R K) : Sy n L D H R (stp P r ops i K) := fun a w ha hD hs0 => by
  subst hdd
  obtain ⟨T0, p1, p2⟩ := rp.rep
  have hs := hs0.perm p1
  obtain ⟨ie, hu, hi, rfl⟩ := slE_und hT
  obtain ⟨zv, hzv1, hzv2⟩ := run_zero hz
  have key : ∃ (o' : OSl e ie.size (List.replicate rows.length z)) (w' : World), o'.fs = o.fs ∧ (Builtin.clear_ #[T] ty #[o.fs]).run P w = .ok (.tuple #[]) w' ∧ St (o'.G ++ T0) R w' := by
    have hlz : ∀ r ∈ List.replicate rows.length z, r.length = ie.size := fun r hr => by rw [(List.mem_replicate.1 hr).2]; exact hzs
    rcases o.is with ⟨h1, h2, h3⟩ | ⟨b, cap, junk, h2, h3, hj, hc, hm⟩
    · subst h1
      refine ⟨OSl.nil _ _, w, by rw [h2]; rfl, ?_, by rw [h3] at hs; exact hs⟩
      rw [h2]
      simp [Builtin.clear_, run_underlying hu]
    · rcases Nat.eq_zero_or_pos rows.length with h0 | h0
      · have h1 : rows = [] := List.eq_nil_of_length_eq_zero h0
        subst h1
        refine ⟨⟨o.fs, o.G, by simp, .inr ⟨b, cap, junk, h2, h3, hj, hc, hm⟩⟩, w, rfl, ?_, hs⟩
        rw [h2]
        simp [Builtin.clear_, run_underlying hu]
      · have hf := flat_len o.len
        have hr : (repl rows.length z).length = rows.length * ie.size := by rw [← flat_repl, flat_len hlz]; simp
        rw [h3] at hs
        have hst := run_store0 (P := P) (e := e) (l := rows.flatten ++ junk) (vs := repl rows.length z) (by
          rw [← flat_repl]
          refine List.all_eq_true.2 fun v hv => ?_
          obtain ⟨q, hq, hvq⟩ := List.mem_flatten.1 hv
          rw [(List.mem_replicate.1 hq).2] at hvq
          exact List.all_eq_true.1 hz1 v hvq) (by rw [hr, List.length_append, hf]; omega) (hs.held (b, cel e (rows.flatten ++ junk)) (by simp))
        have hspl : spl (rows.flatten ++ junk) 0 (repl rows.length z) = (List.replicate rows.length z).flatten ++ junk := by
          unfold spl
          rw [List.take_zero, List.nil_append, Nat.zero_add, hr, ← hf, List.drop_left, flat_repl]
        rw [hspl] at hst
        refine ⟨⟨.slice (some ⟨b, 0, none⟩) (List.replicate rows.length z).length cap, [(b, cel e ((List.replicate rows.length z).flatten ++ junk))], hlz, .inr ⟨b, cap, junk, rfl, rfl, by simpa using hj, by simpa using hc, hm⟩⟩, _, ?_, ?_, St.set (o := cel e (rows.flatten ++ junk)) hs⟩
        · rw [h2]; simp
        · obtain ⟨k, hk⟩ : ∃ k, rows.length = k + 1 := ⟨rows.length - 1, by omega⟩
          have hzc : (Builtin.zeroCells zv.cells rows.length).toList = repl rows.length z := by rw [hzv1]; simp [Builtin.zeroCells, repl]
          rw [h2]
          rw [hk] at hzc hst ⊢
          simp only [Builtin.clear_, Sem.run_bind, run_underlying hu, Result.andThen, hzv2, hzc, hst, Sem.run_pure, List.getElem?_toArray, List.getElem?_cons_zero]
  obtain ⟨o', w', e1, e2, e3⟩ := key
  refine stp_value ho (wanted_none _ rfl _) (v := .tuple #[]) (w' := w') ?_ (h o' e1 _ _ (ha.putNone _) hD (e3.perm (p2 _)))
  simp only [execOp, resolve, invoke, builtin, Sem.run_bind, Sem.run_pure, Result.andThen, List.map_toArray, List.map_cons, List.map_nil, ha.reads _ _ hx]
  rw [e2]
end steps
def back (b : Nat) (o : Obj) (R : Facts) : World → Prop := fun w => w.heap[b]? = some o ∧ ∀ f ∈ R, ∀ w', Keep [b] w w' → f w'
theorem St.lend {b : Nat} {o : Obj} {T : Heap} {R : Facts} {w : World} (h : St ((b, o) :: T) R w) : St T (back b o R :: R) w where
  nd := (List.nodup_cons.1 h.nd).2
  held p hp := h.held p (by simp [hp])
  fact f hf w' k := by
    have hb : b ∉ ids T := (List.nodup_cons.1 h.nd).1
    have hlt : b < w.heap.size := h.lt (by simp)
    rcases List.mem_cons.1 hf with h1 | h1
    · subst h1
      refine ⟨(k.block b hlt hb).trans (h.held (b, o) (by simp)), fun g hg w'' k2 => ?_⟩
      exact h.fact g hg w'' ((k.mono (D' := ids ((b, o) :: T)) (fun i _ hi => by simp [hi])).trans (k2.mono (fun i _ hi => by simp at hi; simp [hi])))
    · exact h.fact f h1 w' (k.mono (fun i _ hi => by simp [hi]))
theorem St.unlend {b : Nat} {o : Obj} {T : Heap} {R R' : Facts} {w : World} (h : St T (back b o R :: R') w) (hb : b ∉ ids T) : St ((b, o) :: T) R w where
  nd := List.nodup_cons.2 ⟨hb, h.nd⟩
  held p hp := by
    rcases List.mem_cons.1 hp with h1 | h1
    · subst h1; exact (h.now (f := back b o R) (by simp)).1
    · exact h.held p h1
  fact f hf w' k := by
    have h0 := (h.now (f := back b o R) (by simp)).1
    have hlt : b < w.heap.size := (Array.getElem?_eq_some_iff.1 h0).1
    have hlt' : b < w'.heap.size := Nat.lt_of_lt_of_le hlt k.size
    have k1 : Keep (ids T) w { w' with heap := w'.heap.setIfInBounds b o } := ⟨k.os, k.tape, k.output, by simpa using k.size, fun i hi hn => by
      show (w'.heap.setIfInBounds b o)[i]? = _
      by_cases e : b = i
      · subst e
        rw [Array.getElem?_setIfInBounds_self_of_lt hlt', h0]
      · rw [Array.getElem?_setIfInBounds_ne e]
        exact k.block i hi (by simp; exact ⟨fun h => e h.symm, hn⟩)⟩
    have h2 := h.fact (back b o R) (by simp) _ k1
    refine h2.2 f hf w' ⟨rfl, rfl, rfl, by simp, fun i _ hn => ?_⟩
    show _ = (w'.heap.setIfInBounds b o)[i]?
    rw [Array.getElem?_setIfInBounds_ne (fun e => hn (by simp [e]))]
theorem rows_block {b e sz : Nat} {rows : List (List Value)} {junk : List Value} {w : World} (h : w.heap[b]? = some (cel e (rows.flatten ++ junk))) (hs : ∀ r ∈ rows, r.length = sz) : RowsA (some ⟨b, 0, none⟩) sz rows w := fun i row hi => by
  refine ⟨hs row (List.mem_of_getElem? hi), b, 0, rfl, fun j x hx => ?_⟩
  rw [Nat.zero_add, cell_of h]
  have := flat_get hs hi hx
  rw [List.getElem?_toArray, List.getElem?_append_left (List.getElem?_eq_some_iff.1 this).1]
  exact this
theorem FnV.lend {P : Program} {f : FuncId} {args : List Value} {v : Value} {b e sz : Nat} {rows : List (List Value)} {junk : List Value} {H T : Heap} {R : Facts} [pl : Pull b (cel e (rows.flatten ++ junk)) H T] (hs : ∀ r ∈ rows, r.length = sz)
    (h : ∀ B : World → Prop, FnV P f args T (RowsA (some ⟨b, 0, none⟩) sz rows :: B :: R) v) : FnV P f args H R v := fun w hw => by
  have h1 := hw.perm pl.perm
  have hb : b ∉ ids T := (List.nodup_cons.1 h1.nd).1
  have h3 : St T (RowsA (some ⟨b, 0, none⟩) sz rows :: back b (cel e (rows.flatten ++ junk)) R :: R) w :=
    St.also h1.lend (fun w' hg => rows_block (hg (back b (cel e (rows.flatten ++ junk)) R) (by simp)).1 hs)
  refine CallsIn.mono (h _ w h3) ?_
  rintro e' w' ⟨u, H', R', ⟨rfl, rfl, rfl⟩, he, hs'⟩
  exact ⟨_, H, R, ⟨rfl, rfl, rfl⟩, he, (St.unlend hs'.ftail hb).perm pl.perm.symm⟩
end Go.Proofs.YtndhkpnaeocnhaaGreat
namespace Go.Proofs.YtndhkpnaeocnhaaGreat
set_option linter.unusedSimpArgs false
set_option linter.unusedVariables false
open Go
theorem St.pullG {H : Heap} {R : Facts} {w : World} (F : Heap) {C : Heap → Heap} [r : RepF F H C] (h : St H R w) : St (F ++ C []) R w := by
  obtain ⟨T, h1, h2⟩ := r.rep
  exact h.perm (h1.trans (List.Perm.append_left F (h2 [])))
theorem run_bound {P : Program} {k : IntKind} {i : Int} {y : Nat} {c : BoundsCode} (h : 0 ≤ i ∧ i ≤ y) (w : World) : (Instr.sliceBound (.int k i) y c).run P w = .ok i.toNat w := by
  unfold Instr.sliceBound
  simp only [asIntOf, Sem.run_bind, Sem.run_pure, Result.andThen]
  rw [if_pos h]; rfl
section pe
variable {P : Program} {L : Slots} {d : Option Tmp} {ty : TypeId} {pos : String} {af : Array Edge} {g : Option (Nat × Bool)}
theorem PE.slHi {T e s : Nat} {x y : Operand} {a : Option Addr} {len cap h : Nat} {k : IntKind} (hT : slE P T = some (e, s)) (hx : ev L x = some (.slice a len cap)) (hy : ev L y = some (.int k h)) (hh : h ≤ cap) :
    PE P L ⟨d, .slice T x none (some y) none, ty, pos, af, g⟩ (.slice a h cap) := fun ρ hρ w => by
  obtain ⟨i, hu, hi, _⟩ := slE_und hT
  have hb : ∀ c w, (Instr.sliceBound (.int k (h : Int)) cap c).run P w = .ok h w := fun c w => by rw [run_bound (by omega)]; simp
  have e1 : (if cap = 0 then a else a.map (·.add (0 * i.size))) = a := by
    have : a.map (·.add (0 * i.size)) = a := by
      cases a with
      | none => rfl
      | some ad => simp [Addr.add]
    rw [this]; split <;> rfl
  simp only [execOp, hρ _ _ hx, hρ _ _ hy, Option.map_none, Option.map_some, Instr.sliceAt, Instr.slice, Sem.run_bind, run_underlying hu, Result.andThen, Sem.run_pure, Instr.sliceBounds, hb, sizeOf, typeInfo, program, hi, Sem.run]
  rw [e1]; simp
theorem PE.slLo {T e s : Nat} {x z : Operand} {b off len cap l : Nat} {k2 : IntKind} (hT : slE P T = some (e, s)) (hx : ev L x = some (.slice (some ⟨b, off, none⟩) len cap)) (hz : ev L z = some (.int k2 l)) (hl : l ≤ len) (hlc : l < cap) :
    PE P L ⟨d, .slice T x (some z) none none, ty, pos, af, g⟩ (.slice (some ⟨b, off + l * s, none⟩) (len - l) (cap - l)) := fun ρ hρ w => by
  obtain ⟨i, hu, hi, rfl⟩ := slE_und hT
  have hb2 : ∀ c w, (Instr.sliceBound (.int k2 (l : Int)) len c).run P w = .ok l w := fun c w => by rw [run_bound (by omega)]; simp
  simp only [execOp, hρ _ _ hx, hρ _ _ hz, Option.map_none, Option.map_some, Instr.sliceAt, Instr.slice, Sem.run_bind, run_underlying hu, Result.andThen, Sem.run_pure, Instr.sliceBounds, hb2, sizeOf, typeInfo, program, hi, Sem.run]
  rw [if_neg (by omega)]
  simp [addr_add]
def arE (P : Program) (T : Nat) : Option (Nat × Nat) := match P.underlying T with | some (.array n e) => some (n, e) | _ => none
theorem PE.indexI {T len e s i : Nat} {b : Bool} {x y : Operand} {k : IntKind} {l : List Int} (hT : arE P T = some (len, e)) (hE : EQ P 10000 b e s) (hs : b = false → s = 1) (hx : ev L x = some (.agg (ints l).toArray)) (hy : ev L y = some (.int k i)) (hi : i < len) (hl : i * s + s ≤ l.length) :
    PE P L ⟨d, .index T x y, ty, pos, af, g⟩ (mkv b ((l.drop (i * s)).take s)) := fun ρ hρ w => by
  unfold arE at hT
  split at hT
  · rename_i n e' hu
    cases hT
    have hsz := run_size hE.1.1
    have hp := run_part hE hs l (i * s) hl
    simp only [execOp, hρ _ _ hx, hρ _ _ hy, Instr.index, asIntOf, Sem.run_bind, Sem.run_pure, run_underlying hu, Result.andThen]
    rw [if_pos ⟨by omega, by omega⟩]
    simp only [Sem.run_bind, hsz, Result.andThen, Int.toNat_natCast, hp, Sem.run_pure]
  · cases hT
end pe
theorem rows_take {a : Option Addr} {sz : Nat} {rows : List (List Value)} {w : World} (h : RowsA a sz rows w) (n : Nat) : RowsA a sz (rows.take n) w := fun i row hi => by
  rw [List.getElem?_take] at hi
  split at hi
  · exact h i row hi
  · cases hi
theorem St.rowsTake {a : Option Addr} {sz : Nat} {rows : List (List Value)} {H : Heap} {R : Facts} {w : World} [m : MemRows a sz rows R] (h : St H R w) (n : Nat) : St H (RowsA a sz (rows.take n) :: R) w := h.also fun _ hg => rows_take (hg _ m.mem) n
section calls
variable {P : Program} {r : Option Nat} {ops : Array Oper} {n : Nat} {L : Slots} {D : List Deferred} {H : Heap} {R : Facts} {K : Act → World → Prop}
  {i : Nat} {ty : TypeId} {pos : String} {af : Array Edge}
end calls
theorem FnV.app {P : Program} {f : FuncId} {a : List Value} {G G2 H : Heap} {R : Facts} {v : Value} (h : FnV P f a ((G ++ G2) ++ H) R v) : FnV P f a (G ++ (G2 ++ H)) R v := by rw [← List.append_assoc]; exact h
theorem Yd.app {P : Program} {l : Nat} {a : List Value} {G G2 H : Heap} {R : Facts} {Q : Value → Heap → Facts → Prop} (h : Yd P l a ((G ++ G2) ++ H) R Q) : Yd P l a (G ++ (G2 ++ H)) R Q := by rw [← List.append_assoc]; exact h
theorem Yd.mono {P : Program} {l : Nat} {a : List Value} {H : Heap} {R : Facts} {Q Q' : Value → Heap → Facts → Prop} (h : Yd P l a H R Q) (hq : ∀ v H' R', Q v H' R' → Q' v H' R') : Yd P l a H R Q' := fun w hs => by
  obtain ⟨f, tm, asg, bo, h1, h2⟩ := h w hs
  exact ⟨f, tm, asg, bo, h1, RoundIn.mono h2 fun e w' ⟨v, H', R', q, he, hs'⟩ => ⟨v, H', R', hq _ _ _ q, he, hs'⟩⟩
end Go.Proofs.YtndhkpnaeocnhaaGreat
namespace Go.Proofs.YtndhkpnaeocnhaaGreat
set_option linter.unusedSimpArgs false
set_option linter.unusedVariables false
open Go
theorem wrap_i64_id {n : Int} (h0 : -9223372036854775808 ≤ n) (h1 : n ≤ 9223372036854775807) : IntKind.i64.wrap n = n := by
  have e : IntKind.i64.wrap n = if n % 18446744073709551616 ≥ 9223372036854775808 then n % 18446744073709551616 - 18446744073709551616 else n % 18446744073709551616 := by
    unfold IntKind.wrap
    simp [IntKind.signed, IntKind.bits]
  rw [e]
  split <;> omega
section pe
variable {P : Program} {L : Slots} {d : Option Tmp} {ty : TypeId} {pos : String} {af : Array Edge} {g : Option (Nat × Bool)}
theorem run_bits {op : BinOp} {T : TypeId} {k : IntKind} {m n : Int} (hop : op = .and ∨ op = .or ∨ op = .xor ∨ op = .andNot) : binOp op T (.int k m) (.int k n) = Op.intBits op k m n := by
  rcases hop with rfl | rfl | rfl | rfl <;> simp [binOp]
theorem PE.bits {op : BinOp} {T U : TypeId} {x y : Operand} {k : IntKind} {m n : Int} {v : Value} (hop : op = .and ∨ op = .or ∨ op = .xor ∨ op = .andNot) (hx : ev L x = some (.int k m)) (hy : ev L y = some (.int k n))
    (h : ∀ w, (Op.intBits op k m n).run P w = .ok v w) : PE P L ⟨d, .binOp op T x y U, ty, pos, af, g⟩ v := fun ρ hρ w => by
  have hg : ∀ w, (eqGuard op T x y (.int k m) (.int k n)).run P w = .ok () w := fun w => by rcases hop with rfl | rfl | rfl | rfl <;> rfl
  simp only [execOp, hρ _ _ hx, hρ _ _ hy, Sem.run_bind, hg, run_bits hop, h, Result.andThen, Sem.run_pure]
theorem PE.conv64 {S T : TypeId} {x : Operand} {k : IntKind} {m : Int} (hS : (P.underlying S).isSome = true) (hT : intK P T = some .i64) (hx : ev L x = some (.int k m)) (h0 : -9223372036854775808 ≤ m ∧ m ≤ 9223372036854775807) : PE P L ⟨d, .convert S T x, ty, pos, af, g⟩ (.int .i64 m) := by
  have := PE.convert (P := P) (L := L) (d := d) (ty := ty) (pos := pos) (af := af) (g := g) hS hT hx
  rwa [wrap_i64_id h0.1 h0.2] at this
end pe
section steps
variable {P : Program} {r : Option Nat} {ops : Array Oper} {n : Nat} {L : Slots} {D : List Deferred} {H : Heap} {R : Facts} {K : Act → World → Prop}
  {bm : List Nat} {X : Act → World → Prop} {p : Plan} {pend : Pend}
  {i d : Nat} {op : Op} {ty : TypeId} {pos : String} {af : Array Edge}
theorem spE {q : Value → Prop} (ho : ops[i]? = some ⟨some d, op, ty, pos, af, none⟩) (hv : ∃ v, PE P L ⟨some d, op, ty, pos, af, none⟩ v ∧ q v) (hd : Nat.blt d n = true)
    (h : ∀ v, q v → Sy n ((d, v) :: L) D H R K) : Sy n L D H R (stp P r ops i K) := by
  obtain ⟨v, hv, hq⟩ := hv
  exact sp ho hv hd (h v hq)
end steps
end Go.Proofs.YtndhkpnaeocnhaaGreat
namespace Go.Proofs.YtndhkpnaeocnhaaGreat
set_option linter.unusedVariables false
open Go
theorem mixed : Tryz.prog.follows .mixedOrders = true := by kernel_rfl
end Go.Proofs.YtndhkpnaeocnhaaGreat
namespace Go.Proofs.YtndhkpnaeocnhaaGreat
set_option linter.unusedSimpArgs false
set_option linter.unusedVariables false
abbrev Box := List Int
abbrev Mix := List Int
def nn (l : List Int) (k : Nat) : Int := l.getD k 0
@[reducible] def bl (b : Box) (k : Nat) : Int := nn b (2 * k)
@[reducible] def bh (b : Box) (k : Nat) : Int := nn b (2 * k + 1)
def met (l h l2 h2 : Int) : Int × Int := bif decide (min h h2 < max l l2) then (1, 0) else (max l l2, min h h2)
def bset (b : Box) (k : Nat) (s : Int × Int) : Box := (b.set (2 * k) s.1).set (2 * k + 1) s.2
def oth (f : Nat → Int) (k : Nat) : Int := (bif k == 0 then 0 else f 0) + (bif k == 1 then 0 else f 1) + (bif k == 2 then 0 else f 2) + (bif k == 3 then 0 else f 3)
def stepS (b : Box) (k : Nat) : Int × Int := met (bl b k) (bh b k) (40 - oth (bh b) k) (40 - oth (bl b) k)
def rndN (b : Box) : Nat → Option Box
  | 0 => some b
  | k + 1 => match rndN b k with
    | none => none
    | some c => bif stepS c k == (1, 0) then none else some (bset c k (stepS c k))
inductive CloseR : Box → Option Box → Prop where
  | no {b : Box} (h : rndN b 4 = none) : CloseR b none
  | fix {b : Box} (h : rndN b 4 = some b) : CloseR b (some b)
  | go {b c : Box} {r : Option Box} (h : rndN b 4 = some c) (hc : c ≠ b) (hr : CloseR c r) : CloseR b r
def closeF : Nat → Box → Option Box
  | 0, _ => none
  | n + 1, b => match rndN b 4 with
    | none => none
    | some c => bif decide (c = b) then some b else closeF n c
@[irreducible] def clo (b : Box) : Option Box := closeF 200 b
def sum4 (m : List Int) : Int := nn m 0 + nn m 1 + nn m 2 + nn m 3
structure Mx (b : Box) (m : Mix) : Prop where
  len : m.length = 4
  sum : sum4 m = 40
  at_ : ∀ k < 4, bl b k ≤ nn m k ∧ nn m k ≤ bh b k
structure Bok (b : Box) : Prop where
  len : b.length = 8
  at_ : ∀ k < 4, (bl b k = 1 ∧ bh b k = 0) ∨ (0 ≤ bl b k ∧ bl b k ≤ bh b k ∧ bh b k ≤ 40)
def wid (b : Box) : Nat := ((bh b 0 - bl b 0 + 1) + (bh b 1 - bl b 1 + 1) + (bh b 2 - bl b 2 + 1) + (bh b 3 - bl b 3 + 1)).toNat
theorem list8 {b : Box} (h : b.length = 8) : ∃ a0 a1 a2 a3 a4 a5 a6 a7, b = [a0, a1, a2, a3, a4, a5, a6, a7] := by
  match b, h with
  | [a0, a1, a2, a3, a4, a5, a6, a7], _ => exact ⟨a0, a1, a2, a3, a4, a5, a6, a7, rfl⟩
theorem list4 {m : List Int} (h : m.length = 4) : ∃ a b c d, m = [a, b, c, d] := by
  match m, h with
  | [a, b, c, d], _ => exact ⟨a, b, c, d, rfl⟩
theorem lt4 {k : Nat} (h : k < 4) : k = 0 ∨ k = 1 ∨ k = 2 ∨ k = 3 := by omega
theorem all4 {p : Nat → Prop} (h : ∀ k < 4, p k) : p 0 ∧ p 1 ∧ p 2 ∧ p 3 := ⟨h 0 (by omega), h 1 (by omega), h 2 (by omega), h 3 (by omega)⟩
theorem of4 {p : Nat → Prop} (h : p 0 ∧ p 1 ∧ p 2 ∧ p 3) : ∀ k < 4, p k := fun k hk => by
  obtain ⟨h0, h1, h2, h3⟩ := h
  rcases lt4 hk with rfl | rfl | rfl | rfl <;> assumption
theorem bset_len (b : Box) (k : Nat) (s : Int × Int) : (bset b k s).length = b.length := by simp [bset]
theorem bset_at {b : Box} (hb : b.length = 8) {k j : Nat} (hk : k < 4) (hj : j < 4) (s : Int × Int) : bl (bset b k s) j = (bif k == j then s.1 else bl b j) ∧ bh (bset b k s) j = (bif k == j then s.2 else bh b j) := by
  obtain ⟨a0, a1, a2, a3, a4, a5, a6, a7, rfl⟩ := list8 hb
  rcases lt4 hk with rfl | rfl | rfl | rfl <;> rcases lt4 hj with rfl | rfl | rfl | rfl <;> exact ⟨rfl, rfl⟩
theorem met_none {l h l2 h2 : Int} : met l h l2 h2 = (1, 0) ∨ (met l h l2 h2 = (max l l2, min h h2) ∧ max l l2 ≤ min h h2) := by
  unfold met
  by_cases hc : min h h2 < max l l2
  · rw [decide_eq_true hc]; exact .inl rfl
  · rw [decide_eq_false hc]; exact .inr ⟨rfl, by omega⟩
theorem met_in {l h l2 h2 x : Int} (h1 : l ≤ x ∧ x ≤ h) (h2' : l2 ≤ x ∧ x ≤ h2) : met l h l2 h2 = (max l l2, min h h2) := by
  unfold met
  rw [decide_eq_false (by omega)]; rfl
theorem met_iff {l h l2 h2 x : Int} : ((met l h l2 h2).1 ≤ x ∧ x ≤ (met l h l2 h2).2) ↔ ((l ≤ x ∧ x ≤ h) ∧ (l2 ≤ x ∧ x ≤ h2)) := by
  rcases met_none (l := l) (h := h) (l2 := l2) (h2 := h2) with e | ⟨e, h3⟩
  · rw [e]
    constructor
    · intro hx; have := hx.1; have := hx.2; simp only at *; omega
    · rintro ⟨h1, h4⟩
      rw [met_in h1 h4] at e
      simp only [Prod.mk.injEq] at e
      simp only; omega
  · rw [e]; simp only; omega
theorem met_ok {l h l2 h2 : Int} (hb : (l = 1 ∧ h = 0) ∨ (0 ≤ l ∧ l ≤ h ∧ h ≤ 40)) : ((met l h l2 h2).1 = 1 ∧ (met l h l2 h2).2 = 0) ∨ (0 ≤ (met l h l2 h2).1 ∧ (met l h l2 h2).1 ≤ (met l h l2 h2).2 ∧ (met l h l2 h2).2 ≤ 40) := by
  rcases met_none (l := l) (h := h) (l2 := l2) (h2 := h2) with e | ⟨e, h3⟩
  · rw [e]; exact .inl ⟨rfl, rfl⟩
  · rw [e]; simp only; omega
theorem Bok.set {b : Box} (h : Bok b) {k : Nat} (hk : k < 4) {l2 h2 : Int} : Bok (bset b k (met (bl b k) (bh b k) l2 h2)) := by
  refine ⟨by rw [bset_len]; exact h.len, fun j hj => ?_⟩
  obtain ⟨e1, e2⟩ := bset_at h.len hk hj (met (bl b k) (bh b k) l2 h2)
  rw [e1, e2]
  by_cases hkj : k = j
  · subst hkj
    simp only [beq_self_eq_true, cond_true]
    exact met_ok (h.at_ k hk)
  · have : (k == j) = false := by simpa using hkj
    rw [this]; exact h.at_ j hj
theorem Mx.set {b : Box} (hb : b.length = 8) {k : Nat} (hk : k < 4) {l2 h2 : Int} {m : Mix} : Mx (bset b k (met (bl b k) (bh b k) l2 h2)) m ↔ (Mx b m ∧ l2 ≤ nn m k ∧ nn m k ≤ h2) := by
  constructor
  · rintro ⟨h1, h2', h3⟩
    have hk2 := h3 k hk
    obtain ⟨e1, e2⟩ := bset_at hb hk hk (met (bl b k) (bh b k) l2 h2)
    simp only [beq_self_eq_true, cond_true] at e1 e2
    rw [e1, e2, met_iff] at hk2
    refine ⟨⟨h1, h2', fun j hj => ?_⟩, hk2.2⟩
    by_cases hkj : k = j
    · subst hkj; exact hk2.1
    · have h4 := h3 j hj
      obtain ⟨e3, e4⟩ := bset_at hb hk hj (met (bl b k) (bh b k) l2 h2)
      have : (k == j) = false := by simpa using hkj
      rw [e3, e4, this] at h4
      exact h4
  · rintro ⟨⟨h1, h2', h3⟩, h4⟩
    refine ⟨h1, h2', fun j hj => ?_⟩
    obtain ⟨e3, e4⟩ := bset_at hb hk hj (met (bl b k) (bh b k) l2 h2)
    rw [e3, e4]
    by_cases hkj : k = j
    · subst hkj
      simp only [beq_self_eq_true, cond_true]
      exact met_iff.2 ⟨h3 k hk, h4⟩
    · have : (k == j) = false := by simpa using hkj
      rw [this]; exact h3 j hj
theorem Mx.oth {b : Box} {m : Mix} (h : Mx b m) {k : Nat} (hk : k < 4) : 40 - oth (bh b) k ≤ nn m k ∧ nn m k ≤ 40 - oth (bl b) k := by
  obtain ⟨h0, h1, h2, h3⟩ := all4 h.at_
  have hs := h.sum
  unfold sum4 at hs
  rcases lt4 hk with rfl | rfl | rfl | rfl <;> simp [Go.Proofs.YtndhkpnaeocnhaaGreat.oth] <;> omega
theorem step_mx {b : Box} (hb : b.length = 8) {k : Nat} (hk : k < 4) {m : Mix} : Mx (bset b k (stepS b k)) m ↔ Mx b m := by
  unfold stepS
  rw [Mx.set hb hk]
  exact ⟨fun h => h.1, fun h => ⟨h, h.oth hk⟩⟩
theorem none_mx {b : Box} (hb : b.length = 8) {k : Nat} (hk : k < 4) (h : stepS b k = (1, 0)) {m : Mix} : ¬ Mx b m := fun hm => by
  have h1 := (step_mx hb hk).2 hm
  have h2 := h1.at_ k hk
  obtain ⟨e1, e2⟩ := bset_at hb hk hk (stepS b k)
  simp only [beq_self_eq_true, cond_true] at e1 e2
  rw [e1, e2, h] at h2
  have := h2.1; have := h2.2
  simp only at *; omega
theorem rnd_ok {b : Box} (hb : Bok b) : ∀ k, k ≤ 4 → match rndN b k with
    | none => ∀ m, ¬ Mx b m
    | some c => Bok c ∧ (∀ m, Mx c m ↔ Mx b m) ∧ (∀ j < 4, bl b j ≤ bl c j ∧ bh c j ≤ bh b j) ∧ ∀ j < k, bl c j ≤ bh c j
  | 0, _ => ⟨hb, fun _ => Iff.rfl, fun _ _ => ⟨Int.le_refl _, Int.le_refl _⟩, fun j hj => by omega⟩
  | k + 1, hk => by
    have ih := rnd_ok hb k (by omega)
    unfold rndN
    cases hr : rndN b k with
    | none => rw [hr] at ih; exact ih
    | some c =>
      rw [hr] at ih
      obtain ⟨h1, h2, h3, h4⟩ := ih
      simp only
      by_cases hs : stepS c k = (1, 0)
      · have : (stepS c k == (1, 0)) = true := by simp [hs]
        rw [this]
        exact fun m hm => none_mx h1.len (by omega) hs ((h2 m).2 hm)
      · have : (stepS c k == (1, 0)) = false := by simpa using hs
        rw [this]
        simp only [cond_false]
        have h5 : stepS c k = (max (bl c k) (40 - oth (bh c) k), min (bh c k) (40 - oth (bl c) k)) ∧ max (bl c k) (40 - oth (bh c) k) ≤ min (bh c k) (40 - oth (bl c) k) := by
          unfold stepS at hs ⊢
          rcases met_none (l := bl c k) (h := bh c k) (l2 := 40 - oth (bh c) k) (h2 := 40 - oth (bl c) k) with e | e
          · exact absurd e hs
          · exact e
        refine ⟨h1.set (by omega), fun m => (step_mx h1.len (by omega)).trans (h2 m), fun j hj => ?_, fun j hj => ?_⟩
        · obtain ⟨e1, e2⟩ := bset_at h1.len (k := k) (j := j) (by omega) hj (stepS c k)
          rw [e1, e2]
          have h6 := h3 j hj
          by_cases hkj : k = j
          · subst hkj; simp only [beq_self_eq_true, cond_true]; rw [h5.1]; simp only; omega
          · have : (k == j) = false := by simpa using hkj
            rw [this]; exact h6
        · obtain ⟨e1, e2⟩ := bset_at h1.len (k := k) (j := j) (by omega) (by omega) (stepS c k)
          rw [e1, e2]
          by_cases hkj : k = j
          · subst hkj; simp only [beq_self_eq_true, cond_true]; rw [h5.1]; exact h5.2
          · have : (k == j) = false := by simpa using hkj
            rw [this]; exact h4 j (by omega)
theorem box_ext {b c : Box} (hb : b.length = 8) (hc : c.length = 8) (h : ∀ k < 4, bl b k = bl c k ∧ bh b k = bh c k) : b = c := by
  obtain ⟨a0, a1, a2, a3, a4, a5, a6, a7, rfl⟩ := list8 hb
  obtain ⟨b0, b1, b2, b3, b4, b5, b6, b7, rfl⟩ := list8 hc
  obtain ⟨h0, h1, h2, h3⟩ := all4 h
  simp [bl, bh, nn] at h0 h1 h2 h3
  simp [h0, h1, h2, h3]
theorem rnd_wid {b c : Box} (hb : Bok b) (h : rndN b 4 = some c) (hne : c ≠ b) : wid c < wid b := by
  have h1 := rnd_ok hb 4 (by omega)
  rw [h] at h1
  obtain ⟨h2, _, h3, h4⟩ := h1
  have h5 : ¬ (∀ k < 4, bl c k = bl b k ∧ bh c k = bh b k) := fun h5 => hne (box_ext h2.len hb.len h5)
  obtain ⟨a0, a1, a2, a3⟩ := all4 h3
  obtain ⟨c0, c1, c2, c3⟩ := all4 h4
  have h6 : ¬ ((bl c 0 = bl b 0 ∧ bh c 0 = bh b 0) ∧ (bl c 1 = bl b 1 ∧ bh c 1 = bh b 1) ∧ (bl c 2 = bl b 2 ∧ bh c 2 = bh b 2) ∧ (bl c 3 = bl b 3 ∧ bh c 3 = bh b 3)) := fun h6 => h5 (of4 h6)
  unfold wid
  omega
theorem wid_le {b : Box} (hb : Bok b) : wid b ≤ 164 := by
  obtain ⟨a0, a1, a2, a3⟩ := all4 hb.at_
  unfold wid
  omega
theorem closeF_R : ∀ {n : Nat} {b : Box}, Bok b → wid b < n → CloseR b (closeF n b)
  | 0, b, _, h => by omega
  | n + 1, b, hb, h => by
    have h1 := rnd_ok hb 4 (by omega)
    unfold closeF
    cases hr : rndN b 4 with
    | none => exact .no hr
    | some c =>
      rw [hr] at h1
      simp only
      by_cases hc : c = b
      · subst hc; simp only [decide_true, cond_true]; exact .fix hr
      · simp only [hc, decide_false, cond_false]
        exact .go hr hc (closeF_R h1.1 (by have := rnd_wid hb hr hc; omega))
theorem CloseR.uniq {b : Box} {r r' : Option Box} (h : CloseR b r) (h' : CloseR b r') : r = r' := by
  induction h with
  | no h => cases h' with
    | no _ => rfl
    | fix h2 => rw [h] at h2; cases h2
    | go h2 _ _ => rw [h] at h2; cases h2
  | fix h => cases h' with
    | no h2 => rw [h] at h2; cases h2
    | fix _ => rfl
    | go h2 hc _ => rw [h] at h2; cases h2; exact absurd rfl hc
  | go h hc hr ih => cases h' with
    | no h2 => rw [h] at h2; cases h2
    | fix h2 => rw [h] at h2; cases h2; exact absurd rfl hc
    | go h2 _ hr' => rw [h] at h2; cases h2; exact ih hr'
theorem clo_R {b : Box} (hb : Bok b) : CloseR b (clo b) := by unfold clo; exact closeF_R hb (by have := wid_le hb; omega)
theorem CloseR.clo {b : Box} {r : Option Box} (hb : Bok b) (h : CloseR b r) : clo b = r := (clo_R hb).uniq h
structure Tight (b : Box) : Prop where
  ok : Bok b
  fit : ∀ k < 4, bl b k ≤ bh b k ∧ 40 - oth (bh b) k ≤ bl b k ∧ bh b k ≤ 40 - oth (bl b) k
theorem rnd_fix {b : Box} (hb : Bok b) (h : rndN b 4 = some b) : Tight b := by
  have key : ∀ k, k ≤ 4 → ∀ c, rndN b k = some c → (c = b ∧ ∀ j < k, bl b j ≤ bh b j ∧ 40 - oth (bh b) j ≤ bl b j ∧ bh b j ≤ 40 - oth (bl b) j) ∨ wid c < wid b := by
    intro k
    induction k with
    | zero => intro _ c hc; cases hc; exact .inl ⟨rfl, fun j hj => by omega⟩
    | succ k ih =>
      intro hk d hd
      unfold rndN at hd
      cases hr : rndN b k with
      | none => rw [hr] at hd; cases hd
      | some c =>
        rw [hr] at hd
        have h1 := rnd_ok hb k (by omega)
        rw [hr] at h1
        obtain ⟨hc, _, hle, _⟩ := h1
        simp only at hd
        by_cases hs : stepS c k = (1, 0)
        · have : (stepS c k == (1, 0)) = true := by simp [hs]
          rw [this] at hd; cases hd
        · have : (stepS c k == (1, 0)) = false := by simpa using hs
          rw [this] at hd
          simp only [cond_false, Option.some.injEq] at hd
          have h5 : stepS c k = (max (bl c k) (40 - oth (bh c) k), min (bh c k) (40 - oth (bl c) k)) ∧ max (bl c k) (40 - oth (bh c) k) ≤ min (bh c k) (40 - oth (bl c) k) := by
            unfold stepS at hs ⊢
            rcases met_none (l := bl c k) (h := bh c k) (l2 := 40 - oth (bh c) k) (h2 := 40 - oth (bl c) k) with e | e
            · exact absurd e hs
            · exact e
          subst hd
          have hat := fun j (hj : j < 4) => bset_at hc.len (k := k) (j := j) (by omega) hj (stepS c k)
          -- no wider than c, and as wide just if the same
          have hmon : wid (bset c k (stepS c k)) ≤ wid c ∧ (wid (bset c k (stepS c k)) = wid c → 40 - oth (bh c) k ≤ bl c k ∧ bh c k ≤ 40 - oth (bl c) k ∧ bl c k ≤ bh c k) := by
            obtain ⟨x0, x1, x2, x3⟩ := all4 hat
            obtain ⟨a0, a1, a2, a3⟩ := all4 hc.at_
            rw [h5.1] at x0 x1 x2 x3
            rcases lt4 (show k < 4 by omega) with rfl | rfl | rfl | rfl <;> simp at x0 x1 x2 x3 <;> rw [h5.1] <;> unfold wid <;> omega
          rcases ih (by omega) c hr with ⟨rfl, h6⟩ | h6
          · rcases Nat.lt_or_ge (wid (bset c k (stepS c k))) (wid c) with h7 | h7
            · exact .inr h7
            · have h8 := hmon.2 (by omega)
              refine .inl ⟨box_ext (by rw [bset_len]; exact hc.len) hc.len (fun j hj => ?_), fun j hj => ?_⟩
              · obtain ⟨e1, e2⟩ := hat j hj
                rw [e1, e2]
                by_cases hkj : k = j
                · subst hkj; simp only [beq_self_eq_true, cond_true]; rw [h5.1]; simp only; omega
                · have : (k == j) = false := by simpa using hkj
                  rw [this]; exact ⟨rfl, rfl⟩
              · by_cases hkj : k = j
                · subst hkj; omega
                · exact h6 j (by omega)
          · exact .inr (by omega)
  rcases key 4 (by omega) b h with ⟨_, h1⟩ | h1
  · exact ⟨hb, h1⟩
  · omega
def CloP (b : Box) : Option Box → Prop
  | none => ∀ m, ¬ Mx b m
  | some c => Tight c ∧ ∀ m, Mx c m ↔ Mx b m
theorem close_ok {b : Box} {r : Option Box} (h : CloseR b r) : Bok b → CloP b r := by
  induction h with
  | no h => intro hb; have := rnd_ok hb 4 (by omega); rw [h] at this; exact this
  | fix h => intro hb; exact ⟨rnd_fix hb h, fun _ => Iff.rfl⟩
  | go h hc hr ih =>
    rename_i b c r
    intro hb
    have h1 := rnd_ok hb 4 (by omega)
    rw [h] at h1
    obtain ⟨h2, h3, _⟩ := h1
    have h4 := ih h2
    cases r with
    | none => exact fun m hm => h4 m ((h3 m).2 hm)
    | some d => exact ⟨h4.1, fun m => (h4.2 m).trans (h3 m)⟩
theorem clo_none {b : Box} (hb : Bok b) (h : clo b = none) : ∀ m, ¬ Mx b m := by
  have := close_ok (clo_R hb) hb
  rw [h] at this; exact this
theorem clo_some {b c : Box} (hb : Bok b) (h : clo b = some c) : Tight c ∧ ∀ m, Mx c m ↔ Mx b m := by
  have := close_ok (clo_R hb) hb
  rw [h] at this; exact this
theorem fill3 {l1 h1 l2 h2 l3 h3 t : Int} (a : l1 ≤ h1) (b : l2 ≤ h2) (c : l3 ≤ h3) (hl : l1 + l2 + l3 ≤ t) (hh : t ≤ h1 + h2 + h3) : ∃ x y z, (l1 ≤ x ∧ x ≤ h1) ∧ (l2 ≤ y ∧ y ≤ h2) ∧ (l3 ≤ z ∧ z ≤ h3) ∧ x + y + z = t :=
  ⟨min h1 (t - l2 - l3), min h2 (t - min h1 (t - l2 - l3) - l3), t - min h1 (t - l2 - l3) - min h2 (t - min h1 (t - l2 - l3) - l3), by omega, by omega, by omega, by omega⟩
theorem Tight.had {b : Box} (h : Tight b) {k : Nat} (hk : k < 4) {v : Int} (hv : bl b k ≤ v ∧ v ≤ bh b k) : ∃ m, Mx b m ∧ nn m k = v := by
  have h1 := h.fit k hk
  obtain ⟨⟨a0, _⟩, ⟨a1, _⟩, ⟨a2, _⟩, ⟨a3, _⟩⟩ := all4 h.fit
  rcases lt4 hk with rfl | rfl | rfl | rfl <;> simp [oth] at h1
  · obtain ⟨x, y, z, h2, h3, h4, h5⟩ := fill3 a1 a2 a3 (t := 40 - v) (by omega) (by omega)
    exact ⟨[v, x, y, z], ⟨rfl, by simp [sum4, nn]; omega, of4 ⟨hv, h2, h3, h4⟩⟩, rfl⟩
  · obtain ⟨x, y, z, h2, h3, h4, h5⟩ := fill3 a0 a2 a3 (t := 40 - v) (by omega) (by omega)
    exact ⟨[x, v, y, z], ⟨rfl, by simp [sum4, nn]; omega, of4 ⟨h2, hv, h3, h4⟩⟩, rfl⟩
  · obtain ⟨x, y, z, h2, h3, h4, h5⟩ := fill3 a0 a1 a3 (t := 40 - v) (by omega) (by omega)
    exact ⟨[x, y, v, z], ⟨rfl, by simp [sum4, nn]; omega, of4 ⟨h2, h3, hv, h4⟩⟩, rfl⟩
  · obtain ⟨x, y, z, h2, h3, h4, h5⟩ := fill3 a0 a1 a2 (t := 40 - v) (by omega) (by omega)
    exact ⟨[x, y, z, v], ⟨rfl, by simp [sum4, nn]; omega, of4 ⟨h2, h3, h4, hv⟩⟩, rfl⟩
def mixK (b : Box) (m : Mix) (k : Nat) : Mix := m.set k (nn m k + min (bh b k - bl b k) (40 - sum4 m))
def mixN (b : Box) : Nat → Mix
  | 0 => [bl b 0, bl b 1, bl b 2, bl b 3]
  | k + 1 => mixK b (mixN b k) k
def mixt (b : Box) : Mix := mixN b 4
theorem mixt_mx {b : Box} (h : Tight b) : Mx b (mixt b) := by
  obtain ⟨a0, a1, a2, a3⟩ := all4 h.fit
  simp [oth] at a0 a1 a2 a3
  have e : mixt b = mixK b (mixK b (mixK b (mixK b [bl b 0, bl b 1, bl b 2, bl b 3] 0) 1) 2) 3 := rfl
  rw [e]
  simp only [mixK, List.set, nn, sum4, List.getD_cons_zero, List.getD_cons_succ]
  refine ⟨rfl, ?_, of4 ⟨?_, ?_, ?_, ?_⟩⟩ <;> simp only [sum4, nn, List.getD_cons_zero, List.getD_cons_succ] <;> simp only [bl, bh, nn] at * <;> omega
end Go.Proofs.YtndhkpnaeocnhaaGreat
namespace Go.Proofs.YtndhkpnaeocnhaaGreat
set_option linter.unusedSimpArgs false
set_option linter.unusedVariables false
structure Grd where
  corn : Int
  chaff : Int
  stones : Int
  damp : Int
  price : Int
  deriving DecidableEq, Repr
structure Hnd where
  spot : Int
  a : Int
  b : Int
  c : Int
  d : Int
  deriving DecidableEq, Repr
structure Crt where
  full : Int
  empty : Int
  hs : List Hnd
  deriving DecidableEq, Repr
structure Gat where
  err : Int
  miss : Int
  grs : List Grd
  deriving DecidableEq, Repr
@[reducible] def inb (n lo hi : Int) : Bool := decide (lo ≤ n) && decide (n ≤ hi)
def Grd.ns (x : Grd) : List Int := [x.corn, x.chaff, x.stones, x.damp]
def Hnd.gs (h : Hnd) : List Int := [h.a, h.b, h.c, h.d]
def Hnd.tot (h : Hnd) : Int := sum4 h.gs
def grBad (l : List Grd) (i : Nat) : Bool := match l[i]?, l[i + 1]? with
  | some a, some b => decide (a.price < b.price)
  | _, _ => false
def Grd.fine (x : Grd) : Bool := inb x.price 0 100 && x.ns.all fun n => inb n 0 40
def Gat.check (g : Gat) : Int := bif decide (4 < g.grs.length) then 2 else bif !(inb g.err 0 50) || !(inb g.miss 0 20) then 3 else bif !(g.grs.all Grd.fine) then 3 else bif (List.range g.grs.length).any (grBad g.grs) then 4 else 0
def Hnd.fine (h : Hnd) : Bool := inb h.spot 0 2 && h.gs.all fun n => inb n 0 200
def Crt.check (c : Crt) : Int := bif decide (6 < c.hs.length) then 2 else bif !(inb c.full 0 10000) || !(inb c.empty 0 10000) then 3 else bif !(c.hs.all Hnd.fine) then 3 else bif !(c.hs.all fun h => inb h.tot 10 200) then 8 else 0
def bothE (g : Gat) (c : Crt) : Int := bif decide (g.check ≠ 0) then g.check else c.check
structure Hnd.ok (h : Hnd) : Prop where
  spot : 0 ≤ h.spot ∧ h.spot ≤ 2
  at_ : ∀ k < 4, 0 ≤ nn h.gs k ∧ nn h.gs k ≤ 200
  tot : 10 ≤ h.tot ∧ h.tot ≤ 200
structure Gat.ok (g : Gat) : Prop where
  many : g.grs.length ≤ 4
  err : 0 ≤ g.err ∧ g.err ≤ 50
  miss : 0 ≤ g.miss ∧ g.miss ≤ 20
  grs : ∀ x ∈ g.grs, (0 ≤ x.price ∧ x.price ≤ 100) ∧ ∀ k < 4, 0 ≤ nn x.ns k ∧ nn x.ns k ≤ 40
  ord : ∀ i, grBad g.grs i = false
structure Crt.ok (c : Crt) : Prop where
  many : c.hs.length ≤ 6
  full : 0 ≤ c.full ∧ c.full ≤ 10000
  empty : 0 ≤ c.empty ∧ c.empty ≤ 10000
  hs : ∀ h ∈ c.hs, h.ok
theorem gat_ok {g : Gat} : g.check = 0 ↔ g.ok := by
  constructor
  · intro h
    unfold Gat.check at h
    cases h1 : decide (4 < g.grs.length) <;> rw [h1] at h
    case true => cases h
    cases h2 : !(inb g.err 0 50) || !(inb g.miss 0 20) <;> rw [h2] at h
    case true => cases h
    cases h3 : g.grs.all Grd.fine <;> rw [h3] at h
    case false => cases h
    cases h4 : (List.range g.grs.length).any (grBad g.grs) <;> rw [h4] at h
    case true => cases h
    simp only [decide_eq_false_iff_not] at h1
    simp only [inb, Bool.or_eq_false_iff, Bool.not_eq_false', Bool.and_eq_true, decide_eq_true_eq] at h2
    refine ⟨by omega, h2.1, h2.2, fun x hx => ?_, fun i => ?_⟩
    · have := List.all_eq_true.1 h3 x hx
      simp only [Grd.fine, Grd.ns, inb, List.all_cons, List.all_nil, Bool.and_true, Bool.and_eq_true, decide_eq_true_eq] at this
      exact ⟨this.1, of4 ⟨this.2.1, this.2.2.1, this.2.2.2.1, this.2.2.2.2⟩⟩
    · rcases Nat.lt_or_ge i g.grs.length with hi | hi
      · have := List.any_eq_false.1 h4 i (List.mem_range.2 hi)
        simpa using this
      · simp [grBad, List.getElem?_eq_none hi]
  · intro h
    unfold Gat.check
    have e1 := h.many
    have e2 : (!(inb g.err 0 50) || !(inb g.miss 0 20)) = false := by
      have := h.err; have := h.miss
      simp only [inb, Bool.or_eq_false_iff, Bool.not_eq_false', Bool.and_eq_true, decide_eq_true_eq]; omega
    have e3 : g.grs.all Grd.fine = true := List.all_eq_true.2 fun x hx => by
      obtain ⟨a, b⟩ := h.grs x hx
      obtain ⟨b0, b1, b2, b3⟩ := all4 b
      simp only [nn, Grd.ns, List.getD_cons_zero, List.getD_cons_succ] at b0 b1 b2 b3
      simp only [Grd.fine, Grd.ns, inb, List.all_cons, List.all_nil, Bool.and_true, Bool.and_eq_true, decide_eq_true_eq]
      exact ⟨a, b0, b1, b2, b3⟩
    have e4 : (List.range g.grs.length).any (grBad g.grs) = false := List.any_eq_false.2 fun i _ => by rw [h.ord i]; simp
    rw [decide_eq_false (by omega), e2, e3, e4]; rfl
theorem hnd_ok {h : Hnd} : (h.fine = true ∧ inb h.tot 10 200 = true) ↔ h.ok := by
  simp only [Hnd.fine, inb, Bool.and_eq_true, decide_eq_true_eq, Hnd.gs, List.all_cons, List.all_nil, Bool.and_true]
  constructor
  · rintro ⟨⟨a, b0, b1, b2, b3⟩, c⟩
    exact ⟨a, of4 ⟨b0, b1, b2, b3⟩, c⟩
  · rintro ⟨a, b, c⟩
    obtain ⟨b0, b1, b2, b3⟩ := all4 b
    exact ⟨⟨a, b0, b1, b2, b3⟩, c⟩
theorem crt_ok {c : Crt} : c.check = 0 ↔ c.ok := by
  constructor
  · intro h
    unfold Crt.check at h
    cases h1 : decide (6 < c.hs.length) <;> rw [h1] at h
    case true => cases h
    cases h2 : !(inb c.full 0 10000) || !(inb c.empty 0 10000) <;> rw [h2] at h
    case true => cases h
    cases h3 : c.hs.all Hnd.fine <;> rw [h3] at h
    case false => cases h
    cases h4 : c.hs.all fun h => inb h.tot 10 200 <;> rw [h4] at h
    case false => cases h
    simp only [decide_eq_false_iff_not] at h1
    simp only [inb, Bool.or_eq_false_iff, Bool.not_eq_false', Bool.and_eq_true, decide_eq_true_eq] at h2
    exact ⟨by omega, h2.1, h2.2, fun x hx => hnd_ok.1 ⟨List.all_eq_true.1 h3 x hx, List.all_eq_true.1 h4 x hx⟩⟩
  · intro h
    unfold Crt.check
    have e1 := h.many
    have e2 : (!(inb c.full 0 10000) || !(inb c.empty 0 10000)) = false := by
      have := h.full; have := h.empty
      simp only [inb, Bool.or_eq_false_iff, Bool.not_eq_false', Bool.and_eq_true, decide_eq_true_eq]; omega
    have e3 : c.hs.all Hnd.fine = true := List.all_eq_true.2 fun x hx => (hnd_ok.2 (h.hs x hx)).1
    have e4 : (c.hs.all fun h => inb h.tot 10 200) = true := List.all_eq_true.2 fun x hx => (hnd_ok.2 (h.hs x hx)).2
    rw [decide_eq_false (by omega), e2, e3, e4]; rfl
def letS (miss : Int) (h : Hnd) (k : Nat) : Int × Int := (max 0 ((40 * (nn h.gs k - miss) + h.tot - 1).tdiv h.tot), min 40 ((40 * (nn h.gs k + miss)).tdiv h.tot))
def letB (miss : Int) (h : Hnd) (k : Nat) (x : Int) : Bool := decide (x * h.tot - 40 * nn h.gs k ≤ 40 * miss) && decide (-(x * h.tot - 40 * nn h.gs k) ≤ 40 * miss)
theorem let_iff {miss : Int} {h : Hnd} (hm : 0 ≤ miss) (hh : h.ok) {k : Nat} (hk : k < 4) {x : Int} (hx : 0 ≤ x ∧ x ≤ 40) : ((letS miss h k).1 ≤ x ∧ x ≤ (letS miss h k).2) ↔ letB miss h k x = true := by
  have ht := hh.tot
  have hg := hh.at_ k hk
  generalize hn : h.tot = n at *
  generalize hgr : nn h.gs k = y at *
  simp only [letS, letB, hn, hgr, Bool.and_eq_true, decide_eq_true_eq]
  have e2 : (40 * (y + miss)).tdiv n = (40 * (y + miss)) / n := Int.tdiv_eq_ediv_of_nonneg (by omega)
  have h2 : x ≤ (40 * (y + miss)) / n ↔ x * n ≤ 40 * (y + miss) := Int.le_ediv_iff_mul_le (by omega)
  have h1 : (40 * (y - miss) + n - 1).tdiv n ≤ x ↔ 40 * (y - miss) ≤ x * n := by
    by_cases h0 : 0 ≤ 40 * (y - miss) + n - 1
    · rw [Int.tdiv_eq_ediv_of_nonneg h0]
      have h3 : (40 * (y - miss) + n - 1) / n < x + 1 ↔ 40 * (y - miss) + n - 1 < (x + 1) * n := Int.ediv_lt_iff_lt_mul (by omega)
      rw [Int.add_mul, Int.one_mul] at h3
      omega
    · have h3 : (40 * (y - miss) + n - 1).tdiv n ≤ 0 := by
        have h4 : (40 * (y - miss) + n - 1).tdiv n = -((-(40 * (y - miss) + n - 1)).tdiv n) := by rw [Int.neg_tdiv]; omega
        have h5 : 0 ≤ (-(40 * (y - miss) + n - 1)).tdiv n := Int.tdiv_nonneg (by omega) (by omega)
        omega
      have h6 : 0 ≤ x * n := Int.mul_nonneg hx.1 (by omega)
      omega
  rw [e2]
  omega
theorem let_bd {miss : Int} {h : Hnd} (hm : 0 ≤ miss ∧ miss ≤ 20) (hh : h.ok) {k : Nat} (hk : k < 4) : (0 ≤ (letS miss h k).1 ∧ (letS miss h k).1 ≤ 8800) ∧ (0 ≤ (letS miss h k).2 ∧ (letS miss h k).2 ≤ 40) := by
  have ht := hh.tot
  have hg := hh.at_ k hk
  generalize hn : h.tot = n at *
  generalize hgr : nn h.gs k = y at *
  simp only [letS, hn, hgr]
  have e2 : (40 * (y + miss)).tdiv n = (40 * (y + miss)) / n := Int.tdiv_eq_ediv_of_nonneg (by omega)
  have h2 : 0 ≤ (40 * (y + miss)) / n := Int.ediv_nonneg (by omega) (by omega)
  have h1 : (40 * (y - miss) + n - 1).tdiv n ≤ 8800 := by
    by_cases h0 : 0 ≤ 40 * (y - miss) + n - 1
    · rw [Int.tdiv_eq_ediv_of_nonneg h0]
      have := Int.ediv_le_self (a := 40 * (y - miss) + n - 1) n h0
      omega
    · have h4 : (40 * (y - miss) + n - 1).tdiv n = -((-(40 * (y - miss) + n - 1)).tdiv n) := by rw [Int.neg_tdiv]; omega
      have h5 : 0 ≤ (-(40 * (y - miss) + n - 1)).tdiv n := Int.tdiv_nonneg (by omega) (by omega)
      omega
  rw [e2]; omega
def fitB (miss : Int) (h : Hnd) (m : Mix) : Bool := (List.range 4).all fun k => letB miss h k (nn m k)
def spanN (miss : Int) (hs : List Hnd) (f : Nat → Bool) (k : Nat) : Nat → Int × Int
  | 0 => (0, 40)
  | n + 1 => match hs[n]? with
    | some h => bif f n then met (spanN miss hs f k n).1 (spanN miss hs f k n).2 (letS miss h k).1 (letS miss h k).2 else spanN miss hs f k n
    | none => spanN miss hs f k n
def spanK (miss : Int) (hs : List Hnd) (f : Nat → Bool) (k : Nat) : Int × Int := spanN miss hs f k hs.length
def boxF (miss : Int) (hs : List Hnd) (f : Nat → Bool) : Box := [(spanK miss hs f 0).1, (spanK miss hs f 0).2, (spanK miss hs f 1).1, (spanK miss hs f 1).2, (spanK miss hs f 2).1, (spanK miss hs f 2).2, (spanK miss hs f 3).1, (spanK miss hs f 3).2]
theorem boxF_at (miss : Int) (hs : List Hnd) (f : Nat → Bool) {k : Nat} (hk : k < 4) : bl (boxF miss hs f) k = (spanK miss hs f k).1 ∧ bh (boxF miss hs f) k = (spanK miss hs f k).2 := by
  rcases lt4 hk with rfl | rfl | rfl | rfl <;> exact ⟨rfl, rfl⟩
theorem spanN_ok {miss : Int} (hs : List Hnd) (f : Nat → Bool) (k : Nat) : ∀ n, ((spanN miss hs f k n).1 = 1 ∧ (spanN miss hs f k n).2 = 0) ∨ (0 ≤ (spanN miss hs f k n).1 ∧ (spanN miss hs f k n).1 ≤ (spanN miss hs f k n).2 ∧ (spanN miss hs f k n).2 ≤ 40)
  | 0 => .inr (by simp [spanN])
  | n + 1 => by
    have ih := spanN_ok (miss := miss) hs f k n
    unfold spanN
    cases hs[n]? with
    | none => exact ih
    | some h => cases f n with
      | false => exact ih
      | true => exact met_ok ih
theorem boxF_ok (miss : Int) (hs : List Hnd) (f : Nat → Bool) : Bok (boxF miss hs f) := ⟨rfl, fun k hk => by
  obtain ⟨e1, e2⟩ := boxF_at miss hs f hk
  rw [e1, e2]; exact spanN_ok hs f k _⟩
theorem spanN_iff {miss : Int} (hm : 0 ≤ miss) {hs : List Hnd} (hh : ∀ h ∈ hs, h.ok) (f : Nat → Bool) {k : Nat} (hk : k < 4) (x : Int) : ∀ n, ((spanN miss hs f k n).1 ≤ x ∧ x ≤ (spanN miss hs f k n).2) ↔ ((0 ≤ x ∧ x ≤ 40) ∧ ∀ i h, i < n → hs[i]? = some h → f i = true → letB miss h k x = true)
  | 0 => by simp [spanN]
  | n + 1 => by
    have ih := spanN_iff hm hh f hk x n
    unfold spanN
    cases hn : hs[n]? with
    | none =>
      simp only
      rw [ih]
      exact ⟨fun ⟨a, b⟩ => ⟨a, fun i h hi hg hf => by
        rcases Nat.lt_or_ge i n with h1 | h1
        · exact b i h h1 hg hf
        · obtain rfl : i = n := by omega
          rw [hn] at hg; cases hg⟩, fun ⟨a, b⟩ => ⟨a, fun i h hi => b i h (by omega)⟩⟩
    | some y =>
      simp only
      cases hf : f n with
      | false =>
        simp only [cond_false]
        rw [ih]
        exact ⟨fun ⟨a, b⟩ => ⟨a, fun i h hi hg hff => by
          rcases Nat.lt_or_ge i n with h1 | h1
          · exact b i h h1 hg hff
          · obtain rfl : i = n := by omega
            rw [hf] at hff; cases hff⟩, fun ⟨a, b⟩ => ⟨a, fun i h hi => b i h (by omega)⟩⟩
      | true =>
        simp only [cond_true]
        rw [met_iff, ih]
        constructor
        · rintro ⟨⟨a, b⟩, c⟩
          refine ⟨a, fun i h hi hg hff => ?_⟩
          rcases Nat.lt_or_ge i n with h1 | h1
          · exact b i h h1 hg hff
          · obtain rfl : i = n := by omega
            rw [hn] at hg; cases hg
            exact (let_iff hm (hh y (List.mem_of_getElem? hn)) hk a).1 c
        · rintro ⟨a, b⟩
          exact ⟨⟨a, fun i h hi => b i h (by omega)⟩, (let_iff hm (hh y (List.mem_of_getElem? hn)) hk a).2 (b n y (by omega) hn hf)⟩
structure Mxt (m : Mix) : Prop where
  len : m.length = 4
  sum : sum4 m = 40
  at_ : ∀ k < 4, 0 ≤ nn m k ∧ nn m k ≤ 40
theorem boxF_mx {miss : Int} (hm : 0 ≤ miss) {hs : List Hnd} (hh : ∀ h ∈ hs, h.ok) (f : Nat → Bool) (m : Mix) : Mx (boxF miss hs f) m ↔ (Mxt m ∧ ∀ i h, hs[i]? = some h → f i = true → fitB miss h m = true) := by
  have key : ∀ k < 4, (bl (boxF miss hs f) k ≤ nn m k ∧ nn m k ≤ bh (boxF miss hs f) k) ↔ ((0 ≤ nn m k ∧ nn m k ≤ 40) ∧ ∀ i h, hs[i]? = some h → f i = true → letB miss h k (nn m k) = true) := fun k hk => by
    obtain ⟨e1, e2⟩ := boxF_at miss hs f hk
    rw [e1, e2]
    unfold spanK
    rw [spanN_iff hm hh f hk]
    exact ⟨fun ⟨a, b⟩ => ⟨a, fun i h hg hf => b i h (List.getElem?_eq_some_iff.1 hg).1 hg hf⟩, fun ⟨a, b⟩ => ⟨a, fun i h _ => b i h⟩⟩
  constructor
  · rintro ⟨h1, h2, h3⟩
    refine ⟨⟨h1, h2, fun k hk => ((key k hk).1 (h3 k hk)).1⟩, fun i h hg hf => ?_⟩
    unfold fitB
    rw [List.all_eq_true]
    intro k hk
    exact ((key k (List.mem_range.1 hk)).1 (h3 k (List.mem_range.1 hk))).2 i h hg hf
  · rintro ⟨⟨h1, h2, h3⟩, h4⟩
    refine ⟨h1, h2, fun k hk => (key k hk).2 ⟨h3 k hk, fun i h hg hf => ?_⟩⟩
    have := h4 i h hg hf
    unfold fitB at this
    exact List.all_eq_true.1 this k (List.mem_range.2 hk)
def Grd.lo (x : Grd) (k : Nat) : Int := bif k == 0 then x.corn else 0
def Grd.hi (x : Grd) (k : Nat) : Int := bif k == 0 then 40 else nn x.ns k
def Grd.kept (x : Grd) (m : Mix) : Bool := (List.range 4).all fun k => inb (nn m k) (x.lo k) (x.hi k)
def keepN (b : Box) (x : Grd) : Nat → Box
  | 0 => b
  | k + 1 => bset (keepN b x k) k (met (bl (keepN b x k) k) (bh (keepN b x k) k) (x.lo k) (x.hi k))
def keepB (b : Box) (x : Grd) : Box := keepN b x 4
def missS (x : Grd) (k : Nat) : Int × Int := bif k == 0 then (0, x.corn - 1) else (nn x.ns k + 1, 40)
def missB (b : Box) (x : Grd) (k : Nat) : Box := bset b k (met (bl b k) (bh b k) (missS x k).1 (missS x k).2)
def srch : List Grd → Box → Option Box
  | [], b => clo b
  | x :: l, b => match clo b with
    | none => none
    | some c => (((srch l (missB c x 0)).or (srch l (missB c x 1))).or (srch l (missB c x 2))).or (srch l (missB c x 3))
theorem keepN_ok {b : Box} (hb : Bok b) (x : Grd) : ∀ k, k ≤ 4 → Bok (keepN b x k) ∧ ∀ m, Mx (keepN b x k) m ↔ (Mx b m ∧ ∀ j < k, x.lo j ≤ nn m j ∧ nn m j ≤ x.hi j)
  | 0, _ => ⟨hb, fun m => ⟨fun h => ⟨h, fun j hj => by omega⟩, fun h => h.1⟩⟩
  | k + 1, hk => by
    obtain ⟨h1, h2⟩ := keepN_ok hb x k (by omega)
    refine ⟨h1.set (by omega), fun m => ?_⟩
    show Mx (bset _ _ _) m ↔ _
    rw [Mx.set h1.len (by omega), h2]
    constructor
    · rintro ⟨⟨a, b⟩, c⟩
      refine ⟨a, fun j hj => ?_⟩
      rcases Nat.lt_or_ge j k with h3 | h3
      · exact b j h3
      · obtain rfl : j = k := by omega
        exact c
    · rintro ⟨a, b⟩
      exact ⟨⟨a, fun j hj => b j (by omega)⟩, b k (by omega)⟩
theorem kept_iff {x : Grd} {m : Mix} : x.kept m = true ↔ ∀ k < 4, x.lo k ≤ nn m k ∧ nn m k ≤ x.hi k := by
  unfold Grd.kept
  rw [List.all_eq_true]
  simp only [List.mem_range, inb, Bool.and_eq_true, decide_eq_true_eq]
theorem keepB_mx {b : Box} (hb : Bok b) (x : Grd) : Bok (keepB b x) ∧ ∀ m, Mx (keepB b x) m ↔ (Mx b m ∧ x.kept m = true) := by
  obtain ⟨h1, h2⟩ := keepN_ok hb x 4 (by omega)
  exact ⟨h1, fun m => by rw [kept_iff]; exact h2 m⟩
theorem missB_mx {b : Box} (hb : Bok b) (x : Grd) {k : Nat} (hk : k < 4) : Bok (missB b x k) ∧ ∀ m, Mx (missB b x k) m ↔ (Mx b m ∧ (missS x k).1 ≤ nn m k ∧ nn m k ≤ (missS x k).2) := ⟨hb.set hk, fun _ => Mx.set hb.len hk⟩
theorem Mx.bd {b : Box} (hb : Bok b) {m : Mix} (h : Mx b m) : Mxt m := ⟨h.len, h.sum, fun k hk => by
  have h1 := h.at_ k hk
  have h2 := hb.at_ k hk
  omega⟩
theorem miss_kept {x : Grd} {m : Mix} (hm : Mxt m) : (∃ k < 4, (missS x k).1 ≤ nn m k ∧ nn m k ≤ (missS x k).2) ↔ x.kept m = false := by
  rw [← Bool.not_eq_true, kept_iff]
  obtain ⟨a0, a1, a2, a3⟩ := all4 hm.at_
  constructor
  · rintro ⟨k, hk, h⟩ h2
    have h3 := h2 k hk
    rcases lt4 hk with rfl | rfl | rfl | rfl <;> simp [missS, Grd.lo, Grd.hi] at h h3 <;> omega
  · intro h
    false_or_by_contra
    rename_i h2
    refine h (of4 ⟨?_, ?_, ?_, ?_⟩)
    · have : ¬ ((missS x 0).1 ≤ nn m 0 ∧ nn m 0 ≤ (missS x 0).2) := fun h3 => h2 ⟨0, by omega, h3⟩
      simp [missS, Grd.lo, Grd.hi] at this ⊢; omega
    · have : ¬ ((missS x 1).1 ≤ nn m 1 ∧ nn m 1 ≤ (missS x 1).2) := fun h3 => h2 ⟨1, by omega, h3⟩
      simp [missS, Grd.lo, Grd.hi] at this ⊢; omega
    · have : ¬ ((missS x 2).1 ≤ nn m 2 ∧ nn m 2 ≤ (missS x 2).2) := fun h3 => h2 ⟨2, by omega, h3⟩
      simp [missS, Grd.lo, Grd.hi] at this ⊢; omega
    · have : ¬ ((missS x 3).1 ≤ nn m 3 ∧ nn m 3 ≤ (missS x 3).2) := fun h3 => h2 ⟨3, by omega, h3⟩
      simp [missS, Grd.lo, Grd.hi] at this ⊢; omega
theorem srch_ok : ∀ (l : List Grd) {b : Box}, Bok b → (∀ c, srch l b = some c → Tight c ∧ ∀ m, Mx c m → Mx b m ∧ ∀ x ∈ l, x.kept m = false) ∧ (srch l b = none → ∀ m, Mx b m → ∃ x ∈ l, x.kept m = true)
  | [], b, hb => ⟨fun c hc => ⟨(clo_some hb hc).1, fun m hm => ⟨((clo_some hb hc).2 m).1 hm, fun x hx => by cases hx⟩⟩, fun h m hm => absurd hm (clo_none hb h m)⟩
  | x :: l, b, hb => by
    unfold srch
    cases hc : clo b with
    | none => exact ⟨(fun c h => by cases h), fun _ m hm => absurd hm (clo_none hb hc m)⟩
    | some c =>
      obtain ⟨ht, hm⟩ := clo_some hb hc
      have hk := fun k (hk : k < 4) => missB_mx ht.ok x hk
      have ih := fun k (h4 : k < 4) => srch_ok l (hk k h4).1
      simp only
      constructor
      · intro d hd
        have : ∃ k, k < 4 ∧ srch l (missB c x k) = some d := by
          simp only [Option.or_eq_some_iff] at hd
          rcases hd with ((h | ⟨_, h⟩) | ⟨_, h⟩) | ⟨_, h⟩
          · exact ⟨0, by omega, h⟩
          · exact ⟨1, by omega, h⟩
          · exact ⟨2, by omega, h⟩
          · exact ⟨3, by omega, h⟩
        obtain ⟨k, h4, h⟩ := this
        obtain ⟨h5, h6⟩ := (ih k h4).1 d h
        refine ⟨h5, fun m hmd => ?_⟩
        obtain ⟨h7, h8⟩ := h6 m hmd
        obtain ⟨h9, h10⟩ := ((hk k h4).2 m).1 h7
        refine ⟨(hm m).1 h9, fun y hy => ?_⟩
        rcases List.mem_cons.1 hy with rfl | hy
        · exact (miss_kept (h9.bd ht.ok)).1 ⟨k, h4, h10⟩
        · exact h8 y hy
      · intro hn m hmb
        have hmc := (hm m).2 hmb
        simp only [Option.or_eq_none_iff] at hn
        obtain ⟨⟨⟨n0, n1⟩, n2⟩, n3⟩ := hn
        have hn : ∀ k < 4, srch l (missB c x k) = none := of4 ⟨n0, n1, n2, n3⟩
        cases hx : x.kept m with
        | true => exact ⟨x, by simp, hx⟩
        | false =>
          obtain ⟨k, h4, h5⟩ := (miss_kept (hmc.bd ht.ok)).2 hx
          obtain ⟨y, hy, hy2⟩ := (ih k h4).2 (hn k h4) m (((hk k h4).2 m).2 ⟨hmc, h5⟩)
          exact ⟨y, by simp [hy], hy2⟩
def hasG (l : List Grd) (m : Mix) : Int := match l.findIdx? fun x => x.kept m with
  | some i => i
  | none => -1
def shwB (l : List Grd) (b : Box) (gr : Int) : Option Box := bif decide (gr = -1) then srch l b else match l[gr.toNat]? with
  | some x => srch (l.take gr.toNat) (keepB b x)
  | none => none
def canG (l : List Grd) (b : Box) : List Int := (((List.range l.length).filter fun (i : Nat) => (shwB l b (i : Nat)).isSome).map fun (i : Nat) => (i : Int)) ++ bif (shwB l b (-1)).isSome then [-1] else []
theorem hasG_none {l : List Grd} {m : Mix} : hasG l m = -1 ↔ ∀ x ∈ l, x.kept m = false := by
  unfold hasG
  cases h : l.findIdx? fun x => x.kept m with
  | none => simpa using h
  | some i =>
    obtain ⟨hi, h1, _⟩ := List.findIdx?_eq_some_iff_getElem.1 h
    constructor
    · intro h2; simp only at h2; omega
    · intro h2; rw [h2 _ (List.getElem_mem hi)] at h1; cases h1
theorem hasG_at {l : List Grd} {m : Mix} {i : Nat} {x : Grd} (hx : l[i]? = some x) : hasG l m = i ↔ (x.kept m = true ∧ ∀ y ∈ l.take i, y.kept m = false) := by
  have hi := (List.getElem?_eq_some_iff.1 hx).1
  unfold hasG
  cases h : l.findIdx? fun x => x.kept m with
  | none =>
    have h1 := List.findIdx?_eq_none_iff.1 h
    constructor
    · intro h2; simp only at h2; omega
    · rintro ⟨h2, _⟩; rw [h1 x (List.mem_of_getElem? hx)] at h2; cases h2
  | some j =>
    obtain ⟨hj, h1, h2⟩ := List.findIdx?_eq_some_iff_getElem.1 h
    have hxe : l[i] = x := by rw [List.getElem?_eq_getElem hi] at hx; exact Option.some.inj hx
    constructor
    · intro h3
      obtain rfl : j = i := by simp only at h3; omega
      refine ⟨by rw [← hxe]; exact h1, fun y hy => ?_⟩
      obtain ⟨k, hk, rfl⟩ := List.getElem_of_mem hy
      rw [List.length_take] at hk
      rw [List.getElem_take]
      simpa using h2 k (by omega)
    · rintro ⟨h3, h4⟩
      show (j : Int) = i
      rcases Nat.lt_trichotomy i j with h5 | h5 | h5
      · have := h2 i h5
        rw [hxe, h3] at this; simp at this
      · omega
      · have := h4 (l[j]) (by rw [List.mem_take_iff_getElem]; exact ⟨j, by omega, rfl⟩)
        rw [this] at h1; cases h1
theorem hasG_rg (l : List Grd) (m : Mix) : hasG l m = -1 ∨ ∃ i x, l[i]? = some x ∧ hasG l m = (i : Nat) := by
  unfold hasG
  cases h : l.findIdx? fun x => x.kept m with
  | none => exact .inl rfl
  | some i =>
    obtain ⟨hi, _⟩ := List.findIdx?_eq_some_iff_getElem.1 h
    exact .inr ⟨i, l[i], List.getElem?_eq_getElem hi, rfl⟩
theorem shw_ok {l : List Grd} {b : Box} (hb : Bok b) {gr : Int} (hg : gr = -1 ∨ ∃ i x, l[i]? = some x ∧ gr = (i : Nat)) : (∀ c, shwB l b gr = some c → Mx b (mixt c) ∧ hasG l (mixt c) = gr ∧ Tight c) ∧ (shwB l b gr = none → ∀ m, Mx b m → hasG l m ≠ gr) := by
  rcases hg with rfl | ⟨i, x, hx, rfl⟩
  · have h := srch_ok l hb
    have e : shwB l b (-1) = srch l b := rfl
    rw [e]
    refine ⟨fun c hc => ?_, fun hn m hm => ?_⟩
    · obtain ⟨h1, h2⟩ := h.1 c hc
      obtain ⟨h3, h4⟩ := h2 _ (mixt_mx h1)
      exact ⟨h3, hasG_none.2 h4, h1⟩
    · obtain ⟨x, hx, hk⟩ := h.2 hn m hm
      intro h2
      rw [hasG_none.1 h2 x hx] at hk; cases hk
  · have e : shwB l b ((i : Nat) : Int) = srch (l.take i) (keepB b x) := by
      unfold shwB
      rw [decide_eq_false (by omega), Int.toNat_natCast, hx]; rfl
    obtain ⟨k1, k2⟩ := keepB_mx hb x
    have h := srch_ok (l.take i) k1
    rw [e]
    refine ⟨fun c hc => ?_, fun hn m hm => ?_⟩
    · obtain ⟨h1, h2⟩ := h.1 c hc
      obtain ⟨h3, h4⟩ := h2 _ (mixt_mx h1)
      obtain ⟨h5, h6⟩ := (k2 _).1 h3
      exact ⟨h5, (hasG_at hx).2 ⟨h6, h4⟩, h1⟩
    · intro h2
      obtain ⟨h3, h4⟩ := (hasG_at hx).1 h2
      obtain ⟨y, hy, hk⟩ := h.2 hn m ((k2 m).2 ⟨hm, h3⟩)
      rw [h4 y hy] at hk; cases hk
theorem can_iff {l : List Grd} {b : Box} (hb : Bok b) {gr : Int} : gr ∈ canG l b ↔ ∃ m, Mx b m ∧ hasG l m = gr := by
  have key : ∀ gr : Int, (gr = -1 ∨ ∃ i x, l[i]? = some x ∧ gr = (i : Nat)) → ((shwB l b gr).isSome = true ↔ ∃ m, Mx b m ∧ hasG l m = gr) := fun gr hg => by
    obtain ⟨h1, h2⟩ := shw_ok hb hg
    cases h : shwB l b gr with
    | none => exact ⟨fun h3 => by simp at h3, fun ⟨m, hm, hh⟩ => absurd hh (h2 h m hm)⟩
    | some c => obtain ⟨h3, h4, _⟩ := h1 c h; exact ⟨fun _ => ⟨_, h3, h4⟩, fun _ => rfl⟩
  have hmem : gr ∈ canG l b ↔ (gr = -1 ∨ ∃ i x, l[i]? = some x ∧ gr = (i : Nat)) ∧ (shwB l b gr).isSome = true := by
    unfold canG
    rw [List.mem_append, List.mem_map]
    constructor
    · rintro (⟨i, hi, rfl⟩ | h)
      · obtain ⟨h1, h2⟩ := List.mem_filter.1 hi
        exact ⟨.inr ⟨i, l[i]'(List.mem_range.1 h1), List.getElem?_eq_getElem _, rfl⟩, h2⟩
      · cases hs : (shwB l b (-1)).isSome with
        | false => rw [hs] at h; simp at h
        | true => rw [hs] at h; simp at h; subst h; exact ⟨.inl rfl, hs⟩
    · rintro ⟨rfl | ⟨i, x, hx, rfl⟩, h⟩
      · right; rw [h]; simp
      · left; exact ⟨i, List.mem_filter.2 ⟨List.mem_range.2 (List.getElem?_eq_some_iff.1 hx).1, h⟩, rfl⟩
  rw [hmem]
  constructor
  · rintro ⟨h1, h2⟩; exact (key gr h1).1 h2
  · rintro ⟨m, hm, rfl⟩; exact ⟨hasG_rg l m, (key _ (hasG_rg l m)).2 ⟨m, hm, rfl⟩⟩
end Go.Proofs.YtndhkpnaeocnhaaGreat
namespace Go.Proofs.YtndhkpnaeocnhaaGreat
set_option linter.unusedSimpArgs false
set_option linter.unusedVariables false
open Go
theorem ag31 : aggN Tryz.prog 31 = some 4 := by kernel_rfl
theorem ag33 : aggN Tryz.prog 33 = some 5 := by kernel_rfl
theorem ag36 : aggN Tryz.prog 36 = some 5 := by kernel_rfl
theorem ar31 : arN Tryz.prog 31 = some (4, 1) := by kernel_rfl
theorem cal112 : cal Tryz.prog 112 = true := by kernel_rfl
theorem cal113 : cal Tryz.prog 113 = true := by kernel_rfl
theorem cal114 : cal Tryz.prog 114 = true := by kernel_rfl
theorem cal14 : cal Tryz.prog 14 = true := by kernel_rfl
theorem cal15 : cal Tryz.prog 15 = true := by kernel_rfl
theorem cal16 : cal Tryz.prog 16 = true := by kernel_rfl
theorem cal17 : cal Tryz.prog 17 = true := by kernel_rfl
theorem cal18 : cal Tryz.prog 18 = true := by kernel_rfl
theorem cal19 : cal Tryz.prog 19 = true := by kernel_rfl
theorem cal20 : cal Tryz.prog 20 = true := by kernel_rfl
theorem cal21 : cal Tryz.prog 21 = true := by kernel_rfl
theorem cal22 : cal Tryz.prog 22 = true := by kernel_rfl
theorem cal23 : cal Tryz.prog 23 = true := by kernel_rfl
theorem cal24 : cal Tryz.prog 24 = true := by kernel_rfl
theorem cal25 : cal Tryz.prog 25 = true := by kernel_rfl
theorem cal26 : cal Tryz.prog 26 = true := by kernel_rfl
theorem cal72 : cal Tryz.prog 72 = true := by kernel_rfl
theorem cal73 : cal Tryz.prog 73 = true := by kernel_rfl
theorem cal74 : cal Tryz.prog 74 = true := by kernel_rfl
theorem cal75 : cal Tryz.prog 75 = true := by kernel_rfl
theorem cal76 : cal Tryz.prog 76 = true := by kernel_rfl
theorem cal77 : cal Tryz.prog 77 = true := by kernel_rfl
theorem el22 : elN Tryz.prog 22 = some 1 := by kernel_rfl
theorem el23 : elN Tryz.prog 23 = some 5 := by kernel_rfl
theorem el26 : elN Tryz.prog 26 = some 5 := by kernel_rfl
theorem fo25_0 : fOff Tryz.prog 25 0 = some 0 := by kernel_rfl
theorem fo25_1 : fOff Tryz.prog 25 1 = some 1 := by kernel_rfl
theorem fo25_2 : fOff Tryz.prog 25 2 = some 2 := by kernel_rfl
theorem fo28_0 : fOff Tryz.prog 28 0 = some 0 := by kernel_rfl
theorem fo28_1 : fOff Tryz.prog 28 1 = some 1 := by kernel_rfl
theorem fo28_2 : fOff Tryz.prog 28 2 = some 2 := by kernel_rfl
theorem fo33_0 : fOff Tryz.prog 33 0 = some 0 := by kernel_rfl
theorem fo33_1 : fOff Tryz.prog 33 1 = some 1 := by kernel_rfl
theorem fo36_0 : fOff Tryz.prog 36 0 = some 0 := by kernel_rfl
theorem fo36_1 : fOff Tryz.prog 36 1 = some 1 := by kernel_rfl
theorem fo36_2 : fOff Tryz.prog 36 2 = some 2 := by kernel_rfl
theorem fo36_3 : fOff Tryz.prog 36 3 = some 3 := by kernel_rfl
theorem fo36_4 : fOff Tryz.prog 36 4 = some 4 := by kernel_rfl
theorem isl22 : isSl Tryz.prog 22 = true := by kernel_rfl
theorem isl23 : isSl Tryz.prog 23 = true := by kernel_rfl
theorem isl26 : isSl Tryz.prog 26 = true := by kernel_rfl
theorem sc23 : scal Tryz.prog 23 = true := by kernel_rfl
theorem sc26 : scal Tryz.prog 26 = true := by kernel_rfl
theorem sc3 : scal Tryz.prog 3 = true := by kernel_rfl
theorem sc53 : scal Tryz.prog 53 = true := by kernel_rfl
theorem sc54 : scal Tryz.prog 54 = true := by kernel_rfl
theorem sc58 : scal Tryz.prog 58 = true := by kernel_rfl
theorem sl22 : slE Tryz.prog 22 = some (3, 1) := by kernel_rfl
theorem zl3 : zeroL Tryz.prog 3 = some ([.int .i64 0]) := by kernel_rfl
def grow (x : Grd) : List Value := [.int .i64 x.corn, .int .i64 x.chaff, .int .i64 x.stones, .int .i64 x.damp, .int .i64 x.price]
def grows (l : List Grd) : List (List Value) := l.map grow
def hrow (h : Hnd) : List Value := [.int .i64 h.spot, .int .i64 h.a, .int .i64 h.b, .int .i64 h.c, .int .i64 h.d]
def hrows (l : List Hnd) : List (List Value) := l.map hrow
def gtl (g : Gat) (sl : Value) : List Value := [.int .i64 g.err, .int .i64 g.miss, sl]
def Gat.v (g : Gat) (sl : Value) : Value := .agg (gtl g sl).toArray
def Gat.sl (g : Gat) (a : Option Addr) (c : Nat) : Value := .slice a g.grs.length c
def ctl (c : Crt) (sl : Value) : List Value := [.int .i64 c.full, .int .i64 c.empty, sl]
def Crt.v (c : Crt) (sl : Value) : Value := .agg (ctl c sl).toArray
def Crt.sl (c : Crt) (a : Option Addr) (cc : Nat) : Value := .slice a c.hs.length cc
def wrow (g : Gat) (c : Crt) (sg sh : Value) : List Value := [.int .i64 c.full, .int .i64 c.empty, sh, .int .i64 g.err, .int .i64 g.miss, sg]
def Grd.v (x : Grd) : Value := .agg (grow x).toArray
def Hnd.v (h : Hnd) : Value := .agg (hrow h).toArray
def spv (l h : Int) : Value := .agg #[.int .i64 l, .int .i64 h]
def bxv (b : Box) : Value := .agg (ints b).toArray
abbrev irows (l : List Int) : List (List Value) := l.map fun z => [.int .i64 z]
theorem gr_get {l : List Grd} {k : Nat} {x : Grd} (h : l[k]? = some x) : (grows l)[k]? = some (grow x) := by simp [grows, h]
theorem hr_get {l : List Hnd} {k : Nat} {x : Hnd} (h : l[k]? = some x) : (hrows l)[k]? = some (hrow x) := by simp [hrows, h]
theorem ints_length (l : List Int) : (ints l).length = l.length := by simp [ints]
theorem St.rows1 {b e : Nat} {h : Hnd} {H : Heap} {R : Facts} {w : World} (hs : St ((b, cel e (hrow h)) :: H) R w) : St H (RowsA (some ⟨b, 1, none⟩) 1 (irows h.gs) :: R) w := by
  have h1 := (St.freeze hs).also (f := RowsA (some ⟨b, 1, none⟩) 1 (irows h.gs)) (fun w' hw => by
    have hb := hw (fun w => w.heap[b]? = some (cel e (hrow h))) (by simp)
    have one : ∀ (i : Nat) (z : Int), (hrow h)[1 + i]? = some (.int .i64 z) → ∀ j x, [Value.int .i64 z][j]? = some x → w'.cell? ⟨b, 1 + i * 1 + j, none⟩ = some x := fun i z hz j x hx => by
      match j, hx with
      | 0, hx => rw [cell_of hb, Nat.mul_one, Nat.add_zero]; simp only [List.getElem?_cons_zero] at hx; rw [← hx]; simpa using hz
    intro i row hi
    match i, hi with
    | 0, hi => cases hi; exact ⟨rfl, b, 1, rfl, one 0 h.a rfl⟩
    | 1, hi => cases hi; exact ⟨rfl, b, 1, rfl, one 1 h.b rfl⟩
    | 2, hi => cases hi; exact ⟨rfl, b, 1, rfl, one 2 h.c rfl⟩
    | 3, hi => cases hi; exact ⟨rfl, b, 1, rfl, one 3 h.d rfl⟩
    | i + 4, hi => cases hi)
  exact h1.facts (fun g hg => by rcases List.mem_cons.1 hg with h2 | h2 <;> simp [h2])
theorem find_hit {α : Type} {xs : List α} {p : α → Bool} {k : Nat} {x : α} (hx : xs[k]? = some x) (hn : ∀ y ∈ xs.take k, p y = false) (h : p x = true) : xs.findIdx? p = some k := by
  induction xs generalizing k with
  | nil => simp at hx
  | cons y ys ih =>
    cases k with
    | zero => simp only [List.getElem?_cons_zero, Option.some.injEq] at hx; subst hx; simp [List.findIdx?_cons, h]
    | succ k =>
      have hy := hn y (by simp)
      have := ih (by simpa using hx) (fun z hz => hn z (by simp [hz]))
      simp [List.findIdx?_cons, hy, this]
theorem find_miss {α : Type} {xs : List α} {p : α → Bool} (hn : ∀ y ∈ xs, p y = false) : xs.findIdx? p = none := by
  rw [List.findIdx?_eq_none_iff]; exact hn
theorem take_miss {α : Type} {xs : List α} {p : α → Bool} {k : Nat} {x : α} (hx : xs[k]? = some x) (hn : ∀ y ∈ xs.take k, p y = false) (h : p x = false) : ∀ y ∈ xs.take (k + 1), p y = false := by
  intro y hy
  rw [List.take_add_one, hx] at hy
  rcases List.mem_append.1 hy with h1 | h1
  · exact hn y h1
  · simp only [Option.toList_some, List.mem_singleton] at h1; subst h1; exact h
theorem idx_any {α : Type} (xs : List α) (p : α → Bool) : Value.bool (decide (0 ≤ (match xs.findIdx? p with | some k => (k : Int) | none => -1))) = .bool (xs.any p) := by
  congr 1
  cases h : xs.findIdx? p with
  | none =>
    have := List.findIdx?_eq_none_iff.1 h
    have h2 : xs.any p = false := by simpa using this
    rw [h2]; rfl
  | some k =>
    have h2 : xs.any p = true := by
      rw [← Bool.not_eq_false]; intro h3
      have : xs.findIdx? p = none := List.findIdx?_eq_none_iff.2 (by simpa using h3)
      rw [this] at h; cases h
    rw [h2]; simp
theorem not_any_not {α : Type} (xs : List α) (p : α → Bool) : Value.bool (!xs.any fun x => !p x) = .bool (xs.all p) := by
  congr 1
  induction xs with
  | nil => rfl
  | cons x xs ih => simp [← ih]
theorem not_sorted {l : List Grd} {k : Nat} {x y : Grd} (hx : l[k]? = some x) (hy : l[k + 1]? = some y) (h : x.price < y.price) : (List.range l.length).any (grBad l) = true := by
  rw [List.any_eq_true]
  refine ⟨k, List.mem_range.2 (List.getElem?_eq_some_iff.1 hx).1, ?_⟩
  unfold grBad
  rw [hx, hy]; simpa using h
theorem bad_none {l : List Grd} (h : ∀ i, i + 1 < l.length → grBad l i = false) : (List.range l.length).any (grBad l) = false := by
  rw [List.any_eq_false]
  intro i _
  rw [Bool.not_eq_true]
  rcases Nat.lt_or_ge (i + 1) l.length with h1 | h1
  · exact h i h1
  · unfold grBad
    rw [List.getElem?_eq_none (l := l) (i := i + 1) (by omega)]
    split <;> simp_all
theorem c_in (n lo hi : Int) (H : Heap) (R : Facts) :
    FnV Tryz.prog 14 [.int .i64 n, .int .i64 lo, .int .i64 hi] H R (.bool (inb n lo hi)) := by
 refine fn_of Tryz.func14 rfl Tryz.ntmps14 rfl ?_
 refine sy_seq ?_
 refine sy_tx' [0] rfl ?_
 refine sp rfl (PE.assign rfl) rfl ?_
 refine sy_seq ?_
 refine sy_tx' [0, 1, 2, 3, 4, 5, 6, 7, 8] rfl ?_
 refine sp rfl (PE.move rfl) rfl ?_
 refine sp rfl (PE.move rfl) rfl ?_
 refine sp rfl (PE.geq rfl rfl) rfl ?_
 refine sp rfl (PE.move rfl) rfl ?_
 refine sy_case (t := 10) rfl (fun g10 => ?_) (fun g10 => ?_)
 refine spG rfl rfl rfl rfl (PE.move rfl) rfl ?_
 refine spG rfl rfl rfl rfl (PE.move rfl) rfl ?_
 refine spG rfl rfl rfl rfl (PE.leq rfl rfl) rfl ?_
 refine sp rfl (PE.pick rfl rfl rfl) rfl ?_
 refine sp rfl (PE.assign rfl) rfl ?_
 refine sy_ret ?_
 exact sy_return (vs := [_]) rfl (.cons (RV.tmp rfl) .nil) rfl ⟨by simp_all only [retV, inb, ge_iff_le, Bool.true_and, Bool.false_and, cond_true, cond_false], rfl, rfl⟩ drp
 repeat refine spN rfl rfl rfl rfl rfl rfl rfl rfl ?_
 refine sp rfl (PE.pick rfl rfl rfl) rfl ?_
 refine sp rfl (PE.assign rfl) rfl ?_
 refine sy_ret ?_
 exact sy_return (vs := [_]) rfl (.cons (RV.tmp rfl) .nil) rfl ⟨by simp_all only [retV, inb, ge_iff_le, Bool.true_and, Bool.false_and, cond_true, cond_false], rfl, rfl⟩ drp
theorem c_idx_int (xs : List Int) (a : Option Addr) (c g : Nat) (fst cap : List Value) (p : Int → Bool) (hg : cal Tryz.prog g = true) (hl : xs.length ≤ 9223372036854775807) (H : Heap) (R : Facts) [hR : MemRows a 1 (irows xs) R] (hp : ∀ x, x ∈ xs → FnV Tryz.prog g (fst ++ [.int .i64 x] ++ cap) H R (.bool (p x))) :
    FnV Tryz.prog 113 [.slice a xs.length c, .func (.func g) fst.toArray cap.toArray] H R (.int .i64 (match xs.findIdx? p with | some k => (k : Int) | none => -1)) := by
 refine fn_of Tryz.func113 rfl Tryz.ntmps113 rfl ?_
 refine sy_seq ?_
 refine sy_tx' [0] rfl ?_
 refine sp rfl (PE.assign rfl) rfl ?_
 refine sy_seq ?_
 refine sy_seq ?_
 refine sy_tx' [0, 1, 2] rfl ?_
 refine sp rfl (PE.move rfl) rfl ?_
 refine sp rfl (PE.lenSl isl22 rfl) rfl ?_
 refine sp rfl (PE.move rfl) rfl ?_
 refine sy_block ?_
 refine sy_loop (ι := {k : Nat // k ≤ xs.length ∧ ∀ x ∈ xs.take k, p x = false}) (fun k => ⟨[(0, .slice a xs.length c), (1, .func (.func g) fst.toArray cap.toArray), (7, .int .i64 xs.length), (8, .int .i64 k.1)], H, R⟩) (fun k => xs.length - k.1) ⟨0, by simp⟩ ?_ (fun k => ?_)
 exact sy_at (by repeat' first | exact Sub.nil | apply Sub.cons | rfl | (simp [lk]; omega)) (fun _ h => h)
 obtain ⟨k, hk, hn⟩ := k
 dsimp only
 refine sy_seq ?_
 refine sy_tx' [0] rfl ?_
 refine sp rfl (PE.lss rfl rfl) rfl ?_
 refine sy_seq ?_
 refine sy_cond rfl (fun hc0 => ?_) (fun hc0 => ?_)
 simp only [decide_eq_true_eq, decide_eq_false_iff_not, Bool.and_eq_true, Bool.or_eq_true, Bool.not_eq_true', Int.not_le, Int.not_lt] at hc0
 obtain ⟨x, hx⟩ : ∃ x, xs[k]? = some x := ⟨_, List.getElem?_eq_getElem (by omega)⟩
 have hxm := List.mem_of_getElem? hx
 refine sy_addr (a := a) (sz := 1) (rows := irows xs) (by cases xs <;> simp_all [irows]) (fun b off he => ?_)
 subst he
 refine sy_skip ?_
 refine sy_seq ?_
 refine sy_block ?_
 refine sy_seq ?_
 refine sy_tx' [0, 1] rfl ?_
 refine sp rfl (PE.move rfl) rfl ?_
 refine sp rfl (PE.assign rfl) rfl ?_
 refine sy_seq ?_
 refine sy_tx' [0, 1, 2, 3, 4, 5] rfl ?_
 refine sp rfl (PE.move rfl) rfl ?_
 refine sp rfl (PE.move rfl) rfl ?_
 refine sp rfl (PE.move rfl) rfl ?_
 refine sp rfl (PE.indexAddr el22 rfl rfl (by omega) (by omega)) rfl ?_
 refine spL rfl rfl (lf0 sc3 (by simp [irows, hx]; rfl) rfl) rfl ?_
 refine clFV rfl rfl (hg) rfl rfl (hp x hxm) ?_
 refine sy_cond rfl (fun hc1 => ?_) (fun hc1 => ?_)
 refine sy_seq ?_
 refine sy_tx' [0, 1] rfl ?_
 refine sp rfl (PE.move rfl) rfl ?_
 refine sp rfl (PE.assign rfl) rfl ?_
 refine sy_ret ?_
 first | (exact sy_return (vs := [_]) rfl (.cons (RV.tmp rfl) .nil) rfl ⟨by rw [find_hit hx hn hc1]; rfl, rfl, rfl⟩ (fun _ h => h)) | (exact sy_return (vs := [_]) rfl (.cons (RV.tmp rfl) .nil) rfl ⟨by rw [find_miss (by simpa using hn)]; rfl, rfl, rfl⟩ (fun _ h => h))
 refine sy_skip ?_
 refine sy_tx' [0, 1] rfl ?_
 refine sp rfl (PE.add rfl rfl (by omega)) rfl ?_
 refine sp rfl (PE.move rfl) rfl ?_
 exact sy_next ⟨k + 1, by omega, take_miss hx hn hc1⟩ (by dsimp only; omega) (by repeat' first | exact Sub.nil | apply Sub.cons | rfl | (simp [lk]; omega)) (fun _ h => h)
 simp only [decide_eq_true_eq, decide_eq_false_iff_not, Bool.and_eq_true, Bool.or_eq_true, Bool.not_eq_true', Int.not_le, Int.not_lt] at hc0
 obtain rfl : k = xs.length := by omega
 refine sy_exit ?_
 repeat refine sy_tx ?_
 refine sy_bx ?_
 refine sy_seq ?_
 refine sy_tx' [0] rfl ?_
 refine sp rfl (PE.assign rfl) rfl ?_
 refine sy_ret ?_
 first | (exact sy_return (vs := [_]) rfl (.cons (RV.tmp rfl) .nil) rfl ⟨by rw [find_hit hx hn hc1]; rfl, rfl, rfl⟩ (fun _ h => h)) | (exact sy_return (vs := [_]) rfl (.cons (RV.tmp rfl) .nil) rfl ⟨by rw [find_miss (by simpa using hn)]; rfl, rfl, rfl⟩ (fun _ h => h))
theorem c_has_int (xs : List Int) (a : Option Addr) (c g : Nat) (fst cap : List Value) (p : Int → Bool) (hg : cal Tryz.prog g = true) (hl : xs.length ≤ 9223372036854775807) (H : Heap) (R : Facts) [hR : MemRows a 1 (irows xs) R] (hp : ∀ x, x ∈ xs → FnV Tryz.prog g (fst ++ [.int .i64 x] ++ cap) H R (.bool (p x))) :
    FnV Tryz.prog 74 [.slice a xs.length c, .func (.func g) fst.toArray cap.toArray] H R (.bool (xs.any p)) := by
 refine fn_of Tryz.func74 rfl Tryz.ntmps74 rfl ?_
 refine sy_seq ?_
 refine sy_tx' [0] rfl ?_
 refine sp rfl (PE.assign rfl) rfl ?_
 refine sy_seq ?_
 refine sy_tx' [0, 1, 2, 3, 4] rfl ?_
 refine sp rfl (PE.move rfl) rfl ?_
 refine sp rfl (PE.move rfl) rfl ?_
 refine clV rfl cal113 rfl rfl (c_idx_int xs a c g fst cap p hg hl _ _ hp) ?_
 refine sp rfl (PE.geq rfl rfl) rfl ?_
 refine sp rfl (PE.assign rfl) rfl ?_
 refine sy_ret ?_
 exact sy_return (vs := [_]) rfl (.cons (RV.tmp rfl) .nil) rfl ⟨by simp only [retV]; exact idx_any _ _, rfl, rfl⟩ drp
theorem c_ev1_int (x : Int) (g bf : Nat) (fst cap : List Value) (p : Bool) (hg : cal Tryz.prog g = true) (H : Heap) (R : Facts) [hM : Mem1 bf (cel 53 [.func (.func g) fst.toArray cap.toArray]) H] (hp : FnV Tryz.prog g (fst ++ [.int .i64 x] ++ cap) H R (.bool p)) :
    FnV Tryz.prog 75 [.int .i64 x, .pointer (some ⟨bf, 0, none⟩)] H R (.bool !p) := by
 refine fn_of Tryz.func75 rfl Tryz.ntmps75 rfl ?_
 refine sy_seq ?_
 refine sy_tx' [0] rfl ?_
 refine sp rfl (PE.assign rfl) rfl ?_
 refine sy_seq ?_
 refine sy_tx' [0, 1, 2, 3, 4] rfl ?_
 refine spL rfl rfl (lh sc53 rfl rfl) rfl ?_
 refine sp rfl (PE.move rfl) rfl ?_
 refine clFV rfl rfl (hg) rfl rfl (hp) ?_
 refine sp rfl (PE.not rfl) rfl ?_
 refine sp rfl (PE.assign rfl) rfl ?_
 refine sy_ret ?_
 exact sy_return (vs := [_]) rfl (.cons (RV.tmp rfl) .nil) rfl ⟨rfl, rfl, rfl⟩ drp
theorem c_every_int (xs : List Int) (a : Option Addr) (c g : Nat) (fst cap : List Value) (p : Int → Bool) (hg : cal Tryz.prog g = true) (hl : xs.length ≤ 9223372036854775807) (H : Heap) (R : Facts) [hR : MemRows a 1 (irows xs) R] (hp : ∀ b x, x ∈ xs → FnV Tryz.prog g (fst ++ [.int .i64 x] ++ cap) ((b, cel 53 [.func (.func g) fst.toArray cap.toArray]) :: H) R (.bool (p x))) :
    FnV Tryz.prog 17 [.slice a xs.length c, .func (.func g) fst.toArray cap.toArray] H R (.bool (xs.all p)) := by
 refine fn_of Tryz.func17 rfl Tryz.ntmps17 rfl ?_
 refine sy_seq ?_
 refine sy_tx' [0, 1] rfl ?_
 refine bx rfl rfl rfl (fun b3 => ?_)
 refine sp rfl (PE.assign rfl) rfl ?_
 refine sy_seq ?_
 refine sy_tx' [0, 1, 2, 3, 4] rfl ?_
 refine sp rfl (PE.move rfl) rfl ?_
 refine sp rfl (PE.makeFunc rfl rfl) rfl ?_
 refine clV rfl cal74 rfl rfl (c_has_int xs a c 75 [] [_] (fun x => !p x) cal75 hl _ _ (hp := fun x hx => c_ev1_int x g _ fst cap (p x) hg _ _ (hp := hp _ x hx))) ?_
 refine sp rfl (PE.not rfl) rfl ?_
 refine sp rfl (PE.assign rfl) rfl ?_
 refine sy_ret ?_
 exact sy_return (vs := [_]) rfl (.cons (RV.tmp rfl) .nil) rfl ⟨by simp only [retV]; rw [not_any_not], rfl, rfl⟩ drp
theorem c_idx_grd (xs : List Grd) (a : Option Addr) (c g : Nat) (fst cap : List Value) (p : Grd → Bool) (hg : cal Tryz.prog g = true) (hl : xs.length ≤ 9223372036854775807) (H : Heap) (R : Facts) [hR : MemRows a 5 (grows xs) R] (hp : ∀ x, x ∈ xs → FnV Tryz.prog g (fst ++ [.agg (grow x).toArray] ++ cap) H R (.bool (p x))) :
    FnV Tryz.prog 112 [.slice a xs.length c, .func (.func g) fst.toArray cap.toArray] H R (.int .i64 (match xs.findIdx? p with | some k => (k : Int) | none => -1)) := by
 refine fn_of Tryz.func112 rfl Tryz.ntmps112 rfl ?_
 refine sy_seq ?_
 refine sy_tx' [0] rfl ?_
 refine sp rfl (PE.assign rfl) rfl ?_
 refine sy_seq ?_
 refine sy_seq ?_
 refine sy_tx' [0, 1, 2] rfl ?_
 refine sp rfl (PE.move rfl) rfl ?_
 refine sp rfl (PE.lenSl isl23 rfl) rfl ?_
 refine sp rfl (PE.move rfl) rfl ?_
 refine sy_block ?_
 refine sy_loop (ι := {k : Nat // k ≤ xs.length ∧ ∀ x ∈ xs.take k, p x = false}) (fun k => ⟨[(0, .slice a xs.length c), (1, .func (.func g) fst.toArray cap.toArray), (7, .int .i64 xs.length), (8, .int .i64 k.1)], H, R⟩) (fun k => xs.length - k.1) ⟨0, by simp⟩ ?_ (fun k => ?_)
 exact sy_at (by repeat' first | exact Sub.nil | apply Sub.cons | rfl | (simp [lk]; omega)) (fun _ h => h)
 obtain ⟨k, hk, hn⟩ := k
 dsimp only
 refine sy_seq ?_
 refine sy_tx' [0] rfl ?_
 refine sp rfl (PE.lss rfl rfl) rfl ?_
 refine sy_seq ?_
 refine sy_cond rfl (fun hc0 => ?_) (fun hc0 => ?_)
 simp only [decide_eq_true_eq, decide_eq_false_iff_not, Bool.and_eq_true, Bool.or_eq_true, Bool.not_eq_true', Int.not_le, Int.not_lt] at hc0
 obtain ⟨x, hx⟩ : ∃ x, xs[k]? = some x := ⟨_, List.getElem?_eq_getElem (by omega)⟩
 have hxm := List.mem_of_getElem? hx
 refine sy_addr (a := a) (sz := 5) (rows := grows xs) (by cases xs <;> simp_all [grows]) (fun b off he => ?_)
 subst he
 refine sy_skip ?_
 refine sy_seq ?_
 refine sy_block ?_
 refine sy_seq ?_
 refine sy_tx' [0, 1] rfl ?_
 refine sp rfl (PE.move rfl) rfl ?_
 refine sp rfl (PE.assign rfl) rfl ?_
 refine sy_seq ?_
 refine sy_tx' [0, 1, 2, 3, 4, 5] rfl ?_
 refine sp rfl (PE.move rfl) rfl ?_
 refine sp rfl (PE.move rfl) rfl ?_
 refine sp rfl (PE.move rfl) rfl ?_
 refine sp rfl (PE.indexAddr el23 rfl rfl (by omega) (by omega)) rfl ?_
 refine spL rfl rfl (lfA ag36 (row := grow x) (by simp [grows, hx]) rfl) rfl ?_
 refine clFV rfl rfl (hg) rfl rfl (hp x hxm) ?_
 refine sy_cond rfl (fun hc1 => ?_) (fun hc1 => ?_)
 refine sy_seq ?_
 refine sy_tx' [0, 1] rfl ?_
 refine sp rfl (PE.move rfl) rfl ?_
 refine sp rfl (PE.assign rfl) rfl ?_
 refine sy_ret ?_
 first | (exact sy_return (vs := [_]) rfl (.cons (RV.tmp rfl) .nil) rfl ⟨by rw [find_hit hx hn hc1]; rfl, rfl, rfl⟩ (fun _ h => h)) | (exact sy_return (vs := [_]) rfl (.cons (RV.tmp rfl) .nil) rfl ⟨by rw [find_miss (by simpa using hn)]; rfl, rfl, rfl⟩ (fun _ h => h))
 refine sy_skip ?_
 refine sy_tx' [0, 1] rfl ?_
 refine sp rfl (PE.add rfl rfl (by omega)) rfl ?_
 refine sp rfl (PE.move rfl) rfl ?_
 exact sy_next ⟨k + 1, by omega, take_miss hx hn hc1⟩ (by dsimp only; omega) (by repeat' first | exact Sub.nil | apply Sub.cons | rfl | (simp [lk]; omega)) (fun _ h => h)
 simp only [decide_eq_true_eq, decide_eq_false_iff_not, Bool.and_eq_true, Bool.or_eq_true, Bool.not_eq_true', Int.not_le, Int.not_lt] at hc0
 obtain rfl : k = xs.length := by omega
 refine sy_exit ?_
 repeat refine sy_tx ?_
 refine sy_bx ?_
 refine sy_seq ?_
 refine sy_tx' [0] rfl ?_
 refine sp rfl (PE.assign rfl) rfl ?_
 refine sy_ret ?_
 first | (exact sy_return (vs := [_]) rfl (.cons (RV.tmp rfl) .nil) rfl ⟨by rw [find_hit hx hn hc1]; rfl, rfl, rfl⟩ (fun _ h => h)) | (exact sy_return (vs := [_]) rfl (.cons (RV.tmp rfl) .nil) rfl ⟨by rw [find_miss (by simpa using hn)]; rfl, rfl, rfl⟩ (fun _ h => h))
theorem c_has_grd (xs : List Grd) (a : Option Addr) (c g : Nat) (fst cap : List Value) (p : Grd → Bool) (hg : cal Tryz.prog g = true) (hl : xs.length ≤ 9223372036854775807) (H : Heap) (R : Facts) [hR : MemRows a 5 (grows xs) R] (hp : ∀ x, x ∈ xs → FnV Tryz.prog g (fst ++ [.agg (grow x).toArray] ++ cap) H R (.bool (p x))) :
    FnV Tryz.prog 72 [.slice a xs.length c, .func (.func g) fst.toArray cap.toArray] H R (.bool (xs.any p)) := by
 refine fn_of Tryz.func72 rfl Tryz.ntmps72 rfl ?_
 refine sy_seq ?_
 refine sy_tx' [0] rfl ?_
 refine sp rfl (PE.assign rfl) rfl ?_
 refine sy_seq ?_
 refine sy_tx' [0, 1, 2, 3, 4] rfl ?_
 refine sp rfl (PE.move rfl) rfl ?_
 refine sp rfl (PE.move rfl) rfl ?_
 refine clV rfl cal112 rfl rfl (c_idx_grd xs a c g fst cap p hg hl _ _ hp) ?_
 refine sp rfl (PE.geq rfl rfl) rfl ?_
 refine sp rfl (PE.assign rfl) rfl ?_
 refine sy_ret ?_
 exact sy_return (vs := [_]) rfl (.cons (RV.tmp rfl) .nil) rfl ⟨by simp only [retV]; exact idx_any _ _, rfl, rfl⟩ drp
theorem c_ev1_grd (x : Grd) (g bf : Nat) (fst cap : List Value) (p : Bool) (hg : cal Tryz.prog g = true) (H : Heap) (R : Facts) [hM : Mem1 bf (cel 54 [.func (.func g) fst.toArray cap.toArray]) H] (hp : ∀ b, FnV Tryz.prog g (fst ++ [.agg (grow x).toArray] ++ cap) ((b, cel 36 (grow x)) :: H) R (.bool p)) :
    FnV Tryz.prog 73 [.agg (grow x).toArray, .pointer (some ⟨bf, 0, none⟩)] H R (.bool !p) := by
 refine fn_of Tryz.func73 rfl Tryz.ntmps73 rfl ?_
 refine sy_seq ?_
 refine sy_tx' [0, 1] rfl ?_
 refine bx rfl rfl rfl (fun b2 => ?_)
 refine sp rfl (PE.assign rfl) rfl ?_
 refine sy_seq ?_
 refine sy_tx' [0, 1, 2, 3, 4] rfl ?_
 refine spL rfl rfl (lh sc54 rfl rfl) rfl ?_
 refine spL rfl rfl (lhA [_, _, _, _, _] ag36 rfl rfl rfl) rfl ?_
 refine clFV rfl rfl (hg) rfl rfl (hp _) ?_
 refine sp rfl (PE.not rfl) rfl ?_
 refine sp rfl (PE.assign rfl) rfl ?_
 refine sy_ret ?_
 exact sy_return (vs := [_]) rfl (.cons (RV.tmp rfl) .nil) rfl ⟨rfl, rfl, rfl⟩ drp
theorem c_every_grd (xs : List Grd) (a : Option Addr) (c g : Nat) (fst cap : List Value) (p : Grd → Bool) (hg : cal Tryz.prog g = true) (hl : xs.length ≤ 9223372036854775807) (H : Heap) (R : Facts) [hR : MemRows a 5 (grows xs) R] (hp : ∀ b b2 x, x ∈ xs → FnV Tryz.prog g (fst ++ [.agg (grow x).toArray] ++ cap) ((b2, cel 36 (grow x)) :: (b, cel 54 [.func (.func g) fst.toArray cap.toArray]) :: H) R (.bool (p x))) :
    FnV Tryz.prog 15 [.slice a xs.length c, .func (.func g) fst.toArray cap.toArray] H R (.bool (xs.all p)) := by
 refine fn_of Tryz.func15 rfl Tryz.ntmps15 rfl ?_
 refine sy_seq ?_
 refine sy_tx' [0, 1] rfl ?_
 refine bx rfl rfl rfl (fun b3 => ?_)
 refine sp rfl (PE.assign rfl) rfl ?_
 refine sy_seq ?_
 refine sy_tx' [0, 1, 2, 3, 4] rfl ?_
 refine sp rfl (PE.move rfl) rfl ?_
 refine sp rfl (PE.makeFunc rfl rfl) rfl ?_
 refine clV rfl cal72 rfl rfl (c_has_grd xs a c 73 [] [_] (fun x => !p x) cal73 hl _ _ (hp := fun x hx => c_ev1_grd x g _ fst cap (p x) hg _ _ (hp := fun b => hp _ _ x hx))) ?_
 refine sp rfl (PE.not rfl) rfl ?_
 refine sp rfl (PE.assign rfl) rfl ?_
 refine sy_ret ?_
 exact sy_return (vs := [_]) rfl (.cons (RV.tmp rfl) .nil) rfl ⟨by simp only [retV]; rw [not_any_not], rfl, rfl⟩ drp
theorem c_idx_hnd (xs : List Hnd) (a : Option Addr) (c g : Nat) (fst cap : List Value) (p : Hnd → Bool) (hg : cal Tryz.prog g = true) (hl : xs.length ≤ 9223372036854775807) (H : Heap) (R : Facts) [hR : MemRows a 5 (hrows xs) R] (hp : ∀ x, x ∈ xs → FnV Tryz.prog g (fst ++ [.agg (hrow x).toArray] ++ cap) H R (.bool (p x))) :
    FnV Tryz.prog 114 [.slice a xs.length c, .func (.func g) fst.toArray cap.toArray] H R (.int .i64 (match xs.findIdx? p with | some k => (k : Int) | none => -1)) := by
 refine fn_of Tryz.func114 rfl Tryz.ntmps114 rfl ?_
 refine sy_seq ?_
 refine sy_tx' [0] rfl ?_
 refine sp rfl (PE.assign rfl) rfl ?_
 refine sy_seq ?_
 refine sy_seq ?_
 refine sy_tx' [0, 1, 2] rfl ?_
 refine sp rfl (PE.move rfl) rfl ?_
 refine sp rfl (PE.lenSl isl26 rfl) rfl ?_
 refine sp rfl (PE.move rfl) rfl ?_
 refine sy_block ?_
 refine sy_loop (ι := {k : Nat // k ≤ xs.length ∧ ∀ x ∈ xs.take k, p x = false}) (fun k => ⟨[(0, .slice a xs.length c), (1, .func (.func g) fst.toArray cap.toArray), (7, .int .i64 xs.length), (8, .int .i64 k.1)], H, R⟩) (fun k => xs.length - k.1) ⟨0, by simp⟩ ?_ (fun k => ?_)
 exact sy_at (by repeat' first | exact Sub.nil | apply Sub.cons | rfl | (simp [lk]; omega)) (fun _ h => h)
 obtain ⟨k, hk, hn⟩ := k
 dsimp only
 refine sy_seq ?_
 refine sy_tx' [0] rfl ?_
 refine sp rfl (PE.lss rfl rfl) rfl ?_
 refine sy_seq ?_
 refine sy_cond rfl (fun hc0 => ?_) (fun hc0 => ?_)
 simp only [decide_eq_true_eq, decide_eq_false_iff_not, Bool.and_eq_true, Bool.or_eq_true, Bool.not_eq_true', Int.not_le, Int.not_lt] at hc0
 obtain ⟨x, hx⟩ : ∃ x, xs[k]? = some x := ⟨_, List.getElem?_eq_getElem (by omega)⟩
 have hxm := List.mem_of_getElem? hx
 refine sy_addr (a := a) (sz := 5) (rows := hrows xs) (by cases xs <;> simp_all [hrows]) (fun b off he => ?_)
 subst he
 refine sy_skip ?_
 refine sy_seq ?_
 refine sy_block ?_
 refine sy_seq ?_
 refine sy_tx' [0, 1] rfl ?_
 refine sp rfl (PE.move rfl) rfl ?_
 refine sp rfl (PE.assign rfl) rfl ?_
 refine sy_seq ?_
 refine sy_tx' [0, 1, 2, 3, 4, 5] rfl ?_
 refine sp rfl (PE.move rfl) rfl ?_
 refine sp rfl (PE.move rfl) rfl ?_
 refine sp rfl (PE.move rfl) rfl ?_
 refine sp rfl (PE.indexAddr el26 rfl rfl (by omega) (by omega)) rfl ?_
 refine spL rfl rfl (lfA ag33 (row := hrow x) (by simp [hrows, hx]) rfl) rfl ?_
 refine clFV rfl rfl (hg) rfl rfl (hp x hxm) ?_
 refine sy_cond rfl (fun hc1 => ?_) (fun hc1 => ?_)
 refine sy_seq ?_
 refine sy_tx' [0, 1] rfl ?_
 refine sp rfl (PE.move rfl) rfl ?_
 refine sp rfl (PE.assign rfl) rfl ?_
 refine sy_ret ?_
 first | (exact sy_return (vs := [_]) rfl (.cons (RV.tmp rfl) .nil) rfl ⟨by rw [find_hit hx hn hc1]; rfl, rfl, rfl⟩ (fun _ h => h)) | (exact sy_return (vs := [_]) rfl (.cons (RV.tmp rfl) .nil) rfl ⟨by rw [find_miss (by simpa using hn)]; rfl, rfl, rfl⟩ (fun _ h => h))
 refine sy_skip ?_
 refine sy_tx' [0, 1] rfl ?_
 refine sp rfl (PE.add rfl rfl (by omega)) rfl ?_
 refine sp rfl (PE.move rfl) rfl ?_
 exact sy_next ⟨k + 1, by omega, take_miss hx hn hc1⟩ (by dsimp only; omega) (by repeat' first | exact Sub.nil | apply Sub.cons | rfl | (simp [lk]; omega)) (fun _ h => h)
 simp only [decide_eq_true_eq, decide_eq_false_iff_not, Bool.and_eq_true, Bool.or_eq_true, Bool.not_eq_true', Int.not_le, Int.not_lt] at hc0
 obtain rfl : k = xs.length := by omega
 refine sy_exit ?_
 repeat refine sy_tx ?_
 refine sy_bx ?_
 refine sy_seq ?_
 refine sy_tx' [0] rfl ?_
 refine sp rfl (PE.assign rfl) rfl ?_
 refine sy_ret ?_
 first | (exact sy_return (vs := [_]) rfl (.cons (RV.tmp rfl) .nil) rfl ⟨by rw [find_hit hx hn hc1]; rfl, rfl, rfl⟩ (fun _ h => h)) | (exact sy_return (vs := [_]) rfl (.cons (RV.tmp rfl) .nil) rfl ⟨by rw [find_miss (by simpa using hn)]; rfl, rfl, rfl⟩ (fun _ h => h))
theorem c_has_hnd (xs : List Hnd) (a : Option Addr) (c g : Nat) (fst cap : List Value) (p : Hnd → Bool) (hg : cal Tryz.prog g = true) (hl : xs.length ≤ 9223372036854775807) (H : Heap) (R : Facts) [hR : MemRows a 5 (hrows xs) R] (hp : ∀ x, x ∈ xs → FnV Tryz.prog g (fst ++ [.agg (hrow x).toArray] ++ cap) H R (.bool (p x))) :
    FnV Tryz.prog 76 [.slice a xs.length c, .func (.func g) fst.toArray cap.toArray] H R (.bool (xs.any p)) := by
 refine fn_of Tryz.func76 rfl Tryz.ntmps76 rfl ?_
 refine sy_seq ?_
 refine sy_tx' [0] rfl ?_
 refine sp rfl (PE.assign rfl) rfl ?_
 refine sy_seq ?_
 refine sy_tx' [0, 1, 2, 3, 4] rfl ?_
 refine sp rfl (PE.move rfl) rfl ?_
 refine sp rfl (PE.move rfl) rfl ?_
 refine clV rfl cal114 rfl rfl (c_idx_hnd xs a c g fst cap p hg hl _ _ hp) ?_
 refine sp rfl (PE.geq rfl rfl) rfl ?_
 refine sp rfl (PE.assign rfl) rfl ?_
 refine sy_ret ?_
 exact sy_return (vs := [_]) rfl (.cons (RV.tmp rfl) .nil) rfl ⟨by simp only [retV]; exact idx_any _ _, rfl, rfl⟩ drp
theorem c_ev1_hnd (x : Hnd) (g bf : Nat) (fst cap : List Value) (p : Bool) (hg : cal Tryz.prog g = true) (H : Heap) (R : Facts) [hM : Mem1 bf (cel 58 [.func (.func g) fst.toArray cap.toArray]) H] (hp : ∀ b, FnV Tryz.prog g (fst ++ [.agg (hrow x).toArray] ++ cap) ((b, cel 33 (hrow x)) :: H) R (.bool p)) :
    FnV Tryz.prog 77 [.agg (hrow x).toArray, .pointer (some ⟨bf, 0, none⟩)] H R (.bool !p) := by
 refine fn_of Tryz.func77 rfl Tryz.ntmps77 rfl ?_
 refine sy_seq ?_
 refine sy_tx' [0, 1] rfl ?_
 refine bx rfl rfl rfl (fun b2 => ?_)
 refine sp rfl (PE.assign rfl) rfl ?_
 refine sy_seq ?_
 refine sy_tx' [0, 1, 2, 3, 4] rfl ?_
 refine spL rfl rfl (lh sc58 rfl rfl) rfl ?_
 refine spL rfl rfl (lhA [_, _, _, _, _] ag33 rfl rfl rfl) rfl ?_
 refine clFV rfl rfl (hg) rfl rfl (hp _) ?_
 refine sp rfl (PE.not rfl) rfl ?_
 refine sp rfl (PE.assign rfl) rfl ?_
 refine sy_ret ?_
 exact sy_return (vs := [_]) rfl (.cons (RV.tmp rfl) .nil) rfl ⟨rfl, rfl, rfl⟩ drp
theorem c_every_hnd (xs : List Hnd) (a : Option Addr) (c g : Nat) (fst cap : List Value) (p : Hnd → Bool) (hg : cal Tryz.prog g = true) (hl : xs.length ≤ 9223372036854775807) (H : Heap) (R : Facts) [hR : MemRows a 5 (hrows xs) R] (hp : ∀ b b2 x, x ∈ xs → FnV Tryz.prog g (fst ++ [.agg (hrow x).toArray] ++ cap) ((b2, cel 33 (hrow x)) :: (b, cel 58 [.func (.func g) fst.toArray cap.toArray]) :: H) R (.bool (p x))) :
    FnV Tryz.prog 22 [.slice a xs.length c, .func (.func g) fst.toArray cap.toArray] H R (.bool (xs.all p)) := by
 refine fn_of Tryz.func22 rfl Tryz.ntmps22 rfl ?_
 refine sy_seq ?_
 refine sy_tx' [0, 1] rfl ?_
 refine bx rfl rfl rfl (fun b3 => ?_)
 refine sp rfl (PE.assign rfl) rfl ?_
 refine sy_seq ?_
 refine sy_tx' [0, 1, 2, 3, 4] rfl ?_
 refine sp rfl (PE.move rfl) rfl ?_
 refine sp rfl (PE.makeFunc rfl rfl) rfl ?_
 refine clV rfl cal76 rfl rfl (c_has_hnd xs a c 77 [] [_] (fun x => !p x) cal77 hl _ _ (hp := fun x hx => c_ev1_hnd x g _ fst cap (p x) hg _ _ (hp := fun b => hp _ _ x hx))) ?_
 refine sp rfl (PE.not rfl) rfl ?_
 refine sp rfl (PE.assign rfl) rfl ?_
 refine sy_ret ?_
 exact sy_return (vs := [_]) rfl (.cons (RV.tmp rfl) .nil) rfl ⟨by simp only [retV]; rw [not_any_not], rfl, rfl⟩ drp
theorem c_sum (a b c d : Int) (hb : ∀ x ∈ [a, b, c, d], -1000000 ≤ x ∧ x ≤ 1000000000000000) (H : Heap) (R : Facts) :
    FnV Tryz.prog 26 [.agg (ints [a, b, c, d]).toArray] H R (.int .i64 (a + b + c + d)) := by
 have ha := hb a (by simp)
 have hb1 := hb b (by simp)
 have hc := hb c (by simp)
 have hd := hb d (by simp)
 clear hb
 refine fn_of Tryz.func26 rfl Tryz.ntmps26 rfl ?_
 refine sy_seq ?_
 refine sy_tx' [0, 1] rfl ?_
 refine bx rfl rfl rfl (fun b1 => ?_)
 refine sp rfl (PE.assign rfl) rfl ?_
 refine sy_seq ?_
 refine sy_tx' [0, 1, 2, 3, 4, 5, 6, 7, 8, 9, 10, 11] rfl ?_
 refine sp rfl (PE.indexArr ar31 rfl rfl (by omega) (by omega)) rfl ?_
 refine spL rfl rfl (lh sc3 rfl rfl) rfl ?_
 refine sp rfl (PE.indexArr ar31 rfl rfl (by omega) (by omega)) rfl ?_
 refine spL rfl rfl (lh sc3 rfl rfl) rfl ?_
 refine sp rfl (PE.add rfl rfl (by omega)) rfl ?_
 refine sp rfl (PE.indexArr ar31 rfl rfl (by omega) (by omega)) rfl ?_
 refine spL rfl rfl (lh sc3 rfl rfl) rfl ?_
 refine sp rfl (PE.add rfl rfl (by omega)) rfl ?_
 refine sp rfl (PE.indexArr ar31 rfl rfl (by omega) (by omega)) rfl ?_
 refine spL rfl rfl (lh sc3 rfl rfl) rfl ?_
 refine sp rfl (PE.add rfl rfl (by omega)) rfl ?_
 refine sp rfl (PE.assign rfl) rfl ?_
 refine sy_ret ?_
 exact sy_return (vs := [_]) rfl (.cons (RV.tmp rfl) .nil) rfl ⟨rfl, rfl, rfl⟩ drp
theorem c_numbers (x : Grd) (H : Heap) (R : Facts) :
    Fn Tryz.prog 18 [.agg (grow x).toArray] H R (fun v H' R' => ∃ b, v = .slice (some ⟨b, 0, none⟩) 4 4 ∧ H' = H ∧ R' = RowsA (some ⟨b, 0, none⟩) 1 (irows x.ns) :: R) := by
 refine fn_of Tryz.func18 rfl Tryz.ntmps18 rfl ?_
 refine sy_seq ?_
 refine sy_tx' [0, 1] rfl ?_
 refine bx rfl rfl rfl (fun b1 => ?_)
 refine sp rfl (PE.assign rfl) rfl ?_
 refine sy_seq ?_
 refine sy_tx' [0, 1, 2, 3, 4, 5, 6, 7, 8, 9] rfl ?_
 refine sp rfl (PE.fieldAddr fo36_0 rfl) rfl ?_
 refine spL rfl rfl (lh sc3 rfl rfl) rfl ?_
 refine sp rfl (PE.fieldAddr fo36_1 rfl) rfl ?_
 refine spL rfl rfl (lh sc3 rfl rfl) rfl ?_
 refine sp rfl (PE.fieldAddr fo36_2 rfl) rfl ?_
 refine spL rfl rfl (lh sc3 rfl rfl) rfl ?_
 refine sp rfl (PE.fieldAddr fo36_3 rfl) rfl ?_
 refine spL rfl rfl (lh sc3 rfl rfl) rfl ?_
 refine bsl (out := [_, _, _, _]) rfl sl22 zl3 rfl rfl rfl rfl rfl rfl (fun b11 => ?_)
 refine sp rfl (PE.assign rfl) rfl ?_
 refine sy_ret ?_
 refine Sy.heap (fun w h => St.intRows (l := x.ns) h) ?_
 exact sy_return (vs := [_]) rfl (.cons (RV.tmp rfl) .nil) rfl ⟨_, rfl, rfl, rfl⟩ drp
theorem c_greatest (xs : List Int) (a : Option Addr) (c : Nat) (hl : xs.length ≤ 9223372036854775807) (H : Heap) (R : Facts) [hR : MemRows a 1 (irows xs) R] :
    FnV Tryz.prog 82 [.slice a xs.length c] H R (.int .i64 (xs.foldl max 0)) := by
 refine fn_of Tryz.func82 rfl Tryz.ntmps82 rfl ?_
 refine sy_seq ?_
 refine sy_tx' [0] rfl ?_
 refine sp rfl (PE.assign rfl) rfl ?_
 refine sy_seq ?_
 refine sy_tx' [0] rfl ?_
 refine sp rfl (PE.assign rfl) rfl ?_
 refine sy_seq ?_
 refine sy_seq ?_
 refine sy_tx' [0, 1, 2] rfl ?_
 refine sp rfl (PE.move rfl) rfl ?_
 refine sp rfl (PE.lenSl isl22 rfl) rfl ?_
 refine sp rfl (PE.move rfl) rfl ?_
 refine sy_block ?_
 refine sy_loop (ι := {k : Nat // k ≤ xs.length}) (fun k => ⟨[(3, .int .i64 ((xs.take k.1).foldl max 0)), (6, .slice a xs.length c), (7, .int .i64 xs.length), (8, .int .i64 k.1)], H, R⟩) (fun k => xs.length - k.1) ⟨0, by simp⟩ ?_ (fun k => ?_)
 exact sy_at (by repeat' first | exact Sub.nil | apply Sub.cons | rfl | (simp [lk]; omega)) (fun _ h => h)
 obtain ⟨k, hk⟩ := k
 dsimp only
 refine sy_seq ?_
 refine sy_tx' [0] rfl ?_
 refine sp rfl (PE.lss rfl rfl) rfl ?_
 refine sy_seq ?_
 refine sy_cond rfl (fun hc0 => ?_) (fun hc0 => ?_)
 try simp only [decide_eq_true_eq, decide_eq_false_iff_not, Bool.and_eq_true, Bool.or_eq_true, Bool.not_eq_true', Int.not_le, Int.not_lt] at hc0
 obtain ⟨x, hx⟩ : ∃ x, xs[k]? = some x := ⟨_, List.getElem?_eq_getElem (by omega)⟩
 have hst : (xs.take (k + 1)).foldl max 0 = max ((xs.take k).foldl max 0) x := by rw [List.take_add_one, hx, List.foldl_append]; rfl
 refine sy_addr (a := a) (sz := 1) (rows := irows xs) (by cases xs <;> simp_all [irows]) (fun b off he => ?_)
 subst he
 refine sy_skip ?_
 refine sy_seq ?_
 refine sy_block ?_
 refine sy_seq ?_
 refine sy_tx' [0, 1, 2] rfl ?_
 refine sp rfl (PE.indexAddr el22 rfl rfl (by omega) (by omega)) rfl ?_
 refine spL rfl rfl (lf0 sc3 (by simp [irows, hx]; rfl) rfl) rfl ?_
 refine sp rfl (PE.assign rfl) rfl ?_
 refine sy_tx' [0, 1, 2, 3] rfl ?_
 refine sp rfl (PE.move rfl) rfl ?_
 refine sp rfl (PE.move rfl) rfl ?_
 refine sp rfl (PE.max rfl rfl) rfl ?_
 refine sp rfl (PE.assign rfl) rfl ?_
 refine sy_tx' [0, 1] rfl ?_
 refine sp rfl (PE.add rfl rfl (by omega)) rfl ?_
 refine sp rfl (PE.move rfl) rfl ?_
 exact sy_next ⟨k + 1, by omega⟩ (by dsimp only; omega) (by dsimp only; rw [hst]; exact (by repeat' first | exact Sub.nil | apply Sub.cons | rfl | (simp [lk]; omega))) (fun _ h => h)
 try simp only [decide_eq_true_eq, decide_eq_false_iff_not, Bool.and_eq_true, Bool.or_eq_true, Bool.not_eq_true', Int.not_le, Int.not_lt] at hc0
 obtain rfl : k = xs.length := by omega
 rw [List.take_length]
 refine sy_exit ?_
 repeat refine sy_tx ?_
 refine sy_bx ?_
 refine sy_seq ?_
 refine sy_tx' [0, 1] rfl ?_
 refine sp rfl (PE.move rfl) rfl ?_
 refine sp rfl (PE.assign rfl) rfl ?_
 refine sy_ret ?_
 exact sy_return (vs := [_]) rfl (.cons (RV.tmp rfl) .nil) rfl ⟨rfl, rfl, rfl⟩ drp
theorem c_great1 (x : Int) (b : Nat) (H : Heap) (R : Facts) {T : Heap} [pl : Pull b (cel 3 [.int .i64 x]) H T] : FnV Tryz.prog 82 [.slice (some ⟨b, 0, none⟩) 1 1] H R (.int .i64 (max 0 x)) :=
  FnV.lend (pl := pl) (sz := 1) (rows := irows [x]) (junk := []) (by simp) (fun B => c_greatest [x] (some ⟨b, 0, none⟩) 1 (by simp) T _)
theorem c_great2 (x y : Int) (b : Nat) (H : Heap) (R : Facts) {T : Heap} [pl : Pull b (cel 3 [.int .i64 x, .int .i64 y]) H T] : FnV Tryz.prog 82 [.slice (some ⟨b, 0, none⟩) 2 2] H R (.int .i64 (max (max 0 x) y)) :=
  FnV.lend (pl := pl) (sz := 1) (rows := irows [x, y]) (junk := []) (by simp) (fun B => c_greatest [x, y] (some ⟨b, 0, none⟩) 2 (by simp) T _)
theorem c_chk11 (n : Int) (H : Heap) (R : Facts) :
    FnV Tryz.prog 19 [.int .i64 n] H R (.bool (inb n 0 40)) := by
 refine fn_of Tryz.func19 rfl Tryz.ntmps19 rfl ?_
 refine sy_seq ?_
 refine sy_tx' [0] rfl ?_
 refine sp rfl (PE.assign rfl) rfl ?_
 refine sy_seq ?_
 refine sy_tx' [0, 1, 2] rfl ?_
 refine sp rfl (PE.move rfl) rfl ?_
 refine clV rfl cal14 rfl rfl (c_in _ _ _ _ _) ?_
 refine sp rfl (PE.assign rfl) rfl ?_
 refine sy_ret ?_
 exact sy_return (vs := [_]) rfl (.cons (RV.tmp rfl) .nil) rfl ⟨rfl, rfl, rfl⟩ drp
theorem c_chk1 (x : Grd) (H : Heap) (R : Facts) :
    FnV Tryz.prog 16 [.agg (grow x).toArray] H R (.bool x.fine) := by
 refine fn_of Tryz.func16 rfl Tryz.ntmps16 rfl ?_
 refine sy_seq ?_
 refine sy_tx' [0, 1] rfl ?_
 refine bx rfl rfl rfl (fun b1 => ?_)
 refine sp rfl (PE.assign rfl) rfl ?_
 refine sy_seq ?_
 refine sy_tx' [0, 1, 2, 3, 4, 5, 6, 7, 8] rfl ?_
 refine sp rfl (PE.fieldAddr fo36_4 rfl) rfl ?_
 refine spL rfl rfl (lh sc3 rfl rfl) rfl ?_
 refine clV rfl cal14 rfl rfl (c_in _ _ _ _ _) ?_
 refine sp rfl (PE.move rfl) rfl ?_
 refine sy_case (t := 6) rfl (fun g6 => ?_) (fun g6 => ?_)
 refine spLG rfl rfl rfl rfl rfl (lhA [_, _, _, _, _] ag36 rfl rfl rfl) rfl ?_
 refine clG rfl rfl rfl rfl cal18 rfl rfl (c_numbers x _ _) ?_
 rintro _ _ _ ⟨bn, rfl, rfl, rfl⟩
 refine clVG rfl rfl rfl rfl cal17 rfl rfl (c_every_int x.ns (some ⟨bn, 0, none⟩) 4 19 [] [] (fun n => inb n 0 40) cal19 (by simp [Grd.ns]) _ _ (fun _ y _ => c_chk11 y _ _)) ?_
 refine sp rfl (PE.pick rfl rfl rfl) rfl ?_
 refine sp rfl (PE.assign rfl) rfl ?_
 refine sy_ret ?_
 exact sy_return (vs := [_]) rfl (.cons (RV.tmp rfl) .nil) rfl ⟨by simp_all only [retV, Grd.fine, Bool.true_and, Bool.false_and, cond_true, cond_false], rfl, rfl⟩ drp
 repeat refine spN rfl rfl rfl rfl rfl rfl rfl rfl ?_
 refine sp rfl (PE.pick rfl rfl rfl) rfl ?_
 refine sp rfl (PE.assign rfl) rfl ?_
 refine sy_ret ?_
 exact sy_return (vs := [_]) rfl (.cons (RV.tmp rfl) .nil) rfl ⟨by simp_all only [retV, Grd.fine, Bool.true_and, Bool.false_and, cond_true, cond_false], rfl, rfl⟩ drp
theorem c_chk2 (x y : Grd) (hb : -9223372036854775808 ≤ y.price - x.price ∧ y.price - x.price ≤ 9223372036854775807) (H : Heap) (R : Facts) :
    FnV Tryz.prog 21 [.agg (grow x).toArray, .agg (grow y).toArray] H R (.int .i64 (y.price - x.price)) := by
 refine fn_of Tryz.func21 rfl Tryz.ntmps21 rfl ?_
 refine sy_seq ?_
 refine sy_tx' [0, 1, 2] rfl ?_
 refine bx rfl rfl rfl (fun b2 => ?_)
 refine bx rfl rfl rfl (fun b3 => ?_)
 refine sp rfl (PE.assign rfl) rfl ?_
 refine sy_seq ?_
 refine sy_tx' [0, 1, 2, 3, 4, 5] rfl ?_
 refine sp rfl (PE.fieldAddr fo36_4 rfl) rfl ?_
 refine spL rfl rfl (lh sc3 rfl rfl) rfl ?_
 refine sp rfl (PE.fieldAddr fo36_4 rfl) rfl ?_
 refine spL rfl rfl (lh sc3 rfl rfl) rfl ?_
 refine sp rfl (PE.sub rfl rfl (by omega)) rfl ?_
 refine sp rfl (PE.assign rfl) rfl ?_
 refine sy_ret ?_
 exact sy_return (vs := [_]) rfl (.cons (RV.tmp rfl) .nil) rfl ⟨rfl, rfl, rfl⟩ drp
theorem c_sorted (xs : List Grd) (a : Option Addr) (c : Nat) (hl : xs.length ≤ 9223372036854775807) (hb : ∀ x ∈ xs, 0 ≤ x.price ∧ x.price ≤ 100) (H : Heap) (R : Facts) [hR : MemRows a 5 (grows xs) R] :
    FnV Tryz.prog 20 [.slice a xs.length c, .func (.func 21) #[] #[]] H R (.bool (!((List.range xs.length).any (grBad xs)))) := by
 refine fn_of Tryz.func20 rfl Tryz.ntmps20 rfl ?_
 refine sy_seq ?_
 refine sy_tx' [0] rfl ?_
 refine sp rfl (PE.assign rfl) rfl ?_
 refine sy_seq ?_
 refine sy_seq ?_
 refine sy_tx' [0, 1, 2, 3] rfl ?_
 refine sp rfl (PE.move rfl) rfl ?_
 refine sp rfl (PE.lenSl isl23 rfl) rfl ?_
 refine sp rfl (PE.sub rfl rfl (by omega)) rfl ?_
 refine sp rfl (PE.assign rfl) rfl ?_
 refine sy_block ?_
 refine sy_loop (ι := {k : Nat // k ≤ xs.length ∧ ∀ i, k ≤ i + 1 → i + 1 < xs.length → grBad xs i = false}) (fun k => ⟨[(0, .slice a xs.length c), (1, .func (.func 21) #[] #[]), (5, .int .i64 ((k.1 : Int) - 1))], H, R⟩) (fun k => k.1) ⟨xs.length, by omega, fun i h1 h2 => by omega⟩ ?_ (fun k => ?_)
 exact sy_at (by repeat' first | exact Sub.nil | apply Sub.cons | rfl | (simp [lk]; omega)) (fun _ h => h)
 obtain ⟨k, hk, hn⟩ := k
 dsimp only
 refine sy_seq ?_
 refine sy_seq ?_
 refine sy_tx' [0, 1] rfl ?_
 refine sp rfl (PE.move rfl) rfl ?_
 refine sp rfl (PE.gtr rfl rfl) rfl ?_
 refine sy_cond rfl (fun hc0 => ?_) (fun hc0 => ?_)
 try simp only [decide_eq_true_eq, decide_eq_false_iff_not, Bool.and_eq_true, Bool.or_eq_true, Bool.not_eq_true', Int.not_le, Int.not_lt] at hc0
 obtain ⟨k, rfl⟩ : ∃ j, k = j + 2 := ⟨k - 2, by omega⟩
 obtain ⟨y, hy⟩ : ∃ y, xs[k + 1]? = some y := ⟨_, List.getElem?_eq_getElem (by omega)⟩
 obtain ⟨x, hx⟩ : ∃ x, xs[k]? = some x := ⟨_, List.getElem?_eq_getElem (by omega)⟩
 have hbx := hb x (List.mem_of_getElem? hx)
 have hby := hb y (List.mem_of_getElem? hy)
 rw [show (((k + 2 : Nat) : Int) - 1) = (k + 1 : Nat) from by omega]
 refine sy_addr (a := a) (sz := 5) (rows := grows xs) (by cases xs <;> simp_all [grows]) (fun b off he => ?_)
 subst he
 refine sy_skip ?_
 refine sy_seq ?_
 refine sy_block ?_
 refine sy_seq ?_
 refine sy_draw [0, 0, 0, 6, 14, 0, 0, 64, 224, 480, 1023, 2047] (.tk 0 (.tk 1 (.tk 2 (.tk 3 (.ld 4 (.tk 5 (.tk 6 (.tk 7 (.tk 8 (.ld 9 (.big 10 (.tk 11 .done)))))))))))) mixed (by kernel_rfl) ?_
 refine tk rfl (PE.move rfl) rfl ?_
 refine tk rfl (PE.move rfl) rfl ?_
 refine tk rfl (PE.move rfl) rfl ?_
 refine tk rfl (PE.indexAddr el23 rfl rfl (by omega) (by omega)) rfl ?_
 refine ld rfl rfl (lfA ag36 (row := grow y) (gr_get (by simpa using hy)) rfl) rfl ?_
 refine tk rfl (PE.move rfl) rfl ?_
 refine tk rfl (PE.move rfl) rfl ?_
 refine tk rfl (PE.sub rfl rfl (by omega)) rfl ?_
 refine tk rfl (PE.indexAddr el23 rfl rfl (by omega) (by omega)) rfl ?_
 refine ld rfl rfl (lfA ag36 (row := grow x) (gr_get (by rw [show (((k + 1 : Nat) : Int) - 1).toNat = k from by omega]; exact hx)) rfl) rfl ?_
 refine clFV rfl rfl (cal21) rfl rfl (c_chk2 y x (by omega) _ _) ?_
 refine bg (fun w hs => ⟨trivial, trivial, trivial⟩) ?_
 refine tk rfl (PE.lss rfl rfl) rfl ?_
 refine sy_cond rfl (fun hc1 => ?_) (fun hc1 => ?_)
 try simp only [decide_eq_true_eq, decide_eq_false_iff_not, Bool.and_eq_true, Bool.or_eq_true, Bool.not_eq_true', Int.not_le, Int.not_lt] at hc1
 have hbn := not_sorted hx hy (by omega)
 refine sy_seq ?_
 refine sy_tx' [0] rfl ?_
 refine sp rfl (PE.assign rfl) rfl ?_
 refine sy_ret ?_
 exact sy_return (vs := [_]) rfl (.cons (RV.tmp rfl) .nil) rfl ⟨by simp only [retV]; rw [hbn]; rfl, rfl, rfl⟩ drp
 try simp only [decide_eq_true_eq, decide_eq_false_iff_not, Bool.and_eq_true, Bool.or_eq_true, Bool.not_eq_true', Int.not_le, Int.not_lt] at hc1
 refine sy_skip ?_
 refine sy_tx' [0, 1, 2] rfl ?_
 refine sp rfl (PE.move rfl) rfl ?_
 refine sp rfl (PE.sub rfl rfl (by omega)) rfl ?_
 refine sp rfl (PE.assign rfl) rfl ?_
 refine sy_next ⟨k + 1, by omega, fun i h1 h2 => ?_⟩ (by dsimp only; omega) (by dsimp only; rw [show ((k + 1 : Nat) : Int) - 1 = ((k + 1 : Nat) : Int) - 1 from rfl]; exact (by repeat' first | exact Sub.nil | apply Sub.cons | rfl | (simp [lk]; omega))) (fun _ h => h)
 rcases Nat.lt_or_ge k i with h3 | h3
 · exact hn i (by omega) h2
 · obtain rfl : i = k := by omega
   unfold grBad
   rw [hx, hy]
   simp only [decide_eq_false_iff_not]
   omega
 try simp only [decide_eq_true_eq, decide_eq_false_iff_not, Bool.and_eq_true, Bool.or_eq_true, Bool.not_eq_true', Int.not_le, Int.not_lt] at hc0
 have hbn := bad_none (l := xs) (fun i hi => hn i (by omega) hi)
 refine sy_exit ?_
 repeat refine sy_tx ?_
 refine sy_bx ?_
 refine sy_seq ?_
 refine sy_tx' [0] rfl ?_
 refine sp rfl (PE.assign rfl) rfl ?_
 refine sy_ret ?_
 exact sy_return (vs := [_]) rfl (.cons (RV.tmp rfl) .nil) rfl ⟨by simp only [retV]; rw [hbn]; rfl, rfl, rfl⟩ drp
theorem c_Check (g : Gat) (ag : Option Addr) (cg : Nat) (hlg : g.grs.length ≤ 9223372036854775807) (H : Heap) (R : Facts) [hG : MemRows ag 5 (grows g.grs) R] :
    FnV Tryz.prog 6 [g.v (g.sl ag cg)] H R (.int .i64 g.check) := by
 refine fn_of Tryz.func6 rfl Tryz.ntmps6 rfl ?_
 refine sy_seq ?_
 refine sy_tx' [0, 1] rfl ?_
 refine bx rfl rfl rfl (fun b1 => ?_)
 refine sp rfl (PE.assign rfl) rfl ?_
 refine sy_seq ?_
 refine sy_block ?_
 refine sy_seq ?_
 refine sy_tx' [0, 1, 2, 3, 4] rfl ?_
 refine sp rfl (PE.fieldAddr fo25_2 rfl) rfl ?_
 refine spL rfl rfl (lh sc23 rfl rfl) rfl ?_
 refine sp rfl (PE.lenSl isl23 rfl) rfl ?_
 refine sp rfl (PE.gtr rfl rfl) rfl ?_
 refine sp rfl (PE.assign rfl) rfl ?_
 refine sy_cond rfl (fun hc0 => ?_) (fun hc0 => ?_)
 have h8 : decide (4 < g.grs.length) = true := by simp only [decide_eq_true_eq] at hc0 ⊢; omega
 refine sy_seq ?_
 refine sy_tx' [0] rfl ?_
 refine sp rfl (PE.assign rfl) rfl ?_
 refine sy_ret ?_
 exact sy_return (vs := [_]) rfl (.cons (RV.tmp rfl) .nil) rfl ⟨congrArg (Value.int .i64) (by simp_all only [retV, Gat.check, inb, cond_true, cond_false, Bool.not_true, Bool.not_false, Bool.not_eq_true', Bool.not_eq_false', Bool.true_or, Bool.or_true, Bool.false_or, Bool.or_false, gt_iff_lt]), rfl, rfl⟩ drp
 have h8 : decide (4 < g.grs.length) = false := by simp only [decide_eq_false_iff_not] at hc0 ⊢; omega
 refine sy_seq ?_
 refine sy_tx' [0, 1, 2, 3, 4, 5, 6, 7, 8, 9, 10] rfl ?_
 refine sp rfl (PE.fieldAddr fo25_0 rfl) rfl ?_
 refine spL rfl rfl (lh sc3 rfl rfl) rfl ?_
 refine clV rfl cal14 rfl rfl (c_in _ _ _ _ _) ?_
 refine sp rfl (PE.not rfl) rfl ?_
 refine sp rfl (PE.move rfl) rfl ?_
 refine sy_case (t := 13) rfl (fun g13 => ?_) (fun g13 => ?_)
 repeat refine spN rfl rfl rfl rfl rfl rfl rfl rfl ?_
 refine sp rfl (PE.pick rfl rfl rfl) rfl ?_
 refine sp rfl (PE.assign rfl) rfl ?_
 refine sy_condT rfl ?_
 refine sy_seq ?_
 refine sy_tx' [0] rfl ?_
 refine sp rfl (PE.assign rfl) rfl ?_
 refine sy_ret ?_
 exact sy_return (vs := [_]) rfl (.cons (RV.tmp rfl) .nil) rfl ⟨congrArg (Value.int .i64) (by simp_all only [retV, Gat.check, inb, cond_true, cond_false, Bool.not_true, Bool.not_false, Bool.not_eq_true', Bool.not_eq_false', Bool.true_or, Bool.or_true, Bool.false_or, Bool.or_false, gt_iff_lt]), rfl, rfl⟩ drp
 refine spG rfl rfl rfl rfl (PE.fieldAddr fo25_1 rfl) rfl ?_
 refine spLG rfl rfl rfl rfl rfl (lh sc3 rfl rfl) rfl ?_
 refine clVG rfl rfl rfl rfl cal14 rfl rfl (c_in _ _ _ _ _) ?_
 refine spG rfl rfl rfl rfl (PE.not rfl) rfl ?_
 refine sp rfl (PE.pick rfl rfl rfl) rfl ?_
 refine sp rfl (PE.assign rfl) rfl ?_
 refine sy_cond rfl (fun hc1 => ?_) (fun hc1 => ?_)
 refine sy_seq ?_
 refine sy_tx' [0] rfl ?_
 refine sp rfl (PE.assign rfl) rfl ?_
 refine sy_ret ?_
 exact sy_return (vs := [_]) rfl (.cons (RV.tmp rfl) .nil) rfl ⟨congrArg (Value.int .i64) (by simp_all only [retV, Gat.check, inb, cond_true, cond_false, Bool.not_true, Bool.not_false, Bool.not_eq_true', Bool.not_eq_false', Bool.true_or, Bool.or_true, Bool.false_or, Bool.or_false, gt_iff_lt]), rfl, rfl⟩ drp
 refine sy_seq ?_
 refine sy_tx' [0, 1, 2, 3, 4] rfl ?_
 refine sp rfl (PE.fieldAddr fo25_2 rfl) rfl ?_
 refine spL rfl rfl (lh sc23 rfl rfl) rfl ?_
 refine clV rfl cal15 rfl rfl (c_every_grd g.grs ag cg 16 [] [] Grd.fine cal16 (by omega) _ _ (fun _ _ x _ => c_chk1 x _ _)) ?_
 refine sp rfl (PE.not rfl) rfl ?_
 refine sp rfl (PE.assign rfl) rfl ?_
 refine sy_cond rfl (fun hc2 => ?_) (fun hc2 => ?_)
 refine sy_seq ?_
 refine sy_tx' [0] rfl ?_
 refine sp rfl (PE.assign rfl) rfl ?_
 refine sy_ret ?_
 exact sy_return (vs := [_]) rfl (.cons (RV.tmp rfl) .nil) rfl ⟨congrArg (Value.int .i64) (by simp_all only [retV, Gat.check, inb, cond_true, cond_false, Bool.not_true, Bool.not_false, Bool.not_eq_true', Bool.not_eq_false', Bool.true_or, Bool.or_true, Bool.false_or, Bool.or_false, gt_iff_lt]), rfl, rfl⟩ drp
 have hfi : g.grs.all Grd.fine = true := by rw [← Bool.not_eq_false']; exact hc2
 refine sy_seq ?_
 refine sy_tx' [0, 1, 2, 3, 4] rfl ?_
 refine sp rfl (PE.fieldAddr fo25_2 rfl) rfl ?_
 refine spL rfl rfl (lh sc23 rfl rfl) rfl ?_
 refine clV rfl cal20 rfl rfl (c_sorted g.grs ag cg (by omega) (fun x hx => by have := List.all_eq_true.1 hfi x hx; simp only [Grd.fine, inb, Bool.and_eq_true, decide_eq_true_eq] at this; exact this.1) _ _) ?_
 refine sp rfl (PE.not rfl) rfl ?_
 refine sp rfl (PE.assign rfl) rfl ?_
 refine sy_cond rfl (fun hc3 => ?_) (fun hc3 => ?_)
 refine sy_seq ?_
 refine sy_tx' [0] rfl ?_
 refine sp rfl (PE.assign rfl) rfl ?_
 refine sy_ret ?_
 exact sy_return (vs := [_]) rfl (.cons (RV.tmp rfl) .nil) rfl ⟨congrArg (Value.int .i64) (by simp_all only [retV, Gat.check, inb, cond_true, cond_false, Bool.not_true, Bool.not_false, Bool.not_eq_true', Bool.not_eq_false', Bool.true_or, Bool.or_true, Bool.false_or, Bool.or_false, gt_iff_lt]), rfl, rfl⟩ drp
 refine sy_skip ?_
 refine sy_seq ?_
 refine sy_tx' [0] rfl ?_
 refine sp rfl (PE.assign rfl) rfl ?_
 refine sy_ret ?_
 exact sy_return (vs := [_]) rfl (.cons (RV.tmp rfl) .nil) rfl ⟨congrArg (Value.int .i64) (by simp_all only [retV, Gat.check, inb, cond_true, cond_false, Bool.not_true, Bool.not_false, Bool.not_eq_true', Bool.not_eq_false', Bool.true_or, Bool.or_true, Bool.false_or, Bool.or_false, gt_iff_lt]), rfl, rfl⟩ drp
theorem c_cck11 (n : Int) (H : Heap) (R : Facts) :
    FnV Tryz.prog 24 [.int .i64 n] H R (.bool (inb n 0 200)) := by
 refine fn_of Tryz.func24 rfl Tryz.ntmps24 rfl ?_
 refine sy_seq ?_
 refine sy_tx' [0] rfl ?_
 refine sp rfl (PE.assign rfl) rfl ?_
 refine sy_seq ?_
 refine sy_tx' [0, 1, 2] rfl ?_
 refine sp rfl (PE.move rfl) rfl ?_
 refine clV rfl cal14 rfl rfl (c_in _ _ _ _ _) ?_
 refine sp rfl (PE.assign rfl) rfl ?_
 refine sy_ret ?_
 exact sy_return (vs := [_]) rfl (.cons (RV.tmp rfl) .nil) rfl ⟨rfl, rfl, rfl⟩ drp
theorem c_cck1 (h : Hnd) (H : Heap) (R : Facts) :
    FnV Tryz.prog 23 [.agg (hrow h).toArray] H R (.bool h.fine) := by
 refine fn_of Tryz.func23 rfl Tryz.ntmps23 rfl ?_
 refine sy_seq ?_
 refine sy_tx' [0, 1] rfl ?_
 refine bx rfl rfl rfl (fun b1 => ?_)
 refine sp rfl (PE.assign rfl) rfl ?_
 refine sy_seq ?_
 refine sy_tx' [0, 1, 2, 3, 4, 5, 6, 7, 8] rfl ?_
 refine sp rfl (PE.fieldAddr fo33_0 rfl) rfl ?_
 refine spL rfl rfl (lh sc3 rfl rfl) rfl ?_
 refine clV rfl cal14 rfl rfl (c_in _ _ _ _ _) ?_
 refine sp rfl (PE.move rfl) rfl ?_
 refine sy_case (t := 6) rfl (fun g6 => ?_) (fun g6 => ?_)
 refine spG rfl rfl rfl rfl (PE.fieldAddr fo33_1 rfl) rfl ?_
 refine spG rfl rfl rfl rfl (PE.slArr ar31 rfl) rfl ?_
 refine Sy.heap (fun w h => St.rows1 h) ?_
 refine clVG rfl rfl rfl rfl cal17 rfl rfl (c_every_int h.gs (some ⟨b1, 1, none⟩) 4 24 [] [] (fun n => inb n 0 200) cal24 (by simp [Hnd.gs]) _ _ (fun _ y _ => c_cck11 y _ _)) ?_
 refine sp rfl (PE.pick rfl rfl rfl) rfl ?_
 refine sp rfl (PE.assign rfl) rfl ?_
 refine sy_ret ?_
 exact sy_return (vs := [_]) rfl (.cons (RV.tmp rfl) .nil) rfl ⟨by simp_all only [retV, Hnd.fine, Bool.true_and, Bool.false_and, cond_true, cond_false], rfl, rfl⟩ drp
 repeat refine spN rfl rfl rfl rfl rfl rfl rfl rfl ?_
 refine sp rfl (PE.pick rfl rfl rfl) rfl ?_
 refine sp rfl (PE.assign rfl) rfl ?_
 refine sy_ret ?_
 exact sy_return (vs := [_]) rfl (.cons (RV.tmp rfl) .nil) rfl ⟨by simp_all only [retV, Hnd.fine, Bool.true_and, Bool.false_and, cond_true, cond_false], rfl, rfl⟩ drp
theorem c_cck2 (h : Hnd) (hf : h.fine = true) (H : Heap) (R : Facts) :
    FnV Tryz.prog 25 [.agg (hrow h).toArray] H R (.bool (inb h.tot 10 200)) := by
 refine fn_of Tryz.func25 rfl Tryz.ntmps25 rfl ?_
 refine sy_seq ?_
 refine sy_tx' [0, 1] rfl ?_
 refine bx rfl rfl rfl (fun b1 => ?_)
 refine sp rfl (PE.assign rfl) rfl ?_
 refine sy_seq ?_
 refine sy_tx' [0, 1, 2, 3, 4] rfl ?_
 refine sp rfl (PE.fieldAddr fo33_1 rfl) rfl ?_
 refine spL rfl rfl (lhA [.int .i64 h.a, .int .i64 h.b, .int .i64 h.c, .int .i64 h.d] ag31 rfl rfl rfl) rfl ?_
 refine clV rfl cal26 rfl rfl (c_sum h.a h.b h.c h.d (by simp only [Hnd.fine, Hnd.gs, inb, List.all_cons, List.all_nil, Bool.and_true, Bool.and_eq_true, decide_eq_true_eq] at hf; intro x hx; simp only [List.mem_cons, List.not_mem_nil, or_false] at hx; rcases hx with rfl | rfl | rfl | rfl <;> omega) _ _) ?_
 refine clV rfl cal14 rfl rfl (c_in _ _ _ _ _) ?_
 refine sp rfl (PE.assign rfl) rfl ?_
 refine sy_ret ?_
 exact sy_return (vs := [_]) rfl (.cons (RV.tmp rfl) .nil) rfl ⟨rfl, rfl, rfl⟩ drp
theorem c_CheckCart (c : Crt) (ah : Option Addr) (ch : Nat) (hlh : c.hs.length ≤ 9223372036854775807) (H : Heap) (R : Facts) [hA : MemRows ah 5 (hrows c.hs) R] :
    FnV Tryz.prog 7 [c.v (c.sl ah ch)] H R (.int .i64 c.check) := by
 refine fn_of Tryz.func7 rfl Tryz.ntmps7 rfl ?_
 refine sy_seq ?_
 refine sy_tx' [0, 1] rfl ?_
 refine bx rfl rfl rfl (fun b1 => ?_)
 refine sp rfl (PE.assign rfl) rfl ?_
 refine sy_seq ?_
 refine sy_block ?_
 refine sy_seq ?_
 refine sy_tx' [0, 1, 2, 3, 4] rfl ?_
 refine sp rfl (PE.fieldAddr fo28_2 rfl) rfl ?_
 refine spL rfl rfl (lh sc26 rfl rfl) rfl ?_
 refine sp rfl (PE.lenSl isl26 rfl) rfl ?_
 refine sp rfl (PE.gtr rfl rfl) rfl ?_
 refine sp rfl (PE.assign rfl) rfl ?_
 refine sy_cond rfl (fun hc0 => ?_) (fun hc0 => ?_)
 have h8 : decide (6 < c.hs.length) = true := by simp only [decide_eq_true_eq] at hc0 ⊢; omega
 refine sy_seq ?_
 refine sy_tx' [0] rfl ?_
 refine sp rfl (PE.assign rfl) rfl ?_
 refine sy_ret ?_
 exact sy_return (vs := [_]) rfl (.cons (RV.tmp rfl) .nil) rfl ⟨congrArg (Value.int .i64) (by simp_all only [retV, Crt.check, inb, cond_true, cond_false, Bool.not_true, Bool.not_false, Bool.not_eq_true', Bool.not_eq_false', Bool.true_or, Bool.or_true, Bool.false_or, Bool.or_false, gt_iff_lt]), rfl, rfl⟩ drp
 have h8 : decide (6 < c.hs.length) = false := by simp only [decide_eq_false_iff_not] at hc0 ⊢; omega
 refine sy_seq ?_
 refine sy_tx' [0, 1, 2, 3, 4, 5, 6, 7, 8, 9, 10] rfl ?_
 refine sp rfl (PE.fieldAddr fo28_0 rfl) rfl ?_
 refine spL rfl rfl (lh sc3 rfl rfl) rfl ?_
 refine clV rfl cal14 rfl rfl (c_in _ _ _ _ _) ?_
 refine sp rfl (PE.not rfl) rfl ?_
 refine sp rfl (PE.move rfl) rfl ?_
 refine sy_case (t := 13) rfl (fun g13 => ?_) (fun g13 => ?_)
 repeat refine spN rfl rfl rfl rfl rfl rfl rfl rfl ?_
 refine sp rfl (PE.pick rfl rfl rfl) rfl ?_
 refine sp rfl (PE.assign rfl) rfl ?_
 refine sy_condT rfl ?_
 refine sy_seq ?_
 refine sy_tx' [0] rfl ?_
 refine sp rfl (PE.assign rfl) rfl ?_
 refine sy_ret ?_
 exact sy_return (vs := [_]) rfl (.cons (RV.tmp rfl) .nil) rfl ⟨congrArg (Value.int .i64) (by simp_all only [retV, Crt.check, inb, cond_true, cond_false, Bool.not_true, Bool.not_false, Bool.not_eq_true', Bool.not_eq_false', Bool.true_or, Bool.or_true, Bool.false_or, Bool.or_false, gt_iff_lt]), rfl, rfl⟩ drp
 refine spG rfl rfl rfl rfl (PE.fieldAddr fo28_1 rfl) rfl ?_
 refine spLG rfl rfl rfl rfl rfl (lh sc3 rfl rfl) rfl ?_
 refine clVG rfl rfl rfl rfl cal14 rfl rfl (c_in _ _ _ _ _) ?_
 refine spG rfl rfl rfl rfl (PE.not rfl) rfl ?_
 refine sp rfl (PE.pick rfl rfl rfl) rfl ?_
 refine sp rfl (PE.assign rfl) rfl ?_
 refine sy_cond rfl (fun hc1 => ?_) (fun hc1 => ?_)
 refine sy_seq ?_
 refine sy_tx' [0] rfl ?_
 refine sp rfl (PE.assign rfl) rfl ?_
 refine sy_ret ?_
 exact sy_return (vs := [_]) rfl (.cons (RV.tmp rfl) .nil) rfl ⟨congrArg (Value.int .i64) (by simp_all only [retV, Crt.check, inb, cond_true, cond_false, Bool.not_true, Bool.not_false, Bool.not_eq_true', Bool.not_eq_false', Bool.true_or, Bool.or_true, Bool.false_or, Bool.or_false, gt_iff_lt]), rfl, rfl⟩ drp
 refine sy_seq ?_
 refine sy_tx' [0, 1, 2, 3, 4] rfl ?_
 refine sp rfl (PE.fieldAddr fo28_2 rfl) rfl ?_
 refine spL rfl rfl (lh sc26 rfl rfl) rfl ?_
 refine clV rfl cal22 rfl rfl (c_every_hnd c.hs ah ch 23 [] [] Hnd.fine cal23 (by omega) _ _ (fun _ _ x _ => c_cck1 x _ _)) ?_
 refine sp rfl (PE.not rfl) rfl ?_
 refine sp rfl (PE.assign rfl) rfl ?_
 refine sy_cond rfl (fun hc2 => ?_) (fun hc2 => ?_)
 refine sy_seq ?_
 refine sy_tx' [0] rfl ?_
 refine sp rfl (PE.assign rfl) rfl ?_
 refine sy_ret ?_
 exact sy_return (vs := [_]) rfl (.cons (RV.tmp rfl) .nil) rfl ⟨congrArg (Value.int .i64) (by simp_all only [retV, Crt.check, inb, cond_true, cond_false, Bool.not_true, Bool.not_false, Bool.not_eq_true', Bool.not_eq_false', Bool.true_or, Bool.or_true, Bool.false_or, Bool.or_false, gt_iff_lt]), rfl, rfl⟩ drp
 have hfi : c.hs.all Hnd.fine = true := by rw [← Bool.not_eq_false']; exact hc2
 refine sy_seq ?_
 refine sy_tx' [0, 1, 2, 3, 4] rfl ?_
 refine sp rfl (PE.fieldAddr fo28_2 rfl) rfl ?_
 refine spL rfl rfl (lh sc26 rfl rfl) rfl ?_
 refine clV rfl cal22 rfl rfl (c_every_hnd c.hs ah ch 25 [] [] (fun h => inb h.tot 10 200) cal25 (by omega) _ _ (fun _ _ x hx => c_cck2 x (List.all_eq_true.1 hfi x hx) _ _)) ?_
 refine sp rfl (PE.not rfl) rfl ?_
 refine sp rfl (PE.assign rfl) rfl ?_
 refine sy_cond rfl (fun hc3 => ?_) (fun hc3 => ?_)
 refine sy_seq ?_
 refine sy_tx' [0] rfl ?_
 refine sp rfl (PE.assign rfl) rfl ?_
 refine sy_ret ?_
 exact sy_return (vs := [_]) rfl (.cons (RV.tmp rfl) .nil) rfl ⟨congrArg (Value.int .i64) (by simp_all only [retV, Crt.check, inb, cond_true, cond_false, Bool.not_true, Bool.not_false, Bool.not_eq_true', Bool.not_eq_false', Bool.true_or, Bool.or_true, Bool.false_or, Bool.or_false, gt_iff_lt]), rfl, rfl⟩ drp
 refine sy_skip ?_
 refine sy_seq ?_
 refine sy_tx' [0] rfl ?_
 refine sp rfl (PE.assign rfl) rfl ?_
 refine sy_ret ?_
 exact sy_return (vs := [_]) rfl (.cons (RV.tmp rfl) .nil) rfl ⟨congrArg (Value.int .i64) (by simp_all only [retV, Crt.check, inb, cond_true, cond_false, Bool.not_true, Bool.not_false, Bool.not_eq_true', Bool.not_eq_false', Bool.true_or, Bool.or_true, Bool.false_or, Bool.or_false, gt_iff_lt]), rfl, rfl⟩ drp
end Go.Proofs.YtndhkpnaeocnhaaGreat
namespace Go.Proofs.YtndhkpnaeocnhaaGreat
set_option linter.unusedSimpArgs false
set_option linter.unusedVariables false
open Go
theorem ag128 : aggN Tryz.prog 128 = some 8 := by kernel_rfl
theorem ag25 : aggN Tryz.prog 25 = some 3 := by kernel_rfl
theorem ag28 : aggN Tryz.prog 28 = some 3 := by kernel_rfl
theorem ag61 : aggN Tryz.prog 61 = some 2 := by kernel_rfl
theorem ar128 : arN Tryz.prog 128 = some (4, 2) := by kernel_rfl
theorem are128 : arE Tryz.prog 128 = some (4, 61) := by kernel_rfl
theorem cal121 : cal Tryz.prog 121 = true := by kernel_rfl
theorem cal6 : cal Tryz.prog 6 = true := by kernel_rfl
theorem cal7 : cal Tryz.prog 7 = true := by kernel_rfl
theorem cal82 : cal Tryz.prog 82 = true := by kernel_rfl
theorem cal99 : cal Tryz.prog 99 = true := by kernel_rfl
theorem cn128 : cellN Tryz.prog 128 = some 8 := by kernel_rfl
theorem cn33 : cellN Tryz.prog 33 = some 5 := by kernel_rfl
theorem cn61 : cellN Tryz.prog 61 = some 2 := by kernel_rfl
theorem eqf128 : eqB Tryz.prog 10000 128 = some (true, 8) := by kernel_rfl
theorem eqf61 : eqB Tryz.prog 10000 61 = some (true, 2) := by kernel_rfl
theorem eqg128 : Tryz.prog.eqGuardType Tryz.prog.depth 128 = false := by kernel_rfl
theorem eqg61 : Tryz.prog.eqGuardType Tryz.prog.depth 61 = false := by kernel_rfl
theorem fo135_0 : fOff Tryz.prog 135 0 = some 0 := by kernel_rfl
theorem fo148_0 : fOff Tryz.prog 148 0 = some 0 := by kernel_rfl
theorem fo148_1 : fOff Tryz.prog 148 1 = some 3 := by kernel_rfl
theorem fo61_0 : fOff Tryz.prog 61 0 = some 0 := by kernel_rfl
theorem fo61_1 : fOff Tryz.prog 61 1 = some 1 := by kernel_rfl
theorem pl148 : placeL Tryz.prog 148 = some [(0, 3), (3, 3)] := by kernel_rfl
theorem pl61 : placeL Tryz.prog 61 = some [(0, 1), (1, 1)] := by kernel_rfl
theorem zl128 : zeroL Tryz.prog 128 = some ([.int .i64 0, .int .i64 0, .int .i64 0, .int .i64 0, .int .i64 0, .int .i64 0, .int .i64 0, .int .i64 0]) := by kernel_rfl
theorem zl148 : zeroL Tryz.prog 148 = some ([.int .i64 0, .int .i64 0, .slice none 0 0, .int .i64 0, .int .i64 0, .slice none 0 0]) := by kernel_rfl
theorem zl33 : zeroL Tryz.prog 33 = some ([.int .i64 0, .int .i64 0, .int .i64 0, .int .i64 0, .int .i64 0]) := by kernel_rfl
theorem zl61 : zeroL Tryz.prog 61 = some ([.int .i64 0, .int .i64 0]) := by kernel_rfl
theorem box_drop {b : Box} (hb : b.length = 8) {k : Nat} (hk : k < 4) : (ints b).drop (0 + ((k : Nat) : Int).toNat * 2) = [.int .i64 (bl b k), .int .i64 (bh b k)] ++ (ints b).drop (2 * k + 2) := by
  obtain ⟨a0, a1, a2, a3, a4, a5, a6, a7, rfl⟩ := list8 hb
  rcases lt4 hk with rfl | rfl | rfl | rfl <;> rfl
theorem bset_drop {b : Box} (hb : b.length = 8) {k : Nat} (hk : k < 4) (s : Int × Int) : (ints (bset b k s)).drop (0 + ((k : Nat) : Int).toNat * 2) = [.int .i64 s.1, .int .i64 s.2] ++ (ints b).drop (2 * k + 2) := by
  obtain ⟨a0, a1, a2, a3, a4, a5, a6, a7, rfl⟩ := list8 hb
  rcases lt4 hk with rfl | rfl | rfl | rfl <;> rfl
theorem spl_box {b : Box} (hb : b.length = 8) {k : Nat} (hk : k < 4) (x y : Int) : spl (ints b) (0 + ((k : Nat) : Int).toNat * 2) [.int .i64 x, .int .i64 y] = ints (bset b k (x, y)) := by
  obtain ⟨a0, a1, a2, a3, a4, a5, a6, a7, rfl⟩ := list8 hb
  rcases lt4 hk with rfl | rfl | rfl | rfl <;> rfl
theorem bset_bset {b : Box} (hb : b.length = 8) {k : Nat} (hk : k < 4) (s t : Int × Int) : bset (bset b k s) k t = bset b k t := by
  obtain ⟨a0, a1, a2, a3, a4, a5, a6, a7, rfl⟩ := list8 hb
  rcases lt4 hk with rfl | rfl | rfl | rfl <;> rfl
theorem box_part {b : Box} (hb : b.length = 8) {k : Nat} (hk : k < 4) : (b.drop (k * 2)).take 2 = [bl b k, bh b k] := by
  obtain ⟨a0, a1, a2, a3, a4, a5, a6, a7, rfl⟩ := list8 hb
  rcases lt4 hk with rfl | rfl | rfl | rfl <;> rfl
theorem hrow_at {h : Hnd} {k : Nat} (hk : k < 4) : (hrow h)[0 + 1 + ((k : Nat) : Int).toNat * 1]? = some (.int .i64 (nn h.gs k)) := by
  rcases lt4 hk with rfl | rfl | rfl | rfl <;> rfl
theorem mix_at {m : List Int} (hm : m.length = 4) {k : Nat} (hk : k < 4) : (ints m)[0 + ((k : Nat) : Int).toNat * 1]? = some (.int .i64 (nn m k)) := by
  obtain ⟨a, b, c, d, rfl⟩ := list4 hm
  rcases lt4 hk with rfl | rfl | rfl | rfl <;> rfl
theorem spl_mix {m : List Int} (hm : m.length = 4) {k : Nat} (hk : k < 4) (v : Int) : spl (ints m) (0 + ((k : Nat) : Int).toNat * 1) [.int .i64 v] = ints (m.set k v) := by
  obtain ⟨a, b, c, d, rfl⟩ := list4 hm
  rcases lt4 hk with rfl | rfl | rfl | rfl <;> rfl
theorem tdiv_in {m n : Int} (hm : -1000000 ≤ m ∧ m ≤ 1000000) (hn : 1 ≤ n) : IntKind.i64.wrap (m.tdiv n) = m.tdiv n := by
  have h : -1000000 ≤ m.tdiv n ∧ m.tdiv n ≤ 1000000 := by
    by_cases h0 : 0 ≤ m
    · rw [Int.tdiv_eq_ediv_of_nonneg h0]
      have := Int.ediv_le_self (a := m) n h0
      have := Int.ediv_nonneg h0 (show 0 ≤ n by omega)
      omega
    · have h4 : m.tdiv n = -((-m).tdiv n) := by rw [Int.neg_tdiv]; omega
      have h5 : 0 ≤ (-m).tdiv n := Int.tdiv_nonneg (by omega) (by omega)
      have h6 : (-m).tdiv n ≤ -m := by rw [Int.tdiv_eq_ediv_of_nonneg (by omega)]; exact Int.ediv_le_self n (by omega)
      omega
  exact wrap_i64_id (by omega) (by omega)
def boxP (miss : Int) (hs : List Hnd) (f : Nat → Bool) : Nat → Box
  | 0 => [0, 0, 0, 0, 0, 0, 0, 0]
  | k + 1 => bset (boxP miss hs f k) k (spanK miss hs f k)
theorem boxP_len (miss : Int) (hs : List Hnd) (f : Nat → Bool) : ∀ k, (boxP miss hs f k).length = 8
  | 0 => rfl
  | k + 1 => by unfold boxP; rw [bset_len, boxP_len miss hs f k]
theorem boxP_end (miss : Int) (hs : List Hnd) (f : Nat → Bool) : boxP miss hs f 4 = boxF miss hs f := rfl
theorem spanN_hit {miss : Int} {hs : List Hnd} {f : Nat → Bool} {k n : Nat} {h : Hnd} (hh : hs[n]? = some h) (hf : f n = true) : spanN miss hs f k (n + 1) = met (spanN miss hs f k n).1 (spanN miss hs f k n).2 (letS miss h k).1 (letS miss h k).2 := by
  rw [spanN, hh]; simp only [hf, cond_true]
theorem spanN_miss {miss : Int} {hs : List Hnd} {f : Nat → Bool} {k n : Nat} {h : Hnd} (hh : hs[n]? = some h) (hf : f n = false) : spanN miss hs f k (n + 1) = spanN miss hs f k n := by
  rw [spanN, hh]; simp only [hf, cond_false]
def othN (f : Nat → Int) (k : Nat) : Nat → Int
  | 0 => 0
  | j + 1 => othN f k j + bif j == k then 0 else f j
theorem oth_end (f : Nat → Int) {k : Nat} (hk : k < 4) : othN f k 4 = oth f k := by
  rcases lt4 hk with rfl | rfl | rfl | rfl <;> simp [othN, oth]
theorem othN_bd {b : Box} (hb : Bok b) (k : Nat) : ∀ j, j ≤ 4 → (0 ≤ othN (bl b) k j ∧ othN (bl b) k j ≤ 40 * j) ∧ (0 ≤ othN (bh b) k j ∧ othN (bh b) k j ≤ 40 * j)
  | 0, _ => by simp [othN]
  | j + 1, hj => by
    have ih := othN_bd hb k j (by omega)
    have h := hb.at_ j (by omega)
    unfold othN
    cases j == k <;> simp only [cond_true, cond_false] <;> omega
theorem rndN_le {b : Box} {k : Nat} : ∀ {j : Nat}, rndN b k = none → k ≤ j → rndN b j = none
  | 0, h, hj => by
    have : k = 0 := by omega
    subst this; exact h
  | j + 1, h, hj => by
    rcases Nat.lt_or_ge j k with h1 | h1
    · obtain rfl : k = j + 1 := by omega
      exact h
    · unfold rndN; rw [rndN_le h h1]
theorem c_opened (g : Gat) (ag : Option Addr) (cg : Nat) (hlg : g.grs.length ≤ 9223372036854775807) (c : Crt) (ah : Option Addr) (ch : Nat) (hlh : c.hs.length ≤ 9223372036854775807) (H : Heap) (R : Facts) [hG : MemRows ag 5 (grows g.grs) R] [hA : MemRows ah 5 (hrows c.hs) R] :
    Fn Tryz.prog 78 [g.v (g.sl ag cg), c.v (c.sl ah ch)] H R (fun v H' R' => H' = H ∧ ((bothE g c ≠ 0 ∧ v = .tuple #[.pointer none, .int .i64 (bothE g c)] ∧ R' = R) ∨ (g.ok ∧ c.ok ∧ bothE g c = 0 ∧ ∃ bw, v = .tuple #[.pointer (some ⟨bw, 0, none⟩), .int .i64 0] ∧ R' = RowsA (some ⟨bw, 0, none⟩) 6 [wrow g c (g.sl ag cg) (c.sl ah ch)] :: R))) := by
 refine fn_of Tryz.func78 rfl Tryz.ntmps78 rfl ?_
 refine sy_seq ?_
 refine sy_tx' [0, 1, 2, 3] rfl ?_
 refine bx rfl rfl rfl (fun b2 => ?_)
 refine bx rfl rfl rfl (fun b3 => ?_)
 refine sp rfl (PE.assign rfl) rfl ?_
 refine sp rfl (PE.assign rfl) rfl ?_
 refine sy_seq ?_
 refine sy_seq ?_
 refine sy_tx' [0, 1, 2] rfl ?_
 refine spL rfl rfl (lhA [_, _, _] ag25 rfl rfl rfl) rfl ?_
 refine clV rfl cal6 rfl rfl (c_Check g ag cg hlg _ _) ?_
 refine sp rfl (PE.assign rfl) rfl ?_
 refine sy_seq ?_
 refine sy_tx' [0, 1] rfl ?_
 refine sp rfl (PE.move rfl) rfl ?_
 refine sp rfl (PE.neq rfl rfl) rfl ?_
 refine sy_cond rfl (fun hc0 => ?_) (fun hc0 => ?_)
 have e : bothE g c = g.check := by simp [bothE, hc0]
 have hne : bothE g c ≠ 0 := by rw [e]; simpa using hc0
 refine sy_seq ?_
 refine sy_tx' [0, 1, 2] rfl ?_
 refine sp rfl (PE.move rfl) rfl ?_
 refine sp rfl (PE.assign rfl) rfl ?_
 refine sp rfl (PE.assign rfl) rfl ?_
 refine sy_ret ?_
 first
   | (rw [h1] at e; refine Sy.heap (fun w h => St.rows (sz := 6) (rows := [wrow g c (g.sl ag cg) (c.sl ah ch)]) (rest := []) h (by intro r hr; obtain rfl := List.mem_singleton.1 hr; rfl)) ?_; exact sy_return (vs := [_, _]) rfl (.cons (RV.tmp rfl) (.cons (RV.tmp rfl) .nil)) rfl ⟨rfl, .inr ⟨gat_ok.1 h0, crt_ok.1 h1, e, _, rfl, rfl⟩⟩ drp)
   | (rw [← e]; exact sy_return (vs := [_, _]) rfl (.cons (RV.tmp rfl) (.cons (RV.tmp rfl) .nil)) rfl ⟨rfl, .inl ⟨hne, rfl, rfl⟩⟩ drp)
 have h0 : g.check = 0 := by simpa using hc0
 have e : bothE g c = c.check := by simp [bothE, h0]
 refine sy_skip ?_
 refine sy_seq ?_
 refine sy_seq ?_
 refine sy_tx' [0, 1, 2] rfl ?_
 refine spL rfl rfl (lhA [_, _, _] ag28 rfl rfl rfl) rfl ?_
 refine clV rfl cal7 rfl rfl (c_CheckCart c ah ch hlh _ _) ?_
 refine sp rfl (PE.assign rfl) rfl ?_
 refine sy_seq ?_
 refine sy_tx' [0, 1] rfl ?_
 refine sp rfl (PE.move rfl) rfl ?_
 refine sp rfl (PE.neq rfl rfl) rfl ?_
 refine sy_cond rfl (fun hc1 => ?_) (fun hc1 => ?_)
 have hne : bothE g c ≠ 0 := by rw [e]; simpa using hc1
 refine sy_seq ?_
 refine sy_tx' [0, 1, 2] rfl ?_
 refine sp rfl (PE.move rfl) rfl ?_
 refine sp rfl (PE.assign rfl) rfl ?_
 refine sp rfl (PE.assign rfl) rfl ?_
 refine sy_ret ?_
 first
   | (rw [h1] at e; refine Sy.heap (fun w h => St.rows (sz := 6) (rows := [wrow g c (g.sl ag cg) (c.sl ah ch)]) (rest := []) h (by intro r hr; obtain rfl := List.mem_singleton.1 hr; rfl)) ?_; exact sy_return (vs := [_, _]) rfl (.cons (RV.tmp rfl) (.cons (RV.tmp rfl) .nil)) rfl ⟨rfl, .inr ⟨gat_ok.1 h0, crt_ok.1 h1, e, _, rfl, rfl⟩⟩ drp)
   | (rw [← e]; exact sy_return (vs := [_, _]) rfl (.cons (RV.tmp rfl) (.cons (RV.tmp rfl) .nil)) rfl ⟨rfl, .inl ⟨hne, rfl, rfl⟩⟩ drp)
 have h1 : c.check = 0 := by simpa using hc1
 refine sy_skip ?_
 refine sy_seq ?_
 refine sy_tx' [0, 1, 2, 3, 4, 5] rfl ?_
 refine spL rfl rfl (lhA [_, _, _] ag28 rfl rfl rfl) rfl ?_
 refine spL rfl rfl (lhA [_, _, _] ag25 rfl rfl rfl) rfl ?_
 refine sp rfl (PE.build (out := wrow g c (g.sl ag cg) (c.sl ah ch)) pl148 zl148 rfl rfl) rfl ?_
 refine bx rfl rfl rfl (fun b21 => ?_)
 refine sp rfl (PE.assign rfl) rfl ?_
 refine sp rfl (PE.assign rfl) rfl ?_
 refine sy_ret ?_
 first
   | (rw [h1] at e; refine Sy.heap (fun w h => St.rows (sz := 6) (rows := [wrow g c (g.sl ag cg) (c.sl ah ch)]) (rest := []) h (by intro r hr; obtain rfl := List.mem_singleton.1 hr; rfl)) ?_; exact sy_return (vs := [_, _]) rfl (.cons (RV.tmp rfl) (.cons (RV.tmp rfl) .nil)) rfl ⟨rfl, .inr ⟨gat_ok.1 h0, crt_ok.1 h1, e, _, rfl, rfl⟩⟩ drp)
   | (rw [← e]; exact sy_return (vs := [_, _]) rfl (.cons (RV.tmp rfl) (.cons (RV.tmp rfl) .nil)) rfl ⟨rfl, .inl ⟨hne, rfl, rfl⟩⟩ drp)
theorem c_net (g : Gat) (hg : g.ok) (ag : Option Addr) (cg : Nat) (c : Crt) (hc : c.ok) (ah : Option Addr) (ch : Nat) (bw : Nat) (H : Heap) (R : Facts) [hW : MemRows (some ⟨bw, 0, none⟩) 6 [wrow g c (g.sl ag cg) (c.sl ah ch)] R] [hG : MemRows ag 5 (grows g.grs) R] [hA : MemRows ah 5 (hrows c.hs) R] :
    FnV Tryz.prog 79 [.pointer (some ⟨bw, 0, none⟩)] H R (spv (max 0 (c.full - c.empty - 2 * g.err)) (max 0 (c.full - c.empty + 2 * g.err))) := by
 refine fn_of Tryz.func79 rfl Tryz.ntmps79 rfl ?_
 refine sy_seq ?_
 refine sy_tx' [0] rfl ?_
 refine alc rfl zl61 rfl (fun b2 => ?_)
 refine sy_seq ?_
 refine sy_draw [0, 1, 3, 7, 15, 0, 32, 96, 224, 480, 1023, 2047] (.tk 0 (.tk 1 (.tk 2 (.tk 3 (.ld 4 (.tk 5 (.tk 6 (.tk 7 (.tk 8 (.ld 9 (.tk 10 (.tk 11 .done)))))))))))) mixed (by kernel_rfl) ?_
 refine tk rfl (PE.move rfl) rfl ?_
 refine tk rfl (PE.nilCheck rfl) rfl ?_
 refine tk rfl (PE.fieldAddr fo148_0 rfl) rfl ?_
 refine tk rfl (PE.fieldAddr fo28_0 rfl) rfl ?_
 refine ld rfl rfl (lfB (sz := 6) sc3 rfl) rfl ?_
 refine tk rfl (PE.move rfl) rfl ?_
 refine tk rfl (PE.nilCheck rfl) rfl ?_
 refine tk rfl (PE.fieldAddr fo148_0 rfl) rfl ?_
 refine tk rfl (PE.fieldAddr fo28_1 rfl) rfl ?_
 refine ld rfl rfl (lfB (sz := 6) sc3 rfl) rfl ?_
 refine tk rfl (PE.sub rfl rfl (by have := hc.full; have := hc.empty; have := hg.err; omega)) rfl ?_
 refine tk rfl (PE.assign rfl) rfl ?_
 refine sy_seq ?_
 refine sy_draw [0, 0, 2, 6, 14, 30, 62, 127, 255, 511, 0, 0, 2048, 6144, 14336, 30720, 63488, 130048, 261120, 524287, 1048575, 2097151] (.tk 0 (.tk 1 (.tk 2 (.tk 3 (.tk 4 (.ld 5 (.tk 6 (.tk 7 (.tk 10 (.tk 11 (.tk 12 (.tk 13 (.tk 14 (.ld 15 (.tk 16 (.tk 17 (.any (.alt 8 (.any (.alt 9 (.big 18 (.big 19 (.tk 20 (.big 21 .done)))) (.alt 18 (.big 9 (.big 19 (.tk 20 (.big 21 .done)))) .stop))) (.alt 18 (.big 8 (.big 9 (.big 19 (.tk 20 (.big 21 .done))))) .stop))))))))))))))))))) mixed (by kernel_rfl) ?_
 refine tk rfl (PE.move rfl) rfl ?_
 refine tk rfl (PE.move rfl) rfl ?_
 refine tk rfl (PE.nilCheck rfl) rfl ?_
 refine tk rfl (PE.fieldAddr fo148_1 rfl) rfl ?_
 refine tk rfl (PE.fieldAddr fo25_0 rfl) rfl ?_
 refine ld rfl rfl (lfB (sz := 6) sc3 rfl) rfl ?_
 refine tk rfl (PE.mul rfl rfl (by have := hc.full; have := hc.empty; have := hg.err; omega)) rfl ?_
 refine tk rfl (PE.sub rfl rfl (by have := hc.full; have := hc.empty; have := hg.err; omega)) rfl ?_
 refine tk rfl (PE.move rfl) rfl ?_
 refine tk rfl (PE.move rfl) rfl ?_
 refine tk rfl (PE.nilCheck rfl) rfl ?_
 refine tk rfl (PE.fieldAddr fo148_1 rfl) rfl ?_
 refine tk rfl (PE.fieldAddr fo25_0 rfl) rfl ?_
 refine ld rfl rfl (lfB (sz := 6) sc3 rfl) rfl ?_
 refine tk rfl (PE.mul rfl rfl (by have := hc.full; have := hc.empty; have := hg.err; omega)) rfl ?_
 refine tk rfl (PE.add rfl rfl (by have := hc.full; have := hc.empty; have := hg.err; omega)) rfl ?_
 refine sy_alt ?_ ?_
 refine bsl (out := [_]) rfl sl22 zl3 rfl rfl rfl rfl rfl rfl (fun b23 => ?_)
 refine bg (fun w hs => ⟨(lfB (sz := 6) sc3 rfl) w hs, trivial, trivial⟩) ?_
 refine sy_alt ?_ ?_
 refine clV rfl cal82 rfl rfl (c_great1 _ b23 _ _) ?_
 refine bg (fun w hs => ⟨(lfB (sz := 6) sc3 rfl) w hs, trivial⟩) ?_
 refine bsl (out := [_]) rfl sl22 zl3 rfl rfl rfl rfl rfl rfl (fun b33 => ?_)
 refine bg (fun w hs => ⟨trivial, trivial⟩) ?_
 refine clV rfl cal82 rfl rfl (c_great1 _ b33 _ _) ?_
 refine bg (fun w hs => trivial) ?_
 refine tk rfl (PE.build (out := [_, _]) pl61 zl61 rfl rfl) rfl ?_
 refine sto rfl rfl rfl cn61 rfl rfl rfl rfl ?_
 refine bg (fun w hs => trivial) ?_
 refine sy_ret ?_
 exact sy_return (vs := [_]) rfl (.cons (RV.cell rfl (lhA [_, _] ag61 rfl rfl rfl)) .nil) rfl ⟨rfl, rfl, rfl⟩ drp
 refine sy_alt ?_ ?_
 refine bsl (out := [_]) rfl sl22 zl3 rfl rfl rfl rfl rfl rfl (fun b33 => ?_)
 refine bg (fun w hs => ⟨trivial, trivial⟩) ?_
 refine clV rfl cal82 rfl rfl (c_great1 _ b23 _ _) ?_
 refine bg (fun w hs => trivial) ?_
 refine clV rfl cal82 rfl rfl (c_great1 _ b33 _ _) ?_
 refine bg (fun w hs => trivial) ?_
 refine tk rfl (PE.build (out := [_, _]) pl61 zl61 rfl rfl) rfl ?_
 refine sto rfl rfl rfl cn61 rfl rfl rfl rfl ?_
 refine bg (fun w hs => trivial) ?_
 refine sy_ret ?_
 exact sy_return (vs := [_]) rfl (.cons (RV.cell rfl (lhA [_, _] ag61 rfl rfl rfl)) .nil) rfl ⟨rfl, rfl, rfl⟩ drp
 exact sy_stop
 refine sy_alt ?_ ?_
 refine bsl (out := [_]) rfl sl22 zl3 rfl rfl rfl rfl rfl rfl (fun b33 => ?_)
 refine bg (fun w hs => ⟨trivial, (lfB (sz := 6) sc3 rfl) w hs, trivial⟩) ?_
 refine bsl (out := [_]) rfl sl22 zl3 rfl rfl rfl rfl rfl rfl (fun b23 => ?_)
 refine bg (fun w hs => ⟨trivial, trivial⟩) ?_
 refine clV rfl cal82 rfl rfl (c_great1 _ b23 _ _) ?_
 refine bg (fun w hs => trivial) ?_
 refine clV rfl cal82 rfl rfl (c_great1 _ b33 _ _) ?_
 refine bg (fun w hs => trivial) ?_
 refine tk rfl (PE.build (out := [_, _]) pl61 zl61 rfl rfl) rfl ?_
 refine sto rfl rfl rfl cn61 rfl rfl rfl rfl ?_
 refine bg (fun w hs => trivial) ?_
 refine sy_ret ?_
 exact sy_return (vs := [_]) rfl (.cons (RV.cell rfl (lhA [_, _] ag61 rfl rfl rfl)) .nil) rfl ⟨rfl, rfl, rfl⟩ drp
 exact sy_stop
theorem c_lets (g : Gat) (hg : g.ok) (ag : Option Addr) (cg : Nat) (c : Crt) (hc : c.ok) (ah : Option Addr) (ch : Nat) (bw : Nat) (h : Hnd) (hh : h.ok) (k : Nat) (hk : k < 4) (H : Heap) (R : Facts) [hW : MemRows (some ⟨bw, 0, none⟩) 6 [wrow g c (g.sl ag cg) (c.sl ah ch)] R] [hG : MemRows ag 5 (grows g.grs) R] [hA : MemRows ah 5 (hrows c.hs) R] :
    FnV Tryz.prog 99 [.pointer (some ⟨bw, 0, none⟩), .agg (hrow h).toArray, .int .i64 k] H R (spv (letS g.miss h k).1 (letS g.miss h k).2) := by
 have hm := hg.miss
 have ht := hh.tot
 have hgr := hh.at_ k hk
 have hab : ∀ x ∈ [h.a, h.b, h.c, h.d], -1000000 ≤ x ∧ x ≤ 1000000000000000 := fun x hx => by
   obtain ⟨a0, a1, a2, a3⟩ := all4 hh.at_
   simp only [nn, Hnd.gs, List.getD_cons_zero, List.getD_cons_succ] at a0 a1 a2 a3
   simp only [List.mem_cons, List.not_mem_nil, or_false] at hx
   rcases hx with rfl | rfl | rfl | rfl <;> omega
 refine fn_of Tryz.func99 rfl Tryz.ntmps99 rfl ?_
 refine sy_seq ?_
 refine sy_tx' [0, 1] rfl ?_
 refine bx rfl rfl rfl (fun b4 => ?_)
 refine alc rfl zl61 rfl (fun b6 => ?_)
 refine sy_seq ?_
 refine sy_draw [0, 1, 3, 0, 0, 24, 56, 7, 255] (.tk 0 (.ld 1 (.tk 3 (.tk 4 (.tk 5 (.ld 6 (.big 2 (.tk 7 (.tk 8 .done))))))))) mixed (by kernel_rfl) ?_
 refine tk rfl (PE.fieldAddr fo33_1 rfl) rfl ?_
 refine ld rfl rfl (lhA [.int .i64 h.a, .int .i64 h.b, .int .i64 h.c, .int .i64 h.d] ag31 rfl rfl rfl) rfl ?_
 refine tk rfl (PE.move rfl) rfl ?_
 refine tk rfl (PE.fieldAddr fo33_1 rfl) rfl ?_
 refine tk rfl (PE.indexArr ar31 rfl rfl (by omega) (by omega)) rfl ?_
 refine ld rfl rfl (lh sc3 rfl (hrow_at hk)) rfl ?_
 refine clV rfl cal26 rfl rfl (c_sum h.a h.b h.c h.d hab _ _) ?_
 refine bg (fun w hs => ⟨(lh sc3 rfl (hrow_at hk)) w hs, trivial, trivial⟩) ?_
 refine tk rfl (PE.assign rfl) rfl ?_
 refine tk rfl (PE.assign rfl) rfl ?_
 refine sy_seq ?_
 refine sy_draw [0, 0, 2, 6, 14, 30, 63, 127, 0, 0, 512, 1536, 3584, 7680, 16128, 32512, 255, 131071] (.tk 0 (.tk 1 (.tk 2 (.tk 3 (.tk 4 (.ld 5 (.tk 6 (.tk 7 (.tk 8 (.tk 9 (.tk 10 (.tk 11 (.tk 12 (.ld 13 (.tk 14 (.tk 15 (.tk 16 (.tk 17 .done)))))))))))))))))) mixed (by kernel_rfl) ?_
 rw [show h.a + h.b + h.c + h.d = h.tot from rfl]
 refine tk rfl (PE.move rfl) rfl ?_
 refine tk rfl (PE.move rfl) rfl ?_
 refine tk rfl (PE.nilCheck rfl) rfl ?_
 refine tk rfl (PE.fieldAddr fo148_1 rfl) rfl ?_
 refine tk rfl (PE.fieldAddr fo25_1 rfl) rfl ?_
 refine ld rfl rfl (lfB (sz := 6) sc3 rfl) rfl ?_
 refine tk rfl (PE.sub rfl rfl (by omega)) rfl ?_
 refine tk rfl (PE.mul rfl rfl (by omega)) rfl ?_
 refine tk rfl (PE.move rfl) rfl ?_
 refine tk rfl (PE.move rfl) rfl ?_
 refine tk rfl (PE.nilCheck rfl) rfl ?_
 refine tk rfl (PE.fieldAddr fo148_1 rfl) rfl ?_
 refine tk rfl (PE.fieldAddr fo25_1 rfl) rfl ?_
 refine ld rfl rfl (lfB (sz := 6) sc3 rfl) rfl ?_
 refine tk rfl (PE.add rfl rfl (by omega)) rfl ?_
 refine tk rfl (PE.mul rfl rfl (by omega)) rfl ?_
 refine tk rfl (PE.assign rfl) rfl ?_
 refine tk rfl (PE.assign rfl) rfl ?_
 refine sy_seq ?_
 refine sy_draw [0, 0, 3, 7, 0, 31, 63, 127, 0, 0, 768, 1792, 4095, 8191] (.tk 0 (.tk 1 (.tk 2 (.tk 3 (.tk 4 (.tk 5 (.tk 8 (.tk 9 (.tk 10 (.tk 11 (.big 6 (.big 7 (.tk 12 (.big 13 .done)))))))))))))) mixed (by kernel_rfl) ?_
 refine tk rfl (PE.move rfl) rfl ?_
 refine tk rfl (PE.move rfl) rfl ?_
 refine tk rfl (PE.add rfl rfl (by omega)) rfl ?_
 refine tk rfl (PE.sub rfl rfl (by omega)) rfl ?_
 refine tk rfl (PE.move rfl) rfl ?_
 refine tk rfl ((PE.quoW rfl rfl (by omega)).to (by rw [tdiv_in (by omega) (by omega)])) rfl ?_
 refine tk rfl (PE.move rfl) rfl ?_
 refine tk rfl (PE.move rfl) rfl ?_
 refine tk rfl ((PE.quoW rfl rfl (by omega)).to (by rw [tdiv_in (by omega) (by omega)])) rfl ?_
 refine tk rfl (PE.min rfl rfl) rfl ?_
 refine bsl (out := [_]) rfl sl22 zl3 rfl rfl rfl rfl rfl rfl (fun b40 => ?_)
 refine bg (fun w hs => trivial) ?_
 refine clV rfl cal82 rfl rfl (c_great1 _ b40 _ _) ?_
 refine bg (fun w hs => trivial) ?_
 refine tk rfl (PE.build (out := [_, _]) pl61 zl61 rfl rfl) rfl ?_
 refine sto rfl rfl rfl cn61 rfl rfl rfl rfl ?_
 refine bg (fun w hs => trivial) ?_
 refine sy_ret ?_
 exact sy_return (vs := [_]) rfl (.cons (RV.cell rfl (lhA [_, _] ag61 rfl rfl rfl)) .nil) rfl ⟨rfl, rfl, rfl⟩ drp
theorem c_met (l h l2 h2 : Int) (H : Heap) (R : Facts) :
    FnV Tryz.prog 121 [spv l h, spv l2 h2] H R (spv (met l h l2 h2).1 (met l h l2 h2).2) := by
 refine fn_of Tryz.func121 rfl Tryz.ntmps121 rfl ?_
 refine sy_seq ?_
 refine sy_tx' [0, 1, 2] rfl ?_
 refine bx rfl rfl rfl (fun b2 => ?_)
 refine bx rfl rfl rfl (fun b3 => ?_)
 refine alc rfl zl61 rfl (fun b4 => ?_)
 refine sy_seq ?_
 refine sy_tx' [0, 1, 2, 3, 4, 5, 6, 7, 8, 9, 10, 11, 12] rfl ?_
 refine sp rfl (PE.fieldAddr fo61_0 rfl) rfl ?_
 refine spL rfl rfl (lh sc3 rfl rfl) rfl ?_
 refine sp rfl (PE.fieldAddr fo61_0 rfl) rfl ?_
 refine spL rfl rfl (lh sc3 rfl rfl) rfl ?_
 refine sp rfl (PE.max rfl rfl) rfl ?_
 refine sp rfl (PE.fieldAddr fo61_1 rfl) rfl ?_
 refine spL rfl rfl (lh sc3 rfl rfl) rfl ?_
 refine sp rfl (PE.fieldAddr fo61_1 rfl) rfl ?_
 refine spL rfl rfl (lh sc3 rfl rfl) rfl ?_
 refine sp rfl (PE.min rfl rfl) rfl ?_
 refine sp rfl (PE.build (out := [_, _]) pl61 zl61 rfl rfl) rfl ?_
 refine alc rfl zl61 rfl (fun b5 => ?_)
 refine sto rfl rfl rfl cn61 rfl rfl rfl rfl ?_
 refine sy_seq ?_
 refine sy_seq ?_
 refine sy_tx' [0, 1, 2, 3, 4] rfl ?_
 refine sp rfl (PE.fieldAddr fo61_0 rfl) rfl ?_
 refine spL rfl rfl (lh sc3 rfl rfl) rfl ?_
 refine sp rfl (PE.fieldAddr fo61_1 rfl) rfl ?_
 refine spL rfl rfl (lh sc3 rfl rfl) rfl ?_
 refine sp rfl (PE.gtr rfl rfl) rfl ?_
 refine sy_cond rfl (fun hc0 => ?_) (fun hc0 => ?_)
 have e : met l h l2 h2 = (1, 0) := by unfold met; rw [decide_eq_true (show min h h2 < max l l2 by simpa using hc0)]; rfl
 refine sy_seq ?_
 refine sy_tx' [0, 1] rfl ?_
 refine sp rfl (PE.build (out := [_, _]) pl61 zl61 rfl rfl) rfl ?_
 refine sto rfl rfl rfl cn61 rfl rfl rfl rfl ?_
 refine sy_ret ?_
 rw [e]
 exact sy_return (vs := [_]) rfl (.cons (RV.cell rfl (lhA [_, _] ag61 rfl rfl rfl)) .nil) rfl ⟨rfl, rfl, rfl⟩ drp
 have e : met l h l2 h2 = (max l l2, min h h2) := by unfold met; rw [decide_eq_false (show ¬ min h h2 < max l l2 by simpa using hc0)]; rfl
 refine sy_skip ?_
 refine sy_seq ?_
 refine sy_tx' [0, 1] rfl ?_
 refine spL rfl rfl (lhA [_, _] ag61 rfl rfl rfl) rfl ?_
 refine sto rfl rfl rfl cn61 rfl rfl rfl rfl ?_
 refine sy_ret ?_
 rw [e]
 exact sy_return (vs := [_]) rfl (.cons (RV.cell rfl (lhA [_, _] ag61 rfl rfl rfl)) .nil) rfl ⟨rfl, rfl, rfl⟩ drp
theorem c_box (g : Gat) (hg : g.ok) (ag : Option Addr) (cg : Nat) (c : Crt) (hc : c.ok) (ah : Option Addr) (ch : Nat) (bw : Nat) (gf : Nat) (cap : List Value) (f : Nat → Bool) (hgf : cal Tryz.prog gf = true) (H : Heap) (R : Facts) [hW : MemRows (some ⟨bw, 0, none⟩) 6 [wrow g c (g.sl ag cg) (c.sl ah ch)] R] [hG : MemRows ag 5 (grows g.grs) R] [hA : MemRows ah 5 (hrows c.hs) R] (hf : ∀ (G : Heap) (i : Nat), i < c.hs.length → FnV Tryz.prog gf ([.int .i64 i] ++ cap) (G ++ H) R (.bool (f i))) :
    FnV Tryz.prog 101 [.pointer (some ⟨bw, 0, none⟩), .agg #[.func (.func gf) #[] cap.toArray]] H R (bxv (boxF g.miss c.hs f)) := by
 refine fn_of Tryz.func101 rfl Tryz.ntmps101 rfl ?_
 refine sy_seq ?_
 refine sy_tx' [0, 1] rfl ?_
 refine bx rfl rfl rfl (fun b3 => ?_)
 refine alc rfl zl128 rfl (fun b4 => ?_)
 refine sy_seq ?_
 refine sy_tx' [0] rfl ?_
 refine alc rfl zl128 rfl (fun b5 => ?_)
 refine sy_seq ?_
 refine sy_seq ?_
 refine sy_tx' [0] rfl ?_
 refine sp rfl (PE.move rfl) rfl ?_
 refine sy_block ?_
 refine sy_loop (ι := {k : Nat // k ≤ 4}) (fun k => ⟨[(0, .pointer (some ⟨bw, 0, none⟩)), (3, .pointer (some ⟨b3, 0, none⟩)), (4, .pointer (some ⟨b4, 0, none⟩)), (5, .pointer (some ⟨b5, 0, none⟩)), (9, .int .i64 k.1)], (b5, cel 128 (ints (boxP g.miss c.hs f k.1))) :: (b4, cel 128 (ints [0, 0, 0, 0, 0, 0, 0, 0])) :: (b3, cel 135 [.func (.func gf) #[] cap.toArray]) :: H, R⟩) (fun k => 4 - k.1) ⟨0, by omega⟩ ?_ (fun k => ?_)
 exact sy_at (by repeat' first | exact Sub.nil | apply Sub.cons | rfl | (simp [lk]; omega)) (fun _ h => h)
 obtain ⟨k, hk⟩ := k
 dsimp only at hk ⊢
 refine sy_seq ?_
 refine sy_tx' [0] rfl ?_
 refine sp rfl (PE.lss rfl rfl) rfl ?_
 refine sy_seq ?_
 refine sy_cond rfl (fun hc0 => ?_) (fun hc0 => ?_)
 try simp only [decide_eq_true_eq, decide_eq_false_iff_not, Bool.and_eq_true, Bool.or_eq_true, Bool.not_eq_true', Int.not_le, Int.not_lt] at hc0
 have hk4 : k < 4 := by omega
 have hbl := boxP_len g.miss c.hs f k
 refine sy_skip ?_
 refine sy_seq ?_
 refine sy_block ?_
 refine sy_seq ?_
 refine sy_tx' [0, 1] rfl ?_
 refine sp rfl (PE.move rfl) rfl ?_
 refine sp rfl (PE.assign rfl) rfl ?_
 refine sy_seq ?_
 refine sy_tx' [0, 1, 2, 3] rfl ?_
 refine sp rfl (PE.move rfl) rfl ?_
 refine sp rfl (PE.build (out := [_, _]) pl61 zl61 rfl rfl) rfl ?_
 refine sp rfl (PE.indexArr ar128 rfl rfl (by omega) (by omega)) rfl ?_
 refine stoE (l' := ints (bset (boxP g.miss c.hs f k) k (0, 40))) rfl rfl rfl cn61 rfl rfl rfl (spl_box hbl hk4 0 40) (by rw [ints_length, hbl]; show 0 + ((k : Nat) : Int).toNat * 2 + 2 ≤ 8; omega) ?_
 refine sy_seq ?_
 refine sy_tx' [0, 1, 2, 3, 4, 5, 6] rfl ?_
 refine sp rfl (PE.move rfl) rfl ?_
 refine sp rfl (PE.nilCheck rfl) rfl ?_
 refine sp rfl (PE.fieldAddr fo148_0 rfl) rfl ?_
 refine sp rfl (PE.fieldAddr fo28_2 rfl) rfl ?_
 refine spL rfl rfl (lfB (sz := 6) sc26 rfl) rfl ?_
 refine sp rfl (PE.lenSl isl26 rfl) rfl ?_
 refine sp rfl (PE.move rfl) rfl ?_
 refine sy_block ?_
 refine sy_loop (ι := {i : Nat // i ≤ c.hs.length}) (fun i => ⟨[(0, .pointer (some ⟨bw, 0, none⟩)), (3, .pointer (some ⟨b3, 0, none⟩)), (4, .pointer (some ⟨b4, 0, none⟩)), (5, .pointer (some ⟨b5, 0, none⟩)), (9, .int .i64 k), (6, .int .i64 k), (19, c.sl ah ch), (20, .int .i64 c.hs.length), (21, .int .i64 i.1)], (b5, cel 128 (ints (bset (boxP g.miss c.hs f k) k (spanN g.miss c.hs f k i.1)))) :: (b4, cel 128 (ints [0, 0, 0, 0, 0, 0, 0, 0])) :: (b3, cel 135 [.func (.func gf) #[] cap.toArray]) :: H, R⟩) (fun i => c.hs.length - i.1) ⟨0, by omega⟩ ?_ (fun i => ?_)
 exact sy_at (by repeat' first | exact Sub.nil | apply Sub.cons | rfl | (simp [lk]; omega)) (fun _ h => h)
 obtain ⟨i, hi⟩ := i
 dsimp only at hi ⊢
 have hmany := hc.many
 refine sy_seq ?_
 refine sy_tx' [0] rfl ?_
 refine sp rfl (PE.lss rfl rfl) rfl ?_
 refine sy_seq ?_
 refine sy_cond rfl (fun hc1 => ?_) (fun hc1 => ?_)
 try simp only [decide_eq_true_eq, decide_eq_false_iff_not, Bool.and_eq_true, Bool.or_eq_true, Bool.not_eq_true', Int.not_le, Int.not_lt] at hc1
 obtain ⟨h, hh⟩ : ∃ h, c.hs[i]? = some h := ⟨_, List.getElem?_eq_getElem (by omega)⟩
 have hok := hc.hs h (List.mem_of_getElem? hh)
 refine sy_addr (a := ah) (sz := 5) (rows := hrows c.hs) (by intro h0; simp [hrows] at h0; simp [h0] at hh) (fun ba oa he => ?_)
 subst he
 refine sy_skip ?_
 refine sy_seq ?_
 refine sy_block ?_
 refine sy_seq ?_
 refine sy_tx' [0, 1, 2, 3, 4, 5] rfl ?_
 refine sp rfl (PE.move rfl) rfl ?_
 refine sp rfl (PE.indexAddr el26 rfl rfl (by omega) (by omega)) rfl ?_
 refine spL rfl rfl (lfA ag33 (row := hrow h) (hr_get (by simpa using hh)) rfl) rfl ?_
 refine alc rfl zl33 rfl (fun b8 => ?_)
 refine sp rfl (PE.assign rfl) rfl ?_
 refine sto rfl rfl rfl cn33 rfl rfl rfl rfl ?_
 refine sy_seq ?_
 refine sy_tx' [0, 1, 2, 3] rfl ?_
 refine sp rfl (PE.fieldAddr fo135_0 rfl) rfl ?_
 refine spL rfl rfl (lh sc53 rfl rfl) rfl ?_
 refine sp rfl (PE.move rfl) rfl ?_
 refine clFV rfl rfl (hgf) rfl rfl (hf [_, _, _, _] i (by omega)) ?_
 refine sy_cond rfl (fun hc2 => ?_) (fun hc2 => ?_)
 have hst := spanN_hit (miss := g.miss) (k := k) hh hc2
 refine sy_draw [0, 0, 2, 6, 0, 0, 0, 112, 254, 511, 1023] (.tk 0 (.tk 1 (.tk 2 (.ld 3 (.tk 4 (.ld 5 (.tk 6 (.big 7 (.big 8 (.tk 9 (.big 10 .done))))))))))) mixed (by kernel_rfl) ?_
 refine tk rfl (PE.move rfl) rfl ?_
 refine tk rfl (PE.move rfl) rfl ?_
 refine tk rfl (PE.indexArr ar128 rfl rfl (by omega) (by omega)) rfl ?_
 refine ld rfl rfl (lhA [.int .i64 (spanN g.miss c.hs f k i).1, .int .i64 (spanN g.miss c.hs f k i).2] ag61 rfl (bset_drop hbl hk4 _) rfl) rfl ?_
 refine tk rfl (PE.move rfl) rfl ?_
 refine ld rfl rfl (lhA [_, _, _, _, _] ag33 rfl rfl rfl) rfl ?_
 refine tk rfl (PE.move rfl) rfl ?_
 refine clV rfl cal99 rfl rfl (c_lets g hg ag cg c hc (some ⟨ba, oa, none⟩) ch bw h hok k hk4 _ _) ?_
 refine bg (fun w hs => ⟨trivial, (lhA [.int .i64 (spanN g.miss c.hs f k i).1, .int .i64 (spanN g.miss c.hs f k i).2] ag61 rfl (bset_drop hbl hk4 _) rfl) w hs, trivial⟩) ?_
 refine clV rfl cal121 rfl rfl (c_met _ _ _ _ _ _) ?_
 refine bg (fun w hs => ⟨trivial, trivial⟩) ?_
 refine tk rfl (PE.indexArr ar128 rfl rfl (by omega) (by omega)) rfl ?_
 rw [← hst]
 refine stoE (l' := ints (bset (boxP g.miss c.hs f k) k (spanN g.miss c.hs f k (i + 1)))) rfl rfl rfl cn61 rfl rfl rfl (by show spl _ _ [.int .i64 _, .int .i64 _] = _; rw [spl_box (by rw [bset_len]; exact hbl) hk4, bset_bset hbl hk4]) (by rw [ints_length, bset_len, hbl]; show 0 + ((k : Nat) : Int).toNat * 2 + 2 ≤ 8; omega) ?_
 refine bg (fun w hs => trivial) ?_
 refine sy_tx' [0, 1] rfl ?_
 refine sp rfl (PE.add rfl rfl (by omega)) rfl ?_
 refine sp rfl (PE.move rfl) rfl ?_
 first
   | exact sy_next ⟨i + 1, by omega⟩ (by dsimp only; omega) (by repeat' first | exact Sub.nil | apply Sub.cons | rfl | (simp [lk]; omega)) (fun w h => h.del b8)
   | exact sy_next ⟨i + 1, by omega⟩ (by dsimp only; omega) (by repeat' first | exact Sub.nil | apply Sub.cons | rfl | (simp [lk]; omega)) (fun w h => by dsimp only; rw [hst]; exact h.del b8)
 have hst := spanN_miss (miss := g.miss) (k := k) hh hc2
 refine sy_skip ?_
 refine sy_tx' [0, 1] rfl ?_
 refine sp rfl (PE.add rfl rfl (by omega)) rfl ?_
 refine sp rfl (PE.move rfl) rfl ?_
 first
   | exact sy_next ⟨i + 1, by omega⟩ (by dsimp only; omega) (by repeat' first | exact Sub.nil | apply Sub.cons | rfl | (simp [lk]; omega)) (fun w h => h.del b8)
   | exact sy_next ⟨i + 1, by omega⟩ (by dsimp only; omega) (by repeat' first | exact Sub.nil | apply Sub.cons | rfl | (simp [lk]; omega)) (fun w h => by dsimp only; rw [hst]; exact h.del b8)
 try simp only [decide_eq_true_eq, decide_eq_false_iff_not, Bool.and_eq_true, Bool.or_eq_true, Bool.not_eq_true', Int.not_le, Int.not_lt] at hc1
 obtain rfl : i = c.hs.length := by omega
 refine sy_exit ?_
 repeat refine sy_tx ?_
 refine sy_bx ?_
 refine sy_tx' [0, 1] rfl ?_
 refine sp rfl (PE.add rfl rfl (by omega)) rfl ?_
 refine sp rfl (PE.move rfl) rfl ?_
 exact sy_next ⟨k + 1, by omega⟩ (by dsimp only; omega) (by repeat' first | exact Sub.nil | apply Sub.cons | rfl | (simp [lk]; omega)) (fun _ h => h)
 try simp only [decide_eq_true_eq, decide_eq_false_iff_not, Bool.and_eq_true, Bool.or_eq_true, Bool.not_eq_true', Int.not_le, Int.not_lt] at hc0
 obtain rfl : k = 4 := by omega
 rw [boxP_end]
 refine sy_exit ?_
 repeat refine sy_tx ?_
 refine sy_bx ?_
 refine sy_seq ?_
 refine sy_tx' [0, 1] rfl ?_
 refine spL rfl rfl (lhA [_, _, _, _, _, _, _, _] ag128 rfl rfl rfl) rfl ?_
 refine sto rfl rfl rfl cn128 rfl rfl rfl rfl ?_
 refine sy_ret ?_
 exact sy_return (vs := [_]) rfl (.cons (RV.cell rfl (lhA [_, _, _, _, _, _, _, _] ag128 rfl rfl rfl)) .nil) rfl ⟨rfl, rfl, rfl⟩ drp
theorem c_closed (b : Box) (hb : Bok b) (H : Heap) (R : Facts) :
    Fn Tryz.prog 115 [bxv b] H R (fun v H' R' => H' = H ∧ R' = R ∧ ∃ c, c.length = 8 ∧ v = .tuple #[bxv c, .bool (clo b).isSome] ∧ ((clo b).isSome = true → clo b = some c)) := by
 refine fn_of Tryz.func115 rfl Tryz.ntmps115 rfl ?_
 refine sy_seq ?_
 refine sy_tx' [0, 1, 2] rfl ?_
 refine bx rfl rfl rfl (fun b1 => ?_)
 refine alc rfl zl128 rfl (fun b2 => ?_)
 refine sp rfl (PE.assign rfl) rfl ?_
 refine sy_seq ?_
 refine sy_tx' [0, 1, 2] rfl ?_
 refine sp rfl (PE.build (out := [_, _]) pl61 zl61 rfl rfl) rfl ?_
 refine alc rfl zl61 rfl (fun b4 => ?_)
 refine sto rfl rfl rfl cn61 rfl rfl rfl rfl ?_
 refine sy_block ?_
 refine sy_loop (ι := {d : Box // Bok d ∧ ∀ r, CloseR d r → CloseR b r}) (fun d => ⟨[(1, .pointer (some ⟨b1, 0, none⟩)), (2, .pointer (some ⟨b2, 0, none⟩)), (4, .pointer (some ⟨b4, 0, none⟩))], (b1, cel 128 (ints d.1)) :: (b4, cel 61 (ints [1, 0])) :: (b2, cel 128 (ints [0, 0, 0, 0, 0, 0, 0, 0])) :: H, R⟩) (fun d => wid d.1) ⟨b, hb, fun _ h => h⟩ ?_ (fun d => ?_)
 exact sy_at (by repeat' first | exact Sub.nil | apply Sub.cons | rfl | (simp [lk]; omega)) (fun _ h => St.sub (((h.pull b2).pull b4).pull b1))
 obtain ⟨d, hd, hdr⟩ := d
 dsimp only at hd hdr ⊢
 refine sy_block ?_
 refine sy_seq ?_
 refine sy_tx' [0, 1, 2] rfl ?_
 refine spL rfl rfl (lhA (ints d) ag128 rfl (rest := []) (by simp) (by rw [ints_length]; exact hd.len)) rfl ?_
 refine alc rfl zl128 rfl (fun b5 => ?_)
 refine stoA rfl rfl rfl cn128 rfl (by rw [ints_length]; exact hd.len) rfl (ints_one _) ?_
 refine sy_seq ?_
 refine sy_seq ?_
 refine sy_tx' [0] rfl ?_
 refine sp rfl (PE.move rfl) rfl ?_
 refine sy_block ?_
 refine sy_loop (ι := {x : Nat × Box // x.1 ≤ 4 ∧ rndN d x.1 = some x.2 ∧ Bok x.2}) (fun x => ⟨[(1, .pointer (some ⟨b1, 0, none⟩)), (2, .pointer (some ⟨b2, 0, none⟩)), (4, .pointer (some ⟨b4, 0, none⟩)), (5, .pointer (some ⟨b5, 0, none⟩)), (13, .int .i64 x.1.1)], (b5, cel 128 (ints d)) :: (b1, cel 128 (ints x.1.2)) :: (b4, cel 61 (ints [1, 0])) :: (b2, cel 128 (ints [0, 0, 0, 0, 0, 0, 0, 0])) :: H, R⟩) (fun x => 4 - x.1.1) ⟨(0, d), by omega, rfl, hd⟩ ?_ (fun x => ?_)
 exact sy_at (by repeat' first | exact Sub.nil | apply Sub.cons | rfl | (simp [lk]; omega)) (fun _ h => h)
 obtain ⟨⟨k, e⟩, hk, hr, he⟩ := x
 dsimp only at hk hr he ⊢
 refine sy_seq ?_
 refine sy_tx' [0] rfl ?_
 refine sp rfl (PE.lss rfl rfl) rfl ?_
 refine sy_seq ?_
 refine sy_cond rfl (fun hc0 => ?_) (fun hc0 => ?_)
 try simp only [decide_eq_true_eq, decide_eq_false_iff_not, Bool.and_eq_true, Bool.or_eq_true, Bool.not_eq_true', Int.not_le, Int.not_lt] at hc0
 have hk4 : k < 4 := by omega
 refine sy_skip ?_
 refine sy_seq ?_
 refine sy_block ?_
 refine sy_seq ?_
 refine sy_tx' [0, 1] rfl ?_
 refine sp rfl (PE.move rfl) rfl ?_
 refine sp rfl (PE.assign rfl) rfl ?_
 refine sy_seq ?_
 refine sy_tx' [0, 1] rfl ?_
 refine sp rfl (PE.assign rfl) rfl ?_
 refine sp rfl (PE.assign rfl) rfl ?_
 refine sy_seq ?_
 refine sy_seq ?_
 refine sy_tx' [0, 1] rfl ?_
 refine spL rfl rfl (lhA (ints e) ag128 rfl (rest := []) (by simp) (by rw [ints_length]; exact he.len)) rfl ?_
 refine sp rfl (PE.move rfl) rfl ?_
 refine sy_block ?_
 refine sy_loop (ι := {j : Nat // j ≤ 4}) (fun j => ⟨[(1, .pointer (some ⟨b1, 0, none⟩)), (2, .pointer (some ⟨b2, 0, none⟩)), (4, .pointer (some ⟨b4, 0, none⟩)), (5, .pointer (some ⟨b5, 0, none⟩)), (6, .int .i64 k), (7, .int .i64 (othN (bl e) k j.1)), (8, .int .i64 (othN (bh e) k j.1)), (13, .int .i64 k), (16, bxv e), (17, .int .i64 j.1)], (b5, cel 128 (ints d)) :: (b1, cel 128 (ints e)) :: (b4, cel 61 (ints [1, 0])) :: (b2, cel 128 (ints [0, 0, 0, 0, 0, 0, 0, 0])) :: H, R⟩) (fun j => 4 - j.1) ⟨0, by omega⟩ ?_ (fun j => ?_)
 exact sy_at (by repeat' first | exact Sub.nil | apply Sub.cons | rfl | (simp [lk]; omega)) (fun _ h => h)
 obtain ⟨j, hj⟩ := j
 dsimp only at hj ⊢
 have hob := othN_bd he k j hj
 refine sy_seq ?_
 refine sy_tx' [0] rfl ?_
 refine sp rfl (PE.lss rfl rfl) rfl ?_
 refine sy_seq ?_
 refine sy_cond rfl (fun hc1 => ?_) (fun hc1 => ?_)
 try simp only [decide_eq_true_eq, decide_eq_false_iff_not, Bool.and_eq_true, Bool.or_eq_true, Bool.not_eq_true', Int.not_le, Int.not_lt] at hc1
 have hj4 : j < 4 := by omega
 have hej := he.at_ j hj4
 refine sy_skip ?_
 refine sy_seq ?_
 refine sy_block ?_
 refine sy_seq ?_
 refine sy_tx' [0, 1, 2, 3, 4] rfl ?_
 refine sp rfl (PE.move rfl) rfl ?_
 refine sp rfl ((PE.indexI (l := e) are128 (eqB_ok 10000 61 true 2 eqf61) (by simp) rfl rfl hj4 (by rw [he.len]; omega)).to (by rw [box_part he.len hj4])) rfl ?_
 refine alc rfl zl61 rfl (fun b10 => ?_)
 refine sp rfl (PE.assign rfl) rfl ?_
 refine sto rfl rfl rfl cn61 rfl rfl rfl rfl ?_
 refine sy_seq ?_
 refine sy_tx' [0, 1, 2] rfl ?_
 refine sp rfl (PE.move rfl) rfl ?_
 refine sp rfl (PE.move rfl) rfl ?_
 refine sp rfl (PE.neq rfl rfl) rfl ?_
 refine sy_cond rfl (fun hc2 => ?_) (fun hc2 => ?_)
 try simp only [decide_eq_true_eq, decide_eq_false_iff_not, Bool.and_eq_true, Bool.or_eq_true, Bool.not_eq_true', Int.not_le, Int.not_lt] at hc2
 have e1 : othN (bl e) k (j + 1) = othN (bl e) k j + bl e j := by rw [othN, show (j == k) = false from by simp; omega]; rfl
 have e2 : othN (bh e) k (j + 1) = othN (bh e) k j + bh e j := by rw [othN, show (j == k) = false from by simp; omega]; rfl
 refine sy_draw [0, 0, 2, 7, 0, 0, 32, 112, 15, 511] (.tk 0 (.tk 1 (.ld 2 (.tk 3 (.tk 4 (.tk 5 (.ld 6 (.tk 7 (.tk 8 (.tk 9 .done)))))))))) mixed (by kernel_rfl) ?_
 refine tk rfl (PE.move rfl) rfl ?_
 refine tk rfl (PE.fieldAddr fo61_0 rfl) rfl ?_
 refine ld rfl rfl (lh sc3 rfl rfl) rfl ?_
 refine tk rfl (PE.add rfl rfl (by omega)) rfl ?_
 refine tk rfl (PE.move rfl) rfl ?_
 refine tk rfl (PE.fieldAddr fo61_1 rfl) rfl ?_
 refine ld rfl rfl (lh sc3 rfl rfl) rfl ?_
 refine tk rfl (PE.add rfl rfl (by omega)) rfl ?_
 refine tk rfl (PE.assign rfl) rfl ?_
 refine tk rfl (PE.assign rfl) rfl ?_
 refine sy_tx' [0, 1] rfl ?_
 refine sp rfl (PE.add rfl rfl (by omega)) rfl ?_
 refine sp rfl (PE.move rfl) rfl ?_
 exact sy_next ⟨j + 1, by omega⟩ (by dsimp only; omega) (by dsimp only; rw [e1, e2]; exact (by repeat' first | exact Sub.nil | apply Sub.cons | rfl | (simp [lk]; omega))) (fun w h => h.del b10)
 try simp only [decide_eq_true_eq, decide_eq_false_iff_not, Bool.and_eq_true, Bool.or_eq_true, Bool.not_eq_true', Int.not_le, Int.not_lt] at hc2
 have e1 : othN (bl e) k (j + 1) = othN (bl e) k j := by rw [othN, show (j == k) = true from by simp; omega]; simp
 have e2 : othN (bh e) k (j + 1) = othN (bh e) k j := by rw [othN, show (j == k) = true from by simp; omega]; simp
 refine sy_skip ?_
 refine sy_tx' [0, 1] rfl ?_
 refine sp rfl (PE.add rfl rfl (by omega)) rfl ?_
 refine sp rfl (PE.move rfl) rfl ?_
 exact sy_next ⟨j + 1, by omega⟩ (by dsimp only; omega) (by dsimp only; rw [e1, e2]; exact (by repeat' first | exact Sub.nil | apply Sub.cons | rfl | (simp [lk]; omega))) (fun w h => h.del b10)
 try simp only [decide_eq_true_eq, decide_eq_false_iff_not, Bool.and_eq_true, Bool.or_eq_true, Bool.not_eq_true', Int.not_le, Int.not_lt] at hc1
 obtain rfl : j = 4 := by omega
 rw [oth_end _ hk4, oth_end _ hk4] at *
 refine sy_exit ?_
 repeat refine sy_tx ?_
 refine sy_bx ?_
 refine sy_seq ?_
 refine sy_tx' [0, 1, 2, 3, 4, 5, 6, 7, 8, 9, 10, 11] rfl ?_
 refine sp rfl (PE.move rfl) rfl ?_
 refine sp rfl (PE.move rfl) rfl ?_
 refine sp rfl (PE.indexArr ar128 rfl rfl (by omega) (by omega)) rfl ?_
 refine spL rfl rfl (lhA [.int .i64 (bl e k), .int .i64 (bh e k)] ag61 rfl (box_drop he.len hk4) rfl) rfl ?_
 refine sp rfl (PE.move rfl) rfl ?_
 refine sp rfl (PE.sub rfl rfl (by omega)) rfl ?_
 refine sp rfl (PE.move rfl) rfl ?_
 refine sp rfl (PE.sub rfl rfl (by omega)) rfl ?_
 refine sp rfl (PE.build (out := [_, _]) pl61 zl61 rfl rfl) rfl ?_
 refine clV rfl cal121 rfl rfl (c_met _ _ _ _ _ _) ?_
 refine sp rfl (PE.indexArr ar128 rfl rfl (by omega) (by omega)) rfl ?_
 refine stoE (l' := ints (bset e k (stepS e k))) rfl rfl rfl cn61 rfl rfl rfl (spl_box he.len hk4 _ _) (by rw [ints_length, he.len]; show 0 + ((k : Nat) : Int).toNat * 2 + 2 ≤ 8; omega) ?_
 have hbk : Bok (bset e k (stepS e k)) := he.set hk4
 refine sy_seq ?_
 refine sy_draw [0, 1, 3, 0, 15] (.tk 0 (.tk 1 (.ld 2 (.ld 3 (.tk 4 .done))))) mixed (by kernel_rfl) ?_
 refine tk rfl (PE.move rfl) rfl ?_
 refine tk rfl (PE.indexArr ar128 rfl rfl (by omega) (by omega)) rfl ?_
 refine ld rfl rfl (lhA [.int .i64 (stepS e k).1, .int .i64 (stepS e k).2] ag61 rfl (bset_drop he.len hk4 _) rfl) rfl ?_
 refine ld rfl rfl (lhA [_, _] ag61 rfl rfl rfl) rfl ?_
 refine tk rfl (PE.eqlAgg [(stepS e k).1, (stepS e k).2] [1, 0] (eqB_ok 10000 61 true 2 eqf61) eqg61 rfl rfl rfl rfl) rfl ?_
 refine sy_cond rfl (fun hc3 => ?_) (fun hc3 => ?_)
 have hs1 : stepS e k = (1, 0) := by simpa [Prod.ext_iff] using hc3
 have hrn : rndN d 4 = none := rndN_le (k := k + 1) (by unfold rndN; rw [hr]; simp [hs1]) (by omega)
 have hcl := (hdr _ (.no hrn)).clo hb
 refine sy_seq ?_
 refine sy_tx' [0, 1, 2] rfl ?_
 refine spL rfl rfl (lhA (ints (bset e k (stepS e k))) ag128 rfl (rest := []) (by simp) (by rw [ints_length]; exact hbk.len)) rfl ?_
 refine stoA rfl rfl rfl cn128 rfl (by rw [ints_length]; exact hbk.len) rfl (ints_one _) ?_
 refine sp rfl (PE.assign rfl) rfl ?_
 refine sy_ret ?_
 rw [hcl]
 first
   | exact sy_return (vs := [_, _]) rfl (.cons (RV.cell rfl (lhA (ints e) ag128 rfl (rest := []) (by simp) (by rw [ints_length]; exact he.len))) (.cons (RV.tmp rfl) .nil)) rfl ⟨rfl, rfl, e, he.len, rfl, fun _ => rfl⟩ (fun w h => ((h.del b5).del b1).tail.tail)
   | exact sy_return (vs := [_, _]) rfl (.cons (RV.cell rfl (lhA (ints (bset e k (stepS e k))) ag128 rfl (rest := []) (by simp) (by rw [ints_length]; exact hbk.len))) (.cons (RV.tmp rfl) .nil)) rfl ⟨rfl, rfl, bset e k (stepS e k), hbk.len, rfl, fun h => by cases h⟩ (fun w h => ((h.del b5).del b1).tail.tail)
 have hs1 : stepS e k ≠ (1, 0) := by simpa [Prod.ext_iff] using hc3
 have hrn : rndN d (k + 1) = some (bset e k (stepS e k)) := by
   unfold rndN
   rw [hr]
   show (bif stepS e k == (1, 0) then none else some (bset e k (stepS e k))) = _
   rw [show (stepS e k == (1, 0)) = false from by rw [beq_eq_false_iff_ne]; exact hs1]
   rfl
 refine sy_skip ?_
 refine sy_tx' [0, 1] rfl ?_
 refine sp rfl (PE.add rfl rfl (by omega)) rfl ?_
 refine sp rfl (PE.move rfl) rfl ?_
 exact sy_next ⟨(k + 1, bset e k (stepS e k)), by omega, hrn, hbk⟩ (by dsimp only; omega) (by repeat' first | exact Sub.nil | apply Sub.cons | rfl | (simp [lk]; omega)) (fun _ h => h)
 try simp only [decide_eq_true_eq, decide_eq_false_iff_not, Bool.and_eq_true, Bool.or_eq_true, Bool.not_eq_true', Int.not_le, Int.not_lt] at hc0
 obtain rfl : k = 4 := by omega
 refine sy_exit ?_
 repeat refine sy_tx ?_
 refine sy_bx ?_
 refine sy_seq ?_
 refine sy_tx' [0, 1, 2] rfl ?_
 refine spL rfl rfl (lhA (ints e) ag128 rfl (rest := []) (by simp) (by rw [ints_length]; exact he.len)) rfl ?_
 refine spL rfl rfl (lhA (ints d) ag128 rfl (rest := []) (by simp) (by rw [ints_length]; exact hd.len)) rfl ?_
 refine sp rfl (PE.eqlAgg e d (eqB_ok 10000 128 true 8 eqf128) eqg128 rfl rfl he.len hd.len) rfl ?_
 refine sy_cond rfl (fun hc4 => ?_) (fun hc4 => ?_)
 obtain rfl : e = d := by simpa using hc4
 have hcl := (hdr _ (.fix hr)).clo hb
 refine sy_seq ?_
 refine sy_tx' [0, 1, 2] rfl ?_
 refine spL rfl rfl (lhA (ints e) ag128 rfl (rest := []) (by simp) (by rw [ints_length]; exact he.len)) rfl ?_
 refine stoA rfl rfl rfl cn128 rfl (by rw [ints_length]; exact he.len) rfl (ints_one _) ?_
 refine sp rfl (PE.assign rfl) rfl ?_
 refine sy_ret ?_
 rw [hcl]
 first
   | exact sy_return (vs := [_, _]) rfl (.cons (RV.cell rfl (lhA (ints e) ag128 rfl (rest := []) (by simp) (by rw [ints_length]; exact he.len))) (.cons (RV.tmp rfl) .nil)) rfl ⟨rfl, rfl, e, he.len, rfl, fun _ => rfl⟩ (fun w h => ((h.del b5).del b1).tail.tail)
   | exact sy_return (vs := [_, _]) rfl (.cons (RV.cell rfl (lhA (ints (bset e k (stepS e k))) ag128 rfl (rest := []) (by simp) (by rw [ints_length]; exact hbk.len))) (.cons (RV.tmp rfl) .nil)) rfl ⟨rfl, rfl, bset e k (stepS e k), hbk.len, rfl, fun h => by cases h⟩ (fun w h => ((h.del b5).del b1).tail.tail)
 have hne : e ≠ d := by simpa using hc4
 refine sy_skip ?_
 exact sy_next ⟨e, he, fun r h => hdr r (.go hr hne h)⟩ (rnd_wid hd hr hne) (by repeat' first | exact Sub.nil | apply Sub.cons | rfl | (simp [lk]; omega)) (fun w h => h.del b5)
end Go.Proofs.YtndhkpnaeocnhaaGreat
namespace Go.Proofs.YtndhkpnaeocnhaaGreat
set_option linter.unusedSimpArgs false
set_option linter.unusedVariables false
def agr (miss : Int) (hs : List Hnd) (f : Nat → Bool) : Bool := (clo (boxF miss hs f)).isSome
def flt (l : List Int) (i : Nat) : Bool := l.any fun x => decide ((i : Int) = x)
def moreS (ag : List Int → Bool) (n : Nat) : Nat → List Int → Nat → Option (List Int)
  | 0, l, _ => bif ag l then none else some l
  | r + 1, l, fr => (List.range' fr (n - fr)).findSome? fun (i : Nat) => moreS ag n r (l ++ [((i : Nat) : Int)]) (i + 1)
def clashS (ag : List Int → Bool) (n : Nat) : Option (List Int) := (List.range' 1 n).findSome? fun k => moreS ag n k [] 0
def ups (fr : Nat) : Nat → List Int
  | 0 => []
  | r + 1 => (fr : Int) :: ups (fr + 1) r
theorem more_full {ag : List Int → Bool} : ∀ (r : Nat) (l : List Int) (fr : Nat), ag (l ++ ups fr r) = false → (moreS ag (fr + r) r l fr).isSome = true
  | 0, l, fr, h => by
    simp only [ups, List.append_nil] at h
    simp [moreS, h]
  | r + 1, l, fr, h => by
    unfold moreS
    rw [show fr + (r + 1) - fr = r + 1 from by omega, List.range'_succ, List.findSome?_cons]
    have h2 := more_full r (l ++ [(fr : Int)]) (fr + 1) (by rw [List.append_assoc]; exact h)
    rw [show fr + 1 + r = fr + (r + 1) from by omega] at h2
    cases hm : moreS ag (fr + (r + 1)) r (l ++ [(fr : Int)]) (fr + 1) with
    | none => rw [hm] at h2; cases h2
    | some x => rfl
theorem clash_some {ag : List Int → Bool} {n : Nat} (h0 : 0 < n) (h : ag (ups 0 n) = false) : (clashS ag n).isSome = true := by
  have h1 := more_full (ag := ag) n [] 0 (by simpa using h)
  rw [Nat.zero_add] at h1
  unfold clashS
  rw [List.findSome?_isSome_iff]
  exact ⟨n, by rw [List.mem_range']; exact ⟨n - 1, by omega, by omega⟩, h1⟩
theorem ups_mem : ∀ (r fr i : Nat), flt (ups fr r) i = (decide (fr ≤ i) && decide (i < fr + r))
  | 0, fr, i => by
    simp only [flt, ups, List.any_nil]
    by_cases h : fr ≤ i
    · rw [decide_eq_false (show ¬ i < fr + 0 by omega)]; simp
    · simp [h]
  | r + 1, fr, i => by
    have ih := ups_mem r (fr + 1) i
    unfold flt at ih ⊢
    rw [ups, List.any_cons, ih, ← Bool.decide_and, ← Bool.decide_and, ← Bool.decide_or]
    exact decide_eq_decide.2 (by omega)
theorem spanN_congr {miss : Int} {hs : List Hnd} {f g : Nat → Bool} (h : ∀ i < hs.length, f i = g i) (k : Nat) : ∀ n, n ≤ hs.length → spanN miss hs f k n = spanN miss hs g k n
  | 0, _ => rfl
  | n + 1, hn => by
    unfold spanN
    rw [spanN_congr h k n (by omega), h n (by omega)]
theorem boxF_congr {miss : Int} {hs : List Hnd} {f g : Nat → Bool} (h : ∀ i < hs.length, f i = g i) : boxF miss hs f = boxF miss hs g := by
  unfold boxF spanK
  rw [spanN_congr h 0 _ (Nat.le_refl _), spanN_congr h 1 _ (Nat.le_refl _), spanN_congr h 2 _ (Nat.le_refl _), spanN_congr h 3 _ (Nat.le_refl _)]
theorem agr_ups (miss : Int) (hs : List Hnd) : agr miss hs (flt (ups 0 hs.length)) = agr miss hs (fun _ => true) := by
  unfold agr
  rw [boxF_congr (f := flt (ups 0 hs.length)) (g := fun _ => true) (fun i hi => by rw [ups_mem]; simp [hi])]
def clashL (miss : Int) (hs : List Hnd) : List Int := (clashS (fun l => agr miss hs (flt l)) hs.length).getD []
theorem clash_hit {miss : Int} {hs : List Hnd} (h : agr miss hs (fun _ => true) = false) : clashS (fun l => agr miss hs (flt l)) hs.length = some (clashL miss hs) := by
  have h0 : 0 < hs.length := by
    rcases Nat.eq_zero_or_pos hs.length with h0 | h0
    · have : hs = [] := List.eq_nil_of_length_eq_zero h0
      subst this
      exfalso
      have e : agr miss [] (fun _ => true) = true := by
        have : boxF miss [] (fun _ => true) = [0, 40, 0, 40, 0, 40, 0, 40] := rfl
        unfold agr
        rw [this]
        decide +kernel
      rw [e] at h; cases h
    · exact h0
  have := clash_some (ag := fun l => agr miss hs (flt l)) h0 (by rw [agr_ups]; exact h)
  unfold clashL
  cases hc : clashS (fun l => agr miss hs (flt l)) hs.length with
  | none => rw [hc] at this; cases this
  | some x => rfl
def topB (miss : Int) (hs : List Hnd) : Bool := ((List.range 3).all fun s => agr miss hs (fun i => match hs[i]? with | some h => decide (h.spot = (s : Int)) | none => false)) && !(agr miss hs (fun _ => true))
def exG : Gat := ⟨5, 2, [⟨34, 4, 1, 3, 9⟩, ⟨30, 6, 2, 4, 7⟩, ⟨24, 10, 3, 8, 4⟩]⟩
def exH : List Hnd := [⟨0, 40, 5, 1, 4⟩, ⟨2, 30, 6, 2, 2⟩, ⟨1, 12, 4, 0, 4⟩]
def exC (l : List Hnd) : Crt := ⟨1200, 300, l⟩
end Go.Proofs.YtndhkpnaeocnhaaGreat
