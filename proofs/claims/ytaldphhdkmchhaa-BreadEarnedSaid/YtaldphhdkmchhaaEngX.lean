/-
  The engine, part X: slices of arrays, copies, and slices that are cleared.
-/
import Derived.Test.YtaldphhdkmchhaaEngV
namespace Go.Proofs.Ytaldphhdkmchhaa
set_option linter.unusedSimpArgs false
set_option linter.unusedVariables false
open Go

section pe
variable {P : Program} {L : Slots} {d : Option Tmp} {ty : TypeId} {pos : String} {af : Array Edge} {g : Option (Nat × Bool)}
theorem arN_und {P : Program} {T m n : Nat} (h : arN P T = some (m, n)) : ∃ e i, P.underlying T = some (.array m e) ∧ P.info? e = some i ∧ i.size = n := by
  unfold arN at h
  split at h
  · rename_i k e hu
    rw [Option.map_eq_some_iff] at h
    obtain ⟨i, hi, he⟩ := h
    cases he
    exact ⟨e, i, hu, hi, rfl⟩
  · cases h
/-- The whole of an array as a slice. -/
theorem PE.slArr {T m n b off : Nat} {x : Operand} (hT : arN P T = some (m, n)) (hx : ev L x = some (.pointer (some ⟨b, off, none⟩))) :
    PE P L ⟨d, .slice T x none none none, ty, pos, af, g⟩ (.slice (some ⟨b, off, none⟩) m m) := fun ρ hρ w => by
  obtain ⟨e, i, hu, hi, rfl⟩ := arN_und hT
  have ha : (⟨b, off, none⟩ : Addr).add (0 * i.size) = ⟨b, off, none⟩ := by rw [addr_add]; simp
  simp only [execOp, hρ _ _ hx, Option.map_none, Instr.sliceAt, Sem.run_bind, run_underlying hu, Result.andThen, Instr.sureAddr, Sem.run_pure, Instr.sliceBounds, sizeOf, typeInfo, program, hi, Sem.run]
  rw [ha]
  by_cases h : m = 0 <;> simp [h]
end pe

section steps
variable {P : Program} {r : Option Nat} {ops : Array Oper} {n : Nat} {L : Slots} {D : List Deferred} {H : Heap} {R : Facts} {K : Act → World → Prop}
  {i d : Nat} {ty : TypeId} {pos : String} {af : Array Edge}
theorem slE_und {P : Program} {T e s : Nat} (h : slE P T = some (e, s)) : ∃ i, P.underlying T = some (.slice e) ∧ P.info? e = some i ∧ i.size = s := by
  unfold slE at h
  split at h
  · rename_i e' hu
    rw [Option.map_eq_some_iff] at h
    obtain ⟨i, hi, he⟩ := h
    cases he
    exact ⟨i, hu, hi, rfl⟩
  · cases h
theorem run_store0 {P : Program} {b e : Nat} {l vs : List Value} (h1 : vs.all (·.oneCell') = true) (hb : vs.length ≤ l.length) {w : World} (h : w.heap[b]? = some (cel e l)) :
    (storeCells ⟨b, 0, none⟩ vs).run P w = .ok () { w with heap := w.heap.setIfInBounds b (cel e (spl l 0 vs)) } := by
  have := run_storeCells_at (P := P) b 0 e vs 0 l.toArray w h (by simpa using hb) (fun x hx => List.all_eq_true.1 h1 x hx)
  rw [setRow_cells h] at this
  simpa [spl] using this
/-- A copy of the first cells of what is read into a held block. -/
theorem cpy {T T2 e s : Nat} {x y : Operand} {b bs os dl dc sl sc e2 : Nat} {l : List Value} (cs : List Value) {H' : Heap}
    (ho : ops[i]? = some ⟨some d, .call { callee := .builtin .copy, args := #[x, y], argTypes := #[T, T2] }, ty, pos, af, none⟩) (hT : slE P T = some (e, s))
    (hx : ev L x = some (.slice (some ⟨b, 0, none⟩) dl dc)) (hy : ev L y = some (.slice (some ⟨bs, os, none⟩) sl sc)) (hn : cs.length = Nat.min sl dl * s)
    (hsrc : ∀ w, St H R w → ∀ j v, cs[j]? = some v → w.cell? ⟨bs, os + j, none⟩ = some v) (h1 : cs.all (·.oneCell') = true) (hb : cs.length ≤ l.length) (hd : Nat.blt d n = true)
    [m : Mem1 b (cel e2 l) H] [rp : Rep [(b, cel e2 l)] [(b, cel e2 (spl l 0 cs))] H H']
    (h : Sy n ((d, .int .i64 (Nat.min sl dl : Nat)) :: L) D H' R K) : Sy n L D H R (stp P r ops i K) := fun a w ha hD hs => by
  obtain ⟨ie, hu, hi, rfl⟩ := slE_und hT
  have hl := run_loadCells_list (P := P) w ⟨bs, os, none⟩ cs (fun j v hj => by rw [addr_add]; exact hsrc w hs j v hj)
  have hst := run_store0 (P := P) (e := e2) h1 hb (hs.held _ m.mem)
  refine stp_value ho (wanted_none _ rfl _) (v := .int .i64 (Nat.min sl dl : Nat)) (w' := { w with heap := w.heap.setIfInBounds b (cel e2 (spl l 0 cs)) }) ?_
    (h _ _ (ha.put (by simpa using hd) _) hD (hs.rep (F := [(b, cel e2 l)]) (F' := [(b, cel e2 (spl l 0 cs))]) fun T hT => St.set hT))
  simp only [execOp, resolve, invoke, builtin, Sem.run_bind, Sem.run_pure, Result.andThen, List.map_toArray, List.map_cons, List.map_nil, ha.reads _ _ hx, ha.reads _ _ hy]
  have e1 : (Builtin.copy_ #[T, T2] ty #[.slice (some ⟨b, 0, none⟩) dl dc, .slice (some ⟨bs, os, none⟩) sl sc]).run P w = .ok (goInt (Nat.min sl dl : Nat)) { w with heap := w.heap.setIfInBounds b (cel e2 (spl l 0 cs)) } := by
    simp [Builtin.copy_, run_underlying hu, Builtin.lenOf, Builtin.firstCells, sizeOf, typeInfo, hi, ← hn, hl, hst]
  rw [e1]
  rfl
/-- A slice of the call's own is cleared. -/
theorem clr {T e s : Nat} {x : Operand} {rows : List (List Value)} (o : OSl e s rows) {z : List Value} {C : Heap → Heap} {dd : Option Nat}
    (ho : ops[i]? = some ⟨dd, .call { callee := .builtin .clear, args := #[x], argTypes := #[T] }, ty, pos, af, none⟩) (hdd : dd = none) (hT : slE P T = some (e, s)) (hz : zeroL P e = some z) (hzs : z.length = s) (hz1 : z.all (·.oneCell') = true)
    (hx : ev L x = some o.fs) [rp : RepF o.G H C]
    (h : ∀ o' : OSl e s (List.replicate rows.length z), o'.fs = o.fs → Sy n L D (C o'.G) R K) : Sy n L D H R (stp P r ops i K) := fun a w ha hD hs0 => by
  subst hdd
  obtain ⟨T0, p1, p2⟩ := rp.rep
  have hs := hs0.perm p1
  obtain ⟨ie, hu, hi, rfl⟩ := slE_und hT
  obtain ⟨zv, hzv1, hzv2⟩ := run_zero hz
  have key : ∃ (o' : OSl e ie.size (List.replicate rows.length z)) (w' : World), o'.fs = o.fs ∧ (Builtin.clear_ #[T] ty #[o.fs]).run P w = .ok (.tuple #[]) w' ∧ St (o'.G ++ T0) R w' := by
    have hlz : ∀ r ∈ List.replicate rows.length z, r.length = ie.size := fun r hr => by rw [(List.mem_replicate.1 hr).2]; exact hzs
    rcases o.is with ⟨h1, h2, h3⟩ | ⟨b, cap, junk, h2, h3, hj, hc, hm⟩
    · subst h1
      refine ⟨OSl.nil _ _, w, by rw [h2]; rfl, ?_, by rw [h3] at hs; exact hs⟩
      rw [h2]
      simp [Builtin.clear_, run_underlying hu]
    · rcases Nat.eq_zero_or_pos rows.length with h0 | h0
      · have h1 : rows = [] := List.eq_nil_of_length_eq_zero h0
        subst h1
        refine ⟨⟨o.fs, o.G, by simp, .inr ⟨b, cap, junk, h2, h3, hj, hc, hm⟩⟩, w, rfl, ?_, hs⟩
        rw [h2]
        simp [Builtin.clear_, run_underlying hu]
      · have hf := flat_len o.len
        have hr : (repl rows.length z).length = rows.length * ie.size := by rw [← flat_repl, flat_len hlz]; simp
        rw [h3] at hs
        have hst := run_store0 (P := P) (e := e) (l := rows.flatten ++ junk) (vs := repl rows.length z) (by
          rw [← flat_repl]
          refine List.all_eq_true.2 fun v hv => ?_
          obtain ⟨q, hq, hvq⟩ := List.mem_flatten.1 hv
          rw [(List.mem_replicate.1 hq).2] at hvq
          exact List.all_eq_true.1 hz1 v hvq) (by rw [hr, List.length_append, hf]; omega) (hs.held (b, cel e (rows.flatten ++ junk)) (by simp))
        have hspl : spl (rows.flatten ++ junk) 0 (repl rows.length z) = (List.replicate rows.length z).flatten ++ junk := by
          unfold spl
          rw [List.take_zero, List.nil_append, Nat.zero_add, hr, ← hf, List.drop_left, flat_repl]
        rw [hspl] at hst
        refine ⟨⟨.slice (some ⟨b, 0, none⟩) (List.replicate rows.length z).length cap, [(b, cel e ((List.replicate rows.length z).flatten ++ junk))], hlz, .inr ⟨b, cap, junk, rfl, rfl, by simpa using hj, by simpa using hc, hm⟩⟩, _, ?_, ?_, St.set (o := cel e (rows.flatten ++ junk)) hs⟩
        · rw [h2]; simp
        · obtain ⟨k, hk⟩ : ∃ k, rows.length = k + 1 := ⟨rows.length - 1, by omega⟩
          have hzc : (Builtin.zeroCells zv.cells rows.length).toList = repl rows.length z := by rw [hzv1]; simp [Builtin.zeroCells, repl]
          rw [h2]
          rw [hk] at hzc hst ⊢
          simp only [Builtin.clear_, Sem.run_bind, run_underlying hu, Result.andThen, hzv2, hzc, hst, Sem.run_pure, List.getElem?_toArray, List.getElem?_cons_zero]
  obtain ⟨o', w', e1, e2, e3⟩ := key
  refine stp_value ho (wanted_none _ rfl _) (v := .tuple #[]) (w' := w') ?_ (h o' e1 _ _ (ha.putNone _) hD (e3.perm (p2 _)))
  simp only [execOp, resolve, invoke, builtin, Sem.run_bind, Sem.run_pure, Result.andThen, List.map_toArray, List.map_cons, List.map_nil, ha.reads _ _ hx]
  rw [e2]
/-- A slice without elements is cleared; one in a held block. -/
theorem clr0 {T e s : Nat} {x : Operand} {m c : Nat} {dd : Option Nat} (ho : ops[i]? = some ⟨dd, .call { callee := .builtin .clear, args := #[x], argTypes := #[T] }, ty, pos, af, none⟩) (hdd : dd = none) (hT : slE P T = some (e, s))
    (hx : ev L x = some (.slice none m c)) (h : Sy n L D H R K) : Sy n L D H R (stp P r ops i K) := fun a w ha hD hs => by
  subst hdd
  obtain ⟨ie, hu, _, _⟩ := slE_und hT
  refine stp_value ho (wanted_none _ rfl _) (v := .tuple #[]) (w' := w) ?_ (h _ _ (ha.putNone _) hD hs)
  simp only [execOp, resolve, invoke, builtin, Sem.run_bind, Sem.run_pure, Result.andThen, List.map_toArray, List.map_cons, List.map_nil, ha.reads _ _ hx]
  have e2 : (Builtin.clear_ #[T] ty #[.slice none m c]).run P w = .ok (.tuple #[]) w := by simp [Builtin.clear_, run_underlying hu]
  rw [e2]
theorem clrB {T e s : Nat} {x : Operand} {b k c e2 : Nat} {l z : List Value} {H' : Heap} {dd : Option Nat} (ho : ops[i]? = some ⟨dd, .call { callee := .builtin .clear, args := #[x], argTypes := #[T] }, ty, pos, af, none⟩) (hdd : dd = none) (hT : slE P T = some (e, s))
    (hz : zeroL P e = some z) (hzs : z.length = s) (hz1 : z.all (·.oneCell') = true) (hx : ev L x = some (.slice (some ⟨b, 0, none⟩) k c)) (hb : k * s ≤ l.length)
    [m : Mem1 b (cel e2 l) H] [rp : Rep [(b, cel e2 l)] [(b, cel e2 (spl l 0 (repl k z)))] H H'] (h : Sy n L D H' R K) : Sy n L D H R (stp P r ops i K) := fun a w ha hD hs => by
  subst hdd
  obtain ⟨ie, hu, hi, rfl⟩ := slE_und hT
  obtain ⟨zv, hzv1, hzv2⟩ := run_zero hz
  have hlz : ∀ r ∈ List.replicate k z, r.length = ie.size := fun r hr => by rw [(List.mem_replicate.1 hr).2]; exact hzs
  have hr : (repl k z).length = k * ie.size := by rw [← flat_repl, flat_len hlz]; simp
  have hst := run_store0 (P := P) (e := e2) (l := l) (vs := repl k z) (by
    rw [← flat_repl]
    refine List.all_eq_true.2 fun v hv => ?_
    obtain ⟨q, hq, hvq⟩ := List.mem_flatten.1 hv
    rw [(List.mem_replicate.1 hq).2] at hvq
    exact List.all_eq_true.1 hz1 v hvq) (by rw [hr]; exact hb) (hs.held _ m.mem)
  have hzc : (Builtin.zeroCells zv.cells k).toList = repl k z := by rw [hzv1]; simp [Builtin.zeroCells, repl]
  refine stp_value ho (wanted_none _ rfl _) (v := .tuple #[]) (w' := { w with heap := w.heap.setIfInBounds b (cel e2 (spl l 0 (repl k z))) }) ?_ (h _ _ (ha.putNone _) hD (hs.rep (F := [(b, cel e2 l)]) (F' := [(b, cel e2 (spl l 0 (repl k z)))]) fun T hT => St.set hT))
  simp only [execOp, resolve, invoke, builtin, Sem.run_bind, Sem.run_pure, Result.andThen, List.map_toArray, List.map_cons, List.map_nil, ha.reads _ _ hx]
  have e3 : (Builtin.clear_ #[T] ty #[.slice (some ⟨b, 0, none⟩) k c]).run P w = .ok (.tuple #[]) { w with heap := w.heap.setIfInBounds b (cel e2 (spl l 0 (repl k z))) } := by
    rcases Nat.eq_zero_or_pos k with h0 | h0
    · subst h0
      have h4 : spl l 0 (repl 0 z) = l := by simp [spl, repl]
      have h5 : w.heap.setIfInBounds b (cel e2 l) = w.heap := by
        apply Array.ext_getElem?
        intro j
        by_cases e : b = j
        · subst e
          have hlt : b < w.heap.size := hs.lt (mem_ids m.mem)
          rw [Array.getElem?_setIfInBounds_self_of_lt hlt]; exact (hs.held _ m.mem).symm
        · rw [Array.getElem?_setIfInBounds_ne e]
      rw [h4, h5]
      simp [Builtin.clear_, run_underlying hu]
    · obtain ⟨q, rfl⟩ : ∃ q, k = q + 1 := ⟨k - 1, by omega⟩
      simp only [Builtin.clear_, Sem.run_bind, run_underlying hu, Result.andThen, hzv2, hzc, hst, Sem.run_pure, List.getElem?_toArray, List.getElem?_cons_zero]
  rw [e3]
end steps
/-! ### a held block is lent to a call that only reads it -/
def back (b : Nat) (o : Obj) (R : Facts) : World → Prop := fun w => w.heap[b]? = some o ∧ ∀ f ∈ R, ∀ w', Keep [b] w w' → f w'
theorem St.lend {b : Nat} {o : Obj} {T : Heap} {R : Facts} {w : World} (h : St ((b, o) :: T) R w) : St T (back b o R :: R) w where
  nd := (List.nodup_cons.1 h.nd).2
  held p hp := h.held p (by simp [hp])
  fact f hf w' k := by
    have hb : b ∉ ids T := (List.nodup_cons.1 h.nd).1
    have hlt : b < w.heap.size := h.lt (by simp)
    rcases List.mem_cons.1 hf with h1 | h1
    · subst h1
      refine ⟨(k.block b hlt hb).trans (h.held (b, o) (by simp)), fun g hg w'' k2 => ?_⟩
      exact h.fact g hg w'' ((k.mono (D' := ids ((b, o) :: T)) (fun i _ hi => by simp [hi])).trans (k2.mono (fun i _ hi => by simp at hi; simp [hi])))
    · exact h.fact f h1 w' (k.mono (fun i _ hi => by simp [hi]))
theorem St.unlend {b : Nat} {o : Obj} {T : Heap} {R R' : Facts} {w : World} (h : St T (back b o R :: R') w) (hb : b ∉ ids T) : St ((b, o) :: T) R w where
  nd := List.nodup_cons.2 ⟨hb, h.nd⟩
  held p hp := by
    rcases List.mem_cons.1 hp with h1 | h1
    · subst h1; exact (h.now (f := back b o R) (by simp)).1
    · exact h.held p h1
  fact f hf w' k := by
    have h0 := (h.now (f := back b o R) (by simp)).1
    have hlt : b < w.heap.size := (Array.getElem?_eq_some_iff.1 h0).1
    have hlt' : b < w'.heap.size := Nat.lt_of_lt_of_le hlt k.size
    have k1 : Keep (ids T) w { w' with heap := w'.heap.setIfInBounds b o } := ⟨k.os, k.tape, k.output, by simpa using k.size, fun i hi hn => by
      show (w'.heap.setIfInBounds b o)[i]? = _
      by_cases e : b = i
      · subst e
        rw [Array.getElem?_setIfInBounds_self_of_lt hlt', h0]
      · rw [Array.getElem?_setIfInBounds_ne e]
        exact k.block i hi (by simp; exact ⟨fun h => e h.symm, hn⟩)⟩
    have h2 := h.fact (back b o R) (by simp) _ k1
    refine h2.2 f hf w' ⟨rfl, rfl, rfl, by simp, fun i _ hn => ?_⟩
    show _ = (w'.heap.setIfInBounds b o)[i]?
    rw [Array.getElem?_setIfInBounds_ne (fun e => hn (by simp [e]))]
theorem rows_block {b e sz : Nat} {rows : List (List Value)} {junk : List Value} {w : World} (h : w.heap[b]? = some (cel e (rows.flatten ++ junk))) (hs : ∀ r ∈ rows, r.length = sz) : RowsA (some ⟨b, 0, none⟩) sz rows w := fun i row hi => by
  refine ⟨hs row (List.mem_of_getElem? hi), b, 0, rfl, fun j x hx => ?_⟩
  rw [Nat.zero_add, cell_of h]
  have := flat_get hs hi hx
  rw [List.getElem?_toArray, List.getElem?_append_left (List.getElem?_eq_some_iff.1 this).1]
  exact this
theorem FnV.lend {P : Program} {f : FuncId} {args : List Value} {v : Value} {b e sz : Nat} {rows : List (List Value)} {junk : List Value} {H T : Heap} {R : Facts} [pl : Pull b (cel e (rows.flatten ++ junk)) H T] (hs : ∀ r ∈ rows, r.length = sz)
    (h : ∀ B : World → Prop, FnV P f args T (RowsA (some ⟨b, 0, none⟩) sz rows :: B :: R) v) : FnV P f args H R v := fun w hw => by
  have h1 := hw.perm pl.perm
  have hb : b ∉ ids T := (List.nodup_cons.1 h1.nd).1
  have h3 : St T (RowsA (some ⟨b, 0, none⟩) sz rows :: back b (cel e (rows.flatten ++ junk)) R :: R) w :=
    St.also h1.lend (fun w' hg => rows_block (hg (back b (cel e (rows.flatten ++ junk)) R) (by simp)).1 hs)
  refine CallsIn.mono (h _ w h3) ?_
  rintro e' w' ⟨u, H', R', ⟨rfl, rfl, rfl⟩, he, hs'⟩
  exact ⟨_, H, R, ⟨rfl, rfl, rfl⟩, he, (St.unlend hs'.ftail hb).perm pl.perm.symm⟩
end Go.Proofs.Ytaldphhdkmchhaa
