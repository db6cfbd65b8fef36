/-
  The engine, part T: slices of the call's own: grown by append.
-/
import Derived.Test.YtaldphhdkmchhaaEngS
import Derived.Laws.AppendOwn
namespace Go.Proofs.Ytaldphhdkmchhaa
set_option linter.unusedSimpArgs false
set_option linter.unusedVariables false
open Go

/-- A slice of the call's own with these rows: none, or in a block that nothing else points into. -/
structure OSl (e sz : Nat) (rows : List (List Value)) where
  fs : Value
  G : Heap
  len : ∀ r ∈ rows, r.length = sz
  is : (rows = [] ∧ fs = .slice none 0 0 ∧ G = []) ∨
    ∃ b cap junk, fs = .slice (some ⟨b, 0, none⟩) rows.length cap ∧ G = [(b, cel e (rows.flatten ++ junk))] ∧ rows.length * sz + junk.length = cap * sz ∧ rows.length ≤ cap ∧ cap ≤ 9223372036854775807

def OSl.nil (e sz : Nat) : OSl e sz [] := ⟨.slice none 0 0, [], by simp, .inl ⟨rfl, rfl, rfl⟩⟩
/-- Not the nil slice. -/
def OSl.here {e sz : Nat} {rows : List (List Value)} (o : OSl e sz rows) : Prop := ∃ b c, o.fs = .slice (some ⟨b, 0, none⟩) rows.length c
@[simp] theorem OSl.nil_fs (e sz : Nat) : (OSl.nil e sz).fs = .slice none 0 0 := rfl
@[simp] theorem OSl.nil_G (e sz : Nat) : (OSl.nil e sz).G = [] := rfl

theorem flat_len {sz : Nat} : ∀ {rows : List (List Value)}, (∀ r ∈ rows, r.length = sz) → rows.flatten.length = rows.length * sz
  | [], _ => by simp
  | r :: rs, h => by
    have h1 := h r (by simp)
    have h2 := flat_len (rows := rs) (fun q hq => h q (by simp [hq]))
    simp only [List.flatten_cons, List.length_append, h1, h2, List.length_cons, Nat.succ_mul]; omega

/-- The element's type, its cells, its bytes: of a slice type whose elements have a zero. -/
def apT (P : Program) (T : Nat) : Option (Nat × Nat × Nat) := match P.underlying T with
  | some (.slice e) => match P.info? e with
    | some i => match i.zero with
      | some z => bif Nat.beq z.cells.size i.size then some (e, i.size, i.bytes) else none
      | none => none
    | none => none
  | _ => none

theorem rows_flat {b off sz : Nat} : ∀ {rows : List (List Value)} {w : World}, RowsA (some ⟨b, off, none⟩) sz rows w → ∀ j v, rows.flatten[j]? = some v → w.cell? ⟨b, off + j, none⟩ = some v
  | [], _, _, j, v, h => by simp at h
  | r :: rs, w, hr, j, v, h => by
    obtain ⟨hl, _, _, _, hc⟩ := hr 0 r rfl
    rw [List.flatten_cons] at h
    by_cases hj : j < r.length
    · rw [List.getElem?_append_left hj] at h
      have := rows_cell (i := 0) hr rfl h
      simpa using this
    · rw [List.getElem?_append_right (by omega)] at h
      have h2 : RowsA (some ⟨b, off + sz, none⟩) sz rs w := fun i row hi => by
        obtain ⟨h3, b', off', he, h4⟩ := hr (i + 1) row (by simpa using hi)
        cases he
        exact ⟨h3, b, off + sz, rfl, fun k x hk => by
          have := h4 k x hk
          rw [Nat.succ_mul] at this
          rw [show off + sz + i * sz + k = off + (i * sz + sz) + k from by omega]
          exact this⟩
      have := rows_flat h2 (j - r.length) v h
      rw [show off + j = off + sz + (j - r.length) from by omega]
      exact this
theorem rows_addr {a : Option Addr} {sz : Nat} {rows : List (List Value)} {w : World} (h : RowsA a sz rows w) (h0 : rows ≠ []) : ∃ b off, a = some ⟨b, off, none⟩ := by
  cases rows with
  | nil => exact absurd rfl h0
  | cons r rs => obtain ⟨_, b, off, he, _⟩ := h 0 r rfl; exact ⟨b, off, he⟩
theorem rows_len {a : Option Addr} {sz : Nat} {rows : List (List Value)} {w : World} (h : RowsA a sz rows w) : ∀ r ∈ rows, r.length = sz := fun r hr => by
  obtain ⟨i, hi⟩ := List.getElem?_of_mem hr
  exact (h i r hi).1

def onecells (rows : List (List Value)) : Bool := rows.all fun r => r.all (·.oneCell')
theorem one_flat {rows : List (List Value)} (h : onecells rows = true) : ∀ u ∈ rows.flatten, u.oneCell' = true := fun u hu => by
  obtain ⟨r, hr, hu⟩ := List.mem_flatten.1 hu
  exact List.all_eq_true.1 (List.all_eq_true.1 h r hr) u hu

theorem run_append_empty {P : Program} {t ty e : TypeId} {i : TypeInfo} (ht : P.underlying t = some (.slice e)) (hi : P.info? e = some i) {w : World} {ba : Option Addr} {ls cs c : Nat} (hls : ls ≤ cs) (ax : Option Addr) :
    (Builtin.append_ #[t, t] ty #[.slice ba ls cs, .slice ax 0 c]).run P w = .ok (.slice ba ls cs) w := by
  cases ax <;> cases ba <;>
  simp [Builtin.append_, run_underlying ht, sizeOf, typeInfo, hi, Builtin.lenOf, hls, Builtin.firstCells, loadCells, loadCellsFrom, storeCells]

theorem run_app_own {P : Program} {t ty e sz by_ : Nat} (ht : apT P t = some (e, sz, by_)) {rows news : List (List Value)} (o : OSl e sz rows) {T : Heap} {R : Facts} {w : World} (hs : St (o.G ++ T) R w)
    {ax : Option Addr} {c : Nat} (hr : RowsA ax sz news w) (h1 : onecells news = true) (hby : (rows.length + news.length) * by_ ≤ 140737488355328) (h63 : rows.length + news.length ≤ 9223372036854775807) :
    ∃ (o' : OSl e sz (rows ++ news)) (w' : World), ((Builtin.append_ #[t, t] ty #[o.fs, .slice ax news.length c]).run P w = .ok o'.fs w' ∧ (o.here → o'.here)) ∧ St (o'.G ++ T) R w' := by
  unfold apT at ht
  split at ht
  case h_2 => cases ht
  rename_i e' hu
  split at ht
  case h_2 => cases ht
  rename_i i hi
  split at ht
  case h_2 => cases ht
  rename_i z hz
  cases hzs : Nat.beq z.cells.size i.size with
  | false => rw [hzs] at ht; cases ht
  | true =>
  rw [hzs, cond_true] at ht
  cases ht
  have hzs := Nat.eq_of_beq_eq_true hzs
  have hnl := rows_len hr
  have hlen' : ∀ r ∈ rows ++ news, r.length = i.size := fun r h => by rcases List.mem_append.1 h with h | h; exact o.len r h; exact hnl r h
  have hnf := flat_len hnl
  have hrf := flat_len o.len
  by_cases h0 : news = []
  · subst h0
    have hap : rows ++ [] = rows := by simp
    obtain ⟨fs, G, hl, his⟩ := o
    rcases his with ⟨rfl, rfl, rfl⟩ | ⟨b, cap, junk, rfl, rfl, hj, hc, hm⟩
    · exact ⟨OSl.nil _ _, w, ⟨by simpa using run_append_empty hu hi (Nat.le_refl 0) ax, fun h => h⟩, hs⟩
    · refine ⟨⟨.slice (some ⟨b, 0, none⟩) rows.length cap, [(b, cel e (rows.flatten ++ junk))], by simpa using hl, .inr ⟨b, cap, junk, by simp, by simp, by simpa using hj, by simpa using hc, hm⟩⟩, w, ⟨by simpa using run_append_empty hu hi hc ax, fun _ => ⟨b, cap, by simp⟩⟩, hs⟩
  obtain ⟨bx, offx, rfl⟩ := rows_addr hr h0
  have hcell : ∀ j v, news.flatten[j]? = some v → w.cell? ((⟨bx, offx, none⟩ : Addr).add j) = some v := fun j v h => by rw [addr_add]; exact rows_flat hr j v h
  have hn0 : 0 < news.length := List.length_pos_iff.2 h0
  -- a new block
  have new : ∀ (old : Nat) (w1 : World), St T R w1 → old < rows.length + news.length → w1.heap.size = w.heap.size →
      ∃ (o' : OSl e i.size (rows ++ news)), o'.fs = .slice (some ⟨w.heap.size, 0, none⟩) (rows.length + news.length) (grownCap w (rows.length + news.length) old e) ∧
        St (o'.G ++ T) R (w1.alloc (.cells (rows.flatten.toArray ++ news.flatten.toArray ++ Builtin.zeroCells z.cells (grownCap w (rows.length + news.length) old e - (rows.length + news.length))) e)) := by
    intro old w1 hs1 hold hsz
    have hge := grownCap_ge w (rows.length + news.length) old e
    have hcm : grownCap w (rows.length + news.length) old e ≤ maxLen := grownCap_le_maxLen w _ old e (by simp only [maxLen]; omega)
    refine ⟨⟨.slice (some ⟨w.heap.size, 0, none⟩) (rows ++ news).length (grownCap w (rows.length + news.length) old e), [(w.heap.size, cel e ((rows ++ news).flatten ++ (Builtin.zeroCells z.cells (grownCap w (rows.length + news.length) old e - (rows.length + news.length))).toList))], hlen', .inr ⟨_, _, _, rfl, rfl, ?_, ?_, ?_⟩⟩, ?_, ?_⟩
    · simp only [Array.length_toList, size_zeroCells, hzs, List.length_append, ← Nat.add_mul]
      congr 1; omega
    · simpa using hge
    · simp only [maxLen] at hcm; omega
    · simp
    · have h2 := hs1.alloc (.cells (rows.flatten.toArray ++ news.flatten.toArray ++ Builtin.zeroCells z.cells (grownCap w (rows.length + news.length) old e - (rows.length + news.length))) e)
      rw [hsz] at h2
      have e1 : (cel e ((rows ++ news).flatten ++ (Builtin.zeroCells z.cells (grownCap w (rows.length + news.length) old e - (rows.length + news.length))).toList)) = .cells (rows.flatten.toArray ++ news.flatten.toArray ++ Builtin.zeroCells z.cells (grownCap w (rows.length + news.length) old e - (rows.length + news.length))) e := by
        unfold cel; congr 1; apply Array.toList_inj.1; simp
      show St ((_, _) :: T) R _
      rw [e1]; exact h2
  obtain ⟨fs, G, hl, his⟩ := o
  rcases his with ⟨rfl, rfl, rfl⟩ | ⟨b, cap, junk, rfl, rfl, hj, hc, hm⟩
  · have h2 := run_append_nil (P := P) w t ty e i z hu hi hz ⟨bx, offx, none⟩ news.length c news.flatten hnf hcell hn0 (by simp at h63; omega) (by simp at hby; omega)
    obtain ⟨o', ho1, ho2⟩ := new 0 w.drew hs.drew (by simp; omega) rfl
    refine ⟨o', _, ⟨?_, fun ⟨_, _, h⟩ => by cases h⟩, ho2⟩
    simp only [List.length_nil, Nat.zero_add, List.flatten_nil] at ho1 h2 ⊢
    rw [ho1, h2]
    simp
  · have hb := hs.held (b, cel e (rows.flatten ++ junk)) (by simp)
    by_cases hroom : rows.length + news.length ≤ cap
    · have hm2 : (rows.length + news.length) * i.size ≤ cap * i.size := Nat.mul_le_mul_right _ hroom
      rw [Nat.add_mul] at hm2
      have h2 := run_append_room (P := P) w t ty e i hu hi b rows.length cap _ hb ⟨bx, offx, none⟩ news.length c news.flatten hnf hcell (one_flat h1) hroom (by simp only [List.size_toArray, List.length_append, hrf, hnf]; omega)
      have hset : w.setRow b ((rows.flatten ++ junk).toArray.toList.take (rows.length * i.size) ++ news.flatten ++ (rows.flatten ++ junk).toArray.toList.drop (rows.length * i.size + news.flatten.length)).toArray =
          { w with heap := w.heap.setIfInBounds b (cel e ((rows ++ news).flatten ++ junk.drop news.flatten.length)) } := by
        rw [setRow_cells hb]
        have e1 : (rows.flatten ++ junk).take (rows.length * i.size) = rows.flatten := by rw [← hrf, List.take_left]
        have e2 : (rows.flatten ++ junk).drop (rows.length * i.size + news.flatten.length) = junk.drop news.flatten.length := by rw [← hrf, List.drop_append]; simp
        have e3 : ((rows.flatten ++ junk).toArray.toList.take (rows.length * i.size) ++ news.flatten ++ (rows.flatten ++ junk).toArray.toList.drop (rows.length * i.size + news.flatten.length)) = (rows ++ news).flatten ++ junk.drop news.flatten.length := by
          simp only [e1, e2, List.flatten_append]
        rw [e3]
      refine ⟨⟨.slice (some ⟨b, 0, none⟩) (rows ++ news).length cap, [(b, cel e ((rows ++ news).flatten ++ junk.drop news.flatten.length))], hlen', .inr ⟨_, _, _, rfl, rfl, ?_, by simpa using hroom, hm⟩⟩, _, ⟨h2.trans ?_, fun _ => ⟨b, cap, rfl⟩⟩, St.set hs⟩
      · simp only [List.length_drop, List.length_append, hnf, Nat.add_mul]
        omega
      · rw [hset]; simp
    · have holds : ∀ j v, rows.flatten[j]? = some v → w.cell? ((⟨b, 0, none⟩ : Addr).add j) = some v := fun j v h => by
        have hlt : j < rows.flatten.length := (List.getElem?_eq_some_iff.1 h).1
        rw [addr_add, cell_of hb]
        simp only [Nat.zero_add, List.getElem?_toArray]
        rw [List.getElem?_append_left hlt]; exact h
      have h2 := run_append_grow (P := P) w t ty e i z hu hi hz ⟨b, 0, none⟩ rows.length cap rows.flatten hrf holds ⟨bx, offx, none⟩ news.length c news.flatten hnf hcell (by omega) (by omega) (growslice_fits (by omega) hby)
      obtain ⟨o', ho1, ho2⟩ := new cap w.drew (St.tail hs).drew (by omega) rfl
      exact ⟨o', _, ⟨by rw [ho1]; exact h2, fun _ => ⟨_, _, by rw [ho1, ← List.length_append]⟩⟩, ho2⟩

/-- F lies in H; C F' is H with F' in its place. -/
class RepF (F : Heap) (H : Heap) (C : outParam (Heap → Heap)) : Prop where
  rep : ∃ T, H.Perm (F ++ T) ∧ ∀ F', (F' ++ T).Perm (C F')
instance RepF.here (F T : Heap) : RepF F (F ++ T) (fun F' => F' ++ T) := ⟨⟨T, .refl _, fun _ => .refl _⟩⟩
instance (priority := low) RepF.cons (F : Heap) (p : Nat × Obj) (H : Heap) (C : Heap → Heap) [m : RepF F H C] : RepF F (p :: H) (fun F' => p :: C F') :=
  ⟨by
    obtain ⟨T, h1, h2⟩ := m.rep
    exact ⟨p :: T, (List.Perm.cons p h1).trans List.perm_middle.symm, fun F' => List.perm_middle.trans (List.Perm.cons p (h2 F'))⟩⟩
instance (priority := low) RepF.app (F : Heap) (G H : Heap) (C : Heap → Heap) [m : RepF F H C] : RepF F (G ++ H) (fun F' => G ++ C F') :=
  ⟨by
    obtain ⟨T, h1, h2⟩ := m.rep
    exact ⟨G ++ T, (List.Perm.append_left G h1).trans (perm_swap3 _ _ _), fun F' => (perm_swap3 _ _ _).trans (List.Perm.append_left G (h2 F'))⟩⟩

section rules
variable {P : Program} {r : Option Nat} {ops : Array Oper} {n : Nat} {L : Slots} {D : List Deferred} {H : Heap} {R : Facts} {K : Act → World → Prop}
  {i d : Nat} {ty : TypeId} {pos : String} {af : Array Edge}

/-- append to a slice of the call's own. -/
theorem apO {t e sz by_ c k : Nat} {s x : Operand} {rows news : List (List Value)} (o : OSl e sz rows) {ax : Option Addr} {C : Heap → Heap}
    (ho : ops[i]? = some ⟨some d, .call { callee := .builtin .append, args := #[s, x], argTypes := #[t, t] }, ty, pos, af, none⟩) (ht : apT P t = some (e, sz, by_))
    (hs : ev L s = some o.fs) (hx : ev L x = some (.slice ax k c)) (hr : ∀ w, St H R w → RowsA ax sz news w) (hk : news.length = k) (h1 : onecells news = true)
    (hb : (rows.length + news.length) * by_ ≤ 140737488355328 ∧ rows.length + news.length ≤ 9223372036854775807) (hd : Nat.blt d n = true)
    [rp : RepF o.G H C]
    (h : ∀ o' : OSl e sz (rows ++ news), Sy n ((d, o'.fs) :: L) D (C o'.G) R K) : Sy n L D H R (stp P r ops i K) := fun a w ha hD hs0 => by
  subst hk
  obtain ⟨T, p1, p2⟩ := rp.rep
  obtain ⟨o', w', ⟨h2, _⟩, h3⟩ := run_app_own ht o (hs0.perm p1) (hr w hs0) h1 hb.1 hb.2
  refine stp_value ho (wanted_none _ rfl _) (v := o'.fs) (w' := w') ?_ (h o' _ _ (ha.put (by simpa using hd) _) hD (h3.perm (p2 _)))
  simp only [execOp, resolve, invoke, builtin, Sem.run_bind, Sem.run_pure, Result.andThen, List.map_toArray, List.map_cons, List.map_nil, ha.reads _ _ hs, ha.reads _ _ hx]
  rw [show (Builtin.append_ #[t, t] ty #[o.fs, .slice ax news.length c]).run P w = _ from h2]

/-- append to a slice of the call's own that is not nil. -/
theorem apOh {t e sz by_ c k : Nat} {s x : Operand} {rows news : List (List Value)} (o : OSl e sz rows) {ax : Option Addr} {C : Heap → Heap}
    (ho : ops[i]? = some ⟨some d, .call { callee := .builtin .append, args := #[s, x], argTypes := #[t, t] }, ty, pos, af, none⟩) (ht : apT P t = some (e, sz, by_))
    (hs : ev L s = some o.fs) (hx : ev L x = some (.slice ax k c)) (hr : ∀ w, St H R w → RowsA ax sz news w) (hk : news.length = k) (h1 : onecells news = true)
    (hb : (rows.length + news.length) * by_ ≤ 140737488355328 ∧ rows.length + news.length ≤ 9223372036854775807) (hd : Nat.blt d n = true)
    [rp : RepF o.G H C]
    (hh : o.here) (h : ∀ o' : OSl e sz (rows ++ news), o'.here → Sy n ((d, o'.fs) :: L) D (C o'.G) R K) : Sy n L D H R (stp P r ops i K) := fun a w ha hD hs0 => by
  subst hk
  obtain ⟨T, p1, p2⟩ := rp.rep
  obtain ⟨o', w', ⟨h2, h9⟩, h3⟩ := run_app_own ht o (hs0.perm p1) (hr w hs0) h1 hb.1 hb.2
  refine stp_value ho (wanted_none _ rfl _) (v := o'.fs) (w' := w') ?_ (h o' (h9 hh) _ _ (ha.put (by simpa using hd) _) hD (h3.perm (p2 _)))
  simp only [execOp, resolve, invoke, builtin, Sem.run_bind, Sem.run_pure, Result.andThen, List.map_toArray, List.map_cons, List.map_nil, ha.reads _ _ hs, ha.reads _ _ hx]
  rw [show (Builtin.append_ #[t, t] ty #[o.fs, .slice ax news.length c]).run P w = _ from h2]

theorem rowsF {a : Option Addr} {sz : Nat} {rows : List (List Value)} [m : MemRows a sz rows R] : ∀ w, St H R w → RowsA a sz rows w := fun _ hs => hs.now m.mem
theorem rowsH {b e sz : Nat} {row : List Value} [m : Mem1 b (cel e row) H] (hl : row.length = sz) : ∀ w, St H R w → RowsA (some ⟨b, 0, none⟩) sz [row] w := fun w hs i q hi => by
  match i, hi with
  | 0, hi =>
    simp only [List.getElem?_cons_zero, Option.some.injEq] at hi
    subst hi
    refine ⟨hl, b, 0, rfl, fun j x hx => ?_⟩
    rw [cell_of (hs.held _ m.mem)]
    simpa using hx
end rules
end Go.Proofs.Ytaldphhdkmchhaa
