/-
  The engine, part M: a map of the call's own: made, stored into, looked up.
-/
import Derived.Test.YtaldphhdkmchhaaEngG
namespace Go.Proofs.Ytaldphhdkmchhaa
set_option linter.unusedSimpArgs false
set_option linter.unusedVariables false
open Go

theorem ents_len (b : Bool) : ∀ (l : KV) (i : Nat), (ents b i l).length = l.length
  | [], _ => rfl
  | (k, v) :: l, i => by simp [ents, ents_len b l (i + 1)]
theorem ents_get (b : Bool) : ∀ (l : KV) (i j : Nat) (e : List Int × Value), l[j]? = some e → (ents b i l)[j]? = some ⟨mkv b e.1, e.2, i + j⟩
  | [], _, _, _, h => by simp at h
  | (k, v) :: l, i, j, e, h => by
    cases j with
    | zero => simp only [List.getElem?_cons_zero, Option.some.injEq] at h; subst h; simp [ents]
    | succ j =>
      have := ents_get b l (i + 1) j e (by simpa using h)
      simp only [ents, List.getElem?_cons_succ, this]
      congr 2; omega
theorem ents_snoc (b : Bool) : ∀ (l : KV) (i : Nat) (k : List Int) (v : Value), ents b i (l ++ [(k, v)]) = ents b i l ++ [⟨mkv b k, v, i + l.length⟩]
  | [], i, k, v => by simp [ents]
  | (k', v') :: l, i, k, v => by simp [ents, ents_snoc b l (i + 1) k v]; omega
theorem put_find {k : List Int} {v : Value} : ∀ {l : KV} {j : Nat}, (l.findIdx? fun e => decide (e.1 = k)) = some j → l.put k v = l.set j (k, v) ∧ j < l.length
  | [], j, h => by simp at h
  | (k', v') :: l, j, h => by
    rw [List.findIdx?_cons] at h
    by_cases hc : k' = k
    · simp only [hc, decide_true, if_true, Option.some.injEq] at h
      subst h; simp [KV.put, hc]
    · simp only [hc, decide_false, Bool.false_eq_true, if_false] at h
      obtain ⟨j', hj, rfl⟩ := Option.map_eq_some_iff.1 h
      obtain ⟨h1, h2⟩ := put_find (v := v) hj
      simp [KV.put, hc, h1]; omega
theorem put_none {k : List Int} {v : Value} : ∀ {l : KV}, (l.findIdx? fun e => decide (e.1 = k)) = none → l.put k v = l ++ [(k, v)]
  | [], _ => rfl
  | (k', v') :: l, h => by
    rw [List.findIdx?_cons] at h
    by_cases hc : k' = k
    · simp [hc] at h
    · simp only [hc, decide_false, Bool.false_eq_true, if_false, Option.map_eq_none_iff] at h
      simp [KV.put, hc, put_none h]
theorem ents_set (b : Bool) : ∀ (l : KV) (i j : Nat) (k : List Int) (v : Value), ents b i (l.set j (k, v)) = (ents b i l).modify j fun e => { e with key := mkv b k, val := v }
  | [], i, j, k, v => by simp [ents]
  | (k', v') :: l, i, j, k, v => by
    cases j with
    | zero => simp [ents]
    | succ j => simp [ents, ents_set b l (i + 1) j k v]
theorem get_find {k : List Int} {l : KV} : (l.findIdx? fun e => decide (e.1 = k)).map (fun j => (l.getD j default).2) = l.get k := by
  unfold KV.get
  induction l with
  | nil => rfl
  | cons e l ih =>
    rw [List.findIdx?_cons, List.find?_cons]
    by_cases hc : e.1 = k
    · simp [hc]
    · simp only [hc, decide_false, Bool.false_eq_true, if_false, Option.map_map]
      rw [← ih]
      congr 1

theorem sameBits_ints : ∀ (l : List Int) (n : Nat), (((ints l).zip (ints l)).all fun (x, y) => Instr.sameBits n x y) = true
  | [], _ => rfl
  | x :: l, n => by
    have := sameBits_ints l n
    simp only [ints, List.map_cons, List.zip_cons_cons, List.all_cons, Bool.and_eq_true]
    refine ⟨?_, this⟩
    cases n <;> simp [Instr.sameBits]
theorem run_stays {P : Program} (b : Bool) (k : List Int) (w : World) : (Instr.keyThatStays (mkv b k) (mkv b k)).run P w = .ok (mkv b k) w := by
  have h : Instr.sameBits 10000 (mkv b k) (mkv b k) = true := by
    cases b with
    | false => show Instr.sameBits (9999 + 1) (.int .i64 _) (.int .i64 _) = true; simp [Instr.sameBits]
    | true =>
      show Instr.sameBits (9999 + 1) (.agg (ints k).toArray) (.agg (ints k).toArray) = true
      simp only [Instr.sameBits]
      simpa using sameBits_ints k 9999
  unfold Instr.keyThatStays
  rw [if_pos h]; rfl

section mapops
variable {P : Program} {r : Option Nat} {ops : Array Oper} {n : Nat} {L : Slots} {D : List Deferred} {H : Heap} {R : Facts} {K : Act → World → Prop}
  {bm : List Nat} {X : Act → World → Prop} {p : Plan} {pend : Pend} {i d : Nat} {ty : TypeId} {pos : String} {af : Array Edge}

theorem mkm {T : TypeId} (ho : ops[i]? = some ⟨some d, .makeMap T none, ty, pos, af, none⟩) (hd : Nat.blt d n = true) (b : Bool)
    (h : ∀ m, Sy n ((d, .map (some m)) :: L) D ((m, mapO b []) :: H) R K) : Sy n L D H R (stp P r ops i K) := fun a w ha hD hs => by
  refine stp_value ho (wanted_none _ rfl _) (v := .map (some w.heap.size)) (w' := w.alloc (mapO b [])) ?_ (h _ _ _ (ha.put (by simpa using hd) _) hD (hs.alloc _))
  simp only [execOp, Instr.makeMap, newObj, Sem.run_bind, Sem.run, Result.andThen, Sem.run_pure, Option.map_none]
  rfl

def mapKE (P : Program) (T : Nat) : Option (Nat × Nat) := match P.underlying T with | some (.map k e) => some (k, e) | _ => none

theorem run_getObj {P : Program} {m : Nat} {b : Bool} {l : KV} {w : World} (h : w.heap[m]? = some (mapO b l)) : (getObj m).run P w = .ok (mapO b l) w := by
  simp [getObj, Sem.run, h, mapO]
theorem run_setObj {P : Program} {m : Nat} {b : Bool} {l : KV} {o : Obj} {w : World} (h : w.heap[m]? = some (mapO b l)) : (setObj m o).run P w = .ok () { w with heap := w.heap.setIfInBounds m o } := by
  simp [setObj, Sem.run, h, mapO]

theorem run_update {P : Program} {T KT E s m : Nat} {b : Bool} {l : KV} {k : List Int} {v : Value} (hT : mapKE P T = some (KT, E)) (hK : KeyT P b KT s) (hk : k.length = s) (hl : ∀ e ∈ l, e.1.length = s) {w : World} (h : w.heap[m]? = some (mapO b l)) :
    (Instr.mapUpdate T (.map (some m)) (mkv b k) v).run P w = .ok () { w with heap := w.heap.setIfInBounds m (mapO b (l.put k v)) } := by
  unfold mapKE at hT
  split at hT <;> cases hT
  rename_i hu
  have h1 := run_getObj (P := P) h
  have h2 := hK.ck false k hk w
  have h3 := run_findKey hK k hk l hl w
  have h4 : ∀ o, (setObj m o).run P w = .ok () { w with heap := w.heap.setIfInBounds m o } := fun o => run_setObj h
  unfold Instr.mapUpdate
  simp only [Sem.run_bind, run_underlying hu, Result.andThen, h1, mapO, h2, h3]
  cases hf : l.findIdx? fun e => decide (e.1 = k) with
  | none =>
    simp only [Option.map_none, h4]
    rw [put_none hf, ents_snoc]
    simp
  | some j =>
    obtain ⟨h5, h6⟩ := put_find (v := v) hf
    have hjk : (l[j]).1 = k := by
      have := (List.findIdx?_eq_some_iff_getElem.1 hf).2.1
      simpa using this
    have h7 : ((((ents b 0 l).toArray[j]?).map (·.key)).getD (mkv b k)) = mkv b k := by
      have := ents_get b l 0 j l[j] (List.getElem?_eq_getElem h6)
      simp [this, hjk]
    simp only [Option.map_some, Sem.run_bind, h7, run_stays, Result.andThen, h4]
    rw [h5, ents_set]
    simp

/-- m[k] = v -/
theorem mpu {T KT E s m : Nat} {x y z : Operand} {b : Bool} (l : KV) (k : List Int) {v : Value} {H' : Heap} (ho : ops[i]? = some ⟨none, .mapUpdate T x y z, ty, pos, af, none⟩)
    (hT : mapKE P T = some (KT, E)) (hK : KeyT P b KT s) (hx : ev L x = some (.map (some m))) (hy : ev L y = some (mkv b k)) (hz : ev L z = some v) (hk : k.length = s) (hl : ∀ e ∈ l, e.1.length = s)
    [mm : Mem1 m (mapO b l) H] [rp : Rep [(m, mapO b l)] [(m, mapO b (l.put k v))] H H']
    (h : Sy n L D H' R K) : Sy n L D H R (stp P r ops i K) := fun a w ha hD hs => by
  have h1 := run_update (P := P) (v := v) hT hK hk hl (hs.held _ mm.mem)
  refine stp_skip ho (wanted_none _ rfl _) (w' := { w with heap := w.heap.setIfInBounds m (mapO b (l.put k v)) }) ?_ ?_
  · simp only [execOp, ha.reads _ _ hx, ha.reads _ _ hy, ha.reads _ _ hz, Sem.run_bind, h1, Result.andThen, Sem.run_pure]
  · exact h _ _ (ha.putNone undef) hD (hs.rep (F := [(m, mapO b l)]) (F' := [(m, mapO b (l.put k v))]) fun T hT => St.set hT)

/-- What a look-up gives. -/
def Lkp (P : Program) (T : Nat) (x y : Value) (c : Bool) (v : Value) (w : World) : Prop := (Instr.lookup T x y c).run P w = .ok v w
theorem lk_held {T KT E s m : Nat} {b : Bool} (l : KV) (k : List Int) {zv : Value} (hT : mapKE P T = some (KT, E)) (hK : KeyT P b KT s) (hz : ∀ w, (zeroValue E).run P w = .ok zv w) (hk : k.length = s) (hl : ∀ e ∈ l, e.1.length = s)
    [mm : Mem1 m (mapO b l) H] (c : Bool) : ∀ w, St H R w → Lkp P T (.map (some m)) (mkv b k) c (bif c then .tuple #[(l.get k).getD zv, .bool (l.get k).isSome] else (l.get k).getD zv) w := fun w hs => by
  unfold mapKE at hT
  split at hT <;> cases hT
  rename_i hu
  have h1 := run_getObj (P := P) (hs.held _ mm.mem)
  have h3 := run_findKey hK k hk l hl w
  unfold Lkp Instr.lookup
  simp only [Sem.run_bind, run_underlying hu, Result.andThen, h1, mapO, hK.ck _ k hk, h3, Sem.run_pure]
  rw [← get_find]
  cases hf : l.findIdx? fun e => decide (e.1 = k) with
  | none => simp only [Option.map_none, Sem.run_bind, hz, Result.andThen, Sem.run_pure]; cases c <;> rfl
  | some j => simp only [Option.map_some, Sem.run_pure]; cases c <;> rfl

theorem run_lookup_op {T : TypeId} {x y : Operand} {vx vy v : Value} {c : Bool} {g : Option (Nat × Bool)} {ρ : Operand → Value} (hρ : Reads L ρ) (hx : ev L x = some vx) (hy : ev L y = some vy) {w : World} (h : Lkp P T vx vy c v w) :
    (execOp ρ ⟨some d, .lookup T x y c, ty, pos, af, g⟩).run P w = .ok (.value v) w := by
  simp only [execOp, hρ _ _ hx, hρ _ _ hy, Sem.run_bind, show (Instr.lookup T vx vy c).run P w = .ok v w from h, Result.andThen, Sem.run_pure]
theorem spK {T : TypeId} {x y : Operand} {vx vy v : Value} {c : Bool} (ho : ops[i]? = some ⟨some d, .lookup T x y c, ty, pos, af, none⟩) (hx : ev L x = some vx) (hy : ev L y = some vy)
    (hl : ∀ w, St H R w → Lkp P T vx vy c v w) (hd : Nat.blt d n = true) (h : Sy n ((d, v) :: L) D H R K) : Sy n L D H R (stp P r ops i K) := fun b w ha hD hs =>
  stp_value ho (wanted_none _ rfl _) (run_lookup_op ha.reads hx hy (hl w hs)) (h _ w (ha.put (by simpa using hd) v) hD hs)
theorem ldK {T : TypeId} {x y : Operand} {vx vy v : Value} {c : Bool} (ho : ops[i]? = some ⟨some d, .lookup T x y c, ty, pos, af, none⟩) (hx : ev L x = some vx) (hy : ev L y = some vy)
    (hl : ∀ w, St H R w → Lkp P T vx vy c v w) (hd : Nat.blt d n = true) (h : Sy n ((d, v) :: L) D H R (Dv P r ops bm X p ((i, Lkp P T vx vy c v) :: pend))) : Sy n L D H R (Dv P r ops bm X (.ld i p) pend) := fun b w ha hD hs =>
  ⟨_, v, Lkp P T vx vy c v, ho, .inl ⟨wanted_none _ rfl _, fun w hw => semAt_ok (run_lookup_op ha.reads hx hy hw) (by simp)⟩, hl w hs, h _ w (ha.put (by simpa using hd) v) hD hs⟩
end mapops
end Go.Proofs.Ytaldphhdkmchhaa
