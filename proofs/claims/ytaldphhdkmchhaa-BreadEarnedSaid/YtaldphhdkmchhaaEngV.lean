/-
  The engine, part V: blocks pulled to the front, blocks let go; slices made; scopes.
-/
import Derived.Test.YtaldphhdkmchhaaEngU
import Derived.Laws.MakeOwn
import Derived.Scope
namespace Go.Proofs.Ytaldphhdkmchhaa
set_option linter.unusedSimpArgs false
set_option linter.unusedVariables false
open Go

/-- H with block b, that holds o, in front of T. -/
class Pull (b : Nat) (o : outParam Obj) (H : Heap) (T : outParam Heap) : Prop where
  perm : H.Perm ((b, o) :: T)
instance Pull.head (b : Nat) (o : Obj) (H : Heap) : Pull b o ((b, o) :: H) H := ⟨.refl _⟩
instance (priority := low) Pull.cons (b : Nat) (o : Obj) (p : Nat × Obj) (H T : Heap) [m : Pull b o H T] : Pull b o (p :: H) (p :: T) := ⟨(m.perm.cons p).trans (.swap _ _ _)⟩
instance (priority := low) Pull.app (b : Nat) (o : Obj) (G H T : Heap) [m : Pull b o H T] : Pull b o (G ++ H) (G ++ T) := ⟨(List.Perm.append_left G m.perm).trans List.perm_middle⟩

theorem St.pull {H T : Heap} {R : Facts} {w : World} (b : Nat) {o : Obj} [m : Pull b o H T] (h : St H R w) : St ((b, o) :: T) R w := h.perm m.perm
theorem St.del {H T : Heap} {R : Facts} {w : World} (b : Nat) {o : Obj} [m : Pull b o H T] (h : St H R w) : St T R w := (h.perm m.perm).tail
theorem sy_pull {n : Nat} {L : Slots} {D : List Deferred} {H T : Heap} {R : Facts} {X : Act → World → Prop} (b : Nat) {o : Obj} [m : Pull b o H T] (h : Sy n L D ((b, o) :: T) R X) : Sy n L D H R X := Sy.heap (fun _ hs => hs.pull b) h
theorem sy_del {n : Nat} {L : Slots} {D : List Deferred} {H T : Heap} {R : Facts} {X : Act → World → Prop} (b : Nat) {o : Obj} [m : Pull b o H T] (h : Sy n L D T R X) : Sy n L D H R X := Sy.heap (fun _ hs => hs.del b) h

theorem St.dropMid {A B C : Heap} {R : Facts} {w : World} (h : St (A ++ (B ++ C)) R w) : St (A ++ C) R w := St.drop (h.perm (perm_swap3 A B C))

theorem flat_repl (k : Nat) (z : List Value) : (List.replicate k z).flatten = repl k z := by
  apply List.ext_getElem?
  intro j
  unfold repl
  rcases Nat.eq_zero_or_pos z.length with h0 | h0
  · have hz : z = [] := List.eq_nil_of_length_eq_zero h0
    subst hz
    simp
  by_cases hj : j < k * z.length
  · have h1 : j / z.length < k := by rw [Nat.div_lt_iff_lt_mul h0]; exact hj
    have h2 : j % z.length < z.length := Nat.mod_lt _ h0
    have h3 := flat_get (sz := z.length) (rows := List.replicate k z) (fun r hr => by rw [List.eq_of_mem_replicate hr]) (i := j / z.length) (j := j % z.length) (row := z) (x := z[j % z.length]) (by simp [h1]) (by simp [h2])
    rw [Nat.div_add_mod'] at h3
    rw [h3]
    simp [hj, h2]
  · have h1 : ((List.replicate k z).flatten)[j]? = none := List.getElem?_eq_none (by rw [flat_len (sz := z.length) (fun r hr => by rw [List.eq_of_mem_replicate hr]), List.length_replicate]; omega)
    rw [h1]
    symm
    rw [List.getElem?_eq_none_iff]
    simp only [List.length_map, List.length_range]
    omega

theorem irows_flat : ∀ (l : List Int), (l.map fun z => [Value.int .i64 z]).flatten = ints l
  | [] => rfl
  | x :: l => by simp only [List.map_cons, List.flatten_cons, irows_flat l, ints]; rfl
/-- A block of ints is only read from now on. -/
theorem St.intRows {b e : Nat} {l : List Int} {H : Heap} {R : Facts} {w : World} (h : St ((b, cel e (ints l)) :: H) R w) : St H (RowsA (some ⟨b, 0, none⟩) 1 (l.map fun z => [.int .i64 z]) :: R) w :=
  St.rows (e := e) (rest := []) (by rw [irows_flat, List.append_nil]; exact h) (by simp)
/-- A slice of the call's own is only read from now on. -/
theorem OSl.freeze {e sz : Nat} {rows : List (List Value)} (o : OSl e sz rows) : ∃ a c, o.fs = .slice a rows.length c ∧ ∀ {H : Heap} {R : Facts} {w : World}, St (o.G ++ H) R w → St H (RowsA a sz rows :: R) w := by
  obtain ⟨fs, G, hl, his⟩ := o
  rcases his with ⟨rfl, rfl, rfl⟩ | ⟨b, cap, junk, rfl, rfl, _, _, _⟩
  · exact ⟨none, 0, rfl, fun {H R w} h => (St.also (H := H) (R := R) h (f := RowsA none sz []) (fun w' _ => fun i row hi => by simp at hi))⟩
  · exact ⟨_, cap, rfl, fun {H R w} h => St.rows (rest := junk) h hl⟩
theorem repl1 (n : Nat) (v : Value) : repl n [v] = List.replicate n v := by
  rw [← flat_repl]
  induction n with
  | zero => rfl
  | succ n ih => rw [List.replicate_succ, List.flatten_cons, ih, List.replicate_succ]; rfl
theorem repl0 (n : Nat) : repl n [.int .i64 0] = ints (List.replicate n 0) := by rw [repl1, ints, List.map_replicate]

theorem KV.get_put : ∀ (l : KV) (k k' : List Int) (v : Value), (l.put k v).get k' = bif decide (k = k') then some v else l.get k'
  | [], k, k', v => by
    by_cases h : k = k' <;> simp [KV.put, KV.get, h]
  | (a, u) :: l, k, k', v => by
    have ih := KV.get_put l k k' v
    unfold KV.put
    by_cases ha : a = k
    · subst ha
      simp only [decide_true, cond_true]
      by_cases h : a = k' <;> simp [KV.get, h]
    · simp only [ha, decide_false, cond_false]
      unfold KV.get at ih ⊢
      rw [List.find?_cons, List.find?_cons]
      by_cases h : a = k'
      · subst h
        have : ¬ k = a := fun e => ha e.symm
        simp [this]
      · simp only [h, decide_false]
        exact ih
theorem KV.put_mem : ∀ {l : KV} {k : List Int} {v : Value} {e : List Int × Value}, e ∈ l.put k v → e = (k, v) ∨ e ∈ l
  | [], k, v, e, h => by simp only [KV.put, List.mem_singleton] at h; exact .inl h
  | (a, u) :: l, k, v, e, h => by
    unfold KV.put at h
    cases hc : decide (a = k) <;> rw [hc] at h
    · rcases List.mem_cons.1 h with h | h
      · exact .inr (by simp [h])
      · rcases KV.put_mem h with h | h
        · exact .inl h
        · exact .inr (by simp [h])
    · rcases List.mem_cons.1 h with h | h
      · exact .inl h
      · exact .inr (by simp [h])
/-- The zero of a type. -/
def zvl (P : Program) (T : Nat) : Option Value := (P.info? T).bind (·.zero)
theorem run_zv {P : Program} {T : Nat} {v : Value} (h : zvl P T = some v) (w : World) : (zeroValue T).run P w = .ok v w := by
  unfold zvl at h
  rw [Option.bind_eq_some_iff] at h
  obtain ⟨i, hi, hz⟩ := h
  simp [zeroValue, typeInfo, program, hi, hz, Sem.run_bind, Sem.run_pure, Sem.run, Result.andThen]

/-! ### a scope without jumps -/
section scope
variable {P : Program} {b : Frame} {a : Act} {k : List Item} {cs : List Frame} {w : World} {Q : Exit → Act → World → Prop} {F : Fence} {m : Nat}
theorem stepR_scope {c : Code} : step P (lone (b.atR a (.code (.scope c) :: k)) cs w) = .next (lone (b.atR a (.code c :: .inScope c :: k)) cs w) :=
  step_lone_go (by simp [stepG, stepG.exec, Frame.atR])
theorem stepR_inScope {c : Code} : step P (lone (b.atR a (.inScope c :: k)) cs w) = .next (lone (b.atR a k) cs w) :=
  step_lone_go (by simp [stepG, stepG.exec, Frame.atR])
theorem wpIn_scope {c : Code} (h : c.wpIn F m P (Exit.noGoto Q) a w) : (Code.scope c).wpIn F m P Q a w := by
  intro b k cs hro hb hr
  have h0 : (lone (b.atR a (.code (.scope c) :: k)) cs w).fenced P F := fenced_calm hb hr rfl
  obtain ⟨e, a₁, w₁, hq, harr⟩ := h b (.inScope c :: k) cs hro hb hr
  cases e with
  | normal => exact ⟨.normal, a₁, w₁, hq, .head h0 stepR_scope (StepsIn.trans harr (.one (fenced_calm hb hr rfl) stepR_inScope))⟩
  | exit id =>
    have hx : exitTo id (.inScope c :: k) = exitTo id k := by simp [exitTo]
    exact ⟨.exit id, a₁, w₁, hq, fun k' hk => .head h0 stepR_scope (harr.1 k' (by rw [hx]; exact hk)),
      fun hr' hk => let ⟨k₁, h1, h2⟩ := harr.2 hr' (by rw [hx]; exact hk); ⟨k₁, h1, .head h0 stepR_scope h2⟩⟩
  | goto l => exact hq.elim
  | ret => exact ⟨_, a₁, w₁, hq, .of_steps (.one h0 stepR_scope) harr⟩
  | panic ch => exact ⟨_, a₁, w₁, hq, .of_steps (.one h0 stepR_scope) harr⟩
  | outgrown => exact ⟨_, a₁, w₁, hq, .of_steps (.one h0 stepR_scope) harr⟩
variable {r : Option Nat} {n : Nat} {L : Slots} {D : List Deferred} {H : Heap} {R : Facts}
theorem sy_scope {c : Code} (h : Sy n L D H R (wpc P r c (Exit.noGoto Q))) : Sy n L D H R (wpc P r (.scope c) Q) := fun a w ha hd hs => wpIn_scope (h a w ha hd hs)
theorem sy_sc (h : Sy n L D H R (Q .normal)) : Sy n L D H R (Exit.noGoto Q .normal) := h
theorem sy_scx {i : Nat} (h : Sy n L D H R (Q (.exit i))) : Sy n L D H R (Exit.noGoto Q (.exit i)) := h
theorem sy_scr (h : Sy n L D H R (Q .ret)) : Sy n L D H R (Exit.noGoto Q .ret) := h
end scope

/-! ### own slices with rows of ints, read and written -/
section own
variable {P : Program} {r : Option Nat} {ops : Array Oper} {n : Nat} {L : Slots} {D : List Deferred} {H : Heap} {R : Facts} {K : Act → World → Prop}
  {i d : Nat} {ty : TypeId} {pos : String} {af : Array Edge}

theorem made_eq (z : List Value) (n : Nat) : (madeCells z.toArray (n * z.length)).toList = repl n z := by
  simp [madeCells, repl]

theorem run_mks {T e s y : Nat} (hp : apT P T = some (e, s, y)) {zl : List Value} (hz : zeroL P e = some zl) {kl kc : IntKind} {l c : Nat} (hlc : l ≤ c) (hb : y * c ≤ 281474976710656) (h63 : c ≤ 9223372036854775807) (w : World) :
    (Instr.makeSlice T (.int kl l) (.int kc c)).run P w = .ok (.slice (some ⟨w.heap.size, 0, none⟩) l c) (w.alloc (cel e (repl c zl))) ∧ zl.length = s := by
  unfold apT at hp
  split at hp
  case h_2 => cases hp
  rename_i e' hu
  split at hp
  case h_2 => cases hp
  rename_i i hi
  split at hp
  case h_2 => cases hp
  rename_i z hzz
  cases hzs : Nat.beq z.cells.size i.size with
  | false => rw [hzs] at hp; cases hp
  | true =>
  rw [hzs, cond_true] at hp
  cases hp
  have hzs := Nat.eq_of_beq_eq_true hzs
  have hzl : z.cells.toList = zl := by
    have : zeroL P e = some z.cells.toList := by simp [zeroL, hi, hzz]
    rw [this] at hz; exact Option.some.inj hz
  have := run_make (P := P) w T e i z hu hi hzz kl kc l c (by omega) (by omega) (by omega) (by omega)
  refine ⟨?_, by rw [← hzl]; simpa using hzs⟩
  rw [this]
  simp only [Int.toNat_natCast]
  congr 2
  unfold cel
  congr 1
  apply Array.toList_inj.1
  rw [← made_eq, ← hzl]
  simp [hzs]

theorem bslG {T e j t : TypeId} {bb : Bool} {oj : Oper} {s k : Nat} {parts : List (Nat × Operand)} {vs : List (Nat × Value)} {z out : List Value}
    (ho : ops[i]? = some ⟨some d, .buildSlice T k parts.toArray, ty, pos, af, some (j, bb)⟩) (hj : ops[j]? = some oj) (ht : oj.dst = some t) (hb : lk L t = some (.bool bb)) (hp : slE P T = some (e, s)) (hz : zeroL P e = some z) (hzs : z.length = s) (hks : Nat.ble (k * s) 16777216 = true) (hs0 : Nat.blt 0 (k * s) = true)
    (hx : evp L parts = some vs) (hf : fillL (fun i => some (i * s, s)) (repl k z) vs = some out) (hd : Nat.blt d n = true)
    (h : ∀ b, Sy n ((d, .slice (some ⟨b, 0, none⟩) k k) :: L) D ((b, cel e out) :: H) R K) : Sy n L D H R (stp P r ops i K) := fun a w ha hD hs => by
  unfold slE at hp
  split at hp
  · rename_i e' hu
    rw [Option.map_eq_some_iff] at hp
    obtain ⟨ie, hi, he⟩ := hp
    cases he
    obtain ⟨zv, hz1, hz2⟩ := run_zero hz
    have h3 := fill_eq _ _ _ _ hf
    have e1 : (parts.toArray.map fun (k, x) => (k, a.eval x)) = vs.toArray := by rw [List.map_toArray, evp_map ha.reads _ _ hx]
    have hks' : ¬ (k * ie.size > 2 ^ 24) := Nat.not_lt.2 (Nat.le_of_ble_eq_true hks)
    have hs0' : ¬ (k * ie.size = 0) := fun h0 => by rw [h0] at hs0; cases hs0
    refine stp_value ho (by simp [Region.wanted, yielded_of ha hj ht hb]) (v := .slice (some ⟨w.heap.size, 0, none⟩) k k) (w' := w.alloc (cel e out)) ?_ (h _ _ _ (ha.put (by simpa using hd) _) hD (hs.alloc _))
    have e2 : (Array.map (fun x => zv.cells[x % zv.cells.size]!) (Array.range (k * ie.size))) = (repl k z).toArray := by
      rw [hz1, ← List.toArray_range, List.map_toArray]; simp only [repl, hzs, List.size_toArray]
    simp only [execOp, e1, Instr.buildSlice, Sem.run_bind, run_underlying hu, Result.andThen, sizeOf, typeInfo, program, hi, Sem.run, Sem.run_pure, hks', hs0', if_false, hz2, hz1]
    rw [hz1] at e2
    rw [e2, h3]
    simp [newRow, newObj, Sem.run_bind, Sem.run, Sem.run_pure, Result.andThen]
  · cases hp

/-- make([]T, l, c) -/
theorem mkS {T e s y : Nat} {x z : Operand} {kl kc : IntKind} {l c : Nat} {zl : List Value} (ho : ops[i]? = some ⟨some d, .makeSlice T x z, ty, pos, af, none⟩) (hp : apT P T = some (e, s, y)) (hz : zeroL P e = some zl)
    (hx : ev L x = some (.int kl l)) (hy : ev L z = some (.int kc c)) (hlc : l ≤ c) (hb : y * c ≤ 281474976710656 ∧ c ≤ 9223372036854775807) (hd : Nat.blt d n = true)
    (h : ∀ b, Sy n ((d, .slice (some ⟨b, 0, none⟩) l c) :: L) D ((b, cel e (repl c zl)) :: H) R K) : Sy n L D H R (stp P r ops i K) := fun a w ha hD hs => by
  obtain ⟨h1, _⟩ := run_mks hp hz hlc hb.1 hb.2 (kl := kl) (kc := kc) w
  refine stp_value ho (wanted_none _ rfl _) (v := .slice (some ⟨w.heap.size, 0, none⟩) l c) (w' := w.alloc (cel e (repl c zl))) ?_ (h _ _ _ (ha.put (by simpa using hd) _) hD (hs.alloc _))
  simp only [execOp, ha.reads _ _ hx, ha.reads _ _ hy, Sem.run_bind, h1, Result.andThen, Sem.run_pure]
/-- make([]T, 0, c), to be appended to -/
theorem mkO {T e s y : Nat} {x z : Operand} {kl kc : IntKind} {c : Nat} {zl : List Value} (ho : ops[i]? = some ⟨some d, .makeSlice T x z, ty, pos, af, none⟩) (hp : apT P T = some (e, s, y)) (hz : zeroL P e = some zl)
    (hx : ev L x = some (.int kl 0)) (hy : ev L z = some (.int kc c)) (hb : y * c ≤ 281474976710656 ∧ c ≤ 9223372036854775807) (hd : Nat.blt d n = true)
    (h : ∀ o : OSl e s [], o.here → Sy n ((d, o.fs) :: L) D (o.G ++ H) R K) : Sy n L D H R (stp P r ops i K) := fun a w ha hD hs => by
  obtain ⟨h1, h2⟩ := run_mks hp hz (Nat.zero_le c) hb.1 hb.2 (kl := kl) (kc := kc) w
  have h3 := h ⟨.slice (some ⟨w.heap.size, 0, none⟩) 0 c, [(w.heap.size, cel e (repl c zl))], by simp, .inr ⟨w.heap.size, c, repl c zl, rfl, by simp, by rw [← h2]; simp [repl], Nat.zero_le _, hb.2⟩⟩ ⟨_, _, rfl⟩
  refine stp_value ho (wanted_none _ rfl _) (v := .slice (some ⟨w.heap.size, 0, none⟩) 0 c) (w' := w.alloc (cel e (repl c zl))) ?_ (h3 _ _ (ha.put (by simpa using hd) _) hD (hs.alloc _))
  simp only [execOp, ha.reads _ _ hx, ha.reads _ _ hy, Sem.run_bind, Result.andThen, Sem.run_pure]
  rw [show (Instr.makeSlice T (.int kl 0) (.int kc c)).run P w = _ from h1]
end own
/-! ### joins -/
section join
variable {P : Program} {r : Option Nat} {n : Nat} {L : Slots} {D : List Deferred} {H : Heap} {R : Facts} {Q : Exit → Act → World → Prop}
/-- Ways that end normally meet at a head; the others go on as they are. -/
def JoinAt {ι : Type} (n : Nat) (D : List Deferred) (hd : ι → Head) (Q : Exit → Act → World → Prop) : Exit → Act → World → Prop
  | .normal, a, w => ∃ j, AtHead n D hd j a w
  | e, a, w => Q e a w
theorem sy_join {c : Code} {ι : Type} (hd : ι → Head) (h1 : Sy n L D H R (wpc P r c (JoinAt n D hd Q)))
    (h2 : ∀ j, Sy n (hd j).L D (hd j).H (hd j).R (Q .normal)) : Sy n L D H R (wpc P r c Q) := fun a w ha hD hs => by
  refine wpIn_mono (h1 a w ha hD hs) fun e a' w' he => ?_
  cases e
  case normal => obtain ⟨j, g1, g2, g3⟩ := he; exact h2 j a' w' g1 g2 g3
  all_goals exact he
theorem sy_jend {ι : Type} {hd : ι → Head} (j : ι) (hL : Sub (hd j).L L) (hH : ∀ w, St H R w → St (hd j).H (hd j).R w) :
    Sy n L D H R (JoinAt n D hd Q .normal) := fun a w ha hD hs => ⟨j, ha.sub hL.lk, hD, hH w hs⟩
theorem sy_jret {ι : Type} {hd : ι → Head} (h : Sy n L D H R (Q .ret)) : Sy n L D H R (JoinAt n D hd Q .ret) := h
theorem sy_jex {ι : Type} {hd : ι → Head} {i : Nat} (h : Sy n L D H R (Q (.exit i))) : Sy n L D H R (JoinAt n D hd Q (.exit i)) := h
end join
/-! ### fewer facts, in another order -/
class SubF (A B : Facts) : Prop where
  sub : ∀ f ∈ A, f ∈ B
instance (priority := high) SubF.refl (A : Facts) : SubF A A := ⟨fun _ h => h⟩
instance SubF.nil (B : Facts) : SubF [] B := ⟨fun _ h => by cases h⟩
instance SubF.cons (f : World → Prop) (A B : Facts) [m : MemF f B] [s : SubF A B] : SubF (f :: A) B := ⟨fun g h => by
  rcases List.mem_cons.1 h with h | h
  · rw [h]; exact m.mem
  · exact s.sub g h⟩
instance (priority := low) SubF.skip (f : World → Prop) (A B : Facts) [s : SubF A B] : SubF A (f :: B) := ⟨fun g h => List.mem_cons_of_mem _ (s.sub g h)⟩
theorem St.sub {H : Heap} {A B : Facts} {w : World} [s : SubF A B] (h : St H B w) : St H A w := St.facts h s.sub
/-! ### a slice of the call's own, laid open -/
theorem OSl.own {e sz : Nat} {rows : List (List Value)} (o : OSl e sz rows) (h : o.here) : ∃ b cap junk, o.fs = .slice (some ⟨b, 0, none⟩) rows.length cap ∧ o.G = [(b, cel e (rows.flatten ++ junk))] := by
  rcases o.is with ⟨_, h2, _⟩ | ⟨b, cap, junk, h1, h2, _⟩
  · obtain ⟨b, c, h3⟩ := h
    rw [h2] at h3; cases h3
  · exact ⟨b, cap, junk, h1, h2⟩
section bsl0
variable {P : Program} {r : Option Nat} {ops : Array Oper} {n : Nat} {L : Slots} {D : List Deferred} {H : Heap} {R : Facts} {K : Act → World → Prop}
  {i d : Nat} {ty : TypeId} {pos : String} {af : Array Edge}
theorem bsl0 {T e s : TypeId} (ho : ops[i]? = some ⟨some d, .buildSlice T 0 #[], ty, pos, af, none⟩) (hp : slE P T = some (e, s)) (hd : Nat.blt d n = true)
    (h : ∀ o : OSl e s [], o.here → Sy n ((d, o.fs) :: L) D (o.G ++ H) R K) : Sy n L D H R (stp P r ops i K) := fun a w ha hD hs => by
  unfold slE at hp
  split at hp
  · rename_i e' hu
    rw [Option.map_eq_some_iff] at hp
    obtain ⟨ie, hi, he⟩ := hp
    cases he
    refine stp_value ho (wanted_none _ rfl _) (v := .slice (some ⟨w.heap.size, 0, none⟩) 0 0) (w' := w.alloc (cel e [])) ?_
      (h ⟨.slice (some ⟨w.heap.size, 0, none⟩) 0 0, [(w.heap.size, cel e [])], by simp, .inr ⟨w.heap.size, 0, [], rfl, rfl, by simp, Nat.le_refl _, by omega⟩⟩ ⟨_, _, rfl⟩ _ _ (ha.put (by simpa using hd) _) hD (hs.alloc _))
    simp only [execOp, Instr.buildSlice, Sem.run_bind, run_underlying hu, Result.andThen, sizeOf, typeInfo, program, hi, Sem.run, Sem.run_pure]
    simp [newRow, newObj, Sem.run_bind, Sem.run, Sem.run_pure, Result.andThen, Instr.fill]
    rw [show Array.range 0 = (#[] : Array Nat) from Array.eq_empty_of_size_eq_zero (by simp)]
    simp
  · cases hp
end bsl0
/-! ### a slice that is asked for nil -/
section eqnil
variable {P : Program} {L : Slots} {d : Option Tmp} {ty : TypeId} {pos : String} {af : Array Edge} {g : Option (Nat × Bool)}
theorem isSl_und {P : Program} {T : Nat} (h : isSl P T = true) : ∃ e, P.underlying T = some (.slice e) := by
  unfold isSl at h
  split at h
  · exact ⟨_, by assumption⟩
  · cases h
theorem run_equal_nil {P : Program} {T : TypeId} (hT : isSl P T = true) (a : Option Addr) (n c m k : Nat) (w : World) : (Op.equal T (.slice a n c) (.slice none m k)).run P w = .ok a.isNone w := by
  obtain ⟨e, hu⟩ := isSl_und hT
  show (Op.equalIn (9999 + 1) T (.slice a n c) (.slice none m k)).run P w = _
  rw [Op.equalIn]
  cases a <;> simp [Sem.run_bind, run_underlying hu, Result.andThen, Sem.run_pure]
theorem PE.eqlNil {T U : TypeId} {x y : Operand} {a : Option Addr} {n c m k : Nat} (hT : isSl P T = true) (hx : ev L x = some (.slice a n c)) (hy : ev L y = some (.slice none m k)) : PE P L ⟨d, .binOp .eql T x y U, ty, pos, af, g⟩ (.bool a.isNone) := fun ρ hρ w => by
  have hg : ∀ w, (eqGuard .eql T x y (.slice a n c) (.slice none m k)).run P w = .ok () w := fun w => rfl
  have hb : binOp .eql T (.slice a n c) (.slice none m k) = (do pure (.bool (← Op.equal T (.slice a n c) (.slice none m k)))) := rfl
  simp only [execOp, hρ _ _ hx, hρ _ _ hy, Sem.run_bind, hg, hb, run_equal_nil hT, Result.andThen, Sem.run_pure]
theorem PE.neqNil {T U : TypeId} {x y : Operand} {a : Option Addr} {n c m k : Nat} (hT : isSl P T = true) (hx : ev L x = some (.slice a n c)) (hy : ev L y = some (.slice none m k)) : PE P L ⟨d, .binOp .neq T x y U, ty, pos, af, g⟩ (.bool (!a.isNone)) := fun ρ hρ w => by
  have hg : ∀ w, (eqGuard .neq T x y (.slice a n c) (.slice none m k)).run P w = .ok () w := fun w => rfl
  have hb : binOp .neq T (.slice a n c) (.slice none m k) = (do pure (.bool (!(← Op.equal T (.slice a n c) (.slice none m k))))) := rfl
  simp only [execOp, hρ _ _ hx, hρ _ _ hy, Sem.run_bind, hg, hb, run_equal_nil hT, Result.andThen, Sem.run_pure]
end eqnil
end Go.Proofs.Ytaldphhdkmchhaa
