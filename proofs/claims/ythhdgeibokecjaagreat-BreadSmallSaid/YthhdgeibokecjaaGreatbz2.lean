/- Walks of the functions of the program, and the laws that join them: what the last theorem of this claim needs, in order. -/
import Derived.Test.YthhdgeibokecjaaGreatbz1
namespace Go.Proofs.YthhdgeibokecjaaGreat
set_option linter.unusedSimpArgs false
set_option linter.unusedVariables false
open Go
class Pull (b : Nat) (o : outParam Obj) (H : Zj) (T : outParam Zj) : Prop where
  perm : H.Perm ((b, o) :: T)
instance Pull.head (b : Nat) (o : Obj) (H : Zj) : Pull b o ((b, o) :: H) H := ⟨.refl _⟩
instance (priority := low) Pull.cons (b : Nat) (o : Obj) (p : Nat × Obj) (H T : Zj) [m : Pull b o H T] : Pull b o (p :: H) (p :: T) := ⟨(m.perm.cons p).trans (.swap _ _ _)⟩
instance (priority := low) Pull.app (b : Nat) (o : Obj) (G H T : Zj) [m : Pull b o H T] : Pull b o (G ++ H) (G ++ T) := ⟨(List.Perm.append_left G m.perm).trans List.perm_middle⟩
theorem St.pull {H T : Zj} {R : Z9} {w : World} (b : Nat) {o : Obj} [m : Pull b o H T] (h : St H R w) : St ((b, o) :: T) R w := h.perm m.perm
theorem St.del {H T : Zj} {R : Z9} {w : World} (b : Nat) {o : Obj} [m : Pull b o H T] (h : St H R w) : St T R w := (h.perm m.perm).tail
theorem Z0X {n : Nat} {L : ZI} {D : List Deferred} {H T : Zj} {R : Z9} {X : Act → World → Prop} (b : Nat) {o : Obj} [m : Pull b o H T] (h : Sy n L D ((b, o) :: T) R X) : Sy n L D H R X := Sy.heap (fun _ hs => hs.pull b) h
theorem St.dropMid {A B C : Zj} {R : Z9} {w : World} (h : St (A ++ (B ++ C)) R w) : St (A ++ C) R w := St.drop (h.perm (Z0E A B C))
theorem Z2e (k : Nat) (z : List Value) : (List.replicate k z).flatten = Z2b k z := by
  apply List.ext_getElem?
  intro j
  unfold Z2b
  rcases Nat.eq_zero_or_pos z.length with h0 | h0
  · have hz : z = [] := List.eq_nil_of_length_eq_zero h0
    subst hz
    simp
  by_cases hj : j < k * z.length
  · have h1 : j / z.length < k := by rw [Nat.div_lt_iff_lt_mul h0]; exact hj
    have h2 : j % z.length < z.length := Nat.mod_lt _ h0
    have h3 := Z3Y (sz := z.length) (rows := List.replicate k z) (fun r hr => by rw [List.eq_of_mem_replicate hr]) (i := j / z.length) (j := j % z.length) (row := z) (x := z[j % z.length]) (by simp [h1]) (by simp [h2])
    rw [Nat.div_add_mod'] at h3
    rw [h3]
    simp [hj, h2]
  · have h1 : ((List.replicate k z).flatten)[j]? = none := List.getElem?_eq_none (by rw [Z09 (sz := z.length) (fun r hr => by rw [List.eq_of_mem_replicate hr]), List.length_replicate]; omega)
    rw [h1]
    symm
    rw [List.getElem?_eq_none_iff]
    simp only [List.length_map, List.length_range]
    omega
theorem Z4U : ∀ (l : List Int), (l.map fun z => [Value.int .i64 z]).flatten = ZT l
  | [] => rfl
  | x :: l => by simp only [List.map_cons, List.flatten_cons, Z4U l, ZT]; rfl
theorem St.intRows {b e : Nat} {l : List Int} {H : Zj} {R : Z9} {w : World} (h : St ((b, cel e (ZT l)) :: H) R w) : St H (RowsA (some ⟨b, 0, none⟩) 1 (l.map fun z => [.int .i64 z]) :: R) w :=
  St.rows (e := e) (rest := []) (by rw [Z4U, List.append_nil]; exact h) (by simp)
theorem OSl.freeze {e sz : Nat} {rows : List (List Value)} (o : OSl e sz rows) : ∃ a c, o.fs = .slice a rows.length c ∧ ∀ {H : Zj} {R : Z9} {w : World}, St (o.G ++ H) R w → St H (RowsA a sz rows :: R) w := by
  obtain ⟨fs, G, hl, his⟩ := o
  rcases his with ⟨rfl, rfl, rfl⟩ | ⟨b, cap, junk, rfl, rfl, _, _, _⟩
  · exact ⟨none, 0, rfl, fun {H R w} h => (St.also (H := H) (R := R) h (f := RowsA none sz []) (fun w' _ => fun i row hi => by simp at hi))⟩
  · exact ⟨_, cap, rfl, fun {H R w} h => St.rows (rest := junk) h hl⟩
theorem ZdS (n : Nat) (v : Value) : Z2b n [v] = List.replicate n v := by
  rw [← Z2e]
  induction n with
  | zero => rfl
  | succ n ih => rw [List.replicate_succ, List.flatten_cons, ih, List.replicate_succ]; rfl
theorem Z1k (n : Nat) : Z2b n [.int .i64 0] = ZT (List.replicate n 0) := by rw [ZdS, ZT, List.map_replicate]
theorem KV.get_put : ∀ (l : KV) (k k' : List Int) (v : Value), (l.put k v).get k' = bif decide (k = k') then some v else l.get k'
  | [], k, k', v => by
    by_cases h : k = k' <;> simp [KV.put, KV.get, h]
  | (a, u) :: l, k, k', v => by
    have ih := KV.get_put l k k' v
    unfold KV.put
    by_cases ha : a = k
    · subst ha
      simp only [decide_true, cond_true]
      by_cases h : a = k' <;> simp [KV.get, h]
    · simp only [ha, decide_false, cond_false]
      unfold KV.get at ih ⊢
      rw [List.find?_cons, List.find?_cons]
      by_cases h : a = k'
      · subst h
        have : ¬ k = a := fun e => ha e.symm
        simp [this]
      · simp only [h, decide_false]
        exact ih
theorem KV.put_mem : ∀ {l : KV} {k : List Int} {v : Value} {e : List Int × Value}, e ∈ l.put k v → e = (k, v) ∨ e ∈ l
  | [], k, v, e, h => by simp only [KV.put, List.mem_singleton] at h; exact .inl h
  | (a, u) :: l, k, v, e, h => by
    unfold KV.put at h
    cases hc : decide (a = k) <;> rw [hc] at h
    · rcases List.mem_cons.1 h with h | h
      · exact .inr (by simp [h])
      · rcases KV.put_mem h with h | h
        · exact .inl h
        · exact .inr (by simp [h])
    · rcases List.mem_cons.1 h with h | h
      · exact .inl h
      · exact .inr (by simp [h])
def zvl (P : Program) (T : Nat) : Option Value := (P.info? T).bind (·.zero)
theorem Z6g {P : Program} {T : Nat} {v : Value} (h : zvl P T = some v) (w : World) : (zeroValue T).run P w = .ok v w := by
  unfold zvl at h
  rw [Option.bind_eq_some_iff] at h
  obtain ⟨i, hi, hz⟩ := h
  simp [zeroValue, typeInfo, program, hi, hz, Sem.run_bind, Sem.run_pure, Sem.run, Result.andThen]
section scope
variable {P : Program} {b : Frame} {a : Act} {k : List Item} {cs : List Frame} {w : World} {Q : Exit → Act → World → Prop} {F : Fence} {m : Nat}
theorem Z18 {c : Code} : step P (lone (b.atR a (.code (.scope c) :: k)) cs w) = .next (lone (b.atR a (.code c :: .inScope c :: k)) cs w) :=
  step_lone_go (by simp [stepG, stepG.exec, Frame.atR])
theorem Z5Z {c : Code} : step P (lone (b.atR a (.inScope c :: k)) cs w) = .next (lone (b.atR a k) cs w) :=
  step_lone_go (by simp [stepG, stepG.exec, Frame.atR])
theorem Z8j {c : Code} (h : c.wpIn F m P (Exit.noGoto Q) a w) : (Code.scope c).wpIn F m P Q a w := by
  intro b k cs hro hb hr
  have h0 : (lone (b.atR a (.code (.scope c) :: k)) cs w).fenced P F := fenced_calm hb hr rfl
  obtain ⟨e, a₁, w₁, hq, harr⟩ := h b (.inScope c :: k) cs hro hb hr
  cases e with
  | normal => exact ⟨.normal, a₁, w₁, hq, .head h0 Z18 (StepsIn.trans harr (.one (fenced_calm hb hr rfl) Z5Z))⟩
  | exit id =>
    have hx : exitTo id (.inScope c :: k) = exitTo id k := by simp [exitTo]
    exact ⟨.exit id, a₁, w₁, hq, fun k' hk => .head h0 Z18 (harr.1 k' (by rw [hx]; exact hk)),
      fun hr' hk => let ⟨k₁, h1, h2⟩ := harr.2 hr' (by rw [hx]; exact hk); ⟨k₁, h1, .head h0 Z18 h2⟩⟩
  | goto l => exact hq.elim
  | ret => exact ⟨_, a₁, w₁, hq, .of_steps (.one h0 Z18) harr⟩
  | panic ch => exact ⟨_, a₁, w₁, hq, .of_steps (.one h0 Z18) harr⟩
  | outgrown => exact ⟨_, a₁, w₁, hq, .of_steps (.one h0 Z18) harr⟩
variable {r : Option Nat} {n : Nat} {L : ZI} {D : List Deferred} {H : Zj} {R : Z9}
theorem ZaL {c : Code} (h : Sy n L D H R (wpc P r c (Exit.noGoto Q))) : Sy n L D H R (wpc P r (.scope c) Q) := fun a w ha hd hs => Z8j (h a w ha hd hs)
end scope
section own
variable {P : Program} {r : Option Nat} {ops : Array Oper} {n : Nat} {L : ZI} {D : List Deferred} {H : Zj} {R : Z9} {K : Act → World → Prop}
  {i d : Nat} {ty : TypeId} {pos : String} {af : Array Edge}
theorem Zch (z : List Value) (n : Nat) : (madeCells z.toArray (n * z.length)).toList = Z2b n z := by
  simp [madeCells, Z2b]
theorem Z7b {T e s y : Nat} (hp : apT P T = some (e, s, y)) {zl : List Value} (hz : Z0n P e = some zl) {kl kc : IntKind} {l c : Nat} (hlc : l ≤ c) (hb : y * c ≤ 281474976710656) (h63 : c ≤ 9223372036854775807) (w : World) :
    (Instr.makeSlice T (.int kl l) (.int kc c)).run P w = .ok (.slice (some ⟨w.heap.size, 0, none⟩) l c) (w.alloc (cel e (Z2b c zl))) ∧ zl.length = s := by
  unfold apT at hp
  split at hp
  case h_2 => cases hp
  rename_i e' hu
  split at hp
  case h_2 => cases hp
  rename_i i hi
  split at hp
  case h_2 => cases hp
  rename_i z hzz
  cases hzs : Nat.beq z.cells.size i.size with
  | false => rw [hzs] at hp; cases hp
  | true =>
  rw [hzs, cond_true] at hp
  cases hp
  have hzs := Nat.eq_of_beq_eq_true hzs
  have hzl : z.cells.toList = zl := by
    have : Z0n P e = some z.cells.toList := by simp [Z0n, hi, hzz]
    rw [this] at hz; exact Option.some.inj hz
  have := run_make (P := P) w T e i z hu hi hzz kl kc l c (by omega) (by omega) (by omega) (by omega)
  refine ⟨?_, by rw [← hzl]; simpa using hzs⟩
  rw [this]
  simp only [Int.toNat_natCast]
  congr 2
  unfold cel
  congr 1
  apply Array.toList_inj.1
  rw [← Zch, ← hzl]
  simp [hzs]
theorem ZbA {T e j t : TypeId} {bb : Bool} {oj : Oper} {s k : Nat} {parts : List (Nat × Operand)} {vs : List (Nat × Value)} {z out : List Value}
    (ho : ops[i]? = some ⟨some d, .buildSlice T k parts.toArray, ty, pos, af, some (j, bb)⟩) (hj : ops[j]? = some oj) (ht : oj.dst = some t) (hb : lk L t = some (.bool bb)) (hp : slE P T = some (e, s)) (hz : Z0n P e = some z) (hzs : z.length = s) (hks : Nat.ble (k * s) 16777216 = true) (hs0 : Nat.blt 0 (k * s) = true)
    (hx : evp L parts = some vs) (hf : Z6Q (fun i => some (i * s, s)) (Z2b k z) vs = some out) (hd : Nat.blt d n = true)
    (h : ∀ b, Sy n ((d, .slice (some ⟨b, 0, none⟩) k k) :: L) D ((b, cel e out) :: H) R K) : Sy n L D H R (stp P r ops i K) := fun a w ha hD hs => by
  unfold slE at hp
  split at hp
  · rename_i e' hu
    rw [Option.map_eq_some_iff] at hp
    obtain ⟨ie, hi, he⟩ := hp
    cases he
    obtain ⟨zv, hz1, hz2⟩ := Z2u hz
    have h3 := Z61 _ _ _ _ hf
    have e1 : (parts.toArray.map fun (k, x) => (k, a.eval x)) = vs.toArray := by rw [List.map_toArray, Z5D ha.reads _ _ hx]
    have hks' : ¬ (k * ie.size > 2 ^ 24) := Nat.not_lt.2 (Nat.le_of_ble_eq_true hks)
    have hs0' : ¬ (k * ie.size = 0) := fun h0 => by rw [h0] at hs0; cases hs0
    refine ZN ho (by simp [Region.wanted, Z0f ha hj ht hb]) (v := .slice (some ⟨w.heap.size, 0, none⟩) k k) (w' := w.alloc (cel e out)) ?_ (h _ _ _ (ha.put (by simpa using hd) _) hD (hs.alloc _))
    have e2 : (Array.map (fun x => zv.cells[x % zv.cells.size]!) (Array.range (k * ie.size))) = (Z2b k z).toArray := by
      rw [hz1, ← List.toArray_range, List.map_toArray]; simp only [Z2b, hzs, List.size_toArray]
    simp only [execOp, e1, Instr.buildSlice, Sem.run_bind, run_underlying hu, Result.andThen, sizeOf, typeInfo, program, hi, Sem.run, Sem.run_pure, hks', hs0', if_false, hz2, hz1]
    rw [hz1] at e2
    rw [e2, h3]
    simp [newRow, newObj, Sem.run_bind, Sem.run, Sem.run_pure, Result.andThen]
  · cases hp
theorem mkS {T e s y : Nat} {x z : Operand} {kl kc : IntKind} {l c : Nat} {zl : List Value} (ho : ops[i]? = some ⟨some d, .makeSlice T x z, ty, pos, af, none⟩) (hp : apT P T = some (e, s, y)) (hz : Z0n P e = some zl)
    (hx : ev L x = some (.int kl l)) (hy : ev L z = some (.int kc c)) (hlc : l ≤ c) (hb : y * c ≤ 281474976710656 ∧ c ≤ 9223372036854775807) (hd : Nat.blt d n = true)
    (h : ∀ b, Sy n ((d, .slice (some ⟨b, 0, none⟩) l c) :: L) D ((b, cel e (Z2b c zl)) :: H) R K) : Sy n L D H R (stp P r ops i K) := fun a w ha hD hs => by
  obtain ⟨h1, _⟩ := Z7b hp hz hlc hb.1 hb.2 (kl := kl) (kc := kc) w
  refine ZN ho (Zx _ rfl _) (v := .slice (some ⟨w.heap.size, 0, none⟩) l c) (w' := w.alloc (cel e (Z2b c zl))) ?_ (h _ _ _ (ha.put (by simpa using hd) _) hD (hs.alloc _))
  simp only [execOp, ha.reads _ _ hx, ha.reads _ _ hy, Sem.run_bind, h1, Result.andThen, Sem.run_pure]
theorem mkO {T e s y : Nat} {x z : Operand} {kl kc : IntKind} {c : Nat} {zl : List Value} (ho : ops[i]? = some ⟨some d, .makeSlice T x z, ty, pos, af, none⟩) (hp : apT P T = some (e, s, y)) (hz : Z0n P e = some zl)
    (hx : ev L x = some (.int kl 0)) (hy : ev L z = some (.int kc c)) (hb : y * c ≤ 281474976710656 ∧ c ≤ 9223372036854775807) (hd : Nat.blt d n = true)
    (h : ∀ o : OSl e s [], o.here → Sy n ((d, o.fs) :: L) D (o.G ++ H) R K) : Sy n L D H R (stp P r ops i K) := fun a w ha hD hs => by
  obtain ⟨h1, h2⟩ := Z7b hp hz (Nat.zero_le c) hb.1 hb.2 (kl := kl) (kc := kc) w
  have h3 := h ⟨.slice (some ⟨w.heap.size, 0, none⟩) 0 c, [(w.heap.size, cel e (Z2b c zl))], by simp, .inr ⟨w.heap.size, c, Z2b c zl, rfl, by simp, by rw [← h2]; simp [Z2b], Nat.zero_le _, hb.2⟩⟩ ⟨_, _, rfl⟩
  refine ZN ho (Zx _ rfl _) (v := .slice (some ⟨w.heap.size, 0, none⟩) 0 c) (w' := w.alloc (cel e (Z2b c zl))) ?_ (h3 _ _ (ha.put (by simpa using hd) _) hD (hs.alloc _))
  simp only [execOp, ha.reads _ _ hx, ha.reads _ _ hy, Sem.run_bind, Result.andThen, Sem.run_pure]
  rw [show (Instr.makeSlice T (.int kl 0) (.int kc c)).run P w = _ from h1]
end own
section join
variable {P : Program} {r : Option Nat} {n : Nat} {L : ZI} {D : List Deferred} {H : Zj} {R : Z9} {Q : Exit → Act → World → Prop}
def Zbu {ι : Type} (n : Nat) (D : List Deferred) (hd : ι → Head) (Q : Exit → Act → World → Prop) : Exit → Act → World → Prop
  | .normal, a, w => ∃ j, Z52 n D hd j a w
  | e, a, w => Q e a w
theorem Z0I {c : Code} {ι : Type} (hd : ι → Head) (h1 : Sy n L D H R (wpc P r c (Zbu n D hd Q)))
    (h2 : ∀ j, Sy n (hd j).L D (hd j).H (hd j).R (Q .normal)) : Sy n L D H R (wpc P r c Q) := fun a w ha hD hs => by
  refine wpIn_mono (h1 a w ha hD hs) fun e a' w' he => ?_
  cases e
  case normal => obtain ⟨j, g1, g2, g3⟩ := he; exact h2 j a' w' g1 g2 g3
  all_goals exact he
theorem ZG {ι : Type} {hd : ι → Head} (j : ι) (hL : Sub (hd j).L L) (hH : ∀ w, St H R w → St (hd j).H (hd j).R w) :
    Sy n L D H R (Zbu n D hd Q .normal) := fun a w ha hD hs => ⟨j, ha.sub hL.lk, hD, hH w hs⟩
end join
class SubF (A B : Z9) : Prop where
  sub : ∀ f ∈ A, f ∈ B
instance (priority := high) SubF.refl (A : Z9) : SubF A A := ⟨fun _ h => h⟩
instance SubF.nil (B : Z9) : SubF [] B := ⟨fun _ h => by cases h⟩
instance SubF.cons (f : World → Prop) (A B : Z9) [m : MemF f B] [s : SubF A B] : SubF (f :: A) B := ⟨fun g h => by
  rcases List.mem_cons.1 h with h | h
  · rw [h]; exact m.mem
  · exact s.sub g h⟩
instance (priority := low) SubF.skip (f : World → Prop) (A B : Z9) [s : SubF A B] : SubF A (f :: B) := ⟨fun g h => List.mem_cons_of_mem _ (s.sub g h)⟩
theorem St.sub {H : Zj} {A B : Z9} {w : World} [s : SubF A B] (h : St H B w) : St H A w := St.facts h s.sub
class SupH (H' H : Zj) : Prop where
  sup : ∃ T, H = T ++ H'
instance (priority := high) SupH.refl (H : Zj) : SupH H H := ⟨⟨[], rfl⟩⟩
instance SupH.cons (p : Nat × Obj) (H' H : Zj) [s : SupH H' H] : SupH H' (p :: H) := ⟨by obtain ⟨T, h⟩ := s.sup; exact ⟨p :: T, by rw [h]; rfl⟩⟩
instance SupH.app (G H' H : Zj) [s : SupH H' H] : SupH H' (G ++ H) := ⟨by obtain ⟨T, h⟩ := s.sup; exact ⟨G ++ T, by rw [h, List.append_assoc]⟩⟩
theorem drp {H H' : Zj} {A B : Z9} [s : SupH H' H] [f : SubF A B] : ∀ w, St H B w → St H' A w := fun w h => by
  obtain ⟨T, e⟩ := s.sup
  rw [e] at h
  exact St.sub (St.drop h)
theorem OSl.own {e sz : Nat} {rows : List (List Value)} (o : OSl e sz rows) (h : o.here) : ∃ b cap junk, o.fs = .slice (some ⟨b, 0, none⟩) rows.length cap ∧ o.G = [(b, cel e (rows.flatten ++ junk))] := by
  rcases o.is with ⟨_, h2, _⟩ | ⟨b, cap, junk, h1, h2, _⟩
  · obtain ⟨b, c, h3⟩ := h
    rw [h2] at h3; cases h3
  · exact ⟨b, cap, junk, h1, h2⟩
section Zdg
variable {P : Program} {r : Option Nat} {ops : Array Oper} {n : Nat} {L : ZI} {D : List Deferred} {H : Zj} {R : Z9} {K : Act → World → Prop}
  {i d : Nat} {ty : TypeId} {pos : String} {af : Array Edge}
theorem Zdg {T e s : TypeId} (ho : ops[i]? = some ⟨some d, .buildSlice T 0 #[], ty, pos, af, none⟩) (hp : slE P T = some (e, s)) (hd : Nat.blt d n = true)
    (h : ∀ o : OSl e s [], o.here → Sy n ((d, o.fs) :: L) D (o.G ++ H) R K) : Sy n L D H R (stp P r ops i K) := fun a w ha hD hs => by
  unfold slE at hp
  split at hp
  · rename_i e' hu
    rw [Option.map_eq_some_iff] at hp
    obtain ⟨ie, hi, he⟩ := hp
    cases he
    refine ZN ho (Zx _ rfl _) (v := .slice (some ⟨w.heap.size, 0, none⟩) 0 0) (w' := w.alloc (cel e [])) ?_
      (h ⟨.slice (some ⟨w.heap.size, 0, none⟩) 0 0, [(w.heap.size, cel e [])], by simp, .inr ⟨w.heap.size, 0, [], rfl, rfl, by simp, Nat.le_refl _, by omega⟩⟩ ⟨_, _, rfl⟩ _ _ (ha.put (by simpa using hd) _) hD (hs.alloc _))
    simp only [execOp, Instr.buildSlice, Sem.run_bind, run_underlying hu, Result.andThen, sizeOf, typeInfo, program, hi, Sem.run, Sem.run_pure]
    simp [newRow, newObj, Sem.run_bind, Sem.run, Sem.run_pure, Result.andThen, Instr.fill]
    rw [show Array.range 0 = (#[] : Array Nat) from Array.eq_empty_of_size_eq_zero (by simp)]
    simp
  · cases hp
end Zdg
section eqnil
variable {P : Program} {L : ZI} {d : Option Tmp} {ty : TypeId} {pos : String} {af : Array Edge} {g : Option (Nat × Bool)}
theorem ZaB {P : Program} {T : Nat} (h : Z6N P T = true) : ∃ e, P.underlying T = some (.slice e) := by
  unfold Z6N at h
  split at h
  · exact ⟨_, by assumption⟩
  · cases h
theorem Z5I {P : Program} {T : TypeId} (hT : Z6N P T = true) (a : Option Addr) (n c m k : Nat) (w : World) : (Op.equal T (.slice a n c) (.slice none m k)).run P w = .ok a.isNone w := by
  obtain ⟨e, hu⟩ := ZaB hT
  show (Op.equalIn (9999 + 1) T (.slice a n c) (.slice none m k)).run P w = _
  rw [Op.equalIn]
  cases a <;> simp [Sem.run_bind, run_underlying hu, Result.andThen, Sem.run_pure]
theorem PE.eqlNil {T U : TypeId} {x y : Operand} {a : Option Addr} {n c m k : Nat} (hT : Z6N P T = true) (hx : ev L x = some (.slice a n c)) (hy : ev L y = some (.slice none m k)) : PE P L ⟨d, .binOp .eql T x y U, ty, pos, af, g⟩ (.bool a.isNone) := fun ρ hρ w => by
  have hg : ∀ w, (eqGuard .eql T x y (.slice a n c) (.slice none m k)).run P w = .ok () w := fun w => rfl
  have hb : binOp .eql T (.slice a n c) (.slice none m k) = (do pure (.bool (← Op.equal T (.slice a n c) (.slice none m k)))) := rfl
  simp only [execOp, hρ _ _ hx, hρ _ _ hy, Sem.run_bind, hg, hb, Z5I hT, Result.andThen, Sem.run_pure]
end eqnil
section pe
variable {P : Program} {L : ZI} {d : Option Tmp} {ty : TypeId} {pos : String} {af : Array Edge} {g : Option (Nat × Bool)}
theorem Zcp {P : Program} {T m n : Nat} (h : arN P T = some (m, n)) : ∃ e i, P.underlying T = some (.array m e) ∧ P.info? e = some i ∧ i.size = n := by
  unfold arN at h
  split at h
  · rename_i k e hu
    rw [Option.map_eq_some_iff] at h
    obtain ⟨i, hi, he⟩ := h
    cases he
    exact ⟨e, i, hu, hi, rfl⟩
  · cases h
theorem PE.slArr {T m n b off : Nat} {x : Operand} (hT : arN P T = some (m, n)) (hx : ev L x = some (.pointer (some ⟨b, off, none⟩))) :
    PE P L ⟨d, .slice T x none none none, ty, pos, af, g⟩ (.slice (some ⟨b, off, none⟩) m m) := fun ρ hρ w => by
  obtain ⟨e, i, hu, hi, rfl⟩ := Zcp hT
  have ha : (⟨b, off, none⟩ : Addr).add (0 * i.size) = ⟨b, off, none⟩ := by rw [Z0Y]; simp
  simp only [execOp, hρ _ _ hx, Option.map_none, Instr.sliceAt, Sem.run_bind, run_underlying hu, Result.andThen, Instr.sureAddr, Sem.run_pure, Instr.sliceBounds, sizeOf, typeInfo, program, hi, Sem.run]
  rw [ha]
  by_cases h : m = 0 <;> simp [h]
end pe
section steps
variable {P : Program} {r : Option Nat} {ops : Array Oper} {n : Nat} {L : ZI} {D : List Deferred} {H : Zj} {R : Z9} {K : Act → World → Prop}
  {i d : Nat} {ty : TypeId} {pos : String} {af : Array Edge}
theorem Z60 {P : Program} {T e s : Nat} (h : slE P T = some (e, s)) : ∃ i, P.underlying T = some (.slice e) ∧ P.info? e = some i ∧ i.size = s := by
  unfold slE at h
  split at h
  · rename_i e' hu
    rw [Option.map_eq_some_iff] at h
    obtain ⟨i, hi, he⟩ := h
    cases he
    exact ⟨i, hu, hi, rfl⟩
  · cases h
theorem Z58 {P : Program} {b e : Nat} {l vs : List Value} (h1 : vs.all (·.oneCell') = true) (hb : vs.length ≤ l.length) {w : World} (h : w.heap[b]? = some (cel e l)) :
    (storeCells ⟨b, 0, none⟩ vs).run P w = .ok () { w with heap := w.heap.setIfInBounds b (cel e (spl l 0 vs)) } := by
  have := run_storeCells_at (P := P) b 0 e vs 0 l.toArray w h (by simpa using hb) (fun x hx => List.all_eq_true.1 h1 x hx)
  rw [Z1y h] at this
  simpa [spl] using this
theorem cpy {T T2 e s : Nat} {x y : Operand} {b bs os dl dc sl sc e2 : Nat} {l : List Value} (cs : List Value) {H' : Zj}
    (ho : ops[i]? = some ⟨some d, .call { callee := .builtin .copy, args := #[x, y], argTypes := #[T, T2] }, ty, pos, af, none⟩) (hT : slE P T = some (e, s))
    (hx : ev L x = some (.slice (some ⟨b, 0, none⟩) dl dc)) (hy : ev L y = some (.slice (some ⟨bs, os, none⟩) sl sc)) (hn : cs.length = Nat.min sl dl * s)
    (hsrc : ∀ w, St H R w → ∀ j v, cs[j]? = some v → w.cell? ⟨bs, os + j, none⟩ = some v) (h1 : cs.all (·.oneCell') = true) (hb : cs.length ≤ l.length) (hd : Nat.blt d n = true)
    [m : Mem1 b (cel e2 l) H] [rp : Rep [(b, cel e2 l)] [(b, cel e2 (spl l 0 cs))] H H']
    (h : Sy n ((d, .int .i64 (Nat.min sl dl : Nat)) :: L) D H' R K) : Sy n L D H R (stp P r ops i K) := fun a w ha hD hs => by
  obtain ⟨ie, hu, hi, rfl⟩ := Z60 hT
  have hl := run_loadCells_list (P := P) w ⟨bs, os, none⟩ cs (fun j v hj => by rw [Z0Y]; exact hsrc w hs j v hj)
  have hst := Z58 (P := P) (e := e2) h1 hb (hs.held _ m.mem)
  refine ZN ho (Zx _ rfl _) (v := .int .i64 (Nat.min sl dl : Nat)) (w' := { w with heap := w.heap.setIfInBounds b (cel e2 (spl l 0 cs)) }) ?_
    (h _ _ (ha.put (by simpa using hd) _) hD (hs.rep (F := [(b, cel e2 l)]) (F' := [(b, cel e2 (spl l 0 cs))]) fun T hT => St.set hT))
  simp only [execOp, resolve, invoke, builtin, Sem.run_bind, Sem.run_pure, Result.andThen, List.map_toArray, List.map_cons, List.map_nil, ha.reads _ _ hx, ha.reads _ _ hy]
  have e1 : (Builtin.copy_ #[T, T2] ty #[.slice (some ⟨b, 0, none⟩) dl dc, .slice (some ⟨bs, os, none⟩) sl sc]).run P w = .ok (goInt (Nat.min sl dl : Nat)) { w with heap := w.heap.setIfInBounds b (cel e2 (spl l 0 cs)) } := by
    simp [Builtin.copy_, run_underlying hu, Builtin.lenOf, Builtin.firstCells, sizeOf, typeInfo, hi, ← hn, hl, hst]
  rw [e1]
  rfl
theorem ZfB {T e s : Nat} {x : Operand} {m c : Nat} {dd : Option Nat} (ho : ops[i]? = some ⟨dd, .call { callee := .builtin .clear, args := #[x], argTypes := #[T] }, ty, pos, af, none⟩) (hdd : dd = none) (hT : slE P T = some (e, s))
    (hx : ev L x = some (.slice none m c)) (h : Sy n L D H R K) : Sy n L D H R (stp P r ops i K) := fun a w ha hD hs => by
  subst hdd
  obtain ⟨ie, hu, _, _⟩ := Z60 hT
  refine ZN ho (Zx _ rfl _) (v := .tuple #[]) (w' := w) ?_ (h _ _ (ha.putNone _) hD hs)
  simp only [execOp, resolve, invoke, builtin, Sem.run_bind, Sem.run_pure, Result.andThen, List.map_toArray, List.map_cons, List.map_nil, ha.reads _ _ hx]
  have e2 : (Builtin.clear_ #[T] ty #[.slice none m c]).run P w = .ok (.tuple #[]) w := by simp [Builtin.clear_, run_underlying hu]
  rw [e2]
theorem ZfM {T e s : Nat} {x : Operand} {b k c e2 : Nat} {l z : List Value} {H' : Zj} {dd : Option Nat} (ho : ops[i]? = some ⟨dd, .call { callee := .builtin .clear, args := #[x], argTypes := #[T] }, ty, pos, af, none⟩) (hdd : dd = none) (hT : slE P T = some (e, s))
    (hz : Z0n P e = some z) (hzs : z.length = s) (hz1 : z.all (·.oneCell') = true) (hx : ev L x = some (.slice (some ⟨b, 0, none⟩) k c)) (hb : k * s ≤ l.length)
    [m : Mem1 b (cel e2 l) H] [rp : Rep [(b, cel e2 l)] [(b, cel e2 (spl l 0 (Z2b k z)))] H H'] (h : Sy n L D H' R K) : Sy n L D H R (stp P r ops i K) := fun a w ha hD hs => by
  subst hdd
  obtain ⟨ie, hu, hi, rfl⟩ := Z60 hT
  obtain ⟨zv, hzv1, hzv2⟩ := Z2u hz
  have hlz : ∀ r ∈ List.replicate k z, r.length = ie.size := fun r hr => by rw [(List.mem_replicate.1 hr).2]; exact hzs
  have hr : (Z2b k z).length = k * ie.size := by rw [← Z2e, Z09 hlz]; simp
  have hst := Z58 (P := P) (e := e2) (l := l) (vs := Z2b k z) (by
    rw [← Z2e]
    refine List.all_eq_true.2 fun v hv => ?_
    obtain ⟨q, hq, hvq⟩ := List.mem_flatten.1 hv
    rw [(List.mem_replicate.1 hq).2] at hvq
    exact List.all_eq_true.1 hz1 v hvq) (by rw [hr]; exact hb) (hs.held _ m.mem)
  have hzc : (Builtin.zeroCells zv.cells k).toList = Z2b k z := by rw [hzv1]; simp [Builtin.zeroCells, Z2b]
  refine ZN ho (Zx _ rfl _) (v := .tuple #[]) (w' := { w with heap := w.heap.setIfInBounds b (cel e2 (spl l 0 (Z2b k z))) }) ?_ (h _ _ (ha.putNone _) hD (hs.rep (F := [(b, cel e2 l)]) (F' := [(b, cel e2 (spl l 0 (Z2b k z)))]) fun T hT => St.set hT))
  simp only [execOp, resolve, invoke, builtin, Sem.run_bind, Sem.run_pure, Result.andThen, List.map_toArray, List.map_cons, List.map_nil, ha.reads _ _ hx]
  have e3 : (Builtin.clear_ #[T] ty #[.slice (some ⟨b, 0, none⟩) k c]).run P w = .ok (.tuple #[]) { w with heap := w.heap.setIfInBounds b (cel e2 (spl l 0 (Z2b k z))) } := by
    rcases Nat.eq_zero_or_pos k with h0 | h0
    · subst h0
      have h4 : spl l 0 (Z2b 0 z) = l := by simp [spl, Z2b]
      have h5 : w.heap.setIfInBounds b (cel e2 l) = w.heap := by
        apply Array.ext_getElem?
        intro j
        by_cases e : b = j
        · subst e
          have hlt : b < w.heap.size := hs.lt (Z75 m.mem)
          rw [Array.getElem?_setIfInBounds_self_of_lt hlt]; exact (hs.held _ m.mem).symm
        · rw [Array.getElem?_setIfInBounds_ne e]
      rw [h4, h5]
      simp [Builtin.clear_, run_underlying hu]
    · obtain ⟨q, rfl⟩ : ∃ q, k = q + 1 := ⟨k - 1, by omega⟩
      simp only [Builtin.clear_, Sem.run_bind, run_underlying hu, Result.andThen, hzv2, hzc, hst, Sem.run_pure, List.getElem?_toArray, List.getElem?_cons_zero]
  rw [e3]
end steps
def Z8G (b : Nat) (o : Obj) (R : Z9) : World → Prop := fun w => w.heap[b]? = some o ∧ ∀ f ∈ R, ∀ w', Keep [b] w w' → f w'
theorem St.lend {b : Nat} {o : Obj} {T : Zj} {R : Z9} {w : World} (h : St ((b, o) :: T) R w) : St T (Z8G b o R :: R) w where
  nd := (List.nodup_cons.1 h.nd).2
  held p hp := h.held p (by simp [hp])
  fact f hf w' k := by
    have hb : b ∉ ids T := (List.nodup_cons.1 h.nd).1
    have hlt : b < w.heap.size := h.lt (by simp)
    rcases List.mem_cons.1 hf with h1 | h1
    · subst h1
      refine ⟨(k.block b hlt hb).trans (h.held (b, o) (by simp)), fun g hg w'' k2 => ?_⟩
      exact h.fact g hg w'' ((k.mono (D' := ids ((b, o) :: T)) (fun i _ hi => by simp [hi])).trans (k2.mono (fun i _ hi => by simp at hi; simp [hi])))
    · exact h.fact f h1 w' (k.mono (fun i _ hi => by simp [hi]))
theorem St.unlend {b : Nat} {o : Obj} {T : Zj} {R R' : Z9} {w : World} (h : St T (Z8G b o R :: R') w) (hb : b ∉ ids T) : St ((b, o) :: T) R w where
  nd := List.nodup_cons.2 ⟨hb, h.nd⟩
  held p hp := by
    rcases List.mem_cons.1 hp with h1 | h1
    · subst h1; exact (h.now (f := Z8G b o R) (by simp)).1
    · exact h.held p h1
  fact f hf w' k := by
    have h0 := (h.now (f := Z8G b o R) (by simp)).1
    have hlt : b < w.heap.size := (Array.getElem?_eq_some_iff.1 h0).1
    have hlt' : b < w'.heap.size := Nat.lt_of_lt_of_le hlt k.size
    have k1 : Keep (ids T) w { w' with heap := w'.heap.setIfInBounds b o } := ⟨k.os, k.tape, k.output, by simpa using k.size, fun i hi hn => by
      show (w'.heap.setIfInBounds b o)[i]? = _
      by_cases e : b = i
      · subst e
        rw [Array.getElem?_setIfInBounds_self_of_lt hlt', h0]
      · rw [Array.getElem?_setIfInBounds_ne e]
        exact k.block i hi (by simp; exact ⟨fun h => e h.symm, hn⟩)⟩
    have h2 := h.fact (Z8G b o R) (by simp) _ k1
    refine h2.2 f hf w' ⟨rfl, rfl, rfl, by simp, fun i _ hn => ?_⟩
    show _ = (w'.heap.setIfInBounds b o)[i]?
    rw [Array.getElem?_setIfInBounds_ne (fun e => hn (by simp [e]))]
theorem Z4Z {b e sz : Nat} {rows : List (List Value)} {junk : List Value} {w : World} (h : w.heap[b]? = some (cel e (rows.flatten ++ junk))) (hs : ∀ r ∈ rows, r.length = sz) : RowsA (some ⟨b, 0, none⟩) sz rows w := fun i row hi => by
  refine ⟨hs row (List.mem_of_getElem? hi), b, 0, rfl, fun j x hx => ?_⟩
  rw [Nat.zero_add, Z2h h]
  have := Z3Y hs hi hx
  rw [List.getElem?_toArray, List.getElem?_append_left (List.getElem?_eq_some_iff.1 this).1]
  exact this
theorem FnV.lend {P : Program} {f : FuncId} {args : List Value} {v : Value} {b e sz : Nat} {rows : List (List Value)} {junk : List Value} {H T : Zj} {R : Z9} [pl : Pull b (cel e (rows.flatten ++ junk)) H T] (hs : ∀ r ∈ rows, r.length = sz)
    (h : ∀ B : World → Prop, FnV P f args T (RowsA (some ⟨b, 0, none⟩) sz rows :: B :: R) v) : FnV P f args H R v := fun w hw => by
  have h1 := hw.perm pl.perm
  have hb : b ∉ ids T := (List.nodup_cons.1 h1.nd).1
  have h3 : St T (RowsA (some ⟨b, 0, none⟩) sz rows :: Z8G b (cel e (rows.flatten ++ junk)) R :: R) w :=
    St.also h1.lend (fun w' hg => Z4Z (hg (Z8G b (cel e (rows.flatten ++ junk)) R) (by simp)).1 hs)
  refine CallsIn.mono (h _ w h3) ?_
  rintro e' w' ⟨u, H', R', ⟨rfl, rfl, rfl⟩, he, hs'⟩
  exact ⟨_, H, R, ⟨rfl, rfl, rfl⟩, he, (St.unlend hs'.ftail hb).perm pl.perm.symm⟩
theorem St.pullG {H : Zj} {R : Z9} {w : World} (F : Zj) {C : Zj → Zj} [r : RepF F H C] (h : St H R w) : St (F ++ C []) R w := by
  obtain ⟨T, h1, h2⟩ := r.rep
  exact h.perm (h1.trans (List.Perm.append_left F (h2 [])))
theorem Z8Q {P : Program} {k : IntKind} {i : Int} {y : Nat} {c : BoundsCode} (h : 0 ≤ i ∧ i ≤ y) (w : World) : (Instr.sliceBound (.int k i) y c).run P w = .ok i.toNat w := by
  unfold Instr.sliceBound
  simp only [asIntOf, Sem.run_bind, Sem.run_pure, Result.andThen]
  rw [if_pos h]; rfl
section pe
variable {P : Program} {L : ZI} {d : Option Tmp} {ty : TypeId} {pos : String} {af : Array Edge} {g : Option (Nat × Bool)}
end pe
section calls
variable {P : Program} {r : Option Nat} {ops : Array Oper} {n : Nat} {L : ZI} {D : List Deferred} {H : Zj} {R : Z9} {K : Act → World → Prop}
  {i : Nat} {ty : TypeId} {pos : String} {af : Array Edge}
end calls
theorem FnV.app {P : Program} {f : FuncId} {a : List Value} {G G2 H : Zj} {R : Z9} {v : Value} (h : FnV P f a ((G ++ G2) ++ H) R v) : FnV P f a (G ++ (G2 ++ H)) R v := by rw [← List.append_assoc]; exact h
theorem Yd.app {P : Program} {l : Nat} {a : List Value} {G G2 H : Zj} {R : Z9} {Q : Value → Zj → Z9 → Prop} (h : Yd P l a ((G ++ G2) ++ H) R Q) : Yd P l a (G ++ (G2 ++ H)) R Q := by rw [← List.append_assoc]; exact h
theorem Yd.mono {P : Program} {l : Nat} {a : List Value} {H : Zj} {R : Z9} {Q Q' : Value → Zj → Z9 → Prop} (h : Yd P l a H R Q) (hq : ∀ v H' R', Q v H' R' → Q' v H' R') : Yd P l a H R Q' := fun w hs => by
  obtain ⟨f, tm, asg, bo, h1, h2⟩ := h w hs
  exact ⟨f, tm, asg, bo, h1, RoundIn.mono h2 fun e w' ⟨v, H', R', q, he, hs'⟩ => ⟨v, H', R', hq _ _ _ q, he, hs'⟩⟩
section pe
variable {P : Program} {L : ZI} {d : Option Tmp} {ty : TypeId} {pos : String} {af : Array Edge} {g : Option (Nat × Bool)}
theorem PE.slLoA {T e s : Nat} {x z : Operand} {a : Option Addr} {len cap l : Nat} {k2 : IntKind} (hT : slE P T = some (e, s)) (hx : ev L x = some (.slice a len cap)) (hz : ev L z = some (.int k2 l)) (hl : l ≤ len) :
    PE P L ⟨d, .slice T x (some z) none none, ty, pos, af, g⟩ (.slice (if cap = l then a else a.map (·.add (l * s))) (len - l) (cap - l)) := fun ρ hρ w => by
  obtain ⟨i, hu, hi, rfl⟩ := Z60 hT
  have hb2 : ∀ c w, (Instr.sliceBound (.int k2 (l : Int)) len c).run P w = .ok l w := fun c w => by rw [Z8Q (by omega)]; simp
  simp only [execOp, hρ _ _ hx, hρ _ _ hz, Option.map_none, Option.map_some, Instr.sliceAt, Instr.slice, Sem.run_bind, run_underlying hu, Result.andThen, Sem.run_pure, Instr.sliceBounds, hb2, sizeOf, typeInfo, program, hi, Sem.run]
end pe
theorem Z8r {P : Program} {b e od : Nat} {l vs : List Value} (h1 : vs.all (·.oneCell') = true) (hb : od + vs.length ≤ l.length) {w : World} (h : w.heap[b]? = some (cel e l)) :
    (storeCells ⟨b, od, none⟩ vs).run P w = .ok () { w with heap := w.heap.setIfInBounds b (cel e (spl l od vs)) } := by
  have := run_storeCells_at (P := P) b od e vs 0 l.toArray w h (by simpa using hb) (fun x hx => List.all_eq_true.1 h1 x hx)
  rw [Z1y h] at this
  simpa [spl] using this
section steps
variable {P : Program} {r : Option Nat} {ops : Array Oper} {n : Nat} {L : ZI} {D : List Deferred} {H : Zj} {R : Z9} {K : Act → World → Prop}
  {i d : Nat} {ty : TypeId} {pos : String} {af : Array Edge}
end steps
section dag
variable {P : Program} {r : Option Nat} {ops : Array Oper} {bm : List Nat} {X : Act → World → Prop} {n : Nat} {L : ZI} {D : List Deferred} {H : Zj} {R : Z9} {p : Plan} {pend : Z4z}
end dag
section pe
variable {P : Program} {L : ZI} {d : Option Tmp} {ty : TypeId} {pos : String} {af : Array Edge} {g : Option (Nat × Bool)}
end pe
section steps
variable {P : Program} {r : Option Nat} {ops : Array Oper} {n : Nat} {L : ZI} {D : List Deferred} {H : Zj} {R : Z9} {K : Act → World → Prop}
  {i d : Nat} {ty : TypeId} {pos : String} {af : Array Edge}
end steps
def AllS : List Nat → (Nat → Prop) → Prop
  | [], _ => True
  | i :: l, p => p i ∧ AllS l p
theorem AllS.all {p : Nat → Prop} : ∀ {l : List Nat}, AllS l p → ∀ i ∈ l, p i
  | [], _, i, h => by cases h
  | j :: l, h, i, hi => by
    rcases List.mem_cons.1 hi with rfl | hi
    · exact h.1
    · exact AllS.all h.2 i hi
section free
variable {P : Program} {r : Option Nat} {ops : Array Oper} {n : Nat} {L : ZI} {D : List Deferred} {H : Zj} {R : Z9}
end free
def pvl (L : ZI) : Op → Option Value
  | .move x => ev L x
  | .assign x => ev L x
  | .pick c x y => match ev L c with
    | some (.bool b) => match ev L x with
      | some u => match ev L y with
        | some v => some (bif b then u else v)
        | none => none
      | none => none
    | _ => none
  | .extract x k => match ev L x with
    | some (.tuple l) => l.toList[k]?
    | _ => none
  | .unOp .not _ x => match ev L x with
    | some (.bool b) => some (.bool !b)
    | _ => none
  | .binOp .lss _ x y _ => match ev L x with
    | some (.int .i64 m) => match ev L y with
      | some (.int .i64 n) => some (.bool (decide (m < n)))
      | _ => none
    | _ => none
  | .binOp .leq _ x y _ => match ev L x with
    | some (.int .i64 m) => match ev L y with
      | some (.int .i64 n) => some (.bool (decide (m ≤ n)))
      | _ => none
    | _ => none
  | .binOp .gtr _ x y _ => match ev L x with
    | some (.int .i64 m) => match ev L y with
      | some (.int .i64 n) => some (.bool (decide (n < m)))
      | _ => none
    | _ => none
  | .binOp .geq _ x y _ => match ev L x with
    | some (.int .i64 m) => match ev L y with
      | some (.int .i64 n) => some (.bool (decide (n ≤ m)))
      | _ => none
    | _ => none
  | .binOp .eql _ x y _ => match ev L x with
    | some (.int .i64 m) => match ev L y with
      | some (.int .i64 n) => some (.bool (decide (m = n)))
      | _ => none
    | _ => none
  | .binOp .neq _ x y _ => match ev L x with
    | some (.int .i64 m) => match ev L y with
      | some (.int .i64 n) => some (.bool (decide (m ≠ n)))
      | _ => none
    | _ => none
  | _ => none
theorem Z7B {P : Program} {L : ZI} {o : Oper} {v : Value} (h : pvl L o.op = some v) : PE P L o v := by
  obtain ⟨d, op, ty, pos, af, g⟩ := o
  dsimp only at h
  unfold pvl at h
  split at h
  · exact PE.move h
  · exact PE.assign h
  · split at h
    · rename_i b hb
      split at h
      · rename_i u hu
        split at h
        · rename_i w hw
          obtain rfl := Option.some.inj h
          exact PE.pick hb hu hw
        · cases h
      · cases h
    · cases h
  · split at h
    · rename_i l hl
      exact PE.extract (l := l.toList) hl h
    · cases h
  · split at h
    · rename_i b hb
      obtain rfl := Option.some.inj h
      exact PE.not hb
    · cases h
  · split at h
    · rename_i m hm
      split at h
      · rename_i k hk
        obtain rfl := Option.some.inj h
        exact PE.lss hm hk
      · cases h
    · cases h
  · split at h
    · rename_i m hm
      split at h
      · rename_i k hk
        obtain rfl := Option.some.inj h
        exact PE.leq hm hk
      · cases h
    · cases h
  · split at h
    · rename_i m hm
      split at h
      · rename_i k hk
        obtain rfl := Option.some.inj h
        exact PE.gtr hm hk
      · cases h
    · cases h
  · split at h
    · rename_i m hm
      split at h
      · rename_i k hk
        obtain rfl := Option.some.inj h
        exact PE.geq hm hk
      · cases h
    · cases h
  · split at h
    · rename_i m hm
      split at h
      · rename_i k hk
        obtain rfl := Option.some.inj h
        exact PE.eql hm hk
      · cases h
    · cases h
  · split at h
    · rename_i m hm
      split at h
      · rename_i k hk
        obtain rfl := Option.some.inj h
        exact PE.neq hm hk
      · cases h
    · cases h
  · cases h
def gok (ops : Array Oper) (L : ZI) : Option (Nat × Bool) → Option Bool
  | none => some true
  | some (j, b) => match ops[j]? with
    | some oj => match oj.dst with
      | some t => match lk L t with
        | some (.bool c) => some (b == c)
        | _ => none
      | none => none
    | none => none
def prS (ops : Array Oper) (n : Nat) (L : ZI) (i : Nat) : Option ZI := match ops[i]? with
  | some o => match o.dst with
    | some d => bif Nat.blt d n then
        match gok ops L o.guard with
        | some true => match pvl L o.op with
          | some v => some ((d, v) :: L)
          | none => none
        | some false => some ((d, undef) :: L)
        | none => none
      else none
    | none => none
  | none => none
section ops
variable {P : Program} {r : Option Nat} {ops : Array Oper} {n : Nat} {L L' : ZI} {D : List Deferred} {H : Zj} {R : Z9} {K : Act → World → Prop}
  {bm : List Nat} {X : Act → World → Prop} {p p' : Plan} {pend : Z4z} {i : Nat}
theorem Z6u (h : prS ops n L i = some L') : ∃ o d, ops[i]? = some o ∧ o.dst = some d ∧ Nat.blt d n = true ∧
    ((∃ v, pvl L o.op = some v ∧ L' = (d, v) :: L ∧ (o.guard = none ∨ ∃ j b oj t, o.guard = some (j, b) ∧ ops[j]? = some oj ∧ oj.dst = some t ∧ lk L t = some (.bool b))) ∨
     (L' = (d, undef) :: L ∧ ∃ j b oj t c, o.guard = some (j, b) ∧ ops[j]? = some oj ∧ oj.dst = some t ∧ lk L t = some (.bool c) ∧ b = !c)) := by
  unfold prS at h
  split at h
  · rename_i o ho
    split at h
    · rename_i d hd
      cases hb : Nat.blt d n with
      | false => rw [hb] at h; cases h
      | true =>
        rw [hb, cond_true] at h
        refine ⟨o, d, ho, hd, hb, ?_⟩
        have hg : ∀ x, gok ops L o.guard = some x → (o.guard = none ∧ x = true) ∨ ∃ j b oj t c, o.guard = some (j, b) ∧ ops[j]? = some oj ∧ oj.dst = some t ∧ lk L t = some (.bool c) ∧ x = (b == c) := by
          intro x hx
          unfold gok at hx
          split at hx
          · rename_i h0; exact .inl ⟨h0, (Option.some.inj hx).symm⟩
          · rename_i j b h0
            split at hx
            · rename_i oj hj
              split at hx
              · rename_i t ht
                split at hx
                · rename_i c hc
                  exact .inr ⟨j, b, oj, t, c, h0, hj, ht, hc, (Option.some.inj hx).symm⟩
                · cases hx
              · cases hx
            · cases hx
        split at h
        · rename_i h0
          split at h
          · rename_i v hv
            refine .inl ⟨v, hv, (Option.some.inj h).symm, ?_⟩
            rcases hg _ h0 with ⟨h1, _⟩ | ⟨j, b, oj, t, c, h1, h2, h3, h4, h5⟩
            · exact .inl h1
            · obtain rfl := eq_of_beq h5.symm
              exact .inr ⟨j, b, oj, t, h1, h2, h3, h4⟩
          · cases h
        · rename_i h0
          refine .inr ⟨(Option.some.inj h).symm, ?_⟩
          rcases hg _ h0 with ⟨_, h1⟩ | ⟨j, b, oj, t, c, h1, h2, h3, h4, h5⟩
          · cases h1
          · exact ⟨j, b, oj, t, c, h1, h2, h3, h4, by cases b <;> cases c <;> first | rfl | cases h5⟩
        · cases h
    · cases h
  · cases h
theorem Zd5 (h : prS ops n L i = some L') (hk : Sy n L' D H R K) : Sy n L D H R (stp P r ops i K) := by
  obtain ⟨⟨dst, op, ty, pos, af, g⟩, d, ho, hd, hb, h1⟩ := Z6u h
  dsimp only at hd h1
  subst hd
  rcases h1 with ⟨v, hv, rfl, rfl | ⟨j, b, oj, t, rfl, hj, ht, hl⟩⟩ | ⟨rfl, j, b, oj, t, c, hg, hj, ht, hl, hbc⟩
  · exact sp ho (Z7B hv) hb hk
  · exact spG ho hj ht hl (Z7B hv) hb hk
  · exact spN ho hg hj ht hl hbc rfl hb hk
theorem Zea (h : prS ops n L i = some L') (hk : Sy n L' D H R (Dv P r ops bm X p pend)) : Sy n L D H R (Dv P r ops bm X (.tk i p) pend) := by
  obtain ⟨⟨dst, op, ty, pos, af, g⟩, d, ho, hd, hb, h1⟩ := Z6u h
  dsimp only at hd h1
  subst hd
  rcases h1 with ⟨v, hv, rfl, rfl | ⟨j, b, oj, t, rfl, hj, ht, hl⟩⟩ | ⟨rfl, j, b, oj, t, c, hg, hj, ht, hl, hbc⟩
  · exact tk ho (Z7B hv) hb hk
  · exact tkG ho hj ht hl (Z7B hv) hb hk
  · exact tkN ho hg hj ht hl hbc rfl hb hk
def prK (ops : Array Oper) (n : Nat) : Nat → List Nat → ZI → Option (List Nat × ZI)
  | 0, l, L => some (l, L)
  | _ + 1, [], _ => none
  | k + 1, i :: l, L => match prS ops n L i with
    | some L' => prK ops n k l L'
    | none => none
theorem pur (k : Nat) {l l' : List Nat} (h : prK ops n k l L = some (l', L')) (hk : Sy n L' D H R (Z5p P r ops X l')) : Sy n L D H R (Z5p P r ops X l) := by
  induction k generalizing l L with
  | zero =>
    simp only [prK, Option.some.injEq, Prod.mk.injEq] at h
    obtain ⟨rfl, rfl⟩ := h
    exact hk
  | succ k ih =>
    cases l with
    | nil => cases h
    | cons i l =>
      unfold prK at h
      split at h
      · rename_i L1 h1
        exact Zd5 h1 (ih h)
      · cases h
def prP (ops : Array Oper) (n : Nat) : Nat → Plan → ZI → Option (Plan × ZI)
  | 0, p, L => some (p, L)
  | k + 1, .tk i p, L => match prS ops n L i with
    | some L' => prP ops n k p L'
    | none => none
  | _ + 1, _, _ => none
theorem ZD (k : Nat) (h : prP ops n k p L = some (p', L')) (hk : Sy n L' D H R (Dv P r ops bm X p' pend)) : Sy n L D H R (Dv P r ops bm X p pend) := by
  induction k generalizing p L with
  | zero =>
    simp only [prP, Option.some.injEq, Prod.mk.injEq] at h
    obtain ⟨rfl, rfl⟩ := h
    exact hk
  | succ k ih =>
    cases p with
    | tk i p =>
      unfold prP at h
      split at h
      · rename_i L1 h1
        exact Zea h1 (ih h)
      · cases h
    | done => cases h
    | ld i p => cases h
    | big i p => cases h
    | any p => cases h
    | alt i p q => cases h
    | stop => cases h
theorem ZE {X : Act → World → Prop} (t : Nat) {b : Bool} (hb : lk L t = some (.bool b)) (h1 : b = true → Sy n ((t, .bool true) :: L) D H R X) (h0 : b = false → Sy n ((t, .bool false) :: L) D H R X) : Sy n L D H R X := Zg hb h1 h0
theorem bgT (h : Sy n L D H R (Dv P r ops bm X p (keepP bm i pend))) (hp : ∀ w, St H R w → Z0V bm i pend w := by intro w hs; repeat' first | exact trivial | constructor) : Sy n L D H R (fun a w => Z0V bm i pend w ∧ Dv P r ops bm X p (keepP bm i pend) a w) := bg hp h
theorem PE.fA {ty : TypeId} {pos : String} {af : Array Edge} {g : Option (Nat × Bool)} {d : Option Tmp} {T k o b off : Nat} {x : Operand} (ho : Z1n P T k = some o) (hx : ev L x = some (.pointer (some ⟨b, off, none⟩))) : PE P L ⟨d, .fieldAddr T x k, ty, pos, af, g⟩ (.pointer (some ⟨b, off + o, none⟩)) := PE.fieldAddr ho hx
end ops
theorem cS : (∀ (p : Prop) [Decidable p], (decide p = true) = p) ∧ (∀ (p : Prop) [Decidable p], (decide p = false) = ¬ p) ∧ (∀ a b : Bool, ((a && b) = true) = (a = true ∧ b = true)) ∧ (∀ a b : Bool, ((a || b) = true) = (a = true ∨ b = true)) ∧ (∀ b : Bool, ((!b) = true) = (b = false)) ∧ (∀ a b : Int, (¬ a ≤ b) = (b < a)) ∧ (∀ a b : Int, (¬ a < b) = (b ≤ a)) :=
  ⟨fun _ _ => decide_eq_true_eq, fun p _ => propext decide_eq_false_iff_not, fun a b => by simp, fun a b => by simp, fun b => by simp, fun a b => propext Int.not_le, fun a b => propext Int.not_lt⟩
def tks : Nat → Nat → Plan → Plan
  | _, 0, p => p
  | i, k + 1, p => .tk i (tks (i + 1) k p)
theorem idH {H : Zj} {R : Z9} : ∀ w, St H R w → St H R w := fun _ h => h
theorem dF {p : Prop} [i : Decidable p] (h : ¬ p) : decide p = false := decide_eq_false h
theorem dT {p : Prop} [i : Decidable p] (h : p) : decide p = true := decide_eq_true h
section steps
variable {P : Program} {r : Option Nat} {n : Nat} {L : ZI} {D : List Deferred} {H : Zj} {R : Z9} {Q : Exit → Act → World → Prop}
theorem Z06 {ι : Type} {inv : ι → Head} {j : ι} (hH : ∀ w, St H R w → St (inv j).H (inv j).R w) (hL : Sub (inv j).L L := by repeat' first | exact Sub.nil | apply Sub.cons | rfl | (simp [lk]; omega)) : Sy n L D H R (Z52 n D inv j) := Z0i hL hH
theorem Z0v {ι : Type} {inv : ι → Head} {μ : ι → Nat} {i : ι} (j : ι) (hm : μ j < μ i) (hH : ∀ w, St H R w → St (inv j).H (inv j).R w) (hL : Sub (inv j).L L := by repeat' first | exact Sub.nil | apply Sub.cons | rfl | (simp [lk]; omega)) : Sy n L D H R (Zaf n D inv μ i) := Zb j hm hL hH
theorem Z0l {ι : Type} {inv : ι → Head} {μ : ι → Nat} {i : ι} (j : ι) (hH : ∀ w, St H R w → St (inv j).H (inv j).R w) (hm : μ j < μ i := by dsimp only; omega) (hL : Sub (inv j).L L := by repeat' first | exact Sub.nil | apply Sub.cons | rfl | (simp [lk]; omega)) : Sy n L D H R (Zaf n D inv μ i) := Zb j hm hL hH
theorem Z5g {ι : Type} {hd : ι → Head} (j : ι) (hH : ∀ w, St H R w → St (hd j).H (hd j).R w) (hL : Sub (hd j).L L := by repeat' first | exact Sub.nil | apply Sub.cons | rfl | (simp [lk]; omega)) : Sy n L D H R (Zc5 n D hd .normal) := Z6 j hL hH
def rg : Nat → Nat → List Nat
  | _, 0 => []
  | i, k + 1 => i :: rg (i + 1) k
theorem sqt {id : Nat} {ops : Array Oper} {y : Code} (k : Nat) (hl : List.range ops.size = rg 0 k) (h : Sy n L D H R (Z5p P r ops (wpc P r y Q) (rg 0 k))) : Sy n L D H R (wpc P r (.seq (.region id ops false) y) Q) :=
  Z0 (Z1 _ hl h)
theorem sqr {id : Nat} {ops : Array Oper} (k : Nat) (hl : List.range ops.size = rg 0 k) (h : Sy n L D H R (Z5p P r ops (Q .normal) (rg 0 k))) : Sy n L D H R (wpc P r (.region id ops false) Q) := Z1 _ hl h
variable {fn : Func} {G : Value → Zj → Z9 → Prop} {H' : Zj} {R' : Z9}
theorem rtA {t : Nat} {v u : Value} (hr : fn.results = #[.tmp t]) (hv : lk L t = some v) (he : ZL [v] = u) (hq : G u H' R') (hs : ∀ w, St H R w → St H' R' w) : Sy n L [] H R (Ret P fn G .ret) := Z2 (vs := [v]) hr (.cons (RV.tmp hv) .nil) he hq hs
theorem rtB {t t2 : Nat} {v x u : Value} (hr : fn.results = #[.tmp t, .tmp t2]) (hv : lk L t = some v) (hx : lk L t2 = some x) (he : ZL [v, x] = u) (hq : G u H' R') (hs : ∀ w, St H R w → St H' R' w) : Sy n L [] H R (Ret P fn G .ret) := Z2 (vs := [v, x]) hr (.cons (RV.tmp hv) (.cons (RV.tmp hx) .nil)) he hq hs
end steps
theorem Zy : Tryz.prog.follows .mixedOrders = true := by kernel_rfl
end Go.Proofs.YthhdgeibokecjaaGreat
namespace Go.Proofs.YthhdgeibokecjaaGreat.Bd
set_option linter.unusedSimpArgs false
set_option linter.unusedVariables false
structure Rn where
  sacks : Int
  price : Int
  deriving DecidableEq, Repr
structure Sta where
  stock : Int
  short : Int
  dry : Int
  deriving DecidableEq, Repr
structure Twn where
  now : Sta
  holds : Int
  need : Int
  patience : Int
  run : Int
  good : Int
  bad : Int
  rot : Int
  rats : List Rn
  deriving DecidableEq, Repr
def Sta.right (t : Twn) (s : Sta) : Bool := (decide (0 ≤ s.stock) && decide (s.stock ≤ t.holds)) && (decide (0 ≤ s.short) && decide (s.short ≤ t.patience)) && (decide (0 ≤ s.dry) && decide (s.dry ≤ t.run))
def Z1t (t : Twn) (s : Sta) (q : Rn) : Int := s.stock - q.sacks - ((s.stock - q.sacks) * t.rot + 9) / 10
def Twn.next (t : Twn) (s : Sta) (q : Rn) (bad : Bool) : Sta :=
  ⟨min t.holds (Z1t t s q + bif bad then t.bad else t.good), bif decide (q.sacks < t.need) then s.short + 1 else 0, bif bad then s.dry + 1 else 0⟩
def Twn.can (t : Twn) (s : Sta) (q : Rn) : Bool := decide (q.sacks ≤ s.stock) && (!decide (q.sacks < t.need) || decide (s.short < t.patience))
def Z1w (l : List Rn) (i : Nat) : Bool := match l[i]?, l[i + 1]? with
  | some a, some b => decide (a.sacks ≤ b.sacks) || decide (b.price ≤ a.price)
  | _, _ => false
@[reducible] def inb (n lo hi : Int) : Bool := decide (lo ≤ n) && decide (n ≤ hi)
def Twn.check (t : Twn) : Int :=
  bif !(inb t.rats.length 1 4) then 2 else bif !([t.holds, t.need, t.good, t.bad].all fun n => inb n 0 30) then 3
  else bif !(inb t.patience 0 3) then 3 else bif !(inb t.run 0 3) then 3 else bif !(inb t.rot 0 5) then 3 else bif !(t.now.right t) then 3
  else bif !(t.rats.all fun q => inb q.sacks 0 30 && inb q.price 0 100) then 3 else bif decide (t.good < t.bad) then 4 else bif (List.range t.rats.length).any (Z1w t.rats) then 4 else 0
structure Twn.ok (t : Twn) : Prop where
  holds : 0 ≤ t.holds ∧ t.holds ≤ 30
  need : 0 ≤ t.need ∧ t.need ≤ 30
  good : 0 ≤ t.good ∧ t.good ≤ 30
  bad : 0 ≤ t.bad ∧ t.bad ≤ t.good
  patience : 0 ≤ t.patience ∧ t.patience ≤ 3
  run : 0 ≤ t.run ∧ t.run ≤ 3
  rot : 0 ≤ t.rot ∧ t.rot ≤ 5
  rats : ∀ q ∈ t.rats, 0 ≤ q.sacks ∧ q.sacks ≤ 30 ∧ 0 ≤ q.price ∧ q.price ≤ 100
  now : t.now.right t = true
  many : 1 ≤ t.rats.length ∧ t.rats.length ≤ 4
theorem right_iff {t : Twn} {s : Sta} : s.right t = true ↔ (0 ≤ s.stock ∧ s.stock ≤ t.holds) ∧ (0 ≤ s.short ∧ s.short ≤ t.patience) ∧ (0 ≤ s.dry ∧ s.dry ≤ t.run) := by
  simp [Sta.right, and_assoc]
theorem Zi {t : Twn} (h : t.check = 0) : t.ok ∧ ∀ i, Z1w t.rats i = false := by
  unfold Twn.check at h
  cases h1 : inb t.rats.length 1 4 <;> rw [h1] at h
  · cases h
  cases h2 : [t.holds, t.need, t.good, t.bad].all fun n => inb n 0 30 <;> rw [h2] at h
  · cases h
  cases h3 : inb t.patience 0 3 <;> rw [h3] at h
  · cases h
  cases h4 : inb t.run 0 3 <;> rw [h4] at h
  · cases h
  cases h5 : inb t.rot 0 5 <;> rw [h5] at h
  · cases h
  cases h6 : t.now.right t <;> rw [h6] at h
  · cases h
  cases h7 : t.rats.all fun q => inb q.sacks 0 30 && inb q.price 0 100 <;> rw [h7] at h
  · cases h
  cases h8 : decide (t.good < t.bad) <;> rw [h8] at h
  rotate_left
  · cases h
  cases h9 : (List.range t.rats.length).any (Z1w t.rats) <;> rw [h9] at h
  rotate_left
  · cases h
  simp only [inb, Bool.and_eq_true, decide_eq_true_eq, List.all_cons, List.all_nil, decide_eq_false_iff_not] at h1 h2 h3 h4 h5 h8
  refine ⟨⟨h2.1, h2.2.1, h2.2.2.1, ⟨h2.2.2.2.1.1, by omega⟩, h3, h4, h5, fun q hq => ?_, h6, by omega⟩, fun i => ?_⟩
  · have := List.all_eq_true.1 h7 q hq
    simp only [inb, Bool.and_eq_true, decide_eq_true_eq] at this
    omega
  · rcases Nat.lt_or_ge i t.rats.length with hi | hi
    · have := List.any_eq_false.1 h9 i (List.mem_range.2 hi)
      simpa using this
    · simp [Z1w, List.getElem?_eq_none hi]
theorem Z9d {x r : Int} (h0 : 0 ≤ x) (h1 : x ≤ 30) (h2 : 0 ≤ r) (h3 : r ≤ 5) : 0 ≤ x * r ∧ x * r ≤ 150 ∧ x * r ≤ x * 5 := by
  have a := Int.mul_nonneg h0 h2
  have b := Int.mul_le_mul_of_nonneg_left h3 h0
  omega
theorem Z7i {t : Twn} (ht : t.ok) {s : Sta} {q : Rn} (hs : s.right t = true) (hq : q ∈ t.rats) (hc : q.sacks ≤ s.stock) : 0 ≤ Z1t t s q := by
  have h1 := right_iff.1 hs
  have h2 := ht.rats q hq
  have h3 := ht.holds
  have h4 := Z9d (x := s.stock - q.sacks) (r := t.rot) (by omega) (by omega) ht.rot.1 ht.rot.2
  unfold Z1t
  by_cases h0 : s.stock - q.sacks = 0
  · rw [h0]; simp
  · omega
theorem ZB {t : Twn} (ht : t.ok) {s : Sta} {q : Rn} {bad : Bool} (hs : s.right t = true) (hq : q ∈ t.rats) (hc : t.can s q = true) (hb : bad = true → s.dry < t.run) : (t.next s q bad).right t = true := by
  have h1 := right_iff.1 hs
  have h2 := ht.rats q hq
  have h3 := ht.holds
  have h5 := ht.good
  have h6 := ht.bad
  have hc' : q.sacks ≤ s.stock ∧ (t.need ≤ q.sacks ∨ s.short < t.patience) := by
    simpa [Twn.can] using hc
  have h4 := Z7i ht hs hq hc'.1
  rw [right_iff]
  unfold Twn.next
  cases bad
  · simp only [cond_false]
    refine ⟨by omega, ?_, by omega⟩
    by_cases hn : q.sacks < t.need
    · simp only [hn, decide_true, cond_true]; omega
    · simp only [hn, decide_false, cond_false]; omega
  · have := hb rfl
    simp only [cond_true]
    refine ⟨by omega, ?_, by omega⟩
    by_cases hn : q.sacks < t.need
    · simp only [hn, decide_true, cond_true]; omega
    · simp only [hn, decide_false, cond_false]; omega
def Sta.ix (s : Sta) : Nat := s.stock.toNat * 16 + s.short.toNat * 4 + s.dry.toNat
def lat (y : List Int) (s : Sta) : Int := y.getD s.ix 0
theorem Z2A {t : Twn} {s : Sta} (ht : t.ok) (h : s.right t = true) : s.ix < 496 := by
  have h1 := right_iff.1 h
  have h2 := ht.holds
  have h3 := ht.patience
  have h4 := ht.run
  unfold Sta.ix; omega
theorem Z2n {t : Twn} {s u : Sta} (ht : t.ok) (h : s.right t = true) (k : u.right t = true) (e : s.ix = u.ix) : s = u := by
  have h1 := right_iff.1 h
  have k1 := right_iff.1 k
  have h3 := ht.patience
  have h4 := ht.run
  unfold Sta.ix at e
  obtain ⟨a, b, c⟩ := s
  obtain ⟨a', b', c'⟩ := u
  simp only at h1 k1 e
  simp only [Sta.mk.injEq]
  omega
theorem ZbP {y : List Int} {s : Sta} (h : s.ix < y.length) : y[s.ix]? = some (lat y s) := by simp [lat, h]
def Twn.keeps (t : Twn) (y : List Int) (s : Sta) (q : Rn) (bads : Int) : Bool :=
  t.can s q && decide (bads ≤ lat y (t.next s q false)) && (decide (bads = 0) || !decide (s.dry < t.run) || decide ((bif decide (bads = 1000000) then 1000000 else bads - 1) ≤ lat y (t.next s q true)))
def Twn.nst (t : Twn) : Nat := (t.holds.toNat + 1) * (t.patience.toNat + 1) * (t.run.toNat + 1)
def Z6l (t : Twn) (i : Nat) : Sta := ⟨(i / (t.run.toNat + 1) / (t.patience.toNat + 1) : Nat), (i / (t.run.toNat + 1) % (t.patience.toNat + 1) : Nat), (i % (t.run.toNat + 1) : Nat)⟩
def sts (t : Twn) : List Sta := (List.range t.nst).map (Z6l t)
theorem Z0s (t : Twn) : (sts t).length = t.nst := by simp [sts]
theorem Z5t {t : Twn} {i : Nat} (h : i < t.nst) : (sts t)[i]? = some (Z6l t i) := by simp [sts, h]
theorem Z41 {t : Twn} {a b c : Nat} (hb : b ≤ t.patience.toNat) (hc : c ≤ t.run.toNat) : Z6l t ((a * (t.patience.toNat + 1) + b) * (t.run.toNat + 1) + c) = ⟨a, b, c⟩ := by
  have e1 : ((a * (t.patience.toNat + 1) + b) * (t.run.toNat + 1) + c) / (t.run.toNat + 1) = a * (t.patience.toNat + 1) + b := by
    rw [Nat.mul_comm, Nat.mul_add_div (by omega), Nat.div_eq_of_lt (by omega), Nat.add_zero]
  have e2 : ((a * (t.patience.toNat + 1) + b) * (t.run.toNat + 1) + c) % (t.run.toNat + 1) = c := by
    rw [Nat.mul_comm, Nat.mul_add_mod, Nat.mod_eq_of_lt (by omega)]
  have e3 : (a * (t.patience.toNat + 1) + b) / (t.patience.toNat + 1) = a := by
    rw [Nat.mul_comm, Nat.mul_add_div (by omega), Nat.div_eq_of_lt (by omega), Nat.add_zero]
  have e4 : (a * (t.patience.toNat + 1) + b) % (t.patience.toNat + 1) = b := by
    rw [Nat.mul_comm, Nat.mul_add_mod, Nat.mod_eq_of_lt (by omega)]
  unfold Z6l
  rw [e1, e2, e3, e4]
theorem Z6f {t : Twn} {a b c : Nat} (ha : a ≤ t.holds.toNat) (hb : b ≤ t.patience.toNat) (hc : c ≤ t.run.toNat) : (a * (t.patience.toNat + 1) + b) * (t.run.toNat + 1) + c < t.nst := by
  have h1 : a * (t.patience.toNat + 1) + b + 1 ≤ (t.holds.toNat + 1) * (t.patience.toNat + 1) := by
    have := Nat.mul_le_mul_right (t.patience.toNat + 1) ha
    rw [Nat.add_mul]; omega
  have h2 := Nat.mul_le_mul_right (t.run.toNat + 1) h1
  unfold Twn.nst
  rw [Nat.add_mul] at h2
  omega
theorem Zv {t : Twn} (ht : t.ok) {s : Sta} (h : s ∈ sts t) : s.right t = true := by
  obtain ⟨i, hi, rfl⟩ := List.mem_map.1 h
  have hi' := List.mem_range.1 hi
  unfold Twn.nst at hi'
  have h1 := ht.holds
  have h2 := ht.patience
  have h3 := ht.run
  have a1 := Nat.mod_lt i (show 0 < t.run.toNat + 1 by omega)
  have a2 := Nat.mod_lt (i / (t.run.toNat + 1)) (show 0 < t.patience.toNat + 1 by omega)
  have a3 : i / (t.run.toNat + 1) / (t.patience.toNat + 1) < t.holds.toNat + 1 := by
    rw [Nat.div_lt_iff_lt_mul (by omega), Nat.div_lt_iff_lt_mul (by omega)]; exact hi'
  rw [right_iff]
  unfold Z6l
  simp only
  generalize i / (t.run.toNat + 1) / (t.patience.toNat + 1) = x at *
  generalize i / (t.run.toNat + 1) % (t.patience.toNat + 1) = x2 at *
  generalize i % (t.run.toNat + 1) = x3 at *
  omega
theorem ZW {t : Twn} {s : Sta} (h : s.right t = true) : s ∈ sts t := by
  have h1 := right_iff.1 h
  have h2 := Z6f (t := t) (a := s.stock.toNat) (b := s.short.toNat) (c := s.dry.toNat) (by omega) (by omega) (by omega)
  have h3 := Z5t h2
  rw [Z41 (by omega) (by omega)] at h3
  have := List.mem_of_getElem? h3
  obtain ⟨a, b, c⟩ := s
  simp only at h1 this
  rwa [Int.toNat_of_nonneg h1.1.1, Int.toNat_of_nonneg h1.2.1.1, Int.toNat_of_nonneg h1.2.2.1] at this
open Go
theorem ZF : Z5Y Tryz.prog 24 = some 3 := by kernel_rfl
theorem Zd : Z5Y Tryz.prog 27 = some 11 := by kernel_rfl
theorem Z2a : cal Tryz.prog 75 = true := by kernel_rfl
theorem ZbO : cal Tryz.prog 77 = true := by kernel_rfl
theorem Zcs : cal Tryz.prog 82 = true := by kernel_rfl
theorem Z2O : Z1c Tryz.prog 24 = some 3 := by kernel_rfl
theorem cn3 : Z1c Tryz.prog 3 = some 1 := by kernel_rfl
theorem Z0N : elN Tryz.prog 22 = some 1 := by kernel_rfl
theorem Z8K : elN Tryz.prog 25 = some 2 := by kernel_rfl
theorem Z1B : Z1n Tryz.prog 24 0 = some 0 := by kernel_rfl
theorem Z1h : Z1n Tryz.prog 24 1 = some 1 := by kernel_rfl
theorem Z1I : Z1n Tryz.prog 24 2 = some 2 := by kernel_rfl
theorem Z1N : Z1n Tryz.prog 27 1 = some 3 := by kernel_rfl
theorem Z3H : Z1n Tryz.prog 27 2 = some 4 := by kernel_rfl
theorem Z22 : Z1n Tryz.prog 27 3 = some 5 := by kernel_rfl
theorem Z25 : Z1n Tryz.prog 27 4 = some 6 := by kernel_rfl
theorem Z2Y : Z1n Tryz.prog 27 5 = some 7 := by kernel_rfl
theorem Z3p : Z1n Tryz.prog 27 6 = some 8 := by kernel_rfl
theorem Z3P : Z1n Tryz.prog 27 7 = some 9 := by kernel_rfl
theorem ZY : Z1n Tryz.prog 27 8 = some 10 := by kernel_rfl
theorem Z2Z : Z1n Tryz.prog 44 0 = some 0 := by kernel_rfl
theorem Z0p : Z6N Tryz.prog 22 = true := by kernel_rfl
theorem Z2f : Z6N Tryz.prog 25 = true := by kernel_rfl
theorem Z7z : Z1q Tryz.prog 24 = some [(0, 1), (1, 1), (2, 1)] := by kernel_rfl
theorem Z23 : Z47 Tryz.prog 25 = true := by kernel_rfl
theorem sc3 : Z47 Tryz.prog 3 = true := by kernel_rfl
theorem Z46 : slE Tryz.prog 22 = some (3, 1) := by kernel_rfl
theorem Z2M : Z0n Tryz.prog 24 = some ([.int .i64 0, .int .i64 0, .int .i64 0]) := by kernel_rfl
theorem zl3 : Z0n Tryz.prog 3 = some ([.int .i64 0]) := by kernel_rfl
theorem Z68 (n lo hi : Int) (H : Zj) (R : Z9) :
    FnV Tryz.prog 75 [.int .i64 n, .int .i64 lo, .int .i64 hi] H R (.bool (decide (lo ≤ n) && decide (n ≤ hi))) := by
 refine Zq Tryz.func75 rfl Tryz.ntmps75 rfl ?_
 refine sqt 1 rfl (pur 1 rfl (sqt 9 rfl (pur 4 rfl ?_)))
 refine ZE 10 rfl ?_ ?_ <;> intro g10
 try simp only [cS] at g10
 refine pur 5 rfl (Z4 ?_)
 exact rtA rfl rfl rfl ⟨by simp [ZL, g10]; try omega, rfl, rfl⟩ drp
 try simp only [cS] at g10
 refine pur 5 rfl (Z4 ?_)
 exact rtA rfl rfl rfl ⟨by simp [ZL, g10]; try omega, rfl, rfl⟩ drp
theorem Z64 (n m : Int) (a : Option Addr) (c : Nat) (H : Zj) (R : Z9) [hR : MemRows a 1 [[.int .i64 m]] R] :
    FnV Tryz.prog 77 [.int .i64 n, .slice a 1 c] H R (.int .i64 (min n m)) := by
 refine Zq Tryz.func77 rfl Tryz.ntmps77 rfl ?_
 refine sqt 1 rfl (pur 1 rfl (Z0 (sqt 3 rfl (pur 1 rfl (sp rfl (PE.lenSl Z0p rfl) rfl (pur 1 rfl (Z7 ?_)))))))
 refine Zw (a := a) (sz := 1) (rows := [[.int .i64 m]]) (by simp) (fun b off he => ?_)
 subst he
 refine Zn (ι := {k : Nat // k ≤ 1}) (fun k => ⟨[(0, .int .i64 (bif k.1 == 0 then n else min n m)), (7, .slice (some ⟨b, off, none⟩) 1 c), (8, .int .i64 1), (9, .int .i64 k.1)], H, R⟩) (fun k => 1 - k.1) ⟨0, by omega⟩ ?_ (fun k => ?_)
 exact Z06 idH
 obtain ⟨k, hk⟩ := k
 dsimp only
 refine sqt 1 rfl (pur 1 rfl (Z0 ?_))
 refine Z5 rfl ?_ ?_ <;> intro hc0
 simp only [cS] at hc0
 obtain rfl : k = 0 := by omega
 refine Z3 (Z0 (Z7 (sqt 3 rfl (sp rfl (PE.indexAddr Z0N rfl rfl (by omega) (by omega)) rfl (spL rfl rfl (lf0 sc3 (row := [.int .i64 m]) rfl rfl) rfl (pur 1 rfl (sqr 4 rfl (pur 2 rfl (sp rfl (PE.min rfl rfl) rfl (pur 1 rfl (sqr 2 rfl (sp rfl (PE.add rfl rfl (by omega)) rfl (pur 1 rfl ?_)))))))))))))
 exact Z0v ⟨1, by omega⟩ (by simp) idH
 try simp only [cS] at hc0
 refine Zk (Zl (Zl (ZH (sqt 2 rfl (pur 2 rfl (Z4 ?_))))))
 obtain rfl : k = 1 := by omega
 exact rtA rfl rfl rfl ⟨rfl, rfl, rfl⟩ drp
abbrev Sta.v (s : Sta) : Value := .agg #[.int .i64 s.stock, .int .i64 s.short, .int .i64 s.dry]
abbrev twl (t : Twn) (sl : Value) : List Value := [.int .i64 t.now.stock, .int .i64 t.now.short, .int .i64 t.now.dry, .int .i64 t.holds, .int .i64 t.need, .int .i64 t.patience, .int .i64 t.run, .int .i64 t.good, .int .i64 t.bad, .int .i64 t.rot, sl]
abbrev Twn.v (t : Twn) (sl : Value) : Value := .agg (twl t sl).toArray
def Z2z (q : Rn) : List Value := [.int .i64 q.sacks, .int .i64 q.price]
def Zf (l : List Rn) : List (List Value) := l.map Z2z
abbrev Twn.sl (t : Twn) (a : Option Addr) (c : Nat) : Value := .slice a t.rats.length c
theorem Z01 {l : List Rn} {k : Nat} {q : Rn} (h : l[k]? = some q) : (Zf l)[k]? = some (Z2z q) := by simp [Zf, h]
theorem Z5F (t : Twn) (s : Sta) (sl : Value) (H : Zj) (R : Z9) :
    FnV Tryz.prog 78 [t.v sl, s.v] H R (.bool (s.right t)) := by
 refine Zq Tryz.func78 rfl Tryz.ntmps78 rfl ?_
 refine sqt 3 rfl (bx rfl rfl rfl (fun b2 => bx rfl rfl rfl (fun b3 => pur 1 rfl (sqt 20 rfl (sp rfl (PE.fA Z1B rfl) rfl (spL rfl rfl (lh sc3 rfl rfl) rfl (sp rfl (PE.fA Z1N rfl) rfl (spL rfl rfl (lh sc3 rfl rfl) rfl ?_))))))))
 refine clV rfl Z2a rfl rfl (Z68 _ _ _ _ _) ?_
 refine pur 1 rfl ?_
 refine ZE 10 rfl ?_ ?_ <;> intro g10
 refine spG rfl rfl rfl rfl (PE.fA Z1h rfl) rfl ?_
 refine Z03 rfl rfl rfl rfl rfl (lh sc3 rfl rfl) rfl ?_
 refine spG rfl rfl rfl rfl (PE.fA Z22 rfl) rfl ?_
 refine Z03 rfl rfl rfl rfl rfl (lh sc3 rfl rfl) rfl ?_
 refine Z0k rfl rfl rfl rfl Z2a rfl rfl (Z68 _ _ _ _ _) ?_
 refine pur 2 rfl ?_
 refine ZE 17 rfl ?_ ?_ <;> intro g17
 refine spG rfl rfl rfl rfl (PE.fA Z1I rfl) rfl ?_
 refine Z03 rfl rfl rfl rfl rfl (lh sc3 rfl rfl) rfl ?_
 refine spG rfl rfl rfl rfl (PE.fA Z25 rfl) rfl ?_
 refine Z03 rfl rfl rfl rfl rfl (lh sc3 rfl rfl) rfl ?_
 refine Z0k rfl rfl rfl rfl Z2a rfl rfl (Z68 _ _ _ _ _) ?_
 refine pur 2 rfl (Z4 ?_)
 exact rtA rfl rfl rfl ⟨by simp_all only [ZL, Sta.right, Bool.true_and, Bool.false_and, cond_true, cond_false], rfl, rfl⟩ drp
 refine pur 7 rfl (Z4 ?_)
 exact rtA rfl rfl rfl ⟨by simp_all only [ZL, Sta.right, Bool.true_and, Bool.false_and, cond_true, cond_false], rfl, rfl⟩ drp
 refine pur 14 rfl (Z4 ?_)
 exact rtA rfl rfl rfl ⟨by simp_all only [ZL, Sta.right, Bool.true_and, Bool.false_and, cond_true, cond_false], rfl, rfl⟩ drp
theorem Z7u (t : Twn) (r : Int) (a : Option Addr) (c : Nat) (hl : t.rats.length ≤ 9223372036854775807) (H : Zj) (R : Z9) :
    FnV Tryz.prog 79 [t.v (t.sl a c), .int .i64 r] H R (.bool (decide (0 ≤ r) && decide (r ≤ (t.rats.length : Int) - 1))) := by
 refine Zq Tryz.func79 rfl Tryz.ntmps79 rfl ?_
 refine sqt 2 rfl (bx rfl rfl rfl (fun b2 => pur 1 rfl (sqt 7 rfl (pur 1 rfl (sp rfl (PE.fA ZY rfl) rfl (spL rfl rfl (lh Z23 rfl rfl) rfl (sp rfl (PE.lenSl Z2f rfl) rfl (sp rfl (PE.sub rfl rfl (by omega)) rfl ?_))))))))
 refine clV rfl Z2a rfl rfl (Z68 _ _ _ _ _) ?_
 refine pur 1 rfl (Z4 ?_)
 exact rtA rfl rfl rfl ⟨rfl, rfl, rfl⟩ drp
theorem ZbM {l : List Rn} {r : Int} {q : Rn} (h0 : 0 ≤ r) (h : l[r.toNat]? = some q) : r < l.length := by
  have := (List.getElem?_eq_some_iff.1 h).1; omega
theorem Z6Z (t : Twn) (r : Int) (q : Rn) (b off c : Nat) (h0 : 0 ≤ r) (hq : t.rats[r.toNat]? = some q) (H : Zj) (R : Z9) [hR : MemRows (some ⟨b, off, none⟩) 2 (Zf t.rats) R] :
    FnV Tryz.prog 82 [t.v (t.sl (some ⟨b, off, none⟩) c), .int .i64 r] H R (.bool (decide (q.sacks < t.need))) := by
 have hr := ZbM h0 hq
 refine Zq Tryz.func82 rfl Tryz.ntmps82 rfl ?_
 refine sqt 2 rfl (bx rfl rfl rfl (fun b2 => pur 1 rfl (Z0 ?_)))
 refine Ze [0, 1, 0, 7, 15, 31, 0, 64, 255, 511] (.tk 0 (.ld 1 (tks 2 3 (.ld 5 (.tk 6 (.ld 7 (.tk 8 (.tk 9 .done)))))))) Zy (by kernel_rfl) ?_
 refine tk rfl (PE.fA ZY rfl) rfl (ld rfl rfl (lh Z23 rfl rfl) rfl (ZD 1 rfl (tk rfl (PE.indexAddr Z8K rfl rfl (by omega) (by omega)) rfl (tk rfl (PE.fA Z2Z rfl) rfl (ld rfl rfl (lf sc3 (Z01 hq) rfl) rfl (tk rfl (PE.fA Z3H rfl) rfl (ld rfl rfl (lh sc3 rfl rfl) rfl (ZD 2 rfl (Z4 ?_)))))))))
 exact rtA rfl rfl rfl ⟨rfl, rfl, rfl⟩ drp
theorem Z1L (t : Twn) (s : Sta) (r : Int) (q : Rn) (b off c : Nat) (h0 : 0 ≤ r) (hq : t.rats[r.toNat]? = some q) (H : Zj) (R : Z9) [hR : MemRows (some ⟨b, off, none⟩) 2 (Zf t.rats) R] :
    FnV Tryz.prog 39 [t.v (t.sl (some ⟨b, off, none⟩) c), s.v, .int .i64 r] H R (.bool (t.can s q)) := by
 have hr := ZbM h0 hq
 refine Zq Tryz.func39 rfl Tryz.ntmps39 rfl ?_
 refine sqt 3 rfl (bx rfl rfl rfl (fun b3 => bx rfl rfl rfl (fun b4 => pur 1 rfl (Z0 ?_))))
 refine Ze [0, 1, 0, 7, 15, 31, 0, 64, 255, 511, 1023, 1023, 4095, 8191, 16383, 32767, 65535, 32767, 163839, 524287, 1048575, 2097151, 4194303] (.tk 0 (.ld 1 (tks 2 3 (.ld 5 (.tk 6 (.ld 7 (.tk 8 (.tk 9 (.ld 10 (.tk 11 (.big 12 (tks 13 3 (.ld 16 (.tk 17 (.ld 18 (tks 19 4 .done)))))))))))))))) Zy (by kernel_rfl) ?_
 refine tk rfl (PE.fA ZY rfl) rfl (ld rfl rfl (lh Z23 rfl rfl) rfl (ZD 1 rfl (tk rfl (PE.indexAddr Z8K rfl rfl (by omega) (by omega)) rfl (tk rfl (PE.fA Z2Z rfl) rfl (ld rfl rfl (lf sc3 (Z01 hq) rfl) rfl (tk rfl (PE.fA Z1B rfl) rfl (ld rfl rfl (lh sc3 rfl rfl) rfl (ZD 2 rfl ?_))))))))
 refine ZE 16 rfl ?_ ?_ <;> intro g16
 try simp only [cS] at g16
 refine ldG rfl rfl rfl rfl rfl (lhA [_, _, _, _, _, _, _, _, _, _, _] Zd rfl rfl rfl) rfl (ZD 1 rfl ?_)
 refine Z0k rfl rfl rfl rfl Zcs rfl rfl (Z6Z t r q b off c h0 hq _ _) ?_
 refine bgT (ZD 2 rfl ?_)
 refine ZE 21 rfl ?_ ?_ <;> intro g21
 try simp only [cS] at g21
 refine ZD 1 rfl ?_
 refine ldN rfl rfl rfl rfl rfl rfl rfl rfl ?_
 refine ZD 1 rfl ?_
 refine ldN rfl rfl rfl rfl rfl rfl rfl rfl ?_
 refine ZD 4 rfl (Z4 ?_)
 exact rtA rfl rfl rfl ⟨by simp_all [ZL, Twn.can] <;> omega, rfl, rfl⟩ drp
 try simp only [cS] at g21
 refine tkG rfl rfl rfl rfl (PE.fA Z1h rfl) rfl ?_
 refine ldG rfl rfl rfl rfl rfl (lh sc3 rfl rfl) rfl ?_
 refine tkG rfl rfl rfl rfl (PE.fA Z22 rfl) rfl ?_
 refine ldG rfl rfl rfl rfl rfl (lh sc3 rfl rfl) rfl (ZD 4 rfl (Z4 ?_))
 exact rtA rfl rfl rfl ⟨by simp_all [ZL, Twn.can] <;> omega, rfl, rfl⟩ drp
 try simp only [cS] at g16
 refine ldN rfl rfl rfl rfl rfl rfl rfl rfl ?_
 refine ZD 1 rfl ?_
 refine spN rfl rfl rfl rfl rfl rfl rfl rfl ?_
 refine bgT (ZD 2 rfl ?_)
 refine tkU rfl rfl rfl rfl rfl rfl rfl ?_
 refine ldU rfl rfl rfl rfl rfl rfl rfl ?_
 refine tkU rfl rfl rfl rfl rfl rfl rfl ?_
 refine ldU rfl rfl rfl rfl rfl rfl rfl ?_
 refine tkU rfl rfl rfl rfl rfl rfl rfl ?_
 refine ZD 3 rfl (Z4 ?_)
 exact rtA rfl rfl rfl ⟨by simp_all [ZL, Twn.can] <;> omega, rfl, rfl⟩ drp
theorem Z3l (t : Twn) (ht : t.ok) (s : Sta) (hs : s.right t = true) (r : Int) (q : Rn) (bad : Bool) (b off c : Nat) (h0 : 0 ≤ r) (hq : t.rats[r.toNat]? = some q) (hc : q.sacks ≤ s.stock) (H : Zj) (R : Z9) [hR : MemRows (some ⟨b, off, none⟩) 2 (Zf t.rats) R] :
    FnV Tryz.prog 40 [t.v (t.sl (some ⟨b, off, none⟩) c), s.v, .int .i64 r, .bool bad] H R (t.next s q bad).v := by
 have hr := ZbM h0 hq
 have hq1 := ht.rats q (List.mem_of_getElem? hq)
 have hs1 := right_iff.1 hs
 have h1 := ht.holds
 have h2 := ht.good
 have h3 := ht.bad
 have h4 := ht.run
 have h5 := ht.patience
 have h6 := Z9d (x := s.stock - q.sacks) (r := t.rot) (by omega) (by omega) ht.rot.1 ht.rot.2
 refine Zq Tryz.func40 rfl Tryz.ntmps40 rfl ?_
 refine sqt 3 rfl (bx rfl rfl rfl (fun b4 => bx rfl rfl rfl (fun b5 => alc rfl Z2M rfl (fun b8 => Z0 ?_))))
 refine Ze [0, 1, 0, 4, 0, 28, 60, 124, 255, 511] (.tk 0 (.ld 1 (.tk 2 (.ld 3 (tks 4 3 (.ld 7 (.tk 8 (.tk 9 .done)))))))) Zy (by kernel_rfl) ?_
 refine tk rfl (PE.fA Z1B rfl) rfl (ld rfl rfl (lh sc3 rfl rfl) rfl (tk rfl (PE.fA ZY rfl) rfl (ld rfl rfl (lh Z23 rfl rfl) rfl (ZD 1 rfl (tk rfl (PE.indexAddr Z8K rfl rfl (by omega) (by omega)) rfl (tk rfl (PE.fA Z2Z rfl) rfl (ld rfl rfl (lf sc3 (Z01 hq) rfl) rfl (tk rfl (PE.sub rfl rfl (by omega)) rfl (ZD 1 rfl (sqt 9 rfl (pur 2 rfl (sp rfl (PE.fA Z3P rfl) rfl (spL rfl rfl (lh sc3 rfl rfl) rfl (sp rfl (PE.mul rfl rfl (by omega)) rfl (sp rfl (PE.add rfl rfl (by omega)) rfl ?_)))))))))))))))
 refine sp rfl (PE.quo rfl rfl (by omega)) rfl (sp rfl (PE.sub rfl rfl (by omega)) rfl (pur 1 rfl (sqt 11 rfl (sp rfl (PE.fA Z1N rfl) rfl (spL rfl rfl (lh sc3 rfl rfl) rfl (pur 1 rfl (sp rfl (PE.fA Z2Y rfl) rfl (spL rfl rfl (lh sc3 rfl rfl) rfl (sp rfl (PE.add rfl rfl (by omega)) rfl ?_)))))))))
 refine bsl (out := [_]) rfl Z46 zl3 rfl rfl rfl rfl rfl rfl (fun b34 => ?_)
 refine Sy.heap (fun w h => St.rows (sz := 1) (rows := [[.int .i64 _]]) (rest := []) h (by simp)) ?_
 refine clV rfl ZbO rfl rfl (Z64 _ _ _ _ _ _) ?_
 refine sp rfl (PE.build (out := [_, _, _]) Z7z Z2M rfl rfl) rfl (alc rfl Z2M rfl (fun b10 => ?_))
 refine sto rfl rfl rfl Z2O rfl rfl rfl rfl ?_
 refine Z0 (sqt 1 rfl (pur 1 rfl ?_))
 refine Z5 rfl ?_ ?_ <;> intro hc0
 subst hc0
 refine Ze [0, 1, 0, 0, 8, 28, 60, 127, 0, 256, 768, 2047, 4095] (.tk 0 (.ld 1 (.tk 2 (.tk 3 (.ld 4 (.tk 5 (.tk 8 (.ld 9 (.tk 10 (.big 6 (.big 7 (.tk 11 (.big 12 .done))))))))))))) Zy (by kernel_rfl) ?_
 refine tk rfl (PE.fA Z1N rfl) rfl (ld rfl rfl (lh sc3 rfl rfl) rfl (ZD 1 rfl (tk rfl (PE.fA Z3p rfl) rfl (ld rfl rfl (lh sc3 rfl rfl) rfl (tk rfl (PE.add rfl rfl (by omega)) rfl (tk rfl (PE.fA Z1I rfl) rfl (ld rfl rfl (lh sc3 rfl rfl) rfl (tk rfl (PE.add rfl rfl (by omega)) rfl ?_))))))))
 refine bsl (out := [_]) rfl Z46 zl3 rfl rfl rfl rfl rfl rfl (fun b44 => ?_)
 refine bg (fun w hs => ⟨(lh sc3 rfl rfl) w hs, trivial, (lh sc3 rfl rfl) w hs, trivial⟩) ?_
 refine Sy.heap (fun w h => St.rows (sz := 1) (rows := [[.int .i64 _]]) (rest := []) h (by simp)) ?_
 refine clV rfl ZbO rfl rfl (Z64 _ _ _ _ _ _) ?_
 refine bg (fun w hs => ⟨(lh sc3 rfl rfl) w hs, trivial, trivial⟩) ?_
 refine tk rfl (PE.build (out := [_, _, _]) Z7z Z2M rfl rfl) rfl ?_
 refine sto rfl rfl rfl Z2O rfl rfl rfl rfl ?_
 refine bgT (Z0 (sqt 3 rfl (spL rfl rfl (lhA [_, _, _, _, _, _, _, _, _, _, _] Zd rfl rfl rfl) rfl (pur 1 rfl ?_))))
 refine clV rfl Zcs rfl rfl (Z6Z t r q b off c h0 hq _ _) ?_
 refine Z5 rfl ?_ ?_ <;> intro hc1
 refine sqr 5 rfl (sp rfl (PE.fA Z1h rfl) rfl (spL rfl rfl (lh sc3 rfl rfl) rfl (sp rfl (PE.add rfl rfl (by omega)) rfl (sp rfl (PE.fA Z1h rfl) rfl ?_))))
 refine sto rfl rfl rfl cn3 rfl rfl rfl rfl ?_
 refine sqt 2 rfl (spL rfl rfl (lhA [_, _, _] ZF rfl rfl rfl) rfl ?_)
 refine sto rfl rfl rfl Z2O rfl rfl rfl rfl ?_
 refine Z4 ?_
 exact Z2 (vs := [_]) rfl (.cons (RV.cell rfl (lhA [_, _, _] ZF rfl rfl rfl)) .nil) rfl ⟨by simp only [ZL, Twn.next, Z1t, hc1, cond_true, cond_false], rfl, rfl⟩ drp
 refine Z3 (sqt 2 rfl (spL rfl rfl (lhA [_, _, _] ZF rfl rfl rfl) rfl ?_))
 refine sto rfl rfl rfl Z2O rfl rfl rfl rfl ?_
 refine Z4 ?_
 exact Z2 (vs := [_]) rfl (.cons (RV.cell rfl (lhA [_, _, _] ZF rfl rfl rfl)) .nil) rfl ⟨by simp only [ZL, Twn.next, Z1t, hc1, cond_true, cond_false], rfl, rfl⟩ drp
 subst hc0
 refine Z3 (Z0 (sqt 3 rfl (spL rfl rfl (lhA [_, _, _, _, _, _, _, _, _, _, _] Zd rfl rfl rfl) rfl (pur 1 rfl ?_))))
 refine clV rfl Zcs rfl rfl (Z6Z t r q b off c h0 hq _ _) ?_
 refine Z5 rfl ?_ ?_ <;> intro hc1
 refine sqr 5 rfl (sp rfl (PE.fA Z1h rfl) rfl (spL rfl rfl (lh sc3 rfl rfl) rfl (sp rfl (PE.add rfl rfl (by omega)) rfl (sp rfl (PE.fA Z1h rfl) rfl ?_))))
 refine sto rfl rfl rfl cn3 rfl rfl rfl rfl ?_
 refine sqt 2 rfl (spL rfl rfl (lhA [_, _, _] ZF rfl rfl rfl) rfl ?_)
 refine sto rfl rfl rfl Z2O rfl rfl rfl rfl ?_
 refine Z4 ?_
 exact Z2 (vs := [_]) rfl (.cons (RV.cell rfl (lhA [_, _, _] ZF rfl rfl rfl)) .nil) rfl ⟨by simp only [ZL, Twn.next, Z1t, hc1, cond_true, cond_false], rfl, rfl⟩ drp
 refine Z3 (sqt 2 rfl (spL rfl rfl (lhA [_, _, _] ZF rfl rfl rfl) rfl ?_))
 refine sto rfl rfl rfl Z2O rfl rfl rfl rfl ?_
 refine Z4 ?_
 exact Z2 (vs := [_]) rfl (.cons (RV.cell rfl (lhA [_, _, _] ZF rfl rfl rfl)) .nil) rfl ⟨by simp only [ZL, Twn.next, Z1t, hc1, cond_true, cond_false], rfl, rfl⟩ drp
theorem Z5j : Z5Y Tryz.prog 44 = some 2 := by kernel_rfl
theorem Ze9 : cal Tryz.prog 106 = true := by kernel_rfl
theorem Zdu : cal Tryz.prog 107 = true := by kernel_rfl
theorem ZdA : cal Tryz.prog 108 = true := by kernel_rfl
theorem ZdQ : cal Tryz.prog 109 = true := by kernel_rfl
theorem Zdo : cal Tryz.prog 113 = true := by kernel_rfl
theorem Ze8 : cal Tryz.prog 114 = true := by kernel_rfl
theorem Zcl : cal Tryz.prog 73 = true := by kernel_rfl
theorem ZaF : cal Tryz.prog 78 = true := by kernel_rfl
theorem ZeH : cal Tryz.prog 90 = true := by kernel_rfl
theorem ZeL : cal Tryz.prog 91 = true := by kernel_rfl
theorem Zf5 : cal Tryz.prog 92 = true := by kernel_rfl
theorem ZcO : Z1c Tryz.prog 44 = some 2 := by kernel_rfl
theorem Z0a : Z1n Tryz.prog 27 0 = some 0 := by kernel_rfl
theorem Z5c : Z1n Tryz.prog 44 1 = some 1 := by kernel_rfl
theorem ZeN : Z47 Tryz.prog 135 = true := by kernel_rfl
theorem Zem : Z47 Tryz.prog 149 = true := by kernel_rfl
theorem Z6P : Z0n Tryz.prog 44 = some ([.int .i64 0, .int .i64 0]) := by kernel_rfl
abbrev Zh (l : List Int) : List (List Value) := l.map fun z => [.int .i64 z]
theorem Z2t {α : Type} {xs : List α} {p : α → Bool} {k : Nat} {x : α} (hx : xs[k]? = some x) (hn : ∀ y ∈ xs.take k, p y = false) (h : p x = true) : xs.findIdx? p = some k := by
  induction xs generalizing k with
  | nil => simp at hx
  | cons y ys ih =>
    cases k with
    | zero => simp only [List.getElem?_cons_zero, Option.some.injEq] at hx; subst hx; simp [List.findIdx?_cons, h]
    | succ k =>
      have hy := hn y (by simp)
      have := ih (by simpa using hx) (fun z hz => hn z (by simp [hz]))
      simp [List.findIdx?_cons, hy, this]
theorem Z1K {α : Type} {xs : List α} {p : α → Bool} (hn : ∀ y ∈ xs, p y = false) : xs.findIdx? p = none := by
  rw [List.findIdx?_eq_none_iff]; exact hn
theorem Z4k {α : Type} {xs : List α} {p : α → Bool} {k : Nat} {x : α} (hx : xs[k]? = some x) (hn : ∀ y ∈ xs.take k, p y = false) (h : p x = false) : ∀ y ∈ xs.take (k + 1), p y = false := by
  intro y hy
  rw [List.take_add_one, hx] at hy
  rcases List.mem_append.1 hy with h1 | h1
  · exact hn y h1
  · simp only [Option.toList_some, List.mem_singleton] at h1; subst h1; exact h
theorem Z7f {α : Type} (xs : List α) (p : α → Bool) : Value.bool (decide (0 ≤ (match xs.findIdx? p with | some k => (k : Int) | none => -1))) = .bool (xs.any p) := by
  congr 1
  cases h : xs.findIdx? p with
  | none =>
    have := List.findIdx?_eq_none_iff.1 h
    have h2 : xs.any p = false := by simpa using this
    rw [h2]; rfl
  | some k =>
    have h2 : xs.any p = true := by
      rw [← Bool.not_eq_false]; intro h3
      have : xs.findIdx? p = none := List.findIdx?_eq_none_iff.2 (by simpa using h3)
      rw [this] at h; cases h
    rw [h2]; simp
theorem Z2H {α : Type} (xs : List α) (p : α → Bool) : Value.bool (!xs.any fun x => !p x) = .bool (xs.all p) := by
  congr 1
  induction xs with
  | nil => rfl
  | cons x xs ih => simp [← ih]
theorem Zam (xs : List Int) (a : Option Addr) (c g : Nat) (fst cap : List Value) (p : Int → Bool) (hg : cal Tryz.prog g = true) (hl : xs.length ≤ 9223372036854775807) (H : Zj) (R : Z9) [hR : MemRows a 1 (Zh xs) R] (hp : ∀ x, x ∈ xs → FnV Tryz.prog g (fst ++ [.int .i64 x] ++ cap) H R (.bool (p x))) :
    FnV Tryz.prog 113 [.slice a xs.length c, .func (.func g) fst.toArray cap.toArray] H R (.int .i64 (match xs.findIdx? p with | some k => (k : Int) | none => -1)) := by
 refine Zq Tryz.func113 rfl Tryz.ntmps113 rfl ?_
 refine sqt 1 rfl (pur 1 rfl (Z0 (sqt 3 rfl (pur 1 rfl (sp rfl (PE.lenSl Z0p rfl) rfl (pur 1 rfl (Z7 ?_)))))))
 refine Zn (ι := {k : Nat // k ≤ xs.length ∧ ∀ x ∈ xs.take k, p x = false}) (fun k => ⟨[(0, .slice a xs.length c), (1, .func (.func g) fst.toArray cap.toArray), (7, .int .i64 xs.length), (8, .int .i64 k.1)], H, R⟩) (fun k => xs.length - k.1) ⟨0, by simp⟩ ?_ (fun k => ?_)
 exact Z06 idH
 obtain ⟨k, hk, hn⟩ := k
 dsimp only
 refine sqt 1 rfl (pur 1 rfl (Z0 ?_))
 refine Z5 rfl ?_ ?_ <;> intro hc0
 simp only [cS] at hc0
 obtain ⟨x, hx⟩ : ∃ x, xs[k]? = some x := ⟨_, List.getElem?_eq_getElem (by omega)⟩
 have hxm := List.mem_of_getElem? hx
 refine Zw (a := a) (sz := 1) (rows := Zh xs) (by cases xs <;> simp_all [Zh]) (fun b off he => ?_)
 subst he
 refine Z3 (Z0 (Z7 (sqt 2 rfl (pur 2 rfl (sqt 6 rfl (pur 3 rfl (sp rfl (PE.indexAddr Z0N rfl rfl (by omega) (by omega)) rfl (spL rfl rfl (lf0 sc3 (by simp [Zh, hx]; rfl) rfl) rfl ?_))))))))
 refine ZaU rfl rfl (hg) rfl rfl (hp x hxm) ?_
 refine Z5 rfl ?_ ?_ <;> intro hc1
 refine sqt 2 rfl (pur 2 rfl (Z4 ?_))
 first | (exact rtA rfl rfl rfl ⟨by rw [Z2t hx hn hc1]; rfl, rfl, rfl⟩ idH) | (exact rtA rfl rfl rfl ⟨by rw [Z1K (by simpa using hn)]; rfl, rfl, rfl⟩ idH)
 refine Z3 (sqr 2 rfl (sp rfl (PE.add rfl rfl (by omega)) rfl (pur 1 rfl ?_)))
 exact Z0l ⟨k + 1, by omega, Z4k hx hn hc1⟩ idH
 simp only [cS] at hc0
 obtain rfl : k = xs.length := by omega
 refine Zk (Zl (Zl (ZH (sqt 1 rfl (pur 1 rfl (Z4 ?_))))))
 first | (exact rtA rfl rfl rfl ⟨by rw [Z2t hx hn hc1]; rfl, rfl, rfl⟩ idH) | (exact rtA rfl rfl rfl ⟨by rw [Z1K (by simpa using hn)]; rfl, rfl, rfl⟩ idH)
theorem Z9m (xs : List Int) (a : Option Addr) (c g : Nat) (fst cap : List Value) (p : Int → Bool) (hg : cal Tryz.prog g = true) (hl : xs.length ≤ 9223372036854775807) (H : Zj) (R : Z9) [hR : MemRows a 1 (Zh xs) R] (hp : ∀ x, x ∈ xs → FnV Tryz.prog g (fst ++ [.int .i64 x] ++ cap) H R (.bool (p x))) :
    FnV Tryz.prog 106 [.slice a xs.length c, .func (.func g) fst.toArray cap.toArray] H R (.bool (xs.any p)) := by
 refine Zq Tryz.func106 rfl Tryz.ntmps106 rfl ?_
 refine sqt 1 rfl (pur 1 rfl (sqt 5 rfl (pur 2 rfl ?_)))
 refine clV rfl Zdo rfl rfl (Zam xs a c g fst cap p hg hl _ _ hp) ?_
 refine pur 2 rfl (Z4 ?_)
 exact rtA rfl rfl rfl ⟨by simp only [ZL]; exact Z7f _ _, rfl, rfl⟩ drp
theorem Z9J (x : Int) (g bf : Nat) (fst cap : List Value) (p : Bool) (hg : cal Tryz.prog g = true) (H : Zj) (R : Z9) [hM : Mem1 bf (cel 135 [.func (.func g) fst.toArray cap.toArray]) H] (hp : FnV Tryz.prog g (fst ++ [.int .i64 x] ++ cap) H R (.bool p)) :
    FnV Tryz.prog 107 [.int .i64 x, .pointer (some ⟨bf, 0, none⟩)] H R (.bool !p) := by
 refine Zq Tryz.func107 rfl Tryz.ntmps107 rfl ?_
 refine sqt 1 rfl (pur 1 rfl (sqt 5 rfl (spL rfl rfl (lh ZeN rfl rfl) rfl (pur 1 rfl ?_))))
 refine ZaU rfl rfl (hg) rfl rfl (hp) ?_
 refine pur 2 rfl (Z4 ?_)
 exact rtA rfl rfl rfl ⟨rfl, rfl, rfl⟩ drp
theorem Z2L (xs : List Int) (a : Option Addr) (c g : Nat) (fst cap : List Value) (p : Int → Bool) (hg : cal Tryz.prog g = true) (hl : xs.length ≤ 9223372036854775807) (H : Zj) (R : Z9) [hR : MemRows a 1 (Zh xs) R] (hp : ∀ b x, x ∈ xs → FnV Tryz.prog g (fst ++ [.int .i64 x] ++ cap) ((b, cel 135 [.func (.func g) fst.toArray cap.toArray]) :: H) R (.bool (p x))) :
    FnV Tryz.prog 73 [.slice a xs.length c, .func (.func g) fst.toArray cap.toArray] H R (.bool (xs.all p)) := by
 refine Zq Tryz.func73 rfl Tryz.ntmps73 rfl ?_
 refine sqt 2 rfl (bx rfl rfl rfl (fun b3 => pur 1 rfl (sqt 5 rfl (pur 1 rfl (sp rfl (PE.makeFunc rfl rfl) rfl ?_)))))
 refine clV rfl Ze9 rfl rfl (Z9m xs a c 107 [] [_] (fun x => !p x) Zdu hl _ _ (hp := fun x hx => Z9J x g _ fst cap (p x) hg _ _ (hp := hp _ x hx))) ?_
 refine pur 2 rfl (Z4 ?_)
 exact rtA rfl rfl rfl ⟨by simp only [ZL]; rw [Z2H], rfl, rfl⟩ drp
theorem Za9 (xs : List Rn) (a : Option Addr) (c g : Nat) (fst cap : List Value) (p : Rn → Bool) (hg : cal Tryz.prog g = true) (hl : xs.length ≤ 9223372036854775807) (H : Zj) (R : Z9) [hR : MemRows a 2 (Zf xs) R] (hp : ∀ x, x ∈ xs → FnV Tryz.prog g (fst ++ [.agg (Z2z x).toArray] ++ cap) H R (.bool (p x))) :
    FnV Tryz.prog 114 [.slice a xs.length c, .func (.func g) fst.toArray cap.toArray] H R (.int .i64 (match xs.findIdx? p with | some k => (k : Int) | none => -1)) := by
 refine Zq Tryz.func114 rfl Tryz.ntmps114 rfl ?_
 refine sqt 1 rfl (pur 1 rfl (Z0 (sqt 3 rfl (pur 1 rfl (sp rfl (PE.lenSl Z2f rfl) rfl (pur 1 rfl (Z7 ?_)))))))
 refine Zn (ι := {k : Nat // k ≤ xs.length ∧ ∀ x ∈ xs.take k, p x = false}) (fun k => ⟨[(0, .slice a xs.length c), (1, .func (.func g) fst.toArray cap.toArray), (7, .int .i64 xs.length), (8, .int .i64 k.1)], H, R⟩) (fun k => xs.length - k.1) ⟨0, by simp⟩ ?_ (fun k => ?_)
 exact Z06 idH
 obtain ⟨k, hk, hn⟩ := k
 dsimp only
 refine sqt 1 rfl (pur 1 rfl (Z0 ?_))
 refine Z5 rfl ?_ ?_ <;> intro hc0
 simp only [cS] at hc0
 obtain ⟨x, hx⟩ : ∃ x, xs[k]? = some x := ⟨_, List.getElem?_eq_getElem (by omega)⟩
 have hxm := List.mem_of_getElem? hx
 refine Zw (a := a) (sz := 2) (rows := Zf xs) (by cases xs <;> simp_all [Zf]) (fun b off he => ?_)
 subst he
 refine Z3 (Z0 (Z7 (sqt 2 rfl (pur 2 rfl (sqt 6 rfl (pur 3 rfl (sp rfl (PE.indexAddr Z8K rfl rfl (by omega) (by omega)) rfl (spL rfl rfl (lfA Z5j (row := Z2z x) (by simp [Zf, hx]) rfl) rfl ?_))))))))
 refine ZaU rfl rfl (hg) rfl rfl (hp x hxm) ?_
 refine Z5 rfl ?_ ?_ <;> intro hc1
 refine sqt 2 rfl (pur 2 rfl (Z4 ?_))
 first | (exact rtA rfl rfl rfl ⟨by rw [Z2t hx hn hc1]; rfl, rfl, rfl⟩ idH) | (exact rtA rfl rfl rfl ⟨by rw [Z1K (by simpa using hn)]; rfl, rfl, rfl⟩ idH)
 refine Z3 (sqr 2 rfl (sp rfl (PE.add rfl rfl (by omega)) rfl (pur 1 rfl ?_)))
 exact Z0l ⟨k + 1, by omega, Z4k hx hn hc1⟩ idH
 simp only [cS] at hc0
 obtain rfl : k = xs.length := by omega
 refine Zk (Zl (Zl (ZH (sqt 1 rfl (pur 1 rfl (Z4 ?_))))))
 first | (exact rtA rfl rfl rfl ⟨by rw [Z2t hx hn hc1]; rfl, rfl, rfl⟩ idH) | (exact rtA rfl rfl rfl ⟨by rw [Z1K (by simpa using hn)]; rfl, rfl, rfl⟩ idH)
theorem Z9w (xs : List Rn) (a : Option Addr) (c g : Nat) (fst cap : List Value) (p : Rn → Bool) (hg : cal Tryz.prog g = true) (hl : xs.length ≤ 9223372036854775807) (H : Zj) (R : Z9) [hR : MemRows a 2 (Zf xs) R] (hp : ∀ x, x ∈ xs → FnV Tryz.prog g (fst ++ [.agg (Z2z x).toArray] ++ cap) H R (.bool (p x))) :
    FnV Tryz.prog 108 [.slice a xs.length c, .func (.func g) fst.toArray cap.toArray] H R (.bool (xs.any p)) := by
 refine Zq Tryz.func108 rfl Tryz.ntmps108 rfl ?_
 refine sqt 1 rfl (pur 1 rfl (sqt 5 rfl (pur 2 rfl ?_)))
 refine clV rfl Ze8 rfl rfl (Za9 xs a c g fst cap p hg hl _ _ hp) ?_
 refine pur 2 rfl (Z4 ?_)
 exact rtA rfl rfl rfl ⟨by simp only [ZL]; exact Z7f _ _, rfl, rfl⟩ drp
theorem Z9e (x : Rn) (g bf : Nat) (fst cap : List Value) (p : Bool) (hg : cal Tryz.prog g = true) (H : Zj) (R : Z9) [hM : Mem1 bf (cel 149 [.func (.func g) fst.toArray cap.toArray]) H] (hp : ∀ b, FnV Tryz.prog g (fst ++ [.agg (Z2z x).toArray] ++ cap) ((b, cel 44 (Z2z x)) :: H) R (.bool p)) :
    FnV Tryz.prog 109 [.agg (Z2z x).toArray, .pointer (some ⟨bf, 0, none⟩)] H R (.bool !p) := by
 refine Zq Tryz.func109 rfl Tryz.ntmps109 rfl ?_
 refine sqt 2 rfl (bx rfl rfl rfl (fun b2 => pur 1 rfl (sqt 5 rfl (spL rfl rfl (lh Zem rfl rfl) rfl (spL rfl rfl (lhA [_, _] Z5j rfl rfl rfl) rfl ?_)))))
 refine ZaU rfl rfl (hg) rfl rfl (hp _) ?_
 refine pur 2 rfl (Z4 ?_)
 exact rtA rfl rfl rfl ⟨rfl, rfl, rfl⟩ drp
theorem Z76 (xs : List Rn) (a : Option Addr) (c g : Nat) (fst cap : List Value) (p : Rn → Bool) (hg : cal Tryz.prog g = true) (hl : xs.length ≤ 9223372036854775807) (H : Zj) (R : Z9) [hR : MemRows a 2 (Zf xs) R] (hp : ∀ b b2 x, x ∈ xs → FnV Tryz.prog g (fst ++ [.agg (Z2z x).toArray] ++ cap) ((b2, cel 44 (Z2z x)) :: (b, cel 149 [.func (.func g) fst.toArray cap.toArray]) :: H) R (.bool (p x))) :
    FnV Tryz.prog 91 [.slice a xs.length c, .func (.func g) fst.toArray cap.toArray] H R (.bool (xs.all p)) := by
 refine Zq Tryz.func91 rfl Tryz.ntmps91 rfl ?_
 refine sqt 2 rfl (bx rfl rfl rfl (fun b3 => pur 1 rfl (sqt 5 rfl (pur 1 rfl (sp rfl (PE.makeFunc rfl rfl) rfl ?_)))))
 refine clV rfl ZdA rfl rfl (Z9w xs a c 109 [] [_] (fun x => !p x) ZdQ hl _ _ (hp := fun x hx => Z9e x g _ fst cap (p x) hg _ _ (hp := fun b => hp _ _ x hx))) ?_
 refine pur 2 rfl (Z4 ?_)
 exact rtA rfl rfl rfl ⟨by simp only [ZL]; rw [Z2H], rfl, rfl⟩ drp
theorem Z29 {l : List Rn} (h : ∀ i, i < l.length - 1 → Z1w l i = false) : (List.range l.length).any (Z1w l) = false := by
  rw [List.any_eq_false]
  intro i hi
  rw [Bool.not_eq_true]
  rcases Nat.lt_or_ge i (l.length - 1) with h1 | h1
  · exact h i h1
  · have : l[i + 1]? = none := List.getElem?_eq_none (by omega)
    unfold Z1w; rw [this]; split <;> simp_all
theorem Z0D {l : List Rn} {i : Nat} (hi : i < l.length) (h : Z1w l i = true) : (List.range l.length).any (Z1w l) = true := List.any_eq_true.2 ⟨i, List.mem_range.2 hi, h⟩
theorem Zdn (n : Int) (H : Zj) (R : Z9) :
    FnV Tryz.prog 90 [.int .i64 n] H R (.bool (inb n 0 30)) := by
 refine Zq Tryz.func90 rfl Tryz.ntmps90 rfl ?_
 refine sqt 1 rfl (pur 1 rfl (sqt 3 rfl (pur 1 rfl ?_)))
 refine clV rfl Z2a rfl rfl (Z68 _ _ _ _ _) ?_
 refine pur 1 rfl (Z4 ?_)
 exact rtA rfl rfl rfl ⟨rfl, rfl, rfl⟩ drp
theorem Zdm (q : Rn) (H : Zj) (R : Z9) :
    FnV Tryz.prog 92 [.agg (Z2z q).toArray] H R (.bool (inb q.sacks 0 30 && inb q.price 0 100)) := by
 refine Zq Tryz.func92 rfl Tryz.ntmps92 rfl ?_
 refine sqt 2 rfl (bx rfl rfl rfl (fun b1 => pur 1 rfl (sqt 9 rfl (sp rfl (PE.fA Z2Z rfl) rfl (spL rfl rfl (lh sc3 rfl rfl) rfl ?_)))))
 refine clV rfl Z2a rfl rfl (Z68 _ _ _ _ _) ?_
 refine pur 1 rfl ?_
 refine ZE 6 rfl ?_ ?_ <;> intro g6
 refine spG rfl rfl rfl rfl (PE.fA Z5c rfl) rfl ?_
 refine Z03 rfl rfl rfl rfl rfl (lh sc3 rfl rfl) rfl ?_
 refine Z0k rfl rfl rfl rfl Z2a rfl rfl (Z68 _ _ _ _ _) ?_
 refine pur 2 rfl (Z4 ?_)
 exact rtA rfl rfl rfl ⟨by simp_all only [ZL, inb, Bool.true_and, Bool.false_and, cond_true, cond_false], rfl, rfl⟩ drp
 refine pur 5 rfl (Z4 ?_)
 exact rtA rfl rfl rfl ⟨by simp_all only [ZL, inb, Bool.true_and, Bool.false_and, cond_true, cond_false], rfl, rfl⟩ drp
theorem Z5m (t : Twn) (a : Option Addr) (c : Nat) (hl : t.rats.length ≤ 9223372036854775807) (H : Zj) (R : Z9) [hR : MemRows a 2 (Zf t.rats) R] :
    FnV Tryz.prog 51 [t.v (t.sl a c)] H R (.int .i64 t.check) := by
 refine Zq Tryz.func51 rfl Tryz.ntmps51 rfl ?_
 refine sqt 2 rfl (bx rfl rfl rfl (fun b1 => pur 1 rfl (Z0 (Z7 (sqt 6 rfl (sp rfl (PE.fA ZY rfl) rfl (spL rfl rfl (lh Z23 rfl rfl) rfl (sp rfl (PE.lenSl Z2f rfl) rfl ?_))))))))
 refine clV rfl Z2a rfl rfl (Z68 _ _ _ _ _) ?_
 refine pur 2 rfl ?_
 refine Z5 rfl ?_ ?_ <;> intro hc0
 refine sqt 1 rfl (pur 1 rfl (Z4 ?_))
 exact rtA rfl rfl rfl ⟨congrArg (Value.int .i64) (by first | (rw [hck, Z29 hn]; rfl) | (rw [hck, Z0D hk2 hbad]; rfl) | simp_all only [Twn.check, inb, cond_true, cond_false, Bool.not_true, Bool.not_false, Bool.not_eq_true', Bool.not_eq_false']), rfl, rfl⟩ drp
 ·
  refine sqt 12 rfl (sp rfl (PE.fA Z1N rfl) rfl (spL rfl rfl (lh sc3 rfl rfl) rfl (sp rfl (PE.fA Z3H rfl) rfl (spL rfl rfl (lh sc3 rfl rfl) rfl (sp rfl (PE.fA Z2Y rfl) rfl (spL rfl rfl (lh sc3 rfl rfl) rfl (sp rfl (PE.fA Z3p rfl) rfl (spL rfl rfl (lh sc3 rfl rfl) rfl ?_))))))))
  refine bsl (out := [_, _, _, _]) rfl Z46 zl3 rfl rfl rfl rfl rfl rfl (fun b21 => ?_)
  refine Sy.heap (fun w h => St.rows (sz := 1) (rows := Zh [t.holds, t.need, t.good, t.bad]) (rest := []) h (by simp)) ?_
  refine clV rfl Zcl rfl rfl (Z2L [t.holds, t.need, t.good, t.bad] _ _ 90 [] [] (fun n => inb n 0 30) ZeH (by simp) _ _ (fun _ x _ => Zdn x _ _)) ?_
  refine pur 2 rfl ?_
  refine Z5 rfl ?_ ?_ <;> intro hc1
  refine sqt 1 rfl (pur 1 rfl (Z4 ?_))
  exact rtA rfl rfl rfl ⟨congrArg (Value.int .i64) (by first | (rw [hck, Z29 hn]; rfl) | (rw [hck, Z0D hk2 hbad]; rfl) | simp_all only [Twn.check, inb, cond_true, cond_false, Bool.not_true, Bool.not_false, Bool.not_eq_true', Bool.not_eq_false']), rfl, rfl⟩ drp
  ·
   refine sqt 24 rfl (sp rfl (PE.fA Z22 rfl) rfl (spL rfl rfl (lh sc3 rfl rfl) rfl ?_))
   refine clV rfl Z2a rfl rfl (Z68 _ _ _ _ _) ?_
   refine pur 2 rfl ?_
   refine ZE 29 rfl ?_ ?_ <;> intro g29
   refine pur 19 rfl ?_
   refine Zm rfl ?_
   refine sqt 1 rfl (pur 1 rfl (Z4 ?_))
   exact rtA rfl rfl rfl ⟨congrArg (Value.int .i64) (by first | (rw [hck, Z29 hn]; rfl) | (rw [hck, Z0D hk2 hbad]; rfl) | simp_all only [Twn.check, inb, cond_true, cond_false, Bool.not_true, Bool.not_false, Bool.not_eq_true', Bool.not_eq_false']), rfl, rfl⟩ drp
   ·
    refine spG rfl rfl rfl rfl (PE.fA Z25 rfl) rfl ?_
    refine Z03 rfl rfl rfl rfl rfl (lh sc3 rfl rfl) rfl ?_
    refine Z0k rfl rfl rfl rfl Z2a rfl rfl (Z68 _ _ _ _ _) ?_
    refine pur 3 rfl ?_
    refine ZE 35 rfl ?_ ?_ <;> intro g35
    refine pur 13 rfl ?_
    refine Zm rfl ?_
    refine sqt 1 rfl (pur 1 rfl (Z4 ?_))
    exact rtA rfl rfl rfl ⟨congrArg (Value.int .i64) (by first | (rw [hck, Z29 hn]; rfl) | (rw [hck, Z0D hk2 hbad]; rfl) | simp_all only [Twn.check, inb, cond_true, cond_false, Bool.not_true, Bool.not_false, Bool.not_eq_true', Bool.not_eq_false']), rfl, rfl⟩ drp
    ·
     refine spG rfl rfl rfl rfl (PE.fA Z3P rfl) rfl ?_
     refine Z03 rfl rfl rfl rfl rfl (lh sc3 rfl rfl) rfl ?_
     refine Z0k rfl rfl rfl rfl Z2a rfl rfl (Z68 _ _ _ _ _) ?_
     refine pur 3 rfl ?_
     refine ZE 41 rfl ?_ ?_ <;> intro g41
     refine pur 7 rfl ?_
     refine Zm rfl ?_
     refine sqt 1 rfl (pur 1 rfl (Z4 ?_))
     exact rtA rfl rfl rfl ⟨congrArg (Value.int .i64) (by first | (rw [hck, Z29 hn]; rfl) | (rw [hck, Z0D hk2 hbad]; rfl) | simp_all only [Twn.check, inb, cond_true, cond_false, Bool.not_true, Bool.not_false, Bool.not_eq_true', Bool.not_eq_false']), rfl, rfl⟩ drp
     ·
      refine Z03 rfl rfl rfl rfl rfl (lhA [_, _, _, _, _, _, _, _, _, _, _] Zd rfl rfl rfl) rfl ?_
      refine spG rfl rfl rfl rfl (PE.fA Z0a rfl) rfl ?_
      refine Z03 rfl rfl rfl rfl rfl (lhA [_, _, _] ZF rfl rfl rfl) rfl ?_
      refine Z0k rfl rfl rfl rfl ZaF rfl rfl (Z5F t t.now _ _ _) ?_
      refine pur 3 rfl ?_
      refine Z5 rfl ?_ ?_ <;> intro hc2
      refine sqt 1 rfl (pur 1 rfl (Z4 ?_))
      exact rtA rfl rfl rfl ⟨congrArg (Value.int .i64) (by first | (rw [hck, Z29 hn]; rfl) | (rw [hck, Z0D hk2 hbad]; rfl) | simp_all only [Twn.check, inb, cond_true, cond_false, Bool.not_true, Bool.not_false, Bool.not_eq_true', Bool.not_eq_false']), rfl, rfl⟩ drp
      ·
       refine sqt 5 rfl (sp rfl (PE.fA ZY rfl) rfl (spL rfl rfl (lh Z23 rfl rfl) rfl ?_))
       refine clV rfl ZeL rfl rfl (Z76 t.rats a c 92 [] [] (fun q => inb q.sacks 0 30 && inb q.price 0 100) Zf5 hl _ _ (fun _ _ x _ => Zdm x _ _)) ?_
       refine pur 2 rfl ?_
       refine Z5 rfl ?_ ?_ <;> intro hc3
       refine sqt 1 rfl (pur 1 rfl (Z4 ?_))
       exact rtA rfl rfl rfl ⟨congrArg (Value.int .i64) (by first | (rw [hck, Z29 hn]; rfl) | (rw [hck, Z0D hk2 hbad]; rfl) | simp_all only [Twn.check, inb, cond_true, cond_false, Bool.not_true, Bool.not_false, Bool.not_eq_true', Bool.not_eq_false']), rfl, rfl⟩ drp
       ·
        refine sqt 6 rfl (sp rfl (PE.fA Z3p rfl) rfl (spL rfl rfl (lh sc3 rfl rfl) rfl (sp rfl (PE.fA Z2Y rfl) rfl (spL rfl rfl (lh sc3 rfl rfl) rfl (pur 2 rfl ?_)))))
        refine Z5 rfl ?_ ?_ <;> intro hc4
        refine sqt 1 rfl (pur 1 rfl (Z4 ?_))
        exact rtA rfl rfl rfl ⟨congrArg (Value.int .i64) (by first | (rw [hck, Z29 hn]; rfl) | (rw [hck, Z0D hk2 hbad]; rfl) | simp_all only [Twn.check, inb, cond_true, cond_false, Bool.not_true, Bool.not_false, Bool.not_eq_true', Bool.not_eq_false']), rfl, rfl⟩ drp
        ·
         refine Z3 (Z0 (sqt 1 rfl (pur 1 rfl (Z7 ?_))))
         have hlen : 1 ≤ t.rats.length := by
           simp only [inb, decide_eq_true_eq, decide_eq_false_iff_not, Bool.and_eq_true, Bool.or_eq_true, Bool.not_eq_true', Int.not_le, Int.not_lt, Bool.not_eq_false'] at hc0
           omega
         have hck : t.check = bif (List.range t.rats.length).any (Z1w t.rats) then 4 else 0 := by simp_all only [Twn.check, inb, cond_true, cond_false, Bool.not_true, Bool.not_false, Bool.not_eq_true', Bool.not_eq_false']
         refine Zn (ι := {k : Nat // 1 ≤ k ∧ k ≤ t.rats.length ∧ ∀ i, i < k - 1 → Z1w t.rats i = false}) (fun k => ⟨[(1, .pointer (some ⟨b1, 0, none⟩)), (3, .int .i64 k.1)], (b1, cel 27 (twl t (t.sl a c))) :: H, R⟩) (fun k => t.rats.length - k.1) ⟨1, by simp; omega⟩ ?_ (fun k => ?_)
         exact Z06 (fun w h => by repeat first | exact h | replace h := St.ftail h)
         ·
          obtain ⟨k, hk1, hk2, hn⟩ := k
          dsimp only
          refine Z0 (sqt 5 rfl (pur 1 rfl (sp rfl (PE.fA ZY rfl) rfl (spL rfl rfl (lh Z23 rfl rfl) rfl (sp rfl (PE.lenSl Z2f rfl) rfl (pur 1 rfl ?_))))))
          refine Z5 rfl ?_ ?_ <;> intro hc5
          ·
           simp only [cS] at hc5
           obtain ⟨x, hx⟩ : ∃ x, t.rats[k - 1]? = some x := ⟨_, List.getElem?_eq_getElem (by omega)⟩
           obtain ⟨y, hy⟩ : ∃ y, t.rats[k]? = some y := ⟨_, List.getElem?_eq_getElem (by omega)⟩
           have e1 : ((k : Int) - 1).toNat = k - 1 := by omega
           have hba : Z1w t.rats (k - 1) = (decide (x.sacks ≤ y.sacks) || decide (y.price ≤ x.price)) := by unfold Z1w; rw [hx, show k - 1 + 1 = k from by omega, hy]
           refine Zw (a := a) (sz := 2) (rows := Zf t.rats) (by intro h0; simp [Zf] at h0; simp [h0] at hx) (fun b off he => ?_)
           subst he
           refine Z3 (Z0 (Z7 (Z0 ?_)))
           refine Z2q (ι := Nat × Nat) (fun z => ⟨[(1, .pointer (some ⟨b1, 0, none⟩)), (3, .int .i64 k), (4, .pointer (some ⟨z.1, 0, none⟩)), (5, .pointer (some ⟨z.2, 0, none⟩))], (z.1, cel 44 (Z2z x)) :: (z.2, cel 44 (Z2z y)) :: (b1, cel 27 (twl t (t.sl (some ⟨b, off, none⟩) c))) :: H, R⟩) ?_ ?_
           ·
            refine Ze [0, 1, 0, 4, 15, 31, 0, 64, 0, 448, 960, 0, 0, 6207, 16383] (.tk 0 (.ld 1 (tks 2 3 (.ld 5 (.tk 6 (.ld 7 (.tk 8 (.tk 9 (.ld 10 (.any (.alt 11 (.big 12 (.big 13 (.big 14 .done))) (.alt 12 (.big 11 (.big 13 (.big 14 .done))) .stop)))))))))))) Zy (by kernel_rfl) ?_
            refine tk rfl (PE.fA ZY rfl) rfl (ld rfl rfl (lh Z23 rfl rfl) rfl (ZD 1 rfl (tk rfl (PE.sub rfl rfl (by omega)) rfl (tk rfl (PE.indexAddr Z8K rfl rfl (by omega) (by omega)) rfl (ld rfl rfl (lfA Z5j (row := Z2z x) (by rw [e1]; exact Z01 hx) rfl) rfl (tk rfl (PE.fA ZY rfl) rfl (ld rfl rfl (lh Z23 rfl rfl) rfl (ZD 1 rfl (tk rfl (PE.indexAddr Z8K rfl rfl (by omega) (by omega)) rfl (ld rfl rfl (lfA Z5j (row := Z2z y) (Z01 hy) rfl) rfl ?_))))))))))
            refine Z8 ?_ ?_
            ·
             refine alc rfl Z6P rfl (fun b4 => ?_)
             refine bg (fun w hs => ⟨(lfA Z5j (row := Z2z y) (Z01 hy) rfl) w hs, (lh Z23 rfl rfl) w hs, (lfA Z5j (row := Z2z x) (by rw [e1]; exact Z01 hx) rfl) w hs, (lh Z23 rfl rfl) w hs, trivial⟩) ?_
             refine alc rfl Z6P rfl (fun b5 => ?_)
             refine bg (fun w hs => ⟨(lfA Z5j (row := Z2z y) (Z01 hy) rfl) w hs, (lh Z23 rfl rfl) w hs, (lfA Z5j (row := Z2z x) (by rw [e1]; exact Z01 hx) rfl) w hs, (lh Z23 rfl rfl) w hs, trivial⟩) ?_
             refine sto rfl rfl rfl ZcO rfl rfl rfl rfl ?_
             refine bg (fun w hs => ⟨(lfA Z5j (row := Z2z y) (Z01 hy) rfl) w hs, (lh Z23 rfl rfl) w hs, trivial, trivial, trivial⟩) ?_
             refine sto rfl rfl rfl ZcO rfl rfl rfl rfl ?_
             refine bgT ?_
             exact Z5g (b4, b5) (fun w h => by first | exact h | exact h.perm (.swap _ _ _))
            refine Z8 ?_ ?_
            ·
             refine alc rfl Z6P rfl (fun b5 => ?_)
             refine bg (fun w hs => ⟨(lfA Z5j (row := Z2z y) (Z01 hy) rfl) w hs, (lh Z23 rfl rfl) w hs, (lfA Z5j (row := Z2z x) (by rw [e1]; exact Z01 hx) rfl) w hs, (lh Z23 rfl rfl) w hs, trivial⟩) ?_
             refine alc rfl Z6P rfl (fun b4 => ?_)
             refine bg (fun w hs => ⟨(lfA Z5j (row := Z2z y) (Z01 hy) rfl) w hs, (lh Z23 rfl rfl) w hs, (lfA Z5j (row := Z2z x) (by rw [e1]; exact Z01 hx) rfl) w hs, (lh Z23 rfl rfl) w hs, trivial⟩) ?_
             refine sto rfl rfl rfl ZcO rfl rfl rfl rfl ?_
             refine bg (fun w hs => ⟨(lfA Z5j (row := Z2z y) (Z01 hy) rfl) w hs, (lh Z23 rfl rfl) w hs, trivial, trivial, trivial⟩) ?_
             refine sto rfl rfl rfl ZcO rfl rfl rfl rfl ?_
             refine bgT ?_
             exact Z5g (b4, b5) (fun w h => by first | exact h | exact h.perm (.swap _ _ _))
            exact Zc
           rintro ⟨b4, b5⟩
           dsimp only
           refine sqt 12 rfl (sp rfl (PE.fA Z2Z rfl) rfl (spL rfl rfl (lh sc3 rfl rfl) rfl (sp rfl (PE.fA Z2Z rfl) rfl (spL rfl rfl (lh sc3 rfl rfl) rfl (pur 2 rfl ?_)))))
           refine ZE 82 rfl ?_ ?_ <;> intro g82
           have hbad : Z1w t.rats (k - 1) = true := by rw [hba, g82]; rfl
           replace hk2 : k - 1 < t.rats.length := by omega
           refine pur 6 rfl ?_
           refine Zm rfl ?_
           refine sqt 1 rfl (pur 1 rfl (Z4 ?_))
           exact rtA rfl rfl rfl ⟨congrArg (Value.int .i64) (by first | (rw [hck, Z29 hn]; rfl) | (rw [hck, Z0D hk2 hbad]; rfl) | simp_all only [Twn.check, inb, cond_true, cond_false, Bool.not_true, Bool.not_false, Bool.not_eq_true', Bool.not_eq_false']), rfl, rfl⟩ drp
           refine spG rfl rfl rfl rfl (PE.fA Z5c rfl) rfl ?_
           refine Z03 rfl rfl rfl rfl rfl (lh sc3 rfl rfl) rfl ?_
           refine spG rfl rfl rfl rfl (PE.fA Z5c rfl) rfl ?_
           refine Z03 rfl rfl rfl rfl rfl (lh sc3 rfl rfl) rfl (pur 2 rfl ?_)
           refine Z5 rfl ?_ ?_ <;> intro hc6
           have hbad : Z1w t.rats (k - 1) = true := by rw [hba, g82]; exact hc6
           replace hk2 : k - 1 < t.rats.length := by omega
           refine sqt 1 rfl (pur 1 rfl (Z4 ?_))
           exact rtA rfl rfl rfl ⟨congrArg (Value.int .i64) (by first | (rw [hck, Z29 hn]; rfl) | (rw [hck, Z0D hk2 hbad]; rfl) | simp_all only [Twn.check, inb, cond_true, cond_false, Bool.not_true, Bool.not_false, Bool.not_eq_true', Bool.not_eq_false']), rfl, rfl⟩ drp
           refine Z3 (sqr 3 rfl (pur 1 rfl (sp rfl (PE.add rfl rfl (by omega)) rfl (pur 1 rfl ?_))))
           exact Zb ⟨k + 1, by omega, by omega, fun i hi => by
             rcases Nat.lt_or_ge i (k - 1) with h1 | h1
             · exact hn i h1
             · obtain rfl : i = k - 1 := by omega
               rw [hba, g82]; exact hc6⟩ (by dsimp only; omega) (by repeat' first | exact Sub.nil | apply Sub.cons | rfl | (simp [lk]; omega)) (fun w h => St.tail (St.tail h))
          simp only [cS] at hc5
          obtain rfl : k = t.rats.length := by omega
          refine Zk (Zl (Zl (ZH (sqt 1 rfl (pur 1 rfl (Z4 ?_))))))
          exact rtA rfl rfl rfl ⟨congrArg (Value.int .i64) (by first | (rw [hck, Z29 hn]; rfl) | (rw [hck, Z0D hk2 hbad]; rfl) | simp_all only [Twn.check, inb, cond_true, cond_false, Bool.not_true, Bool.not_false, Bool.not_eq_true', Bool.not_eq_false']), rfl, rfl⟩ drp
theorem ZcS : arN Tryz.prog 56 = some (4, 1) := by kernel_rfl
theorem ZcR : arN Tryz.prog 57 = some (4, 4) := by kernel_rfl
theorem Zcx : arN Tryz.prog 59 = some (31, 16) := by kernel_rfl
theorem Z3t : cal Tryz.prog 13 = true := by kernel_rfl
theorem Zbf : cal Tryz.prog 15 = true := by kernel_rfl
theorem Z8m : cal Tryz.prog 39 = true := by kernel_rfl
theorem Z5P : cal Tryz.prog 40 = true := by kernel_rfl
theorem ZaD : cal Tryz.prog 51 = true := by kernel_rfl
theorem Zan : cal Tryz.prog 80 = true := by kernel_rfl
theorem Z6v : Z1n Tryz.prog 55 0 = some 0 := by kernel_rfl
theorem Z1O : Z1n Tryz.prog 62 0 = some 0 := by kernel_rfl
theorem Z6r : Z1n Tryz.prog 62 1 = some 11 := by kernel_rfl
theorem Z0G : Z1n Tryz.prog 62 2 = some 12 := by kernel_rfl
theorem ZfN : Z1q Tryz.prog 55 = some [(0, 1)] := by kernel_rfl
theorem ZfQ : Z1q Tryz.prog 62 = some [(0, 11), (11, 1), (12, 496), (508, 1), (509, 1)] := by kernel_rfl
theorem ZdP : Z47 Tryz.prog 53 = true := by kernel_rfl
theorem ZfJ : Z0n Tryz.prog 55 = some ([.nilFunc]) := by kernel_rfl
theorem ZfV : Z0n Tryz.prog 62 = some (List.replicate 10 (.int .i64 0) ++ [.slice none 0 0] ++ [.nilFunc] ++ List.replicate 496 (.int .i64 0) ++ [.slice none 0 0] ++ [.map none]) := by kernel_rfl
abbrev fvv (bt : Nat) : Value := .func (.func 80) #[] #[.pointer (some ⟨bt, 0, none⟩)]
def rcs (t : Twn) (sl : Value) (bt : Nat) (y : List Int) (fs : Value) (m : Nat) : List Value := twl t sl ++ fvv bt :: (ZT y ++ [fs, .map (some m)])
theorem Z86 {y : List Int} {i : Nat} {x : Int} (h : y[i]? = some x) : (ZT y)[i]? = some (.int .i64 x) := by simp [ZT, h]
theorem Zp (y : List Int) : (ZT y).length = y.length := by simp [ZT]
theorem Z5A (y : List Int) (i : Nat) (x : Int) : ZT (y.set i x) = (ZT y).set i (.int .i64 x) := by simp [ZT, List.map_set]
theorem ZbN {t : Twn} {sl : Value} {bt m i k : Nat} {y : List Int} {fs : Value} {x : Int} (h : y[i]? = some x) (e : k = 12 + i) : (rcs t sl bt y fs m)[k]? = some (.int .i64 x) := by
  subst e
  have hi : i < y.length := (List.getElem?_eq_some_iff.1 h).1
  show (([_, _, _, _, _, _, _, _, _, _, _, _] ++ (ZT y ++ [fs, .map (some m)]) : List Value))[12 + i]? = _
  rw [List.getElem?_append_right (by simp)]
  simp only [List.length_cons, List.length_nil, Nat.zero_add, Nat.add_sub_cancel_left]
  rw [List.getElem?_append_left (by rw [Zp]; exact hi)]
  exact Z86 h
theorem Z4l {t : Twn} {sl : Value} {bt m : Nat} {y : List Int} {fs : Value} (hy : y.length = 496) : (rcs t sl bt y fs m).length = 510 := by
  simp [rcs, Zp, hy]
theorem Z9u {t : Twn} {sl : Value} {bt m : Nat} {y : List Int} {fs : Value} (hy : y.length = 496) : (rcs t sl bt y fs m).drop 508 = [fs, .map (some m)] := by
  show (([_, _, _, _, _, _, _, _, _, _, _, _] ++ (ZT y ++ [fs, .map (some m)]) : List Value)).drop 508 = _
  rw [← List.append_assoc, List.drop_left' (by simp [Zp, hy])]
theorem Z3V {t : Twn} {sl : Value} {bt m : Nat} {y : List Int} {fs : Value} (hy : y.length = 496) : (rcs t sl bt y fs m)[508]? = some fs := by
  have := congrArg (fun l : List Value => l[0]?) (Z9u (t := t) (sl := sl) (bt := bt) (m := m) (fs := fs) hy)
  simpa [List.getElem?_drop] using this
theorem Z3s {t : Twn} {sl : Value} {bt m : Nat} {y : List Int} {fs : Value} (hy : y.length = 496) : (rcs t sl bt y fs m)[509]? = some (.map (some m)) := by
  have := congrArg (fun l : List Value => l[1]?) (Z9u (t := t) (sl := sl) (bt := bt) (m := m) (fs := fs) hy)
  simpa [List.getElem?_drop] using this
theorem Z4j {l : List Value} {k : Nat} {v : Value} (h : k < l.length) : spl l k [v] = l.set k v := by
  simp only [spl, List.length_singleton, List.append_assoc, List.singleton_append]
  rw [List.set_eq_take_append_cons_drop, if_pos h]
theorem Z6d {t : Twn} {sl : Value} {bt m i k : Nat} {y : List Int} {fs : Value} (x : Int) (hi : i < y.length) (e : k = 12 + i) : spl (rcs t sl bt y fs m) k [.int .i64 x] = rcs t sl bt (y.set i x) fs m := by
  subst e
  rw [Z4j (by simp [rcs, Zp]; omega)]
  show (([_, _, _, _, _, _, _, _, _, _, _, _] ++ (ZT y ++ [fs, .map (some m)]) : List Value)).set (12 + i) _ = [_, _, _, _, _, _, _, _, _, _, _, _] ++ (ZT (y.set i x) ++ [fs, .map (some m)])
  rw [List.set_append_right _ _ (by simp)]
  simp only [List.length_cons, List.length_nil, Nat.zero_add, Nat.add_sub_cancel_left]
  rw [List.set_append_left _ _ (by rw [Zp]; exact hi), Z5A]
theorem Zci {t : Twn} {sl : Value} {bt m : Nat} {y : List Int} {fs : Value} (fs' : Value) (hy : y.length = 496) : spl (rcs t sl bt y fs m) 508 [fs'] = rcs t sl bt y fs' m := by
  rw [Z4j (by rw [Z4l hy]; omega)]
  show (([_, _, _, _, _, _, _, _, _, _, _, _] ++ (ZT y ++ [fs, .map (some m)]) : List Value)).set 508 _ = [_, _, _, _, _, _, _, _, _, _, _, _] ++ (ZT y ++ [fs', .map (some m)])
  rw [List.set_append_right _ _ (by simp)]
  simp only [List.length_cons, List.length_nil, Nat.zero_add]
  rw [List.set_append_right _ _ (by rw [Zp]; omega), Zp, hy]
  rfl
theorem Zao (t : Twn) (s : Sta) (ba oa ca : Nat) (bt : Nat) (H : Zj) (R : Z9) [hT : MemRows (some ⟨bt, 0, none⟩) 11 [twl t (t.sl (some ⟨ba, oa, none⟩) ca)] R] :
    FnV Tryz.prog 80 [s.v, .pointer (some ⟨bt, 0, none⟩)] H R (.bool (decide (s.dry < t.run))) := by
 refine Zq Tryz.func80 rfl Tryz.ntmps80 rfl ?_
 refine sqt 2 rfl (bx rfl rfl rfl (fun b2 => pur 1 rfl (sqt 6 rfl (sp rfl (PE.fA Z1I rfl) rfl (spL rfl rfl (lh sc3 rfl rfl) rfl (sp rfl (PE.fA Z25 rfl) rfl (spL rfl rfl (lfB (sz := 11) sc3 rfl) rfl (pur 2 rfl (Z4 ?_)))))))))
 exact rtA rfl rfl rfl ⟨rfl, rfl, rfl⟩ drp
theorem Z1A (t : Twn) (hl : t.rats.length ≤ 9223372036854775807) (ba oa ca : Nat) (H : Zj) (R : Z9) [hR : MemRows (some ⟨ba, oa, none⟩) 2 (Zf t.rats) R] :
    Fn Tryz.prog 36 [t.v (t.sl (some ⟨ba, oa, none⟩) ca)] H R (fun v H' R' => (t.check ≠ 0 ∧ v = .tuple #[.pointer none, .int .i64 t.check] ∧ H' = H ∧ R' = R) ∨
      (t.check = 0 ∧ ∃ bw m bt, v = .tuple #[.pointer (some ⟨bw, 0, none⟩), .int .i64 0] ∧ H' = (bw, cel 62 (rcs t (t.sl (some ⟨ba, oa, none⟩) ca) bt (List.replicate 496 0) (.slice none 0 0) m)) :: (m, Z1j true []) :: H ∧ R' = RowsA (some ⟨bt, 0, none⟩) 11 [twl t (t.sl (some ⟨ba, oa, none⟩) ca)] :: R)) := by
 refine Zq Tryz.func36 rfl Tryz.ntmps36 rfl ?_
 refine sqt 3 rfl (bx rfl rfl rfl (fun b1 => pur 2 rfl (Z0 (sqt 3 rfl (spL rfl rfl (lhA [_, _, _, _, _, _, _, _, _, _, _] Zd rfl rfl rfl) rfl ?_)))))
 refine clV rfl ZaD rfl rfl (Z5m t _ _ hl _ _) ?_
 refine pur 1 rfl (sqt 2 rfl (pur 2 rfl ?_))
 refine Z5 rfl ?_ ?_ <;> intro hc0
 simp only [cS] at hc0
 refine sqt 3 rfl (pur 3 rfl (Z4 ?_))
 first
   | exact rtB rfl rfl rfl rfl (.inl ⟨by simpa using hc0, rfl, rfl, rfl⟩) (fun _ h => h.tail)
   | exact rtB rfl rfl rfl rfl (.inr ⟨by simpa using hc0, _, _, _, rfl, rfl, rfl⟩) (fun w h => St.rows (sz := 11) (rows := [twl t (t.sl (some ⟨ba, oa, none⟩) ca)]) (rest := []) (h.perm (List.perm_middle (l₁ := [_, _]))) (by simp))
 simp only [bne_self_eq_false, decide_eq_true_eq, decide_eq_false_iff_not, Bool.and_eq_true, Bool.or_eq_true, Bool.not_eq_true', Int.not_le, Int.not_lt] at hc0
 refine Z3 (sqt 7 rfl (spL rfl rfl (lhA [_, _, _, _, _, _, _, _, _, _, _] Zd rfl rfl rfl) rfl (sp rfl (PE.makeFunc rfl rfl) rfl (sp rfl (PE.build (out := [_]) ZfN ZfJ rfl rfl) rfl ?_))))
 refine mkm rfl rfl true (fun m => ?_)
 refine sp rfl (PE.build (out := rcs t (t.sl (some ⟨ba, oa, none⟩) ca) b1 (List.replicate 496 0) (.slice none 0 0) m) ZfQ ZfV rfl (by kernel_rfl)) rfl (bx rfl rfl rfl (fun b16 => pur 1 rfl (sqt 3 rfl (pur 3 rfl (Z4 ?_)))))
 first
   | exact rtB rfl rfl rfl rfl (.inl ⟨by simpa using hc0, rfl, rfl, rfl⟩) (fun _ h => h.tail)
   | exact rtB rfl rfl rfl rfl (.inr ⟨by simpa using hc0, _, _, _, rfl, rfl, rfl⟩) (fun w h => St.rows (sz := 11) (rows := [twl t (t.sl (some ⟨ba, oa, none⟩) ca)]) (rest := []) (h.perm (List.perm_middle (l₁ := [_, _]))) (by simp))
theorem Z8C (t : Twn) (ht : t.ok) (s : Sta) (hs : s.right t = true) (ba oa ca : Nat) (bt bw m : Nat) (y : List Int) (fs : Value) (hy : y.length = 496) (H : Zj) (R : Z9) [hW : Mem1 bw (cel 62 (rcs t (t.sl (some ⟨ba, oa, none⟩) ca) bt y fs m)) H] :
    FnV Tryz.prog 13 [.pointer (some ⟨bw, 12, none⟩), s.v] H R (.int .i64 (lat y s)) := by
 refine Zq Tryz.func13 rfl Tryz.ntmps13 rfl ?_
 refine sqt 2 rfl (bx rfl rfl rfl (fun b3 => pur 1 rfl (Z0 ?_)))
 refine Ze [0, 0, 2, 0, 8, 0, 32, 1, 135, 415, 1023, 2047, 4095] (.tk 0 (.tk 1 (.ld 2 (.tk 3 (.ld 4 (.tk 5 (.ld 6 (tks 7 4 (.ld 11 (.tk 12 .done)))))))))) Zy (by kernel_rfl) ?_
 refine ZD 1 rfl (tk rfl (PE.fA Z1B rfl) rfl (ld rfl rfl (lh sc3 rfl rfl) rfl (tk rfl (PE.fA Z1h rfl) rfl (ld rfl rfl (lh sc3 rfl rfl) rfl (tk rfl (PE.fA Z1I rfl) rfl (ld rfl rfl (lh sc3 rfl rfl) rfl (tk rfl (PE.nilCheck rfl) rfl (tk rfl (PE.indexArr Zcx rfl rfl (by have h1 := right_iff.1 hs; have h2 := ht.holds; have h3 := ht.patience; have h4 := ht.run; omega) (by have h1 := right_iff.1 hs; have h2 := ht.holds; have h3 := ht.patience; have h4 := ht.run; omega)) rfl (tk rfl (PE.indexArr ZcR rfl rfl (by have h1 := right_iff.1 hs; have h2 := ht.holds; have h3 := ht.patience; have h4 := ht.run; omega) (by have h1 := right_iff.1 hs; have h2 := ht.holds; have h3 := ht.patience; have h4 := ht.run; omega)) rfl (tk rfl (PE.indexArr ZcS rfl rfl (by have h1 := right_iff.1 hs; have h2 := ht.holds; have h3 := ht.patience; have h4 := ht.run; omega) (by have h1 := right_iff.1 hs; have h2 := ht.holds; have h3 := ht.patience; have h4 := ht.run; omega)) rfl (ld rfl rfl (lh sc3 rfl (ZbN (ZbP (s := s) (by have := Z2A ht hs; omega)) (by unfold Sta.ix; omega))) rfl (ZD 1 rfl (Z4 ?_)))))))))))))
 exact rtA rfl rfl rfl ⟨rfl, rfl, rfl⟩ drp
theorem Z5E (t : Twn) (ht : t.ok) (s : Sta) (hs : s.right t = true) (r : Int) (q : Rn) (h0 : 0 ≤ r) (hq : t.rats[r.toNat]? = some q) (bads : Int) (hb : 0 ≤ bads ∧ bads ≤ 1000000) (ba oa ca : Nat) (bt bw m : Nat) (y : List Int) (fs : Value) (hy : y.length = 496) (H : Zj) (R : Z9) [hR : MemRows (some ⟨ba, oa, none⟩) 2 (Zf t.rats) R] [hT : MemRows (some ⟨bt, 0, none⟩) 11 [twl t (t.sl (some ⟨ba, oa, none⟩) ca)] R] [hW : Mem1 bw (cel 62 (rcs t (t.sl (some ⟨ba, oa, none⟩) ca) bt y fs m)) H] :
    FnV Tryz.prog 15 [.pointer (some ⟨bw, 0, none⟩), s.v, .int .i64 r, .int .i64 bads] H R (.bool (t.keeps y s q bads)) := by
 refine Zq Tryz.func15 rfl Tryz.ntmps15 rfl ?_
 refine sqt 2 rfl (bx rfl rfl rfl (fun b5 => pur 1 rfl (Z0 (Z0 ?_))))
 refine Ze [0, 1, 3, 7, 0, 0, 63, 127, 255, 511, 1023, 2047, 511, 4607, 12799, 29183, 511, 511, 258559, 524287, 511, 2097151, 4194303] (tks 0 3 (.ld 3 (.ld 4 (.tk 5 (.big 6 (tks 7 8 (.ld 15 (.ld 16 (.tk 17 (.tk 20 (.big 18 (.big 19 (.tk 21 (.tk 22 .done)))))))))))))) Zy (by kernel_rfl) ?_
 refine ZD 1 rfl (tk rfl (PE.nilCheck rfl) rfl (tk rfl (PE.fA Z1O rfl) rfl (ld rfl rfl (lhA [_, _, _, _, _, _, _, _, _, _, _] Zd rfl rfl rfl) rfl (ld rfl rfl (lhA [_, _, _] ZF rfl rfl rfl) rfl (ZD 1 rfl ?_)))))
 refine clV rfl Z8m rfl rfl (Z1L t s r q ba oa ca h0 hq _ _) ?_
 refine bgT (ZD 2 rfl ?_)
 refine ZE 18 rfl ?_ ?_ <;> intro g18
 simp only [Bool.not_eq_true'] at g18
 refine ZD 6 rfl ?_
 repeat refine ldN rfl rfl rfl rfl rfl rfl rfl rfl ?_
 refine ZD 2 rfl ?_
 refine spN rfl rfl rfl rfl rfl rfl rfl rfl ?_
 refine bgT ?_
 refine spN rfl rfl rfl rfl rfl rfl rfl rfl ?_
 refine bgT (ZD 2 rfl ?_)
 refine Zm rfl ?_
 refine sqt 1 rfl (pur 1 rfl (Z4 ?_))
 exact rtA rfl rfl rfl ⟨by
     first
       | (simp [ZL, Twn.keeps, g18]; done)
       | (simp [ZL, Twn.keeps, g18.2]; omega)
       | (simp [ZL, Twn.keeps, g18.2, g39, g49, hc1]; try omega)
       | (simp [ZL, Twn.keeps, g18.2, g39, hc1]; try omega)
       | (simp [ZL, Twn.keeps, g18.2, g39]; try omega), rfl, rfl⟩ drp
 simp only [Bool.not_eq_false'] at g18
 replace g18 := And.intro (show q.sacks ≤ s.stock ∧ True by simp [Twn.can] at g18; exact ⟨g18.1, trivial⟩) g18
 refine ZD 1 rfl ?_
 refine tkG rfl rfl rfl rfl (PE.nilCheck rfl) rfl ?_
 refine tkG rfl rfl rfl rfl (PE.fA Z0G rfl) rfl ?_
 refine ZD 1 rfl ?_
 refine tkG rfl rfl rfl rfl (PE.nilCheck rfl) rfl ?_
 refine tkG rfl rfl rfl rfl (PE.fA Z1O rfl) rfl ?_
 refine ldG rfl rfl rfl rfl rfl (lhA [_, _, _, _, _, _, _, _, _, _, _] Zd rfl rfl rfl) rfl (ldG rfl rfl rfl rfl rfl (lhA [_, _, _] ZF rfl rfl rfl) rfl (ZD 2 rfl ?_))
 refine Z0k rfl rfl rfl rfl Z5P rfl rfl (Z3l t ht s hs r q false ba oa ca h0 hq g18.1.1 _ _) ?_
 refine bgT ?_
 refine Z0k rfl rfl rfl rfl Z3t rfl rfl (Z8C t ht _ (ZB ht hs (List.mem_of_getElem? hq) g18.2 (by simp)) ba oa ca bt bw m y fs hy _ _) ?_
 refine bgT (ZD 2 rfl ?_)
 refine Z5 rfl ?_ ?_ <;> intro hc0
 simp only [decide_eq_true_eq] at hc0
 refine sqt 1 rfl (pur 1 rfl (Z4 ?_))
 exact rtA rfl rfl rfl ⟨by
     first
       | (simp [ZL, Twn.keeps, g18]; done)
       | (simp [ZL, Twn.keeps, g18.2]; omega)
       | (simp [ZL, Twn.keeps, g18.2, g39, g49, hc1]; try omega)
       | (simp [ZL, Twn.keeps, g18.2, g39, hc1]; try omega)
       | (simp [ZL, Twn.keeps, g18.2, g39]; try omega), rfl, rfl⟩ drp
 simp only [decide_eq_false_iff_not, Int.not_lt] at hc0
 refine Z3 (sqt 3 rfl (pur 1 rfl (sp rfl (PE.sub rfl rfl (by omega)) rfl (pur 1 rfl (Z0 (sqt 2 rfl (pur 2 rfl ?_)))))))
 refine Z5 rfl ?_ ?_ <;> intro hc1
 simp only [decide_eq_true_eq] at hc1
 refine sqr 1 rfl (pur 1 rfl (Z0 ?_))
 refine Ze [0, 1, 3, 7, 15, 31, 63, 127, 7, 511, 1023, 2047, 4095, 8191, 16383, 32767, 8191, 73727, 204799, 466943, 8191, 8191, 4136959, 8388607, 8191, 33554431, 67108863, 134217727] (tks 0 7 (.ld 7 (.ld 8 (.big 9 (tks 10 9 (.ld 19 (.ld 20 (.tk 21 (.tk 24 (.big 22 (.big 23 (tks 25 3 .done)))))))))))) Zy (by kernel_rfl) ?_
 refine ZD 3 rfl ?_
 refine ZE 39 rfl ?_ ?_ <;> intro g39
 simp only [decide_eq_true_eq] at g39
 refine ZD 4 rfl ?_
 repeat refine ldN rfl rfl rfl rfl rfl rfl rfl rfl ?_
 refine spN rfl rfl rfl rfl rfl rfl rfl rfl ?_
 refine bgT (ZD 9 rfl ?_)
 repeat refine ldN rfl rfl rfl rfl rfl rfl rfl rfl ?_
 refine ZD 2 rfl ?_
 refine spN rfl rfl rfl rfl rfl rfl rfl rfl ?_
 refine bgT ?_
 refine spN rfl rfl rfl rfl rfl rfl rfl rfl ?_
 refine bgT (ZD 3 rfl (Z4 ?_))
 exact rtA rfl rfl rfl ⟨by
     first
       | (simp [ZL, Twn.keeps, g18]; done)
       | (simp [ZL, Twn.keeps, g18.2]; omega)
       | (simp [ZL, Twn.keeps, g18.2, g39, g49, hc1]; try omega)
       | (simp [ZL, Twn.keeps, g18.2, g39, hc1]; try omega)
       | (simp [ZL, Twn.keeps, g18.2, g39]; try omega), rfl, rfl⟩ drp
 simp only [decide_eq_false_iff_not] at g39
 refine ZD 1 rfl ?_
 refine tkG rfl rfl rfl rfl (PE.nilCheck rfl) rfl ?_
 refine tkG rfl rfl rfl rfl (PE.fA Z6r rfl) rfl ?_
 refine tkG rfl rfl rfl rfl (PE.fA Z6v rfl) rfl ?_
 refine ldG rfl rfl rfl rfl rfl (lh ZdP rfl rfl) rfl (ldG rfl rfl rfl rfl rfl (lhA [_, _, _] ZF rfl rfl rfl) rfl ?_)
 refine ZbZ rfl rfl rfl rfl rfl (Zan) rfl rfl (Zao t s ba oa ca bt _ _) ?_
 refine bgT (ZD 3 rfl ?_)
 refine ZE 49 rfl ?_ ?_ <;> intro g49
 simp only [Bool.not_eq_true', decide_eq_false_iff_not] at g49
 refine ZD 6 rfl ?_
 repeat refine ldN rfl rfl rfl rfl rfl rfl rfl rfl ?_
 refine ZD 2 rfl ?_
 refine spN rfl rfl rfl rfl rfl rfl rfl rfl ?_
 refine bgT ?_
 refine spN rfl rfl rfl rfl rfl rfl rfl rfl ?_
 refine bgT (ZD 3 rfl (Z4 ?_))
 exact rtA rfl rfl rfl ⟨by
     first
       | (simp [ZL, Twn.keeps, g18]; done)
       | (simp [ZL, Twn.keeps, g18.2]; omega)
       | (simp [ZL, Twn.keeps, g18.2, g39, g49, hc1]; try omega)
       | (simp [ZL, Twn.keeps, g18.2, g39, hc1]; try omega)
       | (simp [ZL, Twn.keeps, g18.2, g39]; try omega), rfl, rfl⟩ drp
 simp only [Bool.not_eq_false', decide_eq_true_eq] at g49
 refine ZD 1 rfl ?_
 refine tkG rfl rfl rfl rfl (PE.nilCheck rfl) rfl ?_
 refine tkG rfl rfl rfl rfl (PE.fA Z0G rfl) rfl ?_
 refine ZD 1 rfl ?_
 refine tkG rfl rfl rfl rfl (PE.nilCheck rfl) rfl ?_
 refine tkG rfl rfl rfl rfl (PE.fA Z1O rfl) rfl ?_
 refine ldG rfl rfl rfl rfl rfl (lhA [_, _, _, _, _, _, _, _, _, _, _] Zd rfl rfl rfl) rfl (ldG rfl rfl rfl rfl rfl (lhA [_, _, _] ZF rfl rfl rfl) rfl (ZD 2 rfl ?_))
 refine Z0k rfl rfl rfl rfl Z5P rfl rfl (Z3l t ht s hs r q true ba oa ca h0 hq g18.1.1 _ _) ?_
 refine bgT ?_
 refine Z0k rfl rfl rfl rfl Z3t rfl rfl (Z8C t ht _ (ZB ht hs (List.mem_of_getElem? hq) g18.2 (fun _ => g49)) ba oa ca bt bw m y fs hy _ _) ?_
 refine bgT (ZD 3 rfl (Z4 ?_))
 exact rtA rfl rfl rfl ⟨by
     first
       | (simp [ZL, Twn.keeps, g18]; done)
       | (simp [ZL, Twn.keeps, g18.2]; omega)
       | (simp [ZL, Twn.keeps, g18.2, g39, g49, hc1]; try omega)
       | (simp [ZL, Twn.keeps, g18.2, g39, hc1]; try omega)
       | (simp [ZL, Twn.keeps, g18.2, g39]; try omega), rfl, rfl⟩ drp
 simp only [decide_eq_false_iff_not] at hc1
 refine Z3 (Z0 ?_)
 refine Ze [0, 1, 3, 7, 15, 31, 63, 127, 7, 511, 1023, 2047, 4095, 8191, 16383, 32767, 8191, 73727, 204799, 466943, 8191, 8191, 4136959, 8388607, 8191, 33554431, 67108863, 134217727] (tks 0 7 (.ld 7 (.ld 8 (.big 9 (tks 10 9 (.ld 19 (.ld 20 (.tk 21 (.tk 24 (.big 22 (.big 23 (tks 25 3 .done)))))))))))) Zy (by kernel_rfl) ?_
 refine ZD 3 rfl ?_
 refine ZE 39 rfl ?_ ?_ <;> intro g39
 simp only [decide_eq_true_eq] at g39
 refine ZD 4 rfl ?_
 repeat refine ldN rfl rfl rfl rfl rfl rfl rfl rfl ?_
 refine spN rfl rfl rfl rfl rfl rfl rfl rfl ?_
 refine bgT (ZD 9 rfl ?_)
 repeat refine ldN rfl rfl rfl rfl rfl rfl rfl rfl ?_
 refine ZD 2 rfl ?_
 refine spN rfl rfl rfl rfl rfl rfl rfl rfl ?_
 refine bgT ?_
 refine spN rfl rfl rfl rfl rfl rfl rfl rfl ?_
 refine bgT (ZD 3 rfl (Z4 ?_))
 exact rtA rfl rfl rfl ⟨by
     first
       | (simp [ZL, Twn.keeps, g18]; done)
       | (simp [ZL, Twn.keeps, g18.2]; omega)
       | (simp [ZL, Twn.keeps, g18.2, g39, g49, hc1]; try omega)
       | (simp [ZL, Twn.keeps, g18.2, g39, hc1]; try omega)
       | (simp [ZL, Twn.keeps, g18.2, g39]; try omega), rfl, rfl⟩ drp
 simp only [decide_eq_false_iff_not] at g39
 refine ZD 1 rfl ?_
 refine tkG rfl rfl rfl rfl (PE.nilCheck rfl) rfl ?_
 refine tkG rfl rfl rfl rfl (PE.fA Z6r rfl) rfl ?_
 refine tkG rfl rfl rfl rfl (PE.fA Z6v rfl) rfl ?_
 refine ldG rfl rfl rfl rfl rfl (lh ZdP rfl rfl) rfl (ldG rfl rfl rfl rfl rfl (lhA [_, _, _] ZF rfl rfl rfl) rfl ?_)
 refine ZbZ rfl rfl rfl rfl rfl (Zan) rfl rfl (Zao t s ba oa ca bt _ _) ?_
 refine bgT (ZD 3 rfl ?_)
 refine ZE 49 rfl ?_ ?_ <;> intro g49
 simp only [Bool.not_eq_true', decide_eq_false_iff_not] at g49
 refine ZD 6 rfl ?_
 repeat refine ldN rfl rfl rfl rfl rfl rfl rfl rfl ?_
 refine ZD 2 rfl ?_
 refine spN rfl rfl rfl rfl rfl rfl rfl rfl ?_
 refine bgT ?_
 refine spN rfl rfl rfl rfl rfl rfl rfl rfl ?_
 refine bgT (ZD 3 rfl (Z4 ?_))
 exact rtA rfl rfl rfl ⟨by
     first
       | (simp [ZL, Twn.keeps, g18]; done)
       | (simp [ZL, Twn.keeps, g18.2]; omega)
       | (simp [ZL, Twn.keeps, g18.2, g39, g49, hc1]; try omega)
       | (simp [ZL, Twn.keeps, g18.2, g39, hc1]; try omega)
       | (simp [ZL, Twn.keeps, g18.2, g39]; try omega), rfl, rfl⟩ drp
 simp only [Bool.not_eq_false', decide_eq_true_eq] at g49
 refine ZD 1 rfl ?_
 refine tkG rfl rfl rfl rfl (PE.nilCheck rfl) rfl ?_
 refine tkG rfl rfl rfl rfl (PE.fA Z0G rfl) rfl ?_
 refine ZD 1 rfl ?_
 refine tkG rfl rfl rfl rfl (PE.nilCheck rfl) rfl ?_
 refine tkG rfl rfl rfl rfl (PE.fA Z1O rfl) rfl ?_
 refine ldG rfl rfl rfl rfl rfl (lhA [_, _, _, _, _, _, _, _, _, _, _] Zd rfl rfl rfl) rfl (ldG rfl rfl rfl rfl rfl (lhA [_, _, _] ZF rfl rfl rfl) rfl (ZD 2 rfl ?_))
 refine Z0k rfl rfl rfl rfl Z5P rfl rfl (Z3l t ht s hs r q true ba oa ca h0 hq g18.1.1 _ _) ?_
 refine bgT ?_
 refine Z0k rfl rfl rfl rfl Z3t rfl rfl (Z8C t ht _ (ZB ht hs (List.mem_of_getElem? hq) g18.2 (fun _ => g49)) ba oa ca bt bw m y fs hy _ _) ?_
 refine bgT (ZD 3 rfl (Z4 ?_))
 exact rtA rfl rfl rfl ⟨by
     first
       | (simp [ZL, Twn.keeps, g18]; done)
       | (simp [ZL, Twn.keeps, g18.2]; omega)
       | (simp [ZL, Twn.keeps, g18.2, g39, g49, hc1]; try omega)
       | (simp [ZL, Twn.keeps, g18.2, g39, hc1]; try omega)
       | (simp [ZL, Twn.keeps, g18.2, g39]; try omega), rfl, rfl⟩ drp
theorem Zf8 (t : Twn) (ht : t.ok) (s : Sta) (hs : s.right t = true) (bads : Int) (hb : 0 ≤ bads ∧ bads ≤ 1000000) (ba oa ca : Nat) (bt bw m : Nat) (y : List Int) (fs : Value) (hy : y.length = 496) (H : Zj) (R : Z9) [hR : MemRows (some ⟨ba, oa, none⟩) 2 (Zf t.rats) R] [hT : MemRows (some ⟨bt, 0, none⟩) 11 [twl t (t.sl (some ⟨ba, oa, none⟩) ca)] R] [hW : Mem1 bw (cel 62 (rcs t (t.sl (some ⟨ba, oa, none⟩) ca) bt y fs m)) H] :
    FnV Tryz.prog 81 [.pointer (some ⟨bw, 0, none⟩), s.v, .int .i64 bads] H R (.bool (t.rats.any fun q => t.keeps y s q bads)) := by
 refine Zq Tryz.func81 rfl Tryz.ntmps81 rfl ?_
 refine sqt 2 rfl (bx rfl rfl rfl (fun b4 => pur 1 rfl (Z0 (sqt 7 rfl (pur 1 rfl (sp rfl (PE.nilCheck rfl) rfl (sp rfl (PE.fA Z1O rfl) rfl (sp rfl (PE.fA ZY rfl) rfl (spL rfl rfl (lh Z23 rfl rfl) rfl (sp rfl (PE.lenSl Z2f rfl) rfl (pur 1 rfl (Z7 ?_))))))))))))
 have hlen := ht.many
 refine Zn (ι := {k : Nat // k ≤ t.rats.length ∧ ∀ i q, i < k → t.rats[i]? = some q → t.keeps y s q bads = false}) (fun k => ⟨[(0, .pointer (some ⟨bw, 0, none⟩)), (2, .int .i64 bads), (4, .pointer (some ⟨b4, 0, none⟩)), (13, .int .i64 t.rats.length), (14, .int .i64 k.1)], (b4, cel 24 [.int .i64 s.stock, .int .i64 s.short, .int .i64 s.dry]) :: H, R⟩) (fun k => t.rats.length - k.1) ⟨0, by omega, by omega⟩ ?_ (fun k => ?_)
 exact Z06 idH
 obtain ⟨k, hk1, hk2⟩ := k
 dsimp only
 refine sqt 1 rfl (pur 1 rfl (Z0 ?_))
 refine Z5 rfl ?_ ?_ <;> intro hc0
 simp only [cS] at hc0
 obtain ⟨q, hq⟩ : ∃ q, t.rats[k]? = some q := ⟨_, List.getElem?_eq_getElem (by omega)⟩
 refine Z3 (Z0 (Z7 (sqt 2 rfl (pur 2 rfl (sqt 5 rfl (pur 1 rfl (spL rfl rfl (lhA [_, _, _] ZF rfl rfl rfl) rfl (pur 2 rfl ?_))))))))
 refine clV rfl Zbf rfl rfl (Z5E t ht s hs k q (by omega) (by simpa using hq) bads hb ba oa ca bt bw m y fs hy _ _) ?_
 refine Z5 rfl ?_ ?_ <;> intro hc1
 refine sqt 1 rfl (pur 1 rfl (Z4 ?_))
 exact rtA rfl rfl rfl ⟨by
     first
       | (have e : (t.rats.any fun q => t.keeps y s q bads) = true := List.any_eq_true.2 ⟨q, List.mem_of_getElem? hq, hc1⟩
          rw [e]; rfl)
       | (have e : (t.rats.any fun q => t.keeps y s q bads) = false := List.any_eq_false.2 fun q hq => by
           obtain ⟨i, hi⟩ := List.getElem?_of_mem hq
           simp [hk2 i q (List.getElem?_eq_some_iff.1 hi).1 hi]
          rw [e]; rfl), rfl, rfl⟩ drp
 refine Z3 (sqr 2 rfl (sp rfl (PE.add rfl rfl (by omega)) rfl (pur 1 rfl ?_)))
 exact Zb ⟨k + 1, by omega, fun i q' hi hq' => by
   rcases Nat.lt_or_ge i k with h1 | h1
   · exact hk2 i q' h1 hq'
   · obtain rfl : i = k := by omega
     rw [hq] at hq'; cases hq'; exact hc1⟩ (by dsimp only; omega) (by repeat' first | exact Sub.nil | apply Sub.cons | rfl | (simp [lk]; omega)) idH
 simp only [cS] at hc0
 obtain rfl : k = t.rats.length := by omega
 refine Zk (Zl (Zl (ZH (sqt 1 rfl (pur 1 rfl (Z4 ?_))))))
 exact rtA rfl rfl rfl ⟨by
     first
       | (have e : (t.rats.any fun q => t.keeps y s q bads) = true := List.any_eq_true.2 ⟨q, List.mem_of_getElem? hq, hc1⟩
          rw [e]; rfl)
       | (have e : (t.rats.any fun q => t.keeps y s q bads) = false := List.any_eq_false.2 fun q hq => by
           obtain ⟨i, hi⟩ := List.getElem?_of_mem hq
           simp [hk2 i q (List.getElem?_eq_some_iff.1 hi).1 hi]
          rw [e]; rfl), rfl, rfl⟩ drp
theorem Z3h (t : Twn) (sl : Value) (H : Zj) (R : Z9) :
    Fn Tryz.prog 14 [t.v sl] H R (fun v H' R' => ∃ b, v = .func (.func 38) #[] #[.pointer (some ⟨b, 0, none⟩)] ∧ H' = H ∧ R' = RowsA (some ⟨b, 0, none⟩) 11 [twl t sl] :: R) := by
 refine Zq Tryz.func14 rfl Tryz.ntmps14 rfl ?_
 refine sqt 2 rfl (bx rfl rfl rfl (fun b1 => pur 1 rfl (sqt 2 rfl (sp rfl (PE.makeFunc rfl rfl) rfl (pur 1 rfl (Z4 ?_))))))
 exact rtA rfl rfl rfl ⟨_, rfl, rfl, rfl⟩ (fun w h => St.rows (sz := 11) (rows := [twl t sl]) (rest := []) h (by simp))
theorem Z2k (t : Twn) (ht : t.ok) (sl : Value) (b l : Nat) (I : Nat → Zj → Z9 → Prop) (E : Zj → Z9 → Prop) (hI : ∀ k H R, I k H R → RowsA (some ⟨b, 0, none⟩) 11 [twl t sl] ∈ R)
    (hy : ∀ k s H R, (sts t)[k]? = some s → I k H R → Yd Tryz.prog l [s.v] H R (fun v H' R' => (v = .bool true ∧ I (k + 1) H' R') ∨ (v = .bool false ∧ E H' R'))) (H : Zj) (R : Z9) (h0 : I 0 H R) :
    Fn Tryz.prog 38 [yv l, .pointer (some ⟨b, 0, none⟩)] H R (fun _ H' R' => I t.nst H' R' ∨ E H' R') := by
 have t1 := ht.holds
 have t2 := ht.patience
 have t3 := ht.run
 haveI : MemRows (some ⟨b, 0, none⟩) 11 [twl t sl] R := ⟨hI _ _ _ h0⟩
 refine Zq Tryz.func38 rfl Tryz.ntmps38 rfl ?_
 refine sqt 4 rfl (sp rfl (PE.fA Z1N rfl) rfl (spL rfl rfl (lfB (sz := 11) sc3 rfl) rfl (sp rfl (PE.add rfl rfl (by omega)) rfl (pur 1 rfl (Z7 ?_)))))
 refine Zn (ι := {x : Nat × Zj × Z9 // x.1 ≤ t.holds.toNat + 1 ∧ I (x.1 * (t.patience.toNat + 1) * (t.run.toNat + 1)) x.2.1 x.2.2}) (fun x => ⟨[(0, yv l), (1, .pointer (some ⟨b, 0, none⟩)), (8, .int .i64 (t.holds + 1)), (9, .int .i64 x.1.1)], x.1.2.1, x.1.2.2⟩) (fun x => t.holds.toNat + 1 - x.1.1) ⟨(0, H, R), by omega, by simpa using h0⟩ ?_ (fun x => ?_)
 exact Z06 idH
 obtain ⟨⟨k0, H0, R0⟩, hk0, hI0⟩ := x
 dsimp only at hk0 hI0 ⊢
 haveI : MemRows (some ⟨b, 0, none⟩) 11 [twl t sl] R0 := ⟨hI _ _ _ hI0⟩
 refine sqt 1 rfl (pur 1 rfl (Z0 ?_))
 refine Z5 rfl ?_ ?_ <;> intro hc0
 simp only [cS] at hc0
 refine Z3 (Z0 (Z7 (sqt 2 rfl (pur 2 rfl (sqt 4 rfl (sp rfl (PE.fA Z22 rfl) rfl (spL rfl rfl (lfB (sz := 11) sc3 rfl) rfl (sp rfl (PE.add rfl rfl (by omega)) rfl (pur 1 rfl (Z7 ?_))))))))))
 refine Zn (ι := {x : Nat × Zj × Z9 // x.1 ≤ t.patience.toNat + 1 ∧ I ((k0 * (t.patience.toNat + 1) + x.1) * (t.run.toNat + 1)) x.2.1 x.2.2}) (fun x => ⟨[(0, yv l), (1, .pointer (some ⟨b, 0, none⟩)), (8, .int .i64 (t.holds + 1)), (9, .int .i64 k0), (3, .int .i64 k0), (14, .int .i64 (t.patience + 1)), (15, .int .i64 x.1.1)], x.1.2.1, x.1.2.2⟩) (fun x => t.patience.toNat + 1 - x.1.1) ⟨(0, H0, R0), by omega, by simpa using hI0⟩ ?_ (fun x => ?_)
 exact Z06 idH
 obtain ⟨⟨k1, H1, R1⟩, hk1, hI1⟩ := x
 dsimp only at hk1 hI1 ⊢
 haveI : MemRows (some ⟨b, 0, none⟩) 11 [twl t sl] R1 := ⟨hI _ _ _ hI1⟩
 refine sqt 1 rfl (pur 1 rfl (Z0 ?_))
 refine Z5 rfl ?_ ?_ <;> intro hc1
 simp only [cS] at hc1
 refine Z3 (Z0 (Z7 (sqt 2 rfl (pur 2 rfl (sqt 4 rfl (sp rfl (PE.fA Z25 rfl) rfl (spL rfl rfl (lfB (sz := 11) sc3 rfl) rfl (sp rfl (PE.add rfl rfl (by omega)) rfl (pur 1 rfl (Z7 ?_))))))))))
 refine Zn (ι := {x : Nat × Zj × Z9 // x.1 ≤ t.run.toNat + 1 ∧ I ((k0 * (t.patience.toNat + 1) + k1) * (t.run.toNat + 1) + x.1) x.2.1 x.2.2}) (fun x => ⟨[(0, yv l), (1, .pointer (some ⟨b, 0, none⟩)), (8, .int .i64 (t.holds + 1)), (9, .int .i64 k0), (3, .int .i64 k0), (14, .int .i64 (t.patience + 1)), (15, .int .i64 k1), (4, .int .i64 k1), (20, .int .i64 (t.run + 1)), (21, .int .i64 x.1.1)], x.1.2.1, x.1.2.2⟩) (fun x => t.run.toNat + 1 - x.1.1) ⟨(0, H1, R1), by omega, by simpa using hI1⟩ ?_ (fun x => ?_)
 exact Z06 idH
 obtain ⟨⟨k2, H2, R2⟩, hk2, hI2⟩ := x
 dsimp only at hk2 hI2 ⊢
 refine sqt 1 rfl (pur 1 rfl (Z0 ?_))
 refine Z5 rfl ?_ ?_ <;> intro hc2
 simp only [cS] at hc2
 refine Z3 (Z0 (Z7 (sqt 2 rfl (pur 2 rfl (sqt 7 rfl (pur 4 rfl (sp rfl (PE.build (out := [_, _, _]) Z7z Z2M rfl rfl) rfl ?_)))))))
 refine clY rfl rfl rfl rfl (hy _ ⟨k0, k1, k2⟩ _ _ (by rw [Z5t (Z6f (by omega) (by omega) (by omega)), Z41 (by omega) (by omega)]) hI2) ?_
 rintro v H3 R3 (⟨rfl, hI3⟩ | ⟨rfl, hE3⟩)
 refine pur 1 rfl ?_
 refine Zz rfl ?_
 refine Z3 (sqr 2 rfl (sp rfl (PE.add rfl rfl (by omega)) rfl (pur 1 rfl ?_)))
 first | cases hc3 | exact Z0v ⟨(k2 + 1, H3, R3), by omega, hI3⟩ (by dsimp only; omega) idH
 refine pur 1 rfl ?_
 refine Zm rfl ?_
 refine Z4 ?_
 first | cases hc3 | exact Z2 (vs := []) rfl .nil rfl (.inr hE3) idH
 simp only [cS] at hc2
 obtain rfl : k2 = t.run.toNat + 1 := by omega
 refine Zk (Zl (Zl (ZH (sqr 2 rfl (sp rfl (PE.add rfl rfl (by omega)) rfl (pur 1 rfl ?_))))))
 exact Z0l ⟨(k1 + 1, H2, R2), by omega, by rw [show k0 * (t.patience.toNat + 1) + (k1 + 1) = (k0 * (t.patience.toNat + 1) + k1) + 1 from rfl, Nat.succ_mul]; exact hI2⟩ idH
 simp only [cS] at hc1
 obtain rfl : k1 = t.patience.toNat + 1 := by omega
 refine Zk (Zl (Zl (ZH (sqr 2 rfl (sp rfl (PE.add rfl rfl (by omega)) rfl (pur 1 rfl ?_))))))
 exact Z0l ⟨(k0 + 1, H1, R1), by omega, by rw [Nat.succ_mul]; exact hI1⟩ idH
 simp only [cS] at hc0
 obtain rfl : k0 = t.holds.toNat + 1 := by omega
 refine Zk (Zl (Zl (ZH ?_)))
 exact Zcq (vs := []) rfl .nil rfl (.inl hI0) idH
end Go.Proofs.YthhdgeibokecjaaGreat.Bd
namespace Go.Proofs.YthhdgeibokecjaaGreat.Bd
set_option linter.unusedSimpArgs false
set_option linter.unusedVariables false
structure Sv where
  y : List Int
  fl : List (Sta × Int)
def Z3b (y : List Int) (s : Sta) : Bool := decide (lat y s = 1000000)
def Z66 (t : Twn) (y : List Int) : Nat := (sts t).countP (Z3b y)
def Sv.step (t : Twn) (bads : Int) (σ : Sv) (s : Sta) : Sv := bif Z3b σ.y s && !(t.rats.any fun q => t.keeps σ.y s q bads) then ⟨σ.y.set s.ix (bads - 1), σ.fl ++ [(s, bads)]⟩ else σ
def pass (t : Twn) (bads : Int) (σ : Sv) : Sv := (sts t).foldl (Sv.step t bads) σ
def passes (t : Twn) (bads : Int) : Nat → Sv → Sv
  | 0, σ => σ
  | j + 1, σ => pass t bads (passes t bads j σ)
def Z8i (t : Twn) : List Int := (sts t).foldl (fun y s => y.set s.ix 1000000) (List.replicate 496 0)
inductive Rd (t : Twn) : Nat → Sv → Prop where
  | zero : Rd t 0 ⟨Z8i t, []⟩
  | next {n : Nat} {σ : Sv} (j : Nat) (h : Rd t n σ) (h1 : pass t n (passes t n j σ) = passes t n j σ) (h2 : passes t n j σ ≠ σ) : Rd t (n + 1) (passes t n j σ)
def Z3w (t : Twn) (σ : Sv) : Prop := ∃ n : Nat, Rd t n σ ∧ pass t n σ = σ
theorem ZX {y : List Int} {s : Sta} {v : Int} (h : s.ix < y.length) : lat (y.set s.ix v) s = v := by simp [lat, h]
theorem Z0h {y : List Int} {s u : Sta} {v : Int} (h : s.ix ≠ u.ix) : lat (y.set s.ix v) u = lat y u := by
  simp only [lat, List.getD_eq_getElem?_getD, List.getElem?_set_ne h]
theorem Z6j {α : Type} {p q : α → Bool} : ∀ {l : List α}, (∀ x ∈ l, p x = true → q x = true) → (∃ x ∈ l, q x = true ∧ p x = false) → l.countP p < l.countP q
  | [], _, ⟨_, h, _⟩ => by cases h
  | a :: l, h1, ⟨x, hx, hq, hp⟩ => by
    have hle : l.countP p ≤ l.countP q := List.countP_mono_left fun x hx hp => h1 x (by simp [hx]) hp
    rcases List.mem_cons.1 hx with rfl | hx
    · rw [List.countP_cons_of_pos hq, List.countP_cons_of_neg (by simp [hp])]; omega
    · have := Z6j (l := l) (fun x hx => h1 x (by simp [hx])) ⟨x, hx, hq, hp⟩
      simp only [List.countP_cons]
      have h3 := h1 a (by simp)
      cases hpa : p a <;> cases hqa : q a <;> simp_all <;> omega
theorem Z31 (t : Twn) (n : Int) (σ : Sv) (s : Sta) : (σ.step t n s).y.length = σ.y.length := by
  unfold Sv.step; cases Z3b σ.y s && !(t.rats.any fun q => t.keeps σ.y s q n) <;> simp
theorem Z7Z {t : Twn} (ht : t.ok) {n : Int} (hn : n ≤ 1000000) {σ : Sv} (hy : σ.y.length = 496) {s : Sta} (hs : s ∈ sts t) :
    σ.step t n s = σ ∨ (Z66 t (σ.step t n s).y < Z66 t σ.y ∧ (σ.step t n s).fl.length = σ.fl.length + 1) := by
  unfold Sv.step
  cases hc : Z3b σ.y s && !(t.rats.any fun q => t.keeps σ.y s q n) with
  | false => exact .inl rfl
  | true =>
    right
    simp only [Bool.and_eq_true] at hc
    have hix : s.ix < σ.y.length := by rw [hy]; exact Z2A ht (Zv ht hs)
    refine ⟨?_, by simp⟩
    refine Z6j (fun u hu hp => ?_) ⟨s, hs, hc.1, ?_⟩
    · simp only [cond_true] at hp
      by_cases he : s.ix = u.ix
      · have := Z2n ht (Zv ht hs) (Zv ht hu) he
        subst this; exact hc.1
      · simp only [Z3b, Z0h he] at hp
        exact hp
    · simp only [cond_true, Z3b, ZX hix]
      simp; omega
theorem Z5s (t : Twn) (n : Int) : ∀ (l : List Sta) (σ : Sv), (l.foldl (Sv.step t n) σ).y.length = σ.y.length
  | [], _ => rfl
  | s :: l, σ => by rw [List.foldl_cons, Z5s t n l, Z31]
theorem Z44 {t : Twn} (ht : t.ok) {n : Int} (hn : n ≤ 1000000) : ∀ (l : List Sta) (σ : Sv), σ.y.length = 496 → (∀ s ∈ l, s ∈ sts t) →
    (l.foldl (Sv.step t n) σ = σ ∨ Z66 t (l.foldl (Sv.step t n) σ).y < Z66 t σ.y) ∧ (l.foldl (Sv.step t n) σ).fl.length + Z66 t (l.foldl (Sv.step t n) σ).y ≤ σ.fl.length + Z66 t σ.y
  | [], σ, _, _ => ⟨.inl rfl, Nat.le_refl _⟩
  | s :: l, σ, hy, hl => by
    rw [List.foldl_cons]
    have h1 := Z7Z ht hn hy (hl s (by simp))
    obtain ⟨h2, h3⟩ := Z44 ht hn l (σ.step t n s) (by rw [Z31]; exact hy) (fun u hu => hl u (by simp [hu]))
    rcases h1 with h1 | ⟨h1, h4⟩
    · rw [h1] at h2 h3 ⊢; exact ⟨h2, h3⟩
    · refine ⟨.inr ?_, by omega⟩
      rcases h2 with h2 | h2
      · rw [h2]; exact h1
      · omega
theorem Z0S (t : Twn) (n : Int) : ∀ (j : Nat) (σ : Sv), (passes t n j σ).y.length = σ.y.length
  | 0, _ => rfl
  | j + 1, σ => by unfold passes; rw [pass, Z5s, Z0S t n j]
theorem Z1J {t : Twn} (ht : t.ok) {n : Int} (hn : n ≤ 1000000) : ∀ (j : Nat) (σ : Sv), σ.y.length = 496 →
    (passes t n j σ = σ ∨ Z66 t (passes t n j σ).y < Z66 t σ.y) ∧ (passes t n j σ).fl.length + Z66 t (passes t n j σ).y ≤ σ.fl.length + Z66 t σ.y
  | 0, σ, _ => ⟨.inl rfl, Nat.le_refl _⟩
  | j + 1, σ, hy => by
    unfold passes
    obtain ⟨h1, h2⟩ := Z1J ht hn j σ hy
    obtain ⟨h3, h4⟩ := Z44 ht hn (sts t) (passes t n j σ) (by rw [Z0S]; exact hy) (fun s hs => hs)
    refine ⟨?_, by unfold pass; omega⟩
    unfold pass
    rcases h1 with h1 | h1
    · rw [h1] at h3 ⊢; exact h3
    · right
      rcases h3 with h3 | h3
      · rw [h3]; exact h1
      · omega
theorem Z4p {t : Twn} (ht : t.ok) {n : Int} (hn : n ≤ 1000000) {j : Nat} {σ : Sv} (hy : σ.y.length = 496) (h : (passes t n j σ).y = σ.y) : passes t n j σ = σ := by
  rcases (Z1J ht hn j σ hy).1 with h1 | h1
  · exact h1
  · rw [h] at h1; omega
theorem Za7 {t : Twn} (ht : t.ok) {n : Int} (hn : n ≤ 1000000) {σ : Sv} (hy : σ.y.length = 496) (h : (pass t n σ).y = σ.y) : pass t n σ = σ := Z4p (j := 1) ht hn hy h
theorem Zaj {t : Twn} (ht : t.ok) {n : Int} (hn : n ≤ 1000000) {σ : Sv} (hy : σ.y.length = 496) (h : (pass t n σ).y ≠ σ.y) : Z66 t (pass t n σ).y < Z66 t σ.y := by
  rcases (Z1J ht hn 1 σ hy).1 with h1 | h1
  · exact absurd (congrArg Sv.y h1) h
  · exact h1
theorem Z9B {t : Twn} {n : Int} {σ : Sv} (h : ∀ s, Z3b σ.y s = false) : pass t n σ = σ := by
  have : ∀ l : List Sta, l.foldl (Sv.step t n) σ = σ := by
    intro l
    induction l with
    | nil => rfl
    | cons s l ih => rw [List.foldl_cons, show σ.step t n s = σ from by simp [Sv.step, h s], ih]
  exact this _
theorem Z8U (s : Sta) : Z3b (List.replicate 496 0) s = false := by
  unfold Z3b lat
  rw [List.getD_eq_getElem?_getD, List.getElem?_replicate]
  split <;> simp
theorem Z3g {t : Twn} (ht : t.ok) : t.nst ≤ 496 := by
  have h1 := ht.holds
  have h2 := ht.patience
  have h3 := ht.run
  have a := Nat.mul_le_mul (show t.holds.toNat + 1 ≤ 31 by omega) (show t.patience.toNat + 1 ≤ 4 by omega)
  have b := Nat.mul_le_mul a (show t.run.toNat + 1 ≤ 4 by omega)
  exact b
theorem Z4r : ∀ (l : List Sta) (y : List Int), (l.foldl (fun y s => y.set s.ix 1000000) y).length = y.length
  | [], _ => rfl
  | s :: l, y => by rw [List.foldl_cons, Z4r l]; simp
theorem Z5q {t : Twn} (ht : t.ok) {n : Nat} {σ : Sv} (h : Rd t n σ) : σ.y.length = 496 ∧ n + Z66 t σ.y ≤ 496 ∧ σ.fl.length + Z66 t σ.y ≤ 496 := by
  have h0 : ∀ y, Z66 t y ≤ 496 := fun y => Nat.le_trans (List.countP_le_length) (by rw [Z0s]; exact Z3g ht)
  induction h with
  | zero => exact ⟨by rw [Z8i, Z4r, List.length_replicate], by simpa using h0 _, by simpa using h0 _⟩
  | next j h h1 h2 ih =>
    rename_i m σ
    obtain ⟨i1, i2, i3⟩ := ih
    obtain ⟨a, b⟩ := Z1J (n := (m : Int)) ht (by omega) j σ i1
    refine ⟨by rw [Z0S]; exact i1, ?_, by omega⟩
    rcases a with a | a
    · exact absurd a h2
    · omega
def Rg (n : Int) (v : Int) : Prop := v = 1000000 ∨ (-1 ≤ v ∧ v ≤ n)
theorem Z8S {t : Twn} (ht : t.ok) {n m : Int} (h0 : 0 ≤ n) (hm : n - 1 ≤ m) : ∀ (l : List Sta) (σ : Sv), σ.y.length = 496 → (∀ s ∈ l, s ∈ sts t) → (∀ s ∈ sts t, Rg m (lat σ.y s)) → ∀ s ∈ sts t, Rg m (lat (l.foldl (Sv.step t n) σ).y s)
  | [], _, _, _, h => h
  | u :: l, σ, hy, hl, h => by
    rw [List.foldl_cons]
    refine Z8S ht h0 hm l _ (by rw [Z31]; exact hy) (fun s hs => hl s (by simp [hs])) ?_
    intro s hs
    unfold Sv.step
    cases Z3b σ.y u && !(t.rats.any fun q => t.keeps σ.y u q n) with
    | false => exact h s hs
    | true =>
      simp only [cond_true]
      by_cases he : u.ix = s.ix
      · have := Z2n ht (Zv ht (hl u (by simp))) (Zv ht hs) he
        subst this
        rw [ZX (by rw [hy]; exact Z2A ht (Zv ht hs))]
        exact .inr (by omega)
      · rw [Z0h he]; exact h s hs
theorem Z6J {t : Twn} (ht : t.ok) {n m : Int} (h0 : 0 ≤ n) (hm : n - 1 ≤ m) : ∀ (j : Nat) (σ : Sv), σ.y.length = 496 → (∀ s ∈ sts t, Rg m (lat σ.y s)) → ∀ s ∈ sts t, Rg m (lat (passes t n j σ).y s)
  | 0, _, _, h => h
  | j + 1, σ, hy, h => Z8S ht h0 hm (sts t) _ (by rw [Z0S]; exact hy) (fun _ h => h) (Z6J ht h0 hm j σ hy h)
theorem Z6E {t : Twn} (ht : t.ok) : ∀ (l : List Sta) (y : List Int), y.length = 496 → (∀ s ∈ l, s ∈ sts t) → ∀ s ∈ sts t, (s ∈ l ∨ lat y s = 1000000) → lat (l.foldl (fun y s => y.set s.ix 1000000) y) s = 1000000
  | [], _, _, _, _, _, h => by rcases h with h | h; cases h; exact h
  | u :: l, y, hy, hl, s, hs, h => by
    rw [List.foldl_cons]
    refine Z6E ht l _ (by simpa using hy) (fun s hs => hl s (by simp [hs])) s hs ?_
    by_cases he : u.ix = s.ix
    · right
      have := Z2n ht (Zv ht (hl u (by simp))) (Zv ht hs) he
      subst this
      exact ZX (by rw [hy]; exact Z2A ht (Zv ht hs))
    · rcases h with h | h
      · rcases List.mem_cons.1 h with rfl | h
        · exact absurd rfl he
        · exact .inl h
      · right; rw [Z0h he]; exact h
theorem Z3A {t : Twn} (ht : t.ok) {s : Sta} (hs : s ∈ sts t) : lat (Z8i t) s = 1000000 :=
  Z6E ht (sts t) _ List.length_replicate (fun _ h => h) s hs (.inl hs)
theorem Zfs {t : Twn} (ht : t.ok) {n : Nat} {σ : Sv} (h : Rd t n σ) : ∀ s ∈ sts t, Rg ((n : Int) - 1) (lat σ.y s) := by
  induction h with
  | zero => exact fun s hs => .inl (Z3A ht hs)
  | next j h h1 h2 ih =>
    rename_i m σ
    refine Z6J ht (by omega) (by omega) j σ (Z5q ht h).1 (fun s hs => ?_)
    rcases ih s hs with h | h
    · exact .inl h
    · exact .inr (by omega)
theorem Z55 {t : Twn} (ht : t.ok) {σ : Sv} (h : Z3w t σ) {s : Sta} (hs : s.right t = true) : lat σ.y s = 1000000 ∨ (-1 ≤ lat σ.y s ∧ lat σ.y s ≤ 496) := by
  obtain ⟨n, h, _⟩ := h
  have h1 := Z5q ht h
  rcases Zfs ht h s (ZW hs) with h2 | h2
  · exact .inl h2
  · exact .inr (by omega)
open Go
theorem Zcc : Z5Y Tryz.prog 59 = some 496 := by kernel_rfl
theorem Z4T : apT Tryz.prog 33 = some (41, 4, 32) := by kernel_rfl
theorem Z8M : cal Tryz.prog 14 = true := by kernel_rfl
theorem Z9g : cal Tryz.prog 38 = true := by kernel_rfl
theorem Zfm : cal Tryz.prog 81 = true := by kernel_rfl
theorem ZfG : Z1c Tryz.prog 33 = some 1 := by kernel_rfl
theorem Zef : Z1c Tryz.prog 59 = some 496 := by kernel_rfl
theorem Z3S : eqB Tryz.prog 10000 24 = some (true, 3) := by kernel_rfl
theorem ZdV : eqB Tryz.prog 10000 59 = some (true, 496) := by kernel_rfl
theorem ZdE : Tryz.prog.eqGuardType Tryz.prog.depth 59 = false := by kernel_rfl
theorem Z7s : Z1n Tryz.prog 62 3 = some 508 := by kernel_rfl
theorem Z5e : Z1n Tryz.prog 62 4 = some 509 := by kernel_rfl
theorem Z8E : Z74 Tryz.prog 60 = some (24, 3) := by kernel_rfl
theorem Z8w : Z4e Tryz.prog 10000 24 = true := by kernel_rfl
theorem ZfT : Z1q Tryz.prog 41 = some [(0, 3), (3, 1)] := by kernel_rfl
theorem Zeb : Z47 Tryz.prog 33 = true := by kernel_rfl
theorem Z3j : Z47 Tryz.prog 50 = true := by kernel_rfl
theorem ZcT : Z47 Tryz.prog 60 = true := by kernel_rfl
theorem Zfx : slE Tryz.prog 33 = some (41, 4) := by kernel_rfl
theorem Z4S : Z0n Tryz.prog 41 = some ([.int .i64 0, .int .i64 0, .int .i64 0, .int .i64 0]) := by kernel_rfl
theorem Zej : Z0n Tryz.prog 59 = some (List.replicate 496 (.int .i64 0)) := by kernel_rfl
def Z2j (p : Sta × Int) : List Value := [.int .i64 p.1.stock, .int .i64 p.1.short, .int .i64 p.1.dry, .int .i64 p.2]
def Zo (l : List (Sta × Int)) : List (List Value) := l.map Z2j
def Z3q (l : List (Sta × Int)) : KV := l.foldl (fun kv p => kv.put [p.1.stock, p.1.short, p.1.dry] (.int .i64 p.2)) []
theorem Zbl : ∀ (l : List (Sta × Int)) (kv : KV), (∀ e ∈ kv, e.1.length = 3) → ∀ e ∈ l.foldl (fun (kv : KV) p => kv.put [p.1.stock, p.1.short, p.1.dry] (.int .i64 p.2)) kv, e.1.length = 3
  | [], _, h => h
  | p :: l, kv, h => by
    refine Zbl l _ ?_
    clear l
    induction kv with
    | nil => intro e he; simp only [KV.put, List.mem_singleton] at he; subst he; rfl
    | cons a kv ih =>
      intro e he
      obtain ⟨k', v'⟩ := a
      replace he : e ∈ bif decide (k' = [p.1.stock, p.1.short, p.1.dry]) then ([p.1.stock, p.1.short, p.1.dry], Value.int .i64 p.2) :: kv else (k', v') :: KV.put kv [p.1.stock, p.1.short, p.1.dry] (.int .i64 p.2) := he
      cases hc : decide (k' = [p.1.stock, p.1.short, p.1.dry]) <;> rw [hc] at he
      · rcases List.mem_cons.1 he with rfl | he
        · exact h _ (by simp)
        · exact ih (fun e he => h e (by simp [he])) e he
      · rcases List.mem_cons.1 he with rfl | he
        · rfl
        · exact h _ (by simp [he])
theorem Z5v (l : List (Sta × Int)) : ∀ e ∈ Z3q l, e.1.length = 3 := Zbl l [] (by simp)
theorem Zd6 : Z0n Tryz.prog 59 = some (ZT (List.replicate 496 0)) := by rw [Zej, ZT, List.map_replicate]
structure SvI (t : Twn) where
  n : Nat
  σ : Sv
  ms : List Nat
  b3 : Nat
  o : OSl 41 4 (Zo σ.fl)
  h : Rd t n σ
structure SvJ (t : Twn) (n : Nat) (σ : Sv) where
  j : Nat
  ms : List Nat
  b5 : Nat
  bf : List Int
  bl : bf.length = 496
  o : OSl 41 4 (Zo (passes t n j σ).fl)
  h : (bf = List.replicate 496 0 ∧ j = 0) ∨ ∃ i, j = i + 1 ∧ bf = (passes t n i σ).y
theorem Z95 (t : Twn) (ht : t.ok) (ba oa ca : Nat) (bt bw m : Nat) (H : Zj) (R : Z9) [hR : MemRows (some ⟨ba, oa, none⟩) 2 (Zf t.rats) R] [hT : MemRows (some ⟨bt, 0, none⟩) 11 [twl t (t.sl (some ⟨ba, oa, none⟩) ca)] R] :
    Fn Tryz.prog 37 [.pointer (some ⟨bw, 0, none⟩)] ((bw, cel 62 (rcs t (t.sl (some ⟨ba, oa, none⟩) ca) bt (List.replicate 496 0) (.slice none 0 0) m)) :: (m, Z1j true []) :: H) R
      (fun _ H' R' => ∃ (σ : Sv) (o : OSl 41 4 (Zo σ.fl)), Z3w t σ ∧ H' = o.G ++ (bw, cel 62 (rcs t (t.sl (some ⟨ba, oa, none⟩) ca) bt (σ.y) o.fs m)) :: (m, Z1j true (Z3q σ.fl)) :: H ∧ R' = R) := by
 refine Z6I Tryz.func37 rfl Tryz.ntmps37 rfl ?_
 refine sqt 1 rfl (bx rfl rfl rfl (fun b1 => Z0 (sqt 5 rfl (spL rfl rfl (lh Z3j rfl rfl) rfl (sp rfl (PE.nilCheck rfl) rfl (sp rfl (PE.fA Z1O rfl) rfl (spL rfl rfl (lhA [_, _, _, _, _, _, _, _, _, _, _] Zd rfl rfl rfl) rfl ?_)))))))
 refine cl rfl Z8M rfl rfl (Z3h t (t.sl (some ⟨ba, oa, none⟩) ca) _ _) ?_
 rintro _ _ _ ⟨b11, rfl, rfl, rfl⟩
 refine Z7 ?_
 refine Z2W rfl Z9g (fun c0 bl0 bd0 hcp0 hca0 hcb0 hck0 => ?_)
 refine ⟨fun st pend T R' => st = .ready ∧ pend = none ∧ T = (bd0, .deferred (some [])) :: (b1, cel 50 [.pointer (some ⟨bw, 0, none⟩)]) :: (bw, cel 62 (rcs t (t.sl (some ⟨ba, oa, none⟩) ca) bt (Z8i t) (.slice none 0 0) m)) :: (m, Z1j true []) :: H ∧ R' = RowsA (some ⟨b11, 0, none⟩) 11 [twl t (t.sl (some ⟨ba, oa, none⟩) ca)] :: R,
   Fn.mono (Z2k t ht (t.sl (some ⟨ba, oa, none⟩) ca) b11 bl0 (fun k H' R' => H' = (bl0, lob c0 .ready none) :: (bd0, .deferred (some [])) :: (b1, cel 50 [.pointer (some ⟨bw, 0, none⟩)]) :: (bw, cel 62 (rcs t (t.sl (some ⟨ba, oa, none⟩) ca) bt (((sts t).take k).foldl (fun y s => y.set s.ix 1000000) (List.replicate 496 (0 : Int))) (.slice none 0 0) m)) :: (m, Z1j true []) :: H ∧ R' = RowsA (some ⟨b11, 0, none⟩) 11 [twl t (t.sl (some ⟨ba, oa, none⟩) ca)] :: R) (fun _ _ => False)
     (fun k H' R' h => by rw [h.2]; simp) (fun k s H' R' hk hI => ?_) _ _ ⟨rfl, rfl⟩) (fun v H' R' h => ?_), ?_⟩
 rotate_left
 · rcases h with ⟨rfl, rfl⟩ | h
   · rw [List.take_of_length_le (by rw [Z0s]; exact Nat.le_refl _)]
     exact ⟨.ready, none, _, by simp, .refl _, rfl, rfl, rfl, rfl⟩
   · exact h.elim
 rotate_left
 obtain ⟨rfl, rfl⟩ := hI
 have hs := Zv ht (List.mem_of_getElem? hk)
 have hix := Z2A ht hs
 have q1 := right_iff.1 hs
 have t1 := ht.holds
 have t2 := ht.patience
 have t3 := ht.run
 have e : ((sts t).take (k + 1)).foldl (fun y s => y.set s.ix 1000000) (List.replicate 496 (0 : Int)) = (((sts t).take k).foldl (fun y s => y.set s.ix 1000000) (List.replicate 496 (0 : Int))).set s.ix 1000000 := by rw [List.take_add_one, hk, Option.toList_some, List.foldl_append]; rfl
 rw [e]
 have hyl : (((sts t).take k).foldl (fun y s => y.set s.ix 1000000) (List.replicate 496 (0 : Int))).length = 496 := by rw [Z4r, List.length_replicate]
 generalize ((sts t).take k).foldl (fun y s => y.set s.ix 1000000) (List.replicate 496 (0 : Int)) = y at *
 refine Zaa hcp0 hca0 hcb0 hck0 rfl ?_
 refine sqr 2 rfl (alc rfl Z2M rfl (fun b2 => ?_))
 refine sto rfl rfl rfl Z2O rfl rfl rfl rfl ?_
 refine Z0W ?_
 refine Z7 ?_
 refine Ze [0, 0, 2, 0, 8, 0, 32, 1, 129, 391, 927, 2047, 4095] (.ld 0 (.tk 1 (.ld 2 (.tk 3 (.ld 4 (.tk 5 (.ld 6 (tks 7 5 (.big 12 .done))))))))) Zy (by kernel_rfl) ?_
 refine ld rfl rfl (lh Z3j rfl rfl) rfl (tk rfl (PE.fA Z1B rfl) rfl (ld rfl rfl (lh sc3 rfl rfl) rfl (tk rfl (PE.fA Z1h rfl) rfl (ld rfl rfl (lh sc3 rfl rfl) rfl (tk rfl (PE.fA Z1I rfl) rfl (ld rfl rfl (lh sc3 rfl rfl) rfl (tk rfl (PE.nilCheck rfl) rfl (tk rfl (PE.fA Z0G rfl) rfl (tk rfl (PE.indexArr Zcx rfl rfl (by omega) (by omega)) rfl (tk rfl (PE.indexArr ZcR rfl rfl (by omega) (by omega)) rfl (tk rfl (PE.indexArr ZcS rfl rfl (by omega) (by omega)) rfl ?_)))))))))))
 refine Z2R rfl rfl rfl cn3 rfl rfl rfl (Z6d 1000000 (i := s.ix) (by omega) (by unfold Sta.ix; omega)) (by rw [Z4l hyl]; show _ + 1 ≤ 510; omega) ?_
 refine bgT ?_
 exact ZZ (.inl ⟨rfl, rfl, rfl⟩) (fun _ h => by repeat first | exact h | replace h := St.tail h | replace h := St.ftail h | replace h := St.drop h)
 ·
  rintro _ _ _ _ ⟨rfl, rfl, rfl, rfl⟩
  refine Z98 ?_
  refine sqt 2 rfl (alc rfl zl3 rfl (fun b3 => ?_))
  refine sto rfl rfl rfl cn3 rfl rfl rfl rfl ?_
  refine Z7 ?_
  refine Z7L (ι := SvI t) (fun x => ⟨[(1, .pointer (some ⟨b1, 0, none⟩)), (3, .pointer (some ⟨x.b3, 0, none⟩))], mks x.ms, mkh x.ms ++ (x.b3, cel 3 [.int .i64 x.n]) :: (b1, cel 50 [.pointer (some ⟨bw, 0, none⟩)]) :: (x.o.G ++ (bw, cel 62 (rcs t (t.sl (some ⟨ba, oa, none⟩) ca) bt (x.σ.y) x.o.fs m)) :: (m, Z1j true (Z3q x.σ.fl)) :: H), R⟩) (fun x => Z66 t x.σ.y) ⟨0, ⟨Z8i t, []⟩, [bd0], b3, OSl.nil _ _, .zero⟩ ?_ (fun x => ?_)
  ·
   exact ZbG (by repeat' first | exact Sub.nil | apply Sub.cons | rfl | (simp [lk]; omega)) rfl (fun w h => (h.perm (.swap _ _ _)).ftail)
  ·
   obtain ⟨n, σ, ms, b3, o, hrd⟩ := x
   dsimp only
   obtain ⟨hyl, hcn, hfl⟩ := Z5q ht hrd
   have hn6 : (n : Int) ≤ 1000000 := by omega
   refine Z0 (Z7 (sqt 6 rfl (spL rfl rfl (lh Z3j rfl rfl) rfl (sp rfl (PE.nilCheck rfl) rfl (sp rfl (PE.fA Z0G rfl) rfl (spL rfl rfl (lhA (ZT σ.y) Zcc rfl rfl (by rw [Zp]; exact hyl)) rfl (alc rfl Zej rfl (fun b4 => ?_))))))))
   refine Zed rfl rfl rfl Zef rfl (by rw [Zp]; exact hyl) List.length_replicate (Z3X _) ?_
   refine Z0 (sqt 3 rfl (sp rfl (PE.zero (l := ZT (List.replicate 496 0)) (.inr (by rw [Zcx]; rfl)) Zd6) rfl (alc rfl Zej rfl (fun b5 => ?_))))
   refine Zed rfl rfl rfl Zef rfl (by rw [Zp, List.length_replicate]) List.length_replicate (Z3X _) ?_
   refine Z7 ?_
   refine Z7L (ι := SvJ t n σ) (fun x => ⟨[(1, .pointer (some ⟨b1, 0, none⟩)), (3, .pointer (some ⟨b3, 0, none⟩)), (4, .pointer (some ⟨b4, 0, none⟩)), (5, .pointer (some ⟨x.b5, 0, none⟩))], mks x.ms, mkh x.ms ++ (x.b5, cel 59 (ZT x.bf)) :: (b4, cel 59 (ZT σ.y)) :: (b3, cel 3 [.int .i64 n]) :: (b1, cel 50 [.pointer (some ⟨bw, 0, none⟩)]) :: (x.o.G ++ (bw, cel 62 (rcs t (t.sl (some ⟨ba, oa, none⟩) ca) bt ((passes t n x.j σ).y) x.o.fs m)) :: (m, Z1j true (Z3q ((passes t n x.j σ)).fl)) :: H), R⟩)
     (fun x => 2 * Z66 t (passes t n x.j σ).y + if x.bf = (passes t n x.j σ).y then 0 else 1) ⟨0, ms, b5, List.replicate 496 0, List.length_replicate, o, .inl ⟨rfl, rfl⟩⟩ ?_ (fun x => ?_)
   exact ZbG (by repeat' first | exact Sub.nil | apply Sub.cons | rfl | (simp [lk]; omega)) rfl (fun w h => h.perm (Z0E [_, _] _ _))
   ·
    obtain ⟨j, ms, b5, bf, hbl, o, hbf⟩ := x
    dsimp only
    have hyj : (passes t n j σ).y.length = 496 := by rw [Z0S]; exact hyl
    obtain ⟨hpc, hpf⟩ := Z1J (n := (n : Int)) ht hn6 j σ hyl
    refine Z0 (Z0 ?_)
    refine Ze [0, 0, 2, 6, 14, 31] (.ld 0 (.ld 1 (.tk 2 (.tk 3 (.ld 4 (.tk 5 .done)))))) Zy (by kernel_rfl) ?_
    refine ld rfl rfl (lhA (rest := []) (ZT bf) Zcc rfl (by simp) (by rw [Zp]; exact hbl)) rfl (ld rfl rfl (lh Z3j rfl rfl) rfl (tk rfl (PE.nilCheck rfl) rfl (tk rfl (PE.fA Z0G rfl) rfl (ld rfl rfl (lhA (ZT (passes t n j σ).y) Zcc rfl rfl (by rw [Zp]; exact hyj)) rfl (tk rfl (PE.neqAgg bf (passes t n j σ).y (Z13 10000 59 true 496 ZdV) ZdE rfl rfl hbl hyj) rfl ?_)))))
    refine Z5 rfl ?_ ?_ <;> intro hc0
    ·
     have hne : bf ≠ (passes t n j σ).y := by simpa using hc0
     refine Z3 (Z0 (Z7 (sqt 5 rfl (spL rfl rfl (lh Z3j rfl rfl) rfl (sp rfl (PE.nilCheck rfl) rfl (sp rfl (PE.fA Z0G rfl) rfl (spL rfl rfl (lhA (ZT (passes t n j σ).y) Zcc rfl rfl (by rw [Zp]; exact hyj)) rfl ?_)))))))
     refine Zed rfl rfl rfl Zef rfl (by rw [Zp]; exact hyj) (by rw [Zp]; exact hbl) (Z3X _) ?_
     refine sqt 5 rfl (spL rfl rfl (lh Z3j rfl rfl) rfl (sp rfl (PE.nilCheck rfl) rfl (sp rfl (PE.fA Z1O rfl) rfl (spL rfl rfl (lhA [_, _, _, _, _, _, _, _, _, _, _] Zd rfl rfl rfl) rfl ?_))))
     refine cl rfl Z8M rfl rfl (Z3h t (t.sl (some ⟨ba, oa, none⟩) ca) _ _) ?_
     rintro _ _ _ ⟨b46, rfl, rfl, rfl⟩
     refine Z7 ?_
     refine Z2W rfl Z9g (fun c1 bl1 bd1 hcp1 hca1 hcb1 hck1 => ?_)
     refine ⟨fun st pend T R' => st = .ready ∧ pend = none ∧ ∃ o' : OSl 41 4 (Zo (pass t n (passes t n j σ)).fl), T = (bd1, .deferred (some [])) :: (mkh ms ++ (b5, cel 59 (ZT (passes t n j σ).y)) :: (b4, cel 59 (ZT σ.y)) :: (b3, cel 3 [.int .i64 n]) :: (b1, cel 50 [.pointer (some ⟨bw, 0, none⟩)]) :: (o'.G ++ (bw, cel 62 (rcs t (t.sl (some ⟨ba, oa, none⟩) ca) bt ((pass t n (passes t n j σ)).y) o'.fs m)) :: (m, Z1j true (Z3q ((pass t n (passes t n j σ))).fl)) :: H)) ∧ R' = RowsA (some ⟨b46, 0, none⟩) 11 [twl t (t.sl (some ⟨ba, oa, none⟩) ca)] :: R,
       Fn.mono (Z2k t ht (t.sl (some ⟨ba, oa, none⟩) ca) b46 bl1 (fun k H' R' => ∃ o' : OSl 41 4 (Zo (((sts t).take k).foldl (Sv.step t n) (passes t n j σ)).fl), H' = (bl1, lob c1 .ready none) :: (bd1, .deferred (some [])) :: (mkh ms ++ (b5, cel 59 (ZT (passes t n j σ).y)) :: (b4, cel 59 (ZT σ.y)) :: (b3, cel 3 [.int .i64 n]) :: (b1, cel 50 [.pointer (some ⟨bw, 0, none⟩)]) :: (o'.G ++ (bw, cel 62 (rcs t (t.sl (some ⟨ba, oa, none⟩) ca) bt ((((sts t).take k).foldl (Sv.step t n) (passes t n j σ)).y) o'.fs m)) :: (m, Z1j true (Z3q ((((sts t).take k).foldl (Sv.step t n) (passes t n j σ))).fl)) :: H)) ∧ R' = RowsA (some ⟨b46, 0, none⟩) 11 [twl t (t.sl (some ⟨ba, oa, none⟩) ca)] :: R) (fun _ _ => False)
         (fun k H' R' h => by obtain ⟨_, _, h⟩ := h; rw [h]; simp) (fun k s H' R' hk hI => ?_) _ _ ⟨o, rfl, rfl⟩) (fun v H' R' h => ?_), ?_⟩
     rotate_left
     · rw [List.take_of_length_le (show (sts t).length ≤ t.nst by rw [Z0s]; exact Nat.le_refl _)] at h
       rcases h with ⟨o', rfl, rfl⟩ | h
       · exact ⟨.ready, none, _, by simp, .refl _, rfl, rfl, o', rfl, rfl⟩
       · exact h.elim
     rotate_left
     have hs := Zv ht (List.mem_of_getElem? hk)
     have hix := Z2A ht hs
     have q1 := right_iff.1 hs
     have t1 := ht.holds
     have t2 := ht.patience
     have t3 := ht.run
     have e : ((sts t).take (k + 1)).foldl (Sv.step t n) (passes t n j σ) = (((sts t).take k).foldl (Sv.step t n) (passes t n j σ)).step t n s := by rw [List.take_add_one, hk, Option.toList_some, List.foldl_append]; rfl
     rw [e]
     obtain ⟨_, hkf⟩ := Z44 (n := (n : Int)) ht hn6 ((sts t).take k) (passes t n j σ) hyj (fun s h => List.mem_of_mem_take h)
     have hyk : (((sts t).take k).foldl (Sv.step t n) (passes t n j σ)).y.length = 496 := by rw [Z5s]; exact hyj
     clear e
     generalize ((sts t).take k).foldl (Sv.step t n) (passes t n j σ) = υ at *
     obtain ⟨o, rfl, rfl⟩ := hI
     refine Zaa hcp1 hca1 hcb1 hck1 rfl ?_
     refine sqr 2 rfl (alc rfl Z2M rfl (fun b6 => ?_))
     refine sto rfl rfl rfl Z2O rfl rfl rfl rfl ?_
     refine Z0W ?_
     refine Z7 (Z0 ?_)
     refine Ze [0, 1, 3, 0, 15, 31, 63, 127, 127, 127, 1023, 2047, 4095] (.ld 0 (.tk 1 (.tk 2 (.ld 3 (.big 4 (.tk 5 (.tk 6 (.ld 7 (.ld 8 (.ld 9 (.big 10 (.tk 11 (.tk 12 .done))))))))))))) Zy (by kernel_rfl) ?_
     refine ld rfl rfl (lh Z3j rfl rfl) rfl (tk rfl (PE.nilCheck rfl) rfl (tk rfl (PE.fA Z0G rfl) rfl (ld rfl rfl (lhA [_, _, _] ZF rfl rfl rfl) rfl ?_)))
     refine clV rfl Z3t rfl rfl (Z8C t ht s hs ba oa ca bt bw m υ.y o.fs hyk _ _) ?_
     refine bgT (ZD 2 rfl ?_)
     refine ZE 54 rfl ?_ ?_ <;> intro g54
     refine ldG rfl rfl rfl rfl rfl (lh Z3j rfl rfl) rfl (ldG rfl rfl rfl rfl rfl (lhA [_, _, _] ZF rfl rfl rfl) rfl (ldG rfl rfl rfl rfl rfl (lh sc3 rfl rfl) rfl ?_))
     refine Z0k rfl rfl rfl rfl Zfm rfl rfl (Zf8 t ht s hs n (by omega) ba oa ca bt bw m υ.y o.fs hyk _ _) ?_
     refine bgT (ZD 2 rfl ?_)
     refine Z5 rfl ?_ ?_ <;> intro hc1
     have e : υ.step t n s = ⟨υ.y.set s.ix (n - 1), υ.fl ++ [(s, (n : Int))]⟩ := by simp [Sv.step, Z3b, g54, hc1]
     rw [e]
     refine Z0 ?_
     refine Ze [0, 0, 2, 0, 8, 0, 32, 0, 128, 1, 513, 1543, 3615, 8191, 16383] (.ld 0 (.tk 1 (.ld 2 (.tk 3 (.ld 4 (.tk 5 (.ld 6 (.ld 7 (tks 8 6 (.big 14 .done)))))))))) Zy (by kernel_rfl) ?_
     refine ld rfl rfl (lh Z3j rfl rfl) rfl (tk rfl (PE.fA Z1B rfl) rfl (ld rfl rfl (lh sc3 rfl rfl) rfl (tk rfl (PE.fA Z1h rfl) rfl (ld rfl rfl (lh sc3 rfl rfl) rfl (tk rfl (PE.fA Z1I rfl) rfl (ld rfl rfl (lh sc3 rfl rfl) rfl (ld rfl rfl (lh sc3 rfl rfl) rfl (tk rfl (PE.sub rfl rfl (by omega)) rfl (tk rfl (PE.nilCheck rfl) rfl (tk rfl (PE.fA Z0G rfl) rfl (tk rfl (PE.indexArr Zcx rfl rfl (by omega) (by omega)) rfl (tk rfl (PE.indexArr ZcR rfl rfl (by omega) (by omega)) rfl (tk rfl (PE.indexArr ZcS rfl rfl (by omega) (by omega)) rfl ?_)))))))))))))
     refine Z2R rfl rfl rfl cn3 rfl rfl rfl (Z6d _ (i := s.ix) (by omega) (by unfold Sta.ix; omega)) (by rw [Z4l hyk]; show _ + 1 ≤ 510; omega) ?_
     refine bgT (Z0 ?_)
     refine Ze [0, 0, 2, 6, 14, 0, 0, 96, 224, 510, 1023, 2047, 4095] (.ld 0 (.ld 1 (.tk 2 (.tk 3 (.ld 4 (.ld 5 (.ld 6 (.tk 7 (.big 8 (.big 9 (.tk 10 (.tk 11 (.big 12 .done))))))))))))) Zy (by kernel_rfl) ?_
     refine ld rfl rfl (lh Z3j rfl rfl) rfl (ld rfl rfl (lh Z3j rfl rfl) rfl (tk rfl (PE.nilCheck rfl) rfl (tk rfl (PE.fA Z7s rfl) rfl (ld rfl rfl (lh Zeb rfl (Z3V (by simpa using hyk))) rfl (ld rfl rfl (lhA [_, _, _] ZF rfl rfl rfl) rfl (ld rfl rfl (lh sc3 rfl rfl) rfl (tk rfl (PE.build (out := [_, _, _, _]) ZfT Z4S rfl rfl) rfl ?_)))))))
     refine bsl (out := [_, _, _, _]) rfl Zfx Z4S rfl rfl rfl rfl rfl rfl (fun b83 => ?_)
     refine bg (fun w hs => ⟨trivial, trivial, (lh Zeb rfl (Z3V (by simpa using hyk))) w hs, (lh Z3j rfl rfl) w hs, (lh Z3j rfl rfl) w hs, trivial⟩) ?_
     refine apO (o) rfl Z4T rfl rfl (Z3e (row := Z2j (s, (n : Int))) rfl) rfl rfl (⟨by simp only [Zo, List.length_map, List.length_singleton]; omega, by simp only [Zo, List.length_map, List.length_singleton]; omega⟩) rfl (fun o84 => ?_)
     refine bg (fun w hs => ⟨trivial, trivial, (lh Z3j rfl rfl) w hs, trivial⟩) ?_
     refine tk rfl (PE.nilCheck rfl) rfl (tk rfl (PE.fA Z7s rfl) rfl ?_)
     refine Z2R (l' := rcs t (t.sl (some ⟨ba, oa, none⟩) ca) bt (υ.y.set s.ix (n - 1)) o84.fs m) rfl rfl rfl ZfG rfl (by rw [o84.cells.1]; first | done | rfl) (by rw [o84.cells.1]; simp [o84.cells.2]) (by rw [o84.cells.1]; exact Zci _ (by simpa using hyk)) (by rw [o84.cells.1, Z4l (by simpa using hyk)]; show 508 + 1 ≤ 510; omega) ?_
     refine bgT ?_
     refine Ze [0, 1, 3, 7, 0, 0, 63] (.ld 0 (.tk 1 (.tk 2 (.ld 3 (.ld 4 (.ld 5 (.big 6 .done))))))) Zy (by kernel_rfl) ?_
     refine ld rfl rfl (lh Z3j rfl rfl) rfl (tk rfl (PE.nilCheck rfl) rfl (tk rfl (PE.fA Z5e rfl) rfl (ld rfl rfl (lh ZcT rfl (Z3s (by simpa using hyk))) rfl (ld rfl rfl (lhA [_, _, _] ZF rfl rfl rfl) rfl (ld rfl rfl (lh sc3 rfl rfl) rfl ?_)))))
     refine mpu (Z3q υ.fl) [s.stock, s.short, s.dry] rfl Z8E (KeyT.of Z3S Z8w) rfl rfl rfl rfl (Z5v _) ?_
     refine bgT ?_
     first
       | exact ZZ (.inl ⟨rfl, o, rfl, rfl⟩) (fun _ h => by repeat first | exact h | replace h := St.tail h | replace h := St.ftail h | replace h := St.drop h)
       | exact ZZ (.inl ⟨rfl, o84.cast (by simp [Zo, Z2j]), rfl, rfl⟩) (fun w h => by
           have e2 : Z3q (υ.fl ++ [(s, (n : Int))]) = (Z3q υ.fl).put [s.stock, s.short, s.dry] (.int .i64 n) := by simp only [Z3q, List.foldl_append, List.foldl_cons, List.foldl_nil]
           simp only [e2]
           repeat first | exact h | replace h := St.tail h)
     have e : υ.step t n s = υ := by simp [Sv.step, hc1]
     rw [e]
     refine Z3 ?_
     first
       | exact ZZ (.inl ⟨rfl, o, rfl, rfl⟩) (fun _ h => by repeat first | exact h | replace h := St.tail h | replace h := St.ftail h | replace h := St.drop h)
       | exact ZZ (.inl ⟨rfl, o84.cast (by simp [Zo, Z2j]), rfl, rfl⟩) (fun w h => by
           have e2 : Z3q (υ.fl ++ [(s, (n : Int))]) = (Z3q υ.fl).put [s.stock, s.short, s.dry] (.int .i64 n) := by simp only [Z3q, List.foldl_append, List.foldl_cons, List.foldl_nil]
           simp only [e2]
           repeat first | exact h | replace h := St.tail h)
     have e : υ.step t n s = υ := by simp [Sv.step, Z3b, g54]
     rw [e]
     repeat refine ldN rfl rfl rfl rfl rfl rfl rfl rfl ?_
     refine spN rfl rfl rfl rfl rfl rfl rfl rfl ?_
     refine bgT (ZD 2 rfl ?_)
     refine Zz rfl ?_
     refine Z3 ?_
     first
       | exact ZZ (.inl ⟨rfl, o, rfl, rfl⟩) (fun _ h => by repeat first | exact h | replace h := St.tail h | replace h := St.ftail h | replace h := St.drop h)
       | exact ZZ (.inl ⟨rfl, o84.cast (by simp [Zo, Z2j]), rfl, rfl⟩) (fun w h => by
           have e2 : Z3q (υ.fl ++ [(s, (n : Int))]) = (Z3q υ.fl).put [s.stock, s.short, s.dry] (.int .i64 n) := by simp only [Z3q, List.foldl_append, List.foldl_cons, List.foldl_nil]
           simp only [e2]
           repeat first | exact h | replace h := St.tail h)
     rintro _ _ _ _ ⟨rfl, rfl, o', rfl, rfl⟩
     refine Z98 ?_
     refine sqt 1 rfl (spL rfl rfl (lhA (rest := []) (ZT (passes t n j σ).y) Zcc rfl (by simp) (by rw [Zp]; exact hyj)) rfl (sqr 2 rfl (alc rfl Zej rfl (fun b5 => ?_))))
     refine Zed rfl rfl rfl Zef rfl (by rw [Zp]; exact hyj) List.length_replicate (Z3X _) ?_
     exact Z7N ⟨j + 1, bd1 :: ms, _, (passes t n j σ).y, hyj, o', .inr ⟨j, rfl, rfl⟩⟩ (by
       dsimp only
       rw [if_neg hne]
       by_cases he : (passes t n j σ).y = (passes t n (j + 1) σ).y
       · rw [if_pos he, ← he]; omega
       · rw [if_neg he]
         have := Zaj (σ := passes t n j σ) ht hn6 hyj (Ne.symm he)
         show 2 * Z66 t (pass t n (passes t n j σ)).y + 1 < _
         omega) (by repeat' first | exact Sub.nil | apply Sub.cons | rfl | (simp [lk]; omega)) rfl (fun w h => (St.tail (h.perm (Z7m [_] (mkh (bd1 :: ms)) [_] _))).ftail)
    have hbe : bf = (passes t n j σ).y := by simpa using hc0
    have hfix : pass t n (passes t n j σ) = passes t n j σ := by
      rcases hbf with ⟨hb1, rfl⟩ | ⟨i, rfl, hb1⟩
      · exact Z9B (fun s => by rw [← hbe, hb1]; exact Z8U s)
      · have e := Za7 (σ := passes t n i σ) ht hn6 (by rw [Z0S]; exact hyl) (by rw [← hb1, hbe]; rfl)
        show pass t n (pass t n (passes t n i σ)) = pass t n (passes t n i σ)
        rw [e]; exact e
    refine Zk (Zl (Zl (ZH (Z0 ?_))))
    refine Ze [0, 0, 2, 6, 14, 31] (.ld 0 (.ld 1 (.tk 2 (.tk 3 (.ld 4 (.tk 5 .done)))))) Zy (by kernel_rfl) ?_
    refine ld rfl rfl (lhA (rest := []) (ZT σ.y) Zcc rfl (by simp) (by rw [Zp]; exact hyl)) rfl (ld rfl rfl (lh Z3j rfl rfl) rfl (tk rfl (PE.nilCheck rfl) rfl (tk rfl (PE.fA Z0G rfl) rfl (ld rfl rfl (lhA (ZT (passes t n j σ).y) Zcc rfl rfl (by rw [Zp]; exact hyj)) rfl (tk rfl (PE.eqlAgg σ.y (passes t n j σ).y (Z13 10000 59 true 496 ZdV) ZdE rfl rfl hyl hyj) rfl ?_)))))
    refine Z5 rfl ?_ ?_ <;> intro hc2
    have hsame := Z4p (n := (n : Int)) (j := j) ht hn6 hyl (by simpa using hc2 : σ.y = _).symm
    refine Z4 ?_
    exact Zr ms idH rfl .nil rfl ⟨passes t n j σ, o, ⟨n, by rw [hsame]; exact hrd, hfix⟩, rfl, rfl⟩ drp
    have hdiff : passes t n j σ ≠ σ := fun e => by rw [e] at hc2; simp at hc2
    refine Z3 (Z0 (sqt 1 rfl (spL rfl rfl (lh sc3 rfl rfl) rfl (sqr 2 rfl (alc rfl zl3 rfl (fun b3 => ?_))))))
    refine sto rfl rfl rfl cn3 rfl rfl rfl rfl ?_
    refine sqr 3 rfl (spL rfl rfl (lh sc3 rfl rfl) rfl (sp rfl (PE.add rfl rfl (by omega)) rfl ?_))
    refine sto rfl rfl rfl cn3 rfl rfl rfl rfl ?_
    exact Z7N ⟨n + 1, passes t n j σ, ms, _, o, .next j hrd hfix hdiff⟩ (by
      rcases hpc with h | h
      · exact absurd h hdiff
      · exact h) (by repeat' first | exact Sub.nil | apply Sub.cons | rfl | (simp [lk]; omega)) rfl (fun w h => St.drop (G := [_, _, _]) (h.perm (Z7m [_] _ [_, _, _] _)))
theorem Z2T : apT Tryz.prog 22 = some (3, 1, 8) := by kernel_rfl
theorem Z6A : cal Tryz.prog 12 = true := by kernel_rfl
theorem Z5w : cal Tryz.prog 36 = true := by kernel_rfl
theorem Zdt : cal Tryz.prog 37 = true := by kernel_rfl
theorem Z2l {t : Twn} (ht : t.ok) {σ : Sv} (h : Z3w t σ) : σ.y.length = 496 := by
  obtain ⟨n, h, _⟩ := h
  exact (Z5q ht h).1
def SvQ (t : Twn) (sl : Value) (H : Zj) (R : Z9) : Value → Zj → Z9 → Prop := fun v H' R' =>
  (t.check ≠ 0 ∧ v = .tuple #[.pointer none, .int .i64 t.check] ∧ H' = H ∧ R' = R) ∨
  (t.check = 0 ∧ ∃ (bw m bt : Nat) (σ : Sv) (o : OSl 41 4 (Zo σ.fl)), Z3w t σ ∧ v = .tuple #[.pointer (some ⟨bw, 0, none⟩), .int .i64 0] ∧
    H' = o.G ++ (bw, cel 62 (rcs t sl bt σ.y o.fs m)) :: (m, Z1j true (Z3q σ.fl)) :: H ∧ R' = RowsA (some ⟨bt, 0, none⟩) 11 [twl t sl] :: R)
def Z10 (p : Rn → Bool) (l : List Rn) (k : Nat) : List Int := ((List.range k).filter fun i => match l[i]? with | some q => p q | none => false).map fun (i : Nat) => (i : Int)
theorem Z0F {p : Rn → Bool} {l : List Rn} {k : Nat} {q : Rn} (h : l[k]? = some q) : Z10 p l (k + 1) = bif p q then Z10 p l k ++ [(k : Int)] else Z10 p l k := by
  unfold Z10
  rw [List.range_succ, List.filter_append]
  cases hp : p q <;> simp [h, hp]
theorem Z1M (p : Rn → Bool) (l : List Rn) (k : Nat) : (Z10 p l k).length ≤ k := by
  unfold Z10
  rw [List.length_map]
  exact Nat.le_trans (List.length_filter_le _ _) (by simp)
theorem Z2w (t : Twn) (hl : t.rats.length ≤ 9223372036854775807) (ba oa ca : Nat) (H : Zj) (R : Z9) [hR : MemRows (some ⟨ba, oa, none⟩) 2 (Zf t.rats) R] :
    Fn Tryz.prog 12 [t.v (t.sl (some ⟨ba, oa, none⟩) ca)] H R (SvQ t (t.sl (some ⟨ba, oa, none⟩) ca) H R) := by
 refine Zq Tryz.func12 rfl Tryz.ntmps12 rfl ?_
 refine sqt 3 rfl (bx rfl rfl rfl (fun b1 => pur 2 rfl (sqt 7 rfl (spL rfl rfl (lhA [_, _, _, _, _, _, _, _, _, _, _] Zd rfl rfl rfl) rfl ?_))))
 refine cl rfl Z5w rfl rfl (Z1A t hl ba oa ca _ _) ?_
 rintro _ _ _ (⟨hck, rfl, rfl, rfl⟩ | ⟨hck, bw, m, bt, rfl, rfl, rfl⟩)
 refine pur 5 rfl (Z0 (sqt 2 rfl (pur 2 rfl ?_)))
 refine Zm (congrArg (fun b => some (Value.bool b)) (dT hck)) ?_
 refine sqt 3 rfl (pur 3 rfl (Z4 ?_))
 exact rtB rfl rfl rfl rfl (.inl ⟨hck, rfl, rfl, rfl⟩) drp
 have hok := (Zi hck).1
 refine pur 5 rfl (Z0 (sqt 2 rfl (pur 2 rfl ?_)))
 refine Zz (rfl) ?_
 refine Z3 (sqt 2 rfl (pur 1 rfl ?_))
 refine cl rfl Zdt rfl rfl (Z95 t hok ba oa ca bt bw m _ _) ?_
 rintro v _ _ ⟨σ, o, hσ, rfl, rfl⟩
 refine sqt 3 rfl (pur 3 rfl (Z4 ?_))
 exact rtB rfl rfl rfl rfl (.inr ⟨hck, bw, m, bt, σ, o, hσ, rfl, rfl, rfl⟩) (fun w h => h.del b1)
theorem Z9c (t : Twn) (hl : t.rats.length ≤ 9223372036854775807) (ba oa ca : Nat) (H : Zj) (R : Z9) [hR : MemRows (some ⟨ba, oa, none⟩) 2 (Zf t.rats) R] :
    Fn Tryz.prog 30 [t.v (t.sl (some ⟨ba, oa, none⟩) ca)] H R (fun v H' R' => ((t.check ≠ 0 ∧ v = .tuple #[.int .i64 0, .int .i64 t.check]) ∨ (t.check = 0 ∧ ∃ σ, Z3w t σ ∧ v = .tuple #[.int .i64 (lat σ.y t.now), .int .i64 0])) ∧ H' = H ∧ R' = R) := by
 refine Zq Tryz.func30 rfl Tryz.ntmps30 rfl ?_
 refine sqt 3 rfl (bx rfl rfl rfl (fun b1 => pur 2 rfl (sqt 7 rfl (spL rfl rfl (lhA [_, _, _, _, _, _, _, _, _, _, _] Zd rfl rfl rfl) rfl ?_))))
 refine cl rfl Z6A rfl rfl (Z2w t hl ba oa ca _ _) ?_
 rintro _ _ _ (⟨hck, rfl, rfl, rfl⟩ | ⟨hck, bw, m, bt, σ, o, hσ, rfl, rfl, rfl⟩)
 refine pur 5 rfl (Z0 (sqt 2 rfl (pur 2 rfl ?_)))
 refine Zm (congrArg (fun b => some (Value.bool b)) (dT hck)) ?_
 refine sqt 3 rfl (pur 3 rfl (Z4 ?_))
 exact rtB rfl rfl rfl rfl ⟨.inl ⟨hck, rfl⟩, rfl, rfl⟩ drp
 have hok := (Zi hck).1
 refine pur 5 rfl (Z0 (sqt 2 rfl (pur 2 rfl ?_)))
 refine Zz (rfl) ?_
 refine Z3 (Z0 ?_)
 refine Ze [0, 1, 3, 0, 8, 31, 63, 127] (tks 0 4 (.ld 4 (.big 5 (.tk 6 (.tk 7 .done))))) Zy (by kernel_rfl) ?_
 refine ZD 1 rfl (tk rfl (PE.nilCheck rfl) rfl (tk rfl (PE.fA Z0G rfl) rfl (tk rfl (PE.fA Z0a rfl) rfl (ld rfl rfl (lhA [_, _, _] ZF rfl rfl rfl) rfl ?_))))
 refine clV rfl Z3t rfl rfl (Z8C t hok t.now hok.now ba oa ca bt bw m σ.y o.fs (Z2l hok hσ) _ _) ?_
 refine bgT (ZD 2 rfl (Z4 ?_))
 exact rtB rfl rfl rfl rfl ⟨.inr ⟨hck, σ, hσ, rfl⟩, rfl, rfl⟩ drp
theorem Z87 (t : Twn) (hl : t.rats.length ≤ 9223372036854775807) (ba oa ca : Nat) (H : Zj) (R : Z9) [hR : MemRows (some ⟨ba, oa, none⟩) 2 (Zf t.rats) R] :
    Fn Tryz.prog 31 [t.v (t.sl (some ⟨ba, oa, none⟩) ca)] H R (fun v H' R' => ((t.check ≠ 0 ∧ v = .tuple #[.slice none 0 0, .int .i64 t.check] ∧ H' = H) ∨
      (t.check = 0 ∧ ∃ σ, Z3w t σ ∧ ((lat σ.y t.now = -1 ∧ v = .tuple #[.slice none 0 0, .int .i64 6] ∧ H' = H) ∨ (lat σ.y t.now ≠ -1 ∧ ∃ o : OSl 3 1 (Zh (Z10 (fun q => t.keeps σ.y t.now q (lat σ.y t.now)) t.rats t.rats.length)), v = .tuple #[o.fs, .int .i64 0] ∧ H' = o.G ++ H)))) ∧ R' = R) := by
 refine Zq Tryz.func31 rfl Tryz.ntmps31 rfl ?_
 refine sqt 3 rfl (bx rfl rfl rfl (fun b1 => pur 2 rfl (sqt 7 rfl (spL rfl rfl (lhA [_, _, _, _, _, _, _, _, _, _, _] Zd rfl rfl rfl) rfl ?_))))
 refine cl rfl Z6A rfl rfl (Z2w t hl ba oa ca _ _) ?_
 rintro _ _ _ (⟨hck, rfl, rfl, rfl⟩ | ⟨hck, bw, m, bt, σ, o, hσ, rfl, rfl, rfl⟩)
 refine pur 5 rfl (Z0 (sqt 2 rfl (pur 2 rfl ?_)))
 refine Zm (congrArg (fun b => some (Value.bool b)) (dT hck)) ?_
 refine sqt 3 rfl (pur 3 rfl (Z4 ?_))
 exact rtB rfl rfl rfl rfl ⟨.inl ⟨hck, rfl, rfl⟩, rfl⟩ drp
 have hok := (Zi hck).1
 have hrg := Z55 hok hσ hok.now
 refine pur 5 rfl (Z0 (sqt 2 rfl (pur 2 rfl ?_)))
 refine Zz (rfl) ?_
 refine Z3 (Z0 ?_)
 refine Ze [0, 1, 3, 0, 8, 31, 63] (tks 0 4 (.ld 4 (.big 5 (.tk 6 .done)))) Zy (by kernel_rfl) ?_
 refine ZD 1 rfl (tk rfl (PE.nilCheck rfl) rfl (tk rfl (PE.fA Z0G rfl) rfl (tk rfl (PE.fA Z0a rfl) rfl (ld rfl rfl (lhA [_, _, _] ZF rfl rfl rfl) rfl ?_))))
 refine clV rfl Z3t rfl rfl (Z8C t hok t.now hok.now ba oa ca bt bw m σ.y o.fs (Z2l hok hσ) _ _) ?_
 refine bgT (ZD 1 rfl (Z0 (sqt 2 rfl (pur 2 rfl ?_))))
 refine Z5 rfl ?_ ?_ <;> intro hc1
 simp only [decide_eq_true_eq] at hc1
 refine sqt 2 rfl (pur 2 rfl (Z4 ?_))
 first
   | exact rtB rfl rfl rfl rfl ⟨.inr ⟨hck, σ, hσ, .inl ⟨hc1, rfl, rfl⟩⟩, rfl⟩ drp
   | exact rtB rfl rfl rfl rfl ⟨.inr ⟨hck, σ, hσ, .inr ⟨hc1, o', rfl, rfl⟩⟩, rfl⟩ (fun w h => ((((h.del b1).del bw).del m).ftail).dropMid)
 simp only [decide_eq_false_iff_not] at hc1
 refine Z3 (sqt 1 rfl (pur 1 rfl (Z0 (sqt 4 rfl (sp rfl (PE.fA ZY rfl) rfl (spL rfl rfl (lh Z23 rfl rfl) rfl (sp rfl (PE.lenSl Z2f rfl) rfl (pur 1 rfl (Z7 ?_)))))))))
 have hlen := hok.many
 have hb0 : 0 ≤ lat σ.y t.now ∧ lat σ.y t.now ≤ 1000000 := by omega
 refine Zn (ι := (k : {k : Nat // k ≤ t.rats.length}) × OSl 3 1 (Zh (Z10 (fun q => t.keeps σ.y t.now q (lat σ.y t.now)) t.rats k.1))) (fun x => ⟨[(1, .pointer (some ⟨b1, 0, none⟩)), (4, .pointer (some ⟨bw, 0, none⟩)), (6, .int .i64 (lat σ.y t.now)), (7, x.2.fs), (27, .int .i64 t.rats.length), (28, .int .i64 x.1.1)], (x.2.G ++ (b1, cel 27 (twl t (t.sl (some ⟨ba, oa, none⟩) ca))) :: (o.G ++ (bw, cel 62 (rcs t (t.sl (some ⟨ba, oa, none⟩) ca) bt (σ.y) o.fs m)) :: (m, Z1j true (Z3q σ.fl)) :: H)), RowsA (some ⟨bt, 0, none⟩) 11 [twl t (t.sl (some ⟨ba, oa, none⟩) ca)] :: R⟩) (fun x => t.rats.length - x.1.1) ⟨⟨0, by omega⟩, OSl.nil _ _⟩ ?_ (fun x => ?_)
 exact Z06 (fun w h => h.pull b1)
 obtain ⟨⟨k, hk⟩, o'⟩ := x
 dsimp only at o' ⊢
 refine sqt 1 rfl (pur 1 rfl (Z0 ?_))
 refine Z5 rfl ?_ ?_ <;> intro hc2
 simp only [cS] at hc2
 obtain ⟨q, hq⟩ : ∃ q, t.rats[k]? = some q := ⟨_, List.getElem?_eq_getElem (by omega)⟩
 refine Z3 (Z0 (Z7 (sqt 2 rfl (pur 2 rfl (sqt 6 rfl (pur 1 rfl (sp rfl (PE.fA Z0a rfl) rfl (spL rfl rfl (lhA [_, _, _] ZF rfl rfl rfl) rfl (pur 2 rfl ?_)))))))))
 refine clV rfl Zbf rfl rfl (Z5E t hok t.now hok.now k q (by omega) (by simpa using hq) (lat σ.y t.now) hb0 ba oa ca bt bw m σ.y o.fs (Z2l hok hσ) _ _) ?_
 refine Z5 rfl ?_ ?_ <;> intro hc3
 have e := Z0F (p := fun q => t.keeps σ.y t.now q (lat σ.y t.now)) hq
 rw [hc3, cond_true] at e
 refine sqr 5 rfl (pur 2 rfl ?_)
 refine bsl (out := [_]) rfl Z46 zl3 rfl rfl rfl rfl rfl rfl (fun b39 => ?_)
 refine apO (o') rfl Z2T rfl rfl (Z3e (row := [.int .i64 k]) rfl) rfl rfl ((by have := Z1M (fun q => t.keeps σ.y t.now q (lat σ.y t.now)) t.rats k; simp only [Zh, List.length_map, List.length_singleton]; omega)) rfl (fun o40 => ?_)
 refine pur 1 rfl (sqr 2 rfl (sp rfl (PE.add rfl rfl (by omega)) rfl (pur 1 rfl ?_)))
 first
   | exact Z0v ⟨⟨k + 1, by omega⟩, o40.cast (by rw [e]; simp [Zh])⟩ (by dsimp only; omega) (fun w h => h.del b39)
   | exact Z0v ⟨⟨k + 1, by omega⟩, o'.cast (by rw [e])⟩ (by dsimp only; omega) idH
 have e := Z0F (p := fun q => t.keeps σ.y t.now q (lat σ.y t.now)) hq
 rw [hc3, cond_false] at e
 refine Z3 (sqr 2 rfl (sp rfl (PE.add rfl rfl (by omega)) rfl (pur 1 rfl ?_)))
 first
   | exact Z0v ⟨⟨k + 1, by omega⟩, o40.cast (by rw [e]; simp [Zh])⟩ (by dsimp only; omega) (fun w h => h.del b39)
   | exact Z0v ⟨⟨k + 1, by omega⟩, o'.cast (by rw [e])⟩ (by dsimp only; omega) idH
 simp only [cS] at hc2
 obtain rfl : k = t.rats.length := by omega
 refine Zk (Zl (Zl (ZH (sqt 3 rfl (pur 3 rfl (Z4 ?_))))))
 first
   | exact rtB rfl rfl rfl rfl ⟨.inr ⟨hck, σ, hσ, .inl ⟨hc1, rfl, rfl⟩⟩, rfl⟩ drp
   | exact rtB rfl rfl rfl rfl ⟨.inr ⟨hck, σ, hσ, .inr ⟨hc1, o', rfl, rfl⟩⟩, rfl⟩ (fun w h => ((((h.del b1).del bw).del m).ftail).dropMid)
end Go.Proofs.YthhdgeibokecjaaGreat.Bd
namespace Go.Proofs.YthhdgeibokecjaaGreat.Bd
set_option linter.unusedSimpArgs false
set_option linter.unusedVariables false
def Z2c (s : Int) (ws : List Int) : Int := bif decide (8 < ws.length) then 2 else bif !(inb s 0 1000) then 3 else bif !(ws.all fun n => inb n 0 1000) then 3 else 0
structure ShS where
  s : Int
  o : List Int
  g : Bool
def ShS.step (ws : List Int) (σ : ShS) (i : Nat) : ShS := match ws[i]?, σ.o[i]? with
  | some n, some m => bif decide (0 < σ.s) && decide (m < n) then ⟨σ.s - 1, σ.o.set i (m + 1), true⟩ else σ
  | _, _ => σ
def ShS.pass (ws : List Int) (σ : ShS) : ShS := (List.range ws.length).foldl (ShS.step ws) { σ with g := false }
def Z0K (ws : List Int) : Nat → ShS → ShS
  | 0, σ => σ
  | j + 1, σ => (Z0K ws j σ).pass ws
def Zu (s : Int) (ws : List Int) : ShS := ⟨s, List.replicate ws.length 0, true⟩
structure ShS.ok (s0 : Int) (ws : List Int) (σ : ShS) : Prop where
  len : σ.o.length = ws.length
  s : 0 ≤ σ.s ∧ σ.s ≤ s0
  m : ∀ (i : Nat) (m n : Int), σ.o[i]? = some m → ws[i]? = some n → 0 ≤ m ∧ m ≤ n
theorem Zcb {s0 : Int} {ws : List Int} {σ : ShS} (h : σ.ok s0 ws) (i : Nat) : (σ.step ws i).ok s0 ws := by
  unfold ShS.step
  split
  · rename_i n m hn hm
    cases hc : decide (0 < σ.s) && decide (m < n) with
    | false => exact h
    | true =>
      simp only [Bool.and_eq_true, decide_eq_true_eq] at hc
      have hs := h.s
      refine ⟨by simp [h.len], by simp only [cond_true]; omega, fun k m' n' hm' hn' => ?_⟩
      simp only [cond_true] at hm'
      by_cases hk : i = k
      · subst hk
        have hi : i < σ.o.length := (List.getElem?_eq_some_iff.1 hm).1
        rw [List.getElem?_set_self hi] at hm'
        cases hm'
        rw [hn] at hn'; cases hn'
        have := h.m i m n hm hn
        omega
      · rw [List.getElem?_set_ne hk] at hm'
        exact h.m k m' n' hm' hn'
  · exact h
theorem ZcH (ws : List Int) (σ : ShS) (i : Nat) : (σ.step ws i).s ≤ σ.s ∧ ((σ.step ws i).g = true → σ.g = true ∨ (σ.step ws i).s < σ.s) := by
  unfold ShS.step
  split
  · cases hc : _ && _ <;> simp only [cond_true, cond_false] <;> first | exact ⟨Int.le_refl _, fun h => .inl h⟩ | exact ⟨by omega, fun _ => .inr (by omega)⟩
  · exact ⟨Int.le_refl _, fun h => .inl h⟩
theorem Z3Z {s0 : Int} {ws : List Int} : ∀ (l : List Nat) (σ : ShS), σ.ok s0 ws → (l.foldl (ShS.step ws) σ).ok s0 ws
  | [], _, h => h
  | i :: l, σ, h => Z3Z l _ (Zcb h i)
theorem Z7n (ws : List Int) : ∀ (l : List Nat) (σ : ShS), (l.foldl (ShS.step ws) σ).s ≤ σ.s ∧ ((l.foldl (ShS.step ws) σ).g = true → σ.g = true ∨ (l.foldl (ShS.step ws) σ).s < σ.s)
  | [], _ => ⟨Int.le_refl _, fun h => .inl h⟩
  | i :: l, σ => by
    obtain ⟨h1, h2⟩ := Z7n ws l (σ.step ws i)
    obtain ⟨h3, h4⟩ := ZcH ws σ i
    rw [List.foldl_cons]
    refine ⟨by omega, fun h => ?_⟩
    rcases h2 h with h | h
    · rcases h4 h with h | h
      · exact .inl h
      · exact .inr (by omega)
    · exact .inr (by omega)
theorem Zav {s0 : Int} {ws : List Int} {σ : ShS} (h : σ.ok s0 ws) : (σ.pass ws).ok s0 ws := Z3Z _ _ ⟨h.len, h.s, h.m⟩
theorem Z21 {s0 : Int} {ws : List Int} : ∀ (j : Nat) (σ : ShS), σ.ok s0 ws → (Z0K ws j σ).ok s0 ws
  | 0, _, h => h
  | j + 1, _, h => Zav (Z21 j _ h)
theorem Z1s {s : Int} {ws : List Int} (h : Z2c s ws = 0) : (Zu s ws).ok s ws ∧ s ≤ 1000 ∧ (∀ n ∈ ws, 0 ≤ n ∧ n ≤ 1000) ∧ ws.length ≤ 8 := by
  unfold Z2c at h
  cases h1 : decide (8 < ws.length) <;> rw [h1] at h
  rotate_left
  · cases h
  cases h2 : inb s 0 1000 <;> rw [h2] at h
  · cases h
  cases h3 : ws.all fun n => inb n 0 1000 <;> rw [h3] at h
  · cases h
  simp only [inb, Bool.and_eq_true, decide_eq_true_eq, decide_eq_false_iff_not] at h1 h2
  have h4 : ∀ n ∈ ws, 0 ≤ n ∧ n ≤ 1000 := fun n hn => by
    have := List.all_eq_true.1 h3 n hn
    simpa using this
  refine ⟨⟨by simp [Zu], by simp only [Zu]; omega, fun i m n hm hn => ?_⟩, by omega, h4, by omega⟩
  simp only [Zu, List.getElem?_replicate] at hm
  split at hm <;> cases hm
  have := h4 n (List.mem_of_getElem? hn)
  omega
theorem Z6i (ws : List Int) : ∀ (l : List Nat) (σ : ShS), (l.foldl (ShS.step ws) σ).g = false → l.foldl (ShS.step ws) σ = σ
  | [], _, _ => rfl
  | i :: l, σ, h => by
    rw [List.foldl_cons] at h ⊢
    have h1 := Z6i ws l _ h
    rw [h1] at h ⊢
    unfold ShS.step at h ⊢
    split
    · rename_i n m hn hm
      rw [hn, hm] at h
      cases hc : decide (0 < σ.s) && decide (m < n) with
      | false => rfl
      | true => simp only [hc, cond_true] at h; cases h
    · rfl
theorem Z9b {ws : List Int} {σ : ShS} (h : (σ.pass ws).g = false) : σ.pass ws = { σ with g := false } := Z6i ws _ _ h
theorem Z6s {s : Int} {ws : List Int} {j : Nat} (h : (Z0K ws j (Zu s ws)).g = false) : Z0K ws (j + 1) (Zu s ws) = Z0K ws j (Zu s ws) := by
  cases j with
  | zero => cases h
  | succ j =>
    have h1 : Z0K ws (j + 1) (Zu s ws) = { Z0K ws j (Zu s ws) with g := false } := Z9b h
    show (Z0K ws (j + 1) (Zu s ws)).pass ws = _
    have h2 : (Z0K ws (j + 1) (Zu s ws)).pass ws = (Z0K ws j (Zu s ws)).pass ws := by rw [h1]; rfl
    rw [h2]; rfl
theorem Z4m {s : Int} {ws : List Int} {j : Nat} (h : (Z0K ws j (Zu s ws)).g = false) : ∀ k, Z0K ws (j + k) (Zu s ws) = Z0K ws j (Zu s ws)
  | 0 => rfl
  | k + 1 => by
    have ih := Z4m h k
    rw [← Nat.add_assoc, Z6s (by rw [ih]; exact h), ih]
theorem Zac {s : Int} {ws : List Int} {j k : Nat} (h : (Z0K ws j (Zu s ws)).g = false) (h' : (Z0K ws k (Zu s ws)).g = false) : Z0K ws j (Zu s ws) = Z0K ws k (Zu s ws) := by
  rcases Nat.le_total j k with hle | hle
  · have := Z4m h (k - j)
    rw [show j + (k - j) = k from by omega] at this
    exact this.symm
  · have := Z4m h' (j - k)
    rw [show k + (j - k) = j from by omega] at this
    exact this
open Go
theorem Zda : cal Tryz.prog 105 = true := by kernel_rfl
theorem Zfj : cal Tryz.prog 72 = true := by kernel_rfl
theorem Zeq : eqB Tryz.prog 10000 44 = some (true, 2) := by kernel_rfl
theorem Zff : Tryz.prog.eqGuardType Tryz.prog.depth 44 = false := by kernel_rfl
theorem Z43 (xs ys : List Int) (a a2 : Option Addr) (c c2 : Nat) (hl : xs.length ≤ 9223372036854775807) (hl2 : ys.length ≤ 9223372036854775807) (H : Zj) (R : Z9) [hR : MemRows a 1 (Zh xs) R] [hR2 : MemRows a2 1 (Zh ys) R] :
    FnV Tryz.prog 35 [.slice a xs.length c, .slice a2 ys.length c2] H R (.bool (decide (xs = ys))) := by
 refine Zq Tryz.func35 rfl Tryz.ntmps35 rfl ?_
 refine sqt 1 rfl (pur 1 rfl (Z0 (sqt 5 rfl (pur 1 rfl (sp rfl (PE.lenSl Z0p rfl) rfl (pur 1 rfl (sp rfl (PE.lenSl Z0p rfl) rfl (pur 1 rfl ?_))))))))
 refine Z5 rfl ?_ ?_ <;> intro hc0
 have hne : xs ≠ ys := fun e => by subst e; simp at hc0
 refine sqt 1 rfl (pur 1 rfl (Z4 ?_))
 exact rtA rfl rfl rfl ⟨by first | (simp only [ZL]; rw [dT heq]; done) | (simp only [ZL]; rw [dF hne]), rfl, rfl⟩ idH
 have hle : xs.length = ys.length := by simp only [cS] at hc0; omega
 refine Z3 (Z0 (sqt 3 rfl (pur 1 rfl (sp rfl (PE.lenSl Z0p rfl) rfl (pur 1 rfl (Z7 ?_))))))
 refine Zn (ι := {k : Nat // k ≤ xs.length ∧ xs.take k = ys.take k}) (fun k => ⟨[(0, .slice a xs.length c), (1, .slice a2 ys.length c2), (12, .int .i64 xs.length), (13, .int .i64 k.1)], H, R⟩) (fun k => xs.length - k.1) ⟨0, by simp⟩ ?_ (fun k => ?_)
 exact Z06 idH
 obtain ⟨k, hk, hn⟩ := k
 dsimp only
 refine sqt 1 rfl (pur 1 rfl (Z0 ?_))
 refine Z5 rfl ?_ ?_ <;> intro hc1
 simp only [cS] at hc1
 obtain ⟨x, hx⟩ : ∃ x, xs[k]? = some x := ⟨_, List.getElem?_eq_getElem (by omega)⟩
 obtain ⟨z, hz⟩ : ∃ z, ys[k]? = some z := ⟨_, List.getElem?_eq_getElem (by omega)⟩
 refine Zw (a := a) (sz := 1) (rows := Zh xs) (by intro h0; simp [Zh] at h0; simp [h0] at hx) (fun b off he => ?_)
 subst he
 refine Zw (a := a2) (sz := 1) (rows := Zh ys) (by intro h0; simp [Zh] at h0; simp [h0] at hz) (fun b2 off2 he => ?_)
 subst he
 refine Z3 (Z0 (Z7 (sqt 2 rfl (pur 2 rfl (Z0 ?_)))))
 refine Ze [0, 0, 3, 7, 0, 0, 48, 112, 255] (tks 0 3 (.ld 3 (tks 4 3 (.ld 7 (.tk 8 .done))))) Zy (by kernel_rfl) ?_
 refine ZD 2 rfl (tk rfl (PE.indexAddr Z0N rfl rfl (by omega) (by omega)) rfl (ld rfl rfl (lf0 sc3 (by simp [Zh, hx]; rfl) rfl) rfl (ZD 2 rfl (tk rfl (PE.indexAddr Z0N rfl rfl (by omega) (by omega)) rfl (ld rfl rfl (lf0 sc3 (by simp [Zh, hz]; rfl) rfl) rfl (ZD 1 rfl ?_))))))
 refine Z5 rfl ?_ ?_ <;> intro hc2
 have hne : xs ≠ ys := fun e => by subst e; rw [hx] at hz; cases hz; simp at hc2
 refine sqt 1 rfl (pur 1 rfl (Z4 ?_))
 exact rtA rfl rfl rfl ⟨by first | (simp only [ZL]; rw [dT heq]; done) | (simp only [ZL]; rw [dF hne]), rfl, rfl⟩ idH
 have hxz : x = z := by simpa using hc2
 refine Z3 (sqr 2 rfl (sp rfl (PE.add rfl rfl (by omega)) rfl (pur 1 rfl ?_)))
 exact Z0l ⟨k + 1, by omega, by rw [List.take_add_one, List.take_add_one, hn, hx, hz, hxz]⟩ idH
 simp only [cS] at hc1
 obtain rfl : k = xs.length := by omega
 have heq : xs = ys := by
   rw [List.take_length] at hn
   exact hn.trans (by rw [hle]; exact List.take_length)
 refine Zk (Zl (Zl (ZH (sqt 1 rfl (pur 1 rfl (Z4 ?_))))))
 exact rtA rfl rfl rfl ⟨by first | (simp only [ZL]; rw [dT heq]; done) | (simp only [ZL]; rw [dF hne]), rfl, rfl⟩ idH
theorem Zbd (xs ys : List Rn) (a a2 : Option Addr) (c c2 : Nat) (hl : xs.length ≤ 9223372036854775807) (hl2 : ys.length ≤ 9223372036854775807) (H : Zj) (R : Z9) [hR : MemRows a 2 (Zf xs) R] [hR2 : MemRows a2 2 (Zf ys) R] :
    FnV Tryz.prog 110 [.slice a xs.length c, .slice a2 ys.length c2] H R (.bool (decide (xs = ys))) := by
 refine Zq Tryz.func110 rfl Tryz.ntmps110 rfl ?_
 refine sqt 1 rfl (pur 1 rfl (Z0 (sqt 5 rfl (pur 1 rfl (sp rfl (PE.lenSl Z2f rfl) rfl (pur 1 rfl (sp rfl (PE.lenSl Z2f rfl) rfl (pur 1 rfl ?_))))))))
 refine Z5 rfl ?_ ?_ <;> intro hc0
 have hne : xs ≠ ys := fun e => by subst e; simp at hc0
 refine sqt 1 rfl (pur 1 rfl (Z4 ?_))
 exact rtA rfl rfl rfl ⟨by first | (simp only [ZL]; rw [dT heq]; done) | (simp only [ZL]; rw [dF hne]), rfl, rfl⟩ idH
 have hle : xs.length = ys.length := by simp only [cS] at hc0; omega
 refine Z3 (Z0 (sqt 3 rfl (pur 1 rfl (sp rfl (PE.lenSl Z2f rfl) rfl (pur 1 rfl (Z7 ?_))))))
 refine Zn (ι := {k : Nat // k ≤ xs.length ∧ xs.take k = ys.take k}) (fun k => ⟨[(0, .slice a xs.length c), (1, .slice a2 ys.length c2), (12, .int .i64 xs.length), (13, .int .i64 k.1)], H, R⟩) (fun k => xs.length - k.1) ⟨0, by simp⟩ ?_ (fun k => ?_)
 exact Z06 idH
 obtain ⟨k, hk, hn⟩ := k
 dsimp only
 refine sqt 1 rfl (pur 1 rfl (Z0 ?_))
 refine Z5 rfl ?_ ?_ <;> intro hc1
 simp only [cS] at hc1
 obtain ⟨x, hx⟩ : ∃ x, xs[k]? = some x := ⟨_, List.getElem?_eq_getElem (by omega)⟩
 obtain ⟨z, hz⟩ : ∃ z, ys[k]? = some z := ⟨_, List.getElem?_eq_getElem (by omega)⟩
 refine Zw (a := a) (sz := 2) (rows := Zf xs) (by intro h0; simp [Zf] at h0; simp [h0] at hx) (fun b off he => ?_)
 subst he
 refine Zw (a := a2) (sz := 2) (rows := Zf ys) (by intro h0; simp [Zf] at h0; simp [h0] at hz) (fun b2 off2 he => ?_)
 subst he
 refine Z3 (Z0 (Z7 (sqt 2 rfl (pur 2 rfl (Z0 ?_)))))
 refine Ze [0, 0, 3, 7, 0, 0, 48, 112, 255] (tks 0 3 (.ld 3 (tks 4 3 (.ld 7 (.tk 8 .done))))) Zy (by kernel_rfl) ?_
 refine ZD 2 rfl (tk rfl (PE.indexAddr Z8K rfl rfl (by omega) (by omega)) rfl (ld rfl rfl (lfA Z5j (row := Z2z x) (by simp [Zf, hx]) rfl) rfl (ZD 2 rfl (tk rfl (PE.indexAddr Z8K rfl rfl (by omega) (by omega)) rfl (ld rfl rfl (lfA Z5j (row := Z2z z) (by simp [Zf, hz]) rfl) rfl (tk rfl (PE.neqAgg [x.sacks, x.price] [z.sacks, z.price] (Z13 10000 44 true 2 Zeq) Zff rfl rfl rfl rfl) rfl ?_))))))
 refine Z5 rfl ?_ ?_ <;> intro hc2
 have hne : xs ≠ ys := fun e => by subst e; rw [hx] at hz; cases hz; simp at hc2
 refine sqt 1 rfl (pur 1 rfl (Z4 ?_))
 exact rtA rfl rfl rfl ⟨by first | (simp only [ZL]; rw [dT heq]; done) | (simp only [ZL]; rw [dF hne]), rfl, rfl⟩ idH
 have hxz : x = z := by cases x; cases z; simpa using hc2
 refine Z3 (sqr 2 rfl (sp rfl (PE.add rfl rfl (by omega)) rfl (pur 1 rfl ?_)))
 exact Z0l ⟨k + 1, by omega, by rw [List.take_add_one, List.take_add_one, hn, hx, hz, hxz]⟩ idH
 simp only [cS] at hc1
 obtain rfl : k = xs.length := by omega
 have heq : xs = ys := by
   rw [List.take_length] at hn
   exact hn.trans (by rw [hle]; exact List.take_length)
 refine Zk (Zl (Zl (ZH (sqt 1 rfl (pur 1 rfl (Z4 ?_))))))
 exact rtA rfl rfl rfl ⟨by first | (simp only [ZL]; rw [dT heq]; done) | (simp only [ZL]; rw [dF hne]), rfl, rfl⟩ idH
theorem Zdk (n : Int) (H : Zj) (R : Z9) :
    FnV Tryz.prog 105 [.int .i64 n] H R (.bool (inb n 0 1000)) := by
 refine Zq Tryz.func105 rfl Tryz.ntmps105 rfl ?_
 refine sqt 1 rfl (pur 1 rfl (sqt 3 rfl (pur 1 rfl ?_)))
 refine clV rfl Z2a rfl rfl (Z68 _ _ _ _ _) ?_
 refine pur 1 rfl (Z4 ?_)
 exact rtA rfl rfl rfl ⟨rfl, rfl, rfl⟩ drp
theorem Zc8 (n : Int) (H : Zj) (R : Z9) :
    FnV Tryz.prog 74 [.int .i64 n] H R (.bool (inb n 0 1000)) := by
 refine Zq Tryz.func74 rfl Tryz.ntmps74 rfl ?_
 refine sqt 1 rfl (pur 1 rfl (sqt 3 rfl (pur 1 rfl ?_)))
 refine clV rfl Z2a rfl rfl (Z68 _ _ _ _ _) ?_
 refine pur 1 rfl (Z4 ?_)
 exact rtA rfl rfl rfl ⟨rfl, rfl, rfl⟩ drp
theorem Zcr (s : Int) (ws : List Int) (a : Option Addr) (c : Nat) (hl : ws.length ≤ 9223372036854775807) (H : Zj) (R : Z9) [hR : MemRows a 1 (Zh ws) R] :
    FnV Tryz.prog 72 [.int .i64 s, .slice a ws.length c] H R (.int .i64 (Z2c s ws)) := by
 refine Zq Tryz.func72 rfl Tryz.ntmps72 rfl ?_
 refine sqt 1 rfl (pur 1 rfl (Z0 (Z7 (sqt 4 rfl (pur 1 rfl (sp rfl (PE.lenSl Z0p rfl) rfl (pur 2 rfl ?_)))))))
 refine Z5 rfl ?_ ?_ <;> intro hc0
 have h8 : decide (8 < ws.length) = true := by simp only [decide_eq_true_eq] at hc0 ⊢; omega
 refine sqt 1 rfl (pur 1 rfl (Z4 ?_))
 exact rtA rfl rfl rfl ⟨congrArg (Value.int .i64) (by simp_all only [Z2c, inb, cond_true, cond_false, Bool.not_true, Bool.not_false, Bool.not_eq_true', Bool.not_eq_false']), rfl, rfl⟩ drp
 have h8 : decide (8 < ws.length) = false := by simp only [decide_eq_false_iff_not] at hc0 ⊢; omega
 refine sqt 9 rfl (pur 1 rfl ?_)
 refine clV rfl Z2a rfl rfl (Z68 _ _ _ _ _) ?_
 refine pur 2 rfl ?_
 refine ZE 13 rfl ?_ ?_ <;> intro g13
 refine pur 5 rfl ?_
 refine Zm rfl ?_
 refine sqt 1 rfl (pur 1 rfl (Z4 ?_))
 exact rtA rfl rfl rfl ⟨congrArg (Value.int .i64) (by simp_all only [Z2c, inb, cond_true, cond_false, Bool.not_true, Bool.not_false, Bool.not_eq_true', Bool.not_eq_false']), rfl, rfl⟩ drp
 refine pur 1 rfl ?_
 refine Z0k rfl rfl rfl rfl Zcl rfl rfl (Z2L ws a c 105 [] [] (fun n => inb n 0 1000) Zda hl _ _ (fun _ x _ => Zdk x _ _)) ?_
 refine pur 3 rfl ?_
 refine Z5 rfl ?_ ?_ <;> intro hc1
 refine sqt 1 rfl (pur 1 rfl (Z4 ?_))
 exact rtA rfl rfl rfl ⟨congrArg (Value.int .i64) (by simp_all only [Z2c, inb, cond_true, cond_false, Bool.not_true, Bool.not_false, Bool.not_eq_true', Bool.not_eq_false']), rfl, rfl⟩ drp
 refine Z3 (sqt 1 rfl (pur 1 rfl (Z4 ?_)))
 exact rtA rfl rfl rfl ⟨congrArg (Value.int .i64) (by simp_all only [Z2c, inb, cond_true, cond_false, Bool.not_true, Bool.not_false, Bool.not_eq_true', Bool.not_eq_false']), rfl, rfl⟩ drp
theorem Z4i (s : Int) (ws : List Int) (a : Option Addr) (c : Nat) (hl : ws.length ≤ 9223372036854775807) (H : Zj) (R : Z9) [hR : MemRows a 1 (Zh ws) R] :
    Fn Tryz.prog 27 [.int .i64 s, .slice a ws.length c] H R (fun v H' R' => ((Z2c s ws ≠ 0 ∧ v = .tuple #[.slice none 0 0, .int .i64 (Z2c s ws)] ∧ H' = H) ∨
      (Z2c s ws = 0 ∧ ∃ j b, (Z0K ws j (Zu s ws)).g = false ∧ v = .tuple #[.slice (some ⟨b, 0, none⟩) ws.length ws.length, .int .i64 0] ∧ H' = (b, cel 3 (ZT (Z0K ws j (Zu s ws)).o)) :: H)) ∧ R' = R) := by
 refine Zq Tryz.func27 rfl Tryz.ntmps27 rfl ?_
 refine sqt 2 rfl (pur 2 rfl (Z0 (sqt 4 rfl (pur 2 rfl ?_))))
 refine clV rfl Zfj rfl rfl (Zcr s ws a c hl _ _) ?_
 refine pur 1 rfl (sqt 2 rfl (pur 2 rfl ?_))
 refine Z5 rfl ?_ ?_ <;> intro hc0
 have hck : Z2c s ws ≠ 0 := by simpa using hc0
 refine sqt 3 rfl (pur 3 rfl (Z4 ?_))
 first | exact rtB rfl rfl rfl rfl ⟨.inl ⟨hck, rfl, rfl⟩, rfl⟩ idH | exact rtB rfl rfl rfl rfl ⟨.inr ⟨hck, j, b19, hc1, rfl, rfl⟩, rfl⟩ idH
 have hck : Z2c s ws = 0 := by simpa using hc0
 obtain ⟨hi1, hi2, hi3, hi4⟩ := Z1s hck
 refine Z3 (sqt 4 rfl (pur 1 rfl (sp rfl (PE.lenSl Z0p rfl) rfl ?_)))
 refine mkS rfl Z2T zl3 rfl rfl (Nat.le_refl _) ⟨by omega, by omega⟩ rfl (fun b19 => ?_)
 rw [Z1k]
 refine pur 1 rfl (Z0 (sqt 1 rfl (pur 1 rfl (Z7 ?_))))
 refine Zn (ι := Nat) (fun j => ⟨[(0, .int .i64 (Z0K ws j (Zu s ws)).s), (1, .slice a ws.length c), (7, .slice (some ⟨b19, 0, none⟩) ws.length ws.length), (8, .bool (Z0K ws j (Zu s ws)).g)], (b19, cel 3 (ZT (Z0K ws j (Zu s ws)).o)) :: H, R⟩) (fun j => 2 * (Z0K ws j (Zu s ws)).s.toNat + if (Z0K ws j (Zu s ws)).g = true then 1 else 0) 0 ?_ (fun j => ?_)
 exact Z06 idH
 have hj := Z21 j _ hi1
 have hsj := hj.s
 dsimp only
 refine Z0 (sqt 1 rfl (pur 1 rfl ?_))
 refine Z5 rfl ?_ ?_ <;> intro hc1
 refine Z3 (Z7 (sqt 1 rfl (pur 1 rfl (sqt 3 rfl (pur 1 rfl (sp rfl (PE.lenSl Z0p rfl) rfl (pur 1 rfl (Z7 ?_))))))))
 refine Zn (ι := {k : Nat // k ≤ ws.length}) (fun k => ⟨[(0, .int .i64 ((List.range k.1).foldl (ShS.step ws) { Z0K ws j (Zu s ws) with g := false }).s), (1, .slice a ws.length c), (7, .slice (some ⟨b19, 0, none⟩) ws.length ws.length), (8, .bool ((List.range k.1).foldl (ShS.step ws) { Z0K ws j (Zu s ws) with g := false }).g), (21, .slice a ws.length c), (22, .int .i64 ws.length), (23, .int .i64 k.1)], (b19, cel 3 (ZT ((List.range k.1).foldl (ShS.step ws) { Z0K ws j (Zu s ws) with g := false }).o)) :: H, R⟩) (fun k => ws.length - k.1) ⟨0, by omega⟩ ?_ (fun k => ?_)
 exact Z06 idH
 obtain ⟨k, hk⟩ := k
 dsimp only
 have e : (List.range (k + 1)).foldl (ShS.step ws) { Z0K ws j (Zu s ws) with g := false } = ((List.range k).foldl (ShS.step ws) { Z0K ws j (Zu s ws) with g := false }).step ws k := by rw [List.range_succ, List.foldl_append]; rfl
 have hok := Z3Z (List.range k) { Z0K ws j (Zu s ws) with g := false } ⟨hj.len, hj.s, hj.m⟩
 have hke : k = ws.length → (List.range k).foldl (ShS.step ws) { Z0K ws j (Zu s ws) with g := false } = (Z0K ws j (Zu s ws)).pass ws := fun h => by subst h; rfl
 generalize (List.range k).foldl (ShS.step ws) { Z0K ws j (Zu s ws) with g := false } = τ at e hok hke ⊢
 have hso := hok.s
 refine sqt 1 rfl (pur 1 rfl (Z0 ?_))
 refine Z5 rfl ?_ ?_ <;> intro hc2
 simp only [cS] at hc2
 obtain ⟨n, hn⟩ : ∃ n, ws[k]? = some n := ⟨_, List.getElem?_eq_getElem (by omega)⟩
 obtain ⟨m, hm⟩ : ∃ m, τ.o[k]? = some m := ⟨_, List.getElem?_eq_getElem (by rw [hok.len]; omega)⟩
 have hmn := hok.m k m n hm hn
 have hn1 := hi3 n (List.mem_of_getElem? hn)
 refine Zw (a := a) (sz := 1) (rows := Zh ws) (by intro h0; simp [Zh] at h0; simp [h0] at hn) (fun ba oa he => ?_)
 subst he
 refine Z3 (Z0 (Z7 (sqt 5 rfl (pur 1 rfl (sp rfl (PE.indexAddr Z0N rfl rfl (by omega) (by omega)) rfl (spL rfl rfl (lf0 sc3 (by simp [Zh, hn]; rfl) rfl) rfl (pur 2 rfl (sqt 10 rfl (pur 3 rfl ?_)))))))))
 refine ZE 30 rfl ?_ ?_ <;> intro g30
 simp only [cS] at g30
 refine pur 2 rfl ?_
 refine spG rfl rfl rfl rfl (PE.indexAddr Z0N rfl rfl (by omega) (by omega)) rfl ?_
 refine Z03 rfl rfl rfl rfl rfl (lh (v := .int .i64 m) sc3 rfl (by simp [ZT, hm])) rfl (pur 3 rfl ?_)
 refine Z5 rfl ?_ ?_ <;> intro hc3
 simp only [cS] at hc3
 have hst : τ.step ws k = ⟨τ.s - 1, τ.o.set k (m + 1), true⟩ := by unfold ShS.step; rw [hn, hm]; simp [g30, hc3]
 refine sqt 7 rfl (pur 2 rfl (sp rfl (PE.indexAddr Z0N rfl rfl (by omega) (by omega)) rfl (spL rfl rfl (lh (v := .int .i64 m) sc3 rfl (by simp [ZT, hm])) rfl (sp rfl (PE.add rfl rfl (by omega)) rfl (sp rfl (PE.indexAddr Z0N rfl rfl (by omega) (by omega)) rfl ?_)))))
 refine Z2R (l' := ZT (τ.o.set k (m + 1))) rfl rfl rfl cn3 rfl rfl rfl (by show spl _ _ [_] = _; rw [Z4j (by simp [ZT, hok.len]; omega), Z5A]; simp) (by simp [ZT, hok.len, Value.cells]; omega) ?_
 refine sqt 3 rfl (pur 1 rfl (sp rfl (PE.sub rfl rfl (by omega)) rfl (pur 1 rfl (sqr 1 rfl (pur 1 rfl (sqr 2 rfl (sp rfl (PE.add rfl rfl (by omega)) rfl (pur 1 rfl ?_))))))))
 exact Zb ⟨k + 1, by omega⟩ (by dsimp only; omega) (by rw [e, hst]; exact (by repeat' first | exact Sub.nil | apply Sub.cons | rfl | (simp [lk]; omega))) (fun w h => by rw [e, hst]; exact h)
 simp only [cS] at hc3
 have hst : τ.step ws k = τ := by unfold ShS.step; rw [hn, hm]; simp [Int.not_lt.2 hc3]
 refine Z3 (sqr 2 rfl (sp rfl (PE.add rfl rfl (by omega)) rfl (pur 1 rfl ?_)))
 exact Zb ⟨k + 1, by omega⟩ (by dsimp only; omega) (by rw [e, hst]; exact (by repeat' first | exact Sub.nil | apply Sub.cons | rfl | (simp [lk]; omega))) (fun w h => by rw [e, hst]; exact h)
 simp only [cS] at g30
 have hst : τ.step ws k = τ := by unfold ShS.step; rw [hn, hm]; simp [Int.not_lt.2 g30]
 refine pur 7 rfl ?_
 refine Zz rfl ?_
 refine Z3 (sqr 2 rfl (sp rfl (PE.add rfl rfl (by omega)) rfl (pur 1 rfl ?_)))
 exact Zb ⟨k + 1, by omega⟩ (by dsimp only; omega) (by rw [e, hst]; exact (by repeat' first | exact Sub.nil | apply Sub.cons | rfl | (simp [lk]; omega))) (fun w h => by rw [e, hst]; exact h)
 simp only [cS] at hc2
 have hkw : k = ws.length := by omega
 rw [hke hkw] at *
 refine Zk (Zl (Zl (ZH ?_)))
 exact Zb (j + 1) (by
   rw [if_pos hc1]
   have h1 := Z7n ws (List.range ws.length) { Z0K ws j (Zu s ws) with g := false }
   have h2 := (Z21 (j + 1) _ hi1).s
   change ((Z0K ws j (Zu s ws)).pass ws).s ≤ _ ∧ (((Z0K ws j (Zu s ws)).pass ws).g = true → _ ∨ ((Z0K ws j (Zu s ws)).pass ws).s < _) at h1
   change 0 ≤ ((Z0K ws j (Zu s ws)).pass ws).s ∧ _ at h2
   show 2 * ((Z0K ws j (Zu s ws)).pass ws).s.toNat + (if ((Z0K ws j (Zu s ws)).pass ws).g = true then 1 else 0) < _
   obtain ⟨h3, h4⟩ := h1
   simp only at h3 h4
   split
   · rename_i hg
     rcases h4 hg with h | h
     · cases h
     · omega
   · omega) (by repeat' first | exact Sub.nil | apply Sub.cons | rfl | (simp [lk]; omega)) idH
 refine Zk (Zl (Zl (ZH (sqt 3 rfl (pur 3 rfl (Z4 ?_))))))
 first | exact rtB rfl rfl rfl rfl ⟨.inl ⟨hck, rfl, rfl⟩, rfl⟩ idH | exact rtB rfl rfl rfl rfl ⟨.inr ⟨hck, j, b19, hc1, rfl, rfl⟩, rfl⟩ idH
end Go.Proofs.YthhdgeibokecjaaGreat.Bd
