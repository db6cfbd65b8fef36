/- Walks of the functions of the program, and the laws that join them: what the last theorem of this claim needs, in order. -/
import Derived.Test.YthbjpnmclokinaaGreatsj4
namespace Go.Proofs.YthbjpnmclokinaaGreat
set_option linter.unusedSimpArgs false
set_option linter.unusedVariables false
open Go
theorem ZbP : cal Tryz.prog 21 = true := by kernel_rfl
def ZfN (h : Hse) (fr to_ : List Int) (H : Z8) (R : Z5) : Value → Z8 → Z5 → Prop := fun v H' R' => H' = H ∧ R' = R ∧ ((h.botE fr to_ ≠ 0 ∧ v = .tuple #[.int .i64 0, .int .i64 (h.botE fr to_)]) ∨
  (h.botE fr to_ = 0 ∧ ∃ s : Nat, s ≤ 10 ∧ (∃ n, Pl h.gaps (msk to_) s (msk fr) 0 n) ∧ (∀ s', s' < s → ∀ n, ¬ Pl h.gaps (msk to_) s' (msk fr) 0 n) ∧ v = .tuple #[.int .i64 (s : Int), .int .i64 0]))
theorem Z7u {h : Hse} {fr to_ : List Int} {s : Nat} (hb : h.botE fr to_ = 0) (hs : s ≤ 10) : h.rcE fr to_ (s : Int) = 0 := by
  have : inB (s : Int) 0 10 = true := by simp [inB]; omega
  unfold Hse.rcE; rw [hb, this]; rfl
theorem Z19 {h : Hse} {fr to_ : List Int} (hb : h.Bot fr to_) : Two h.gaps (msk fr) (msk to_) := by
  obtain ⟨q1, q2, q3, q4, q5, q6⟩ := Z0g hb
  have hok := hb.ok
  exact ⟨fun g hg => by have := hok.gaps g hg; have := hok.bins; omega, fun i g hg => by have := hok.gaps g (List.mem_of_getElem? hg); omega, Z0k fun x hx => q1 x hx, Z0k fun x hx => q2 x hx, fun v hv => by
    cases hk : (msk to_).testBit v with
    | false => rfl
    | true => exact absurd ((Zq (fun k hk => (q2 k hk).1) v).1 hk) (hb.no _ ((Zq (fun k hk => (q1 k hk).1) v).1 hv))⟩
theorem Z9T {h : Hse} {fr to_ : List Int} (hb : h.Bot fr to_) : ∃ n, Pl h.gaps (msk to_) 10 (msk fr) 0 n := by
  have ht := Z19 hb
  have hp := Nat.two_pow_pos h.gaps.length
  exact ⟨_, Pl.once ht.w ht.s (show 2 ^ h.gaps.length - 1 < 2 ^ h.gaps.length by omega) (Z65 ht) (Nat.le_trans (Z1L _ _) hb.ok.gl)⟩
set_option maxHeartbeats 400000 in
theorem Zbr (h : Hse) (ag as_ : Option Addr) (cg cs : Nat) (hlg : h.gaps.length ≤ 9223372036854775807) (hls : h.sights.length ≤ 9223372036854775807) (fr to_ : List Int) (af at_ : Option Addr) (cf ct : Nat) (hlf : fr.length ≤ 1000000) (hlt : to_.length ≤ 1000000) (hfc : fr.length ≤ cf) (htc : to_.length ≤ ct) (H : Z8) (R : Z5) [hG : MemRows ag 2 (Zk h.gaps) R] [hS : MemRows as_ 3 (Zo h.sights) R] [hF : MemRows af 1 (Z3 fr) R] [hT : MemRows at_ 1 (Z3 to_) R] :
    Fn Tryz.prog 24 [h.v (h.sg ag cg) (h.ss as_ cs), .slice af fr.length cf, .slice at_ to_.length ct] H R (ZfN h fr to_ H R) := by
 refine Ze Tryz.func24 rfl Tryz.ntmps24 rfl ?_
 refine sqt 3 rfl (bx rfl rfl rfl (fun b3 => pur 2 rfl (Z0 (sqt 5 rfl (spL rfl rfl (lhA (htl h (h.sg ag cg) (h.ss as_ cs)) Z06 rfl rfl rfl) rfl (pur 2 rfl ?_))))))
 refine clV rfl Z6t rfl rfl (Z3O h ag as_ cg cs hlg hls fr to_ af at_ cf ct (by omega) (by omega) hfc htc _ _) ?_
 refine pur 1 rfl (sqt 2 rfl (pur 2 rfl ?_))
 refine Z1 rfl ?_ ?_ <;> intro hc0
 have hbe : h.botE fr to_ ≠ 0 := of_decide_eq_true hc0
 refine sqt 3 rfl (pur 3 rfl (Z6 ?_))
 exact rtB rfl rfl rfl rfl ⟨rfl, rfl, .inl ⟨hbe, rfl⟩⟩ (fun w h9 => h9.del b3)
 ·
  have hbe : h.botE fr to_ = 0 := Classical.byContradiction fun e => by rw [decide_eq_true e] at hc0; cases hc0
  have hb := Z0x hbe
  obtain ⟨n0, hn0⟩ := Z9T hb
  refine Z2 (sqt 1 rfl (pur 1 rfl (Z4 ?_)))
  refine Zc (ι := {s : Nat // s ≤ 10 ∧ ∀ s', s' < s → ∀ n, ¬ Pl h.gaps (msk to_) s' (msk fr) 0 n}) (fun s => ⟨[(1, .slice af fr.length cf), (2, .slice at_ to_.length ct), (3, .pointer (some ⟨b3, 0, none⟩)), (9, .int .i64 (s.1 : Int))], (b3, cel 25 (htl h (h.sg ag cg) (h.ss as_ cs))) :: H, R⟩) (fun s => 11 - s.1) ⟨0, by omega, fun s' h9 => absurd h9 (Nat.not_lt_zero _)⟩ ?_ (fun s => ?_)
  exact Zh idH
  ·
   obtain ⟨s, hs, hno⟩ := s
   dsimp only at hs hno ⊢
   have hrz := Z7u hbe hs
   refine Z0 (Z4 (sqt 10 rfl (spL rfl rfl (lhA (htl h (h.sg ag cg) (h.ss as_ cs)) Z06 rfl rfl rfl) rfl (pur 3 rfl ?_))))
   refine cl rfl ZbP rfl rfl (Z7C h ag as_ cg cs hlg hls fr to_ af at_ cf ct hlf hlt hfc htc (s : Int) _ _) ?_
   rintro _ _ R1 ⟨rfl, hq⟩
   rcases hq with ⟨h9, _⟩ | ⟨_, hnp, rfl, hR1⟩ | ⟨_, ls, pl, a, c, _, _, _, _, _, hls2, rfl, hR1⟩
   · exact absurd hrz h9
   all_goals obtain rfl := hR1.symm
   all_goals clear hR1
   all_goals rw [Int.toNat_natCast] at *
   refine pur 5 rfl (sqt 2 rfl (pur 2 rfl ?_))
   refine Z1 rfl ?_ ?_ <;> intro hc1
   exact absurd hc1 (by decide)
   have hs10 : s ≠ 10 := fun e => hnp n0 (by rw [e]; exact hn0)
   refine Z2 (sqr 3 rfl (pur 1 rfl (sp rfl (PE.add rfl rfl (by omega)) rfl (pur 1 rfl ?_))))
   exact Z7 ⟨s + 1, by omega, fun s' h9 => (Nat.lt_succ_iff_lt_or_eq.1 h9).elim (hno s') (fun e => by subst e; exact hnp)⟩ idH
   refine pur 5 rfl (sqt 2 rfl (pur 2 rfl ?_))
   refine Z1 rfl ?_ ?_ <;> intro hc1
   refine sqt 3 rfl (pur 3 rfl (Z6 ?_))
   exact rtB rfl rfl rfl rfl ⟨rfl, rfl, .inr ⟨hbe, s, hs, ⟨_, hls2.1⟩, hno, rfl⟩⟩ (fun w h9 => St.sub (h9.del b3))
   exact absurd hc1 (by decide)
theorem Zcw : cal Tryz.prog 136 = true := by kernel_rfl
theorem ik3 : Z91 Tryz.prog 3 = some .i64 := by kernel_rfl
section steps
variable {P : Program} {r : Option Nat} {ops : Array Oper} {n : Nat} {L : Zi} {D : List Deferred} {H : Z8} {R : Z5} {K : Act → World → Prop}
  {i d : Nat} {ty : TypeId} {pos : String} {af : Array Edge}
theorem ZfL {t tn e sz by_ k : Nat} {kq kn : IntKind} {s x : Operand} {zl : List Value} (ho : ops[i]? = some ⟨some d, .call { callee := .builtin .append, args := #[s, x], argTypes := #[t, tn] }, ty, pos, af, none⟩)
    (ht : apT P t = some (e, sz, by_)) (htn : Z91 P tn = some kn) (hz : ZQ P e = some zl) (hs : ev L s = some (.slice none 0 0)) (hx : ev L x = some (.int kq k))
    (hk : 0 < k) (hs0 : 0 < sz) (hb : k * by_ ≤ 140737488355328 ∧ k ≤ 9223372036854775807) (hd : Nat.blt d n = true)
    (h : ∀ (b' cap' : Nat) (junk : List Value), k ≤ cap' → cap' ≤ 9223372036854775807 → k * sz + junk.length = cap' * sz → Sy n ((d, .slice (some ⟨b', 0, none⟩) k cap') :: L) D ((b', cel e (Z0B k zl ++ junk)) :: H) R K) : Sy n L D H R (stp P r ops i K) := fun a w ha hD hw => by
  unfold apT at ht
  split at ht
  case h_2 => cases ht
  rename_i e' hu
  split at ht
  case h_2 => cases ht
  rename_i ie hi
  split at ht
  case h_2 => cases ht
  rename_i z hzz
  cases hzs : Nat.beq z.cells.size ie.size with
  | false => rw [hzs] at ht; cases ht
  | true =>
  rw [hzs, cond_true] at ht
  cases ht
  have hzs := Nat.eq_of_beq_eq_true hzs
  have hzl : z.cells.toList = zl := by
    have : ZQ P e = some z.cells.toList := by simp [ZQ, hi, hzz]
    rw [this] at hz; exact Option.some.inj hz
  have hun : P.underlying tn = some (.int kn) := by
    unfold Z91 at htn
    split at htn
    · rename_i q hq; cases htn; exact hq
    · cases htn
  have hold : (Builtin.firstCells ie.size 0 (.slice none 0 0)).run P w.drew = .ok ([] : List Value).toArray w.drew := by
    simp [Builtin.firstCells, Sem.run_pure]
  have h2 := Lib.run_append_grow_zeros (P := P) w t tn ty e ie z kq kn hu hun hi hzz none 0 0 [] hold k hk hs0 (by omega) (by omega) (by omega) (growslice_fits (by omega) (by rw [Nat.zero_add]; exact hb.1))
  rw [Nat.zero_add] at h2
  have hge := grownCap_ge w k 0 e
  have hcm : grownCap w k 0 e ≤ maxLen := grownCap_le_maxLen w _ 0 e (by simp only [maxLen]; omega)
  have hrep : ∀ q, (Builtin.zeroCells z.cells q).toList = Z0B q zl := fun q => by rw [← hzl]; simp [Builtin.zeroCells, Z0B]
  have e1 : (.cells (([] : List Value).toArray ++ Builtin.zeroCells z.cells k ++ Builtin.zeroCells z.cells (grownCap w k 0 e - k)) e : Obj) = cel e (Z0B k zl ++ (Builtin.zeroCells z.cells (grownCap w k 0 e - k)).toList) := by
    unfold cel; congr 1; apply Array.toList_inj.1; simp [hrep]
  refine Zr ho (Zd _ rfl _) (v := .slice (some ⟨w.heap.size, 0, none⟩) k (grownCap w k 0 e)) (w' := w.drew.alloc (cel e (Z0B k zl ++ (Builtin.zeroCells z.cells (grownCap w k 0 e - k)).toList))) ?_
    (h w.heap.size (grownCap w k 0 e) (Builtin.zeroCells z.cells (grownCap w k 0 e - k)).toList hge (by simp only [maxLen] at hcm; omega) ?_ _ _ (ha.put (by simpa using hd) _) hD (hw.drew.alloc _))
  · simp only [execOp, resolve, invoke, builtin, Sem.run_bind, Sem.run_pure, Result.andThen, List.map_toArray, List.map_cons, List.map_nil, ha.reads _ _ hs, ha.reads _ _ hx]
    rw [e1] at h2
    rw [h2]
  · simp only [Array.length_toList, size_zeroCells, hzs, ← Nat.add_mul]
    congr 1; omega
end steps
theorem Z7P {k : Nat} {v : Value} : (Z0B k [v]).length = k := by simp [Z0B]
def Z2w (pl : List PL) (k : Nat) : List Int := (lls (pl.take k)).flatten
theorem Z1k {pl : List PL} {k : Nat} {x : PL} (h : pl[k]? = some x) : Z2w pl (k + 1) = Z2w pl k ++ x.l := by
  unfold Z2w lls
  rw [List.take_add_one, h, Option.toList_some, List.map_append, List.flatten_append]; simp
theorem Z0Q (pl : List PL) : ∀ k, (Z2w pl k).length ≤ (lls pl).flatten.length := fun k => by
  unfold Z2w lls
  have h : pl.map (·.l) = (pl.take k).map (·.l) ++ (pl.drop k).map (·.l) := by rw [← List.map_append, List.take_append_drop]
  rw [h, List.flatten_append, List.length_append]; omega
theorem ZbK (k : Nat) (hk : k ≤ 1000000) (H : Z8) (R : Z5) :
    Fn Tryz.prog 136 [.slice none 0 0, .int .i64 (k : Int)] H R (fun v H' R' => ∃ o : OSl 3 1 [], v = o.fs ∧ H' = o.G ++ H ∧ R' = R) := by
 refine Ze Tryz.func136 rfl Tryz.ntmps136 rfl ?_
 refine sqt 1 rfl (pur 1 rfl (Z0 (sqt 2 rfl (pur 2 rfl ?_))))
 refine Z1 rfl ?_ ?_ <;> intro hc0
 simp only [decide_eq_true_eq] at hc0
 omega
 refine Z2 (Z0 (sqt 8 rfl (pur 2 rfl (sp rfl (PE.capSl Zw rfl) rfl (pur 1 rfl (sp rfl (PE.lenSl Zw rfl) rfl (sp rfl (PE.sub rfl rfl (by omega)) rfl (sp rfl (PE.sub rfl rfl (by omega)) rfl ?_))))))))
 rw [show (k : Int) - (((0 : Nat) : Int) - ((0 : Nat) : Int)) = (k : Int) by omega]
 refine pur 1 rfl (sqt 2 rfl (pur 2 rfl ?_))
 refine Z1 rfl ?_ ?_ <;> intro hc1
 try simp only [cS] at hc1
 refine sqr 10 rfl (pur 2 rfl (sp rfl (PE.capSl Zw rfl) rfl (sp rfl (PE.slHi (h := 0) Z0l rfl rfl (by omega)) rfl (pur 1 rfl ?_))))
 refine ZfL rfl Z2s ik3 zl3 rfl rfl (by omega) (by omega) (by omega) rfl (fun b2 cap2 jk2 hc1 hc2 hc3 => ?_)
 refine pur 1 rfl (sp rfl (PE.lenSl Zw rfl) rfl (sp rfl (PE.slHi (h := 0) Z0l rfl rfl (by omega)) rfl (pur 1 rfl (sqt 2 rfl (pur 2 rfl (Z6 ?_))))))
 exact rtA rfl rfl rfl ⟨⟨.slice (some ⟨b2, 0, none⟩) 0 cap2, [(b2, cel 3 (Z0B k [.int .i64 0] ++ jk2))], by simp, .inr ⟨b2, cap2, Z0B k [.int .i64 0] ++ jk2, rfl, rfl, by rw [List.length_append, Z7P]; simp only [List.length_nil]; omega, Nat.zero_le _, hc2⟩⟩, rfl, rfl, rfl⟩ idH
 refine Z2 (sqt 2 rfl (pur 2 rfl (Z6 ?_)))
 exact rtA rfl rfl rfl ⟨OSl.nil _ _, rfl, rfl, rfl⟩ idH
set_option maxHeartbeats 400000 in
theorem Z2R (pl : List PL) (ap : Option Addr) (cp : Nat) (hpl : pl.length ≤ 1000000) (htl : (lls pl).flatten.length ≤ 1000000) (H : Z8) (R : Z5) [hP : MemRows ap 1 (Zt pl) R] [hI : MemF (Inn pl) R] :
    Fn Tryz.prog 68 [.slice ap pl.length cp] H R (fun v H' R' => ∃ o : OSl 3 1 (Z3 (lls pl).flatten), v = o.fs ∧ H' = o.G ++ H ∧ R' = R) := by
 refine Ze Tryz.func68 rfl Tryz.ntmps68 rfl ?_
 refine sqt 1 rfl (pur 1 rfl (sqt 1 rfl (pur 1 rfl (Z0 (sqt 3 rfl (pur 1 rfl (sp rfl (PE.lenSl Z2Y rfl) rfl (pur 1 rfl (Z4 ?_)))))))))
 refine Zc (ι := {k : Nat // k ≤ pl.length}) (fun k => ⟨[(0, .slice ap pl.length cp), (3, .int .i64 ((Z2w pl k.1).length : Nat)), (9, .slice ap pl.length cp), (10, .int .i64 pl.length), (11, .int .i64 k.1)], H, R⟩) (fun k => pl.length - k.1) ⟨0, Nat.zero_le _⟩ ?_ (fun k => ?_)
 exact Zh idH
 obtain ⟨k, hk⟩ := k
 dsimp only at hk ⊢
 have hcl := Z0Q pl k
 have hcl2 := Z0Q pl (k + 1)
 refine sqt 1 rfl (pur 1 rfl (Z0 ?_))
 refine Z1 rfl ?_ ?_ <;> intro hc0 <;> try simp only [cS] at hc0
 obtain ⟨x, hx⟩ : ∃ x, pl[k]? = some x := ⟨_, List.getElem?_eq_getElem (by omega)⟩
 have hst := congrArg List.length (Z1k hx)
 rw [List.length_append] at hst
 refine Zn (a := ap) (sz := 1) (rows := Zt pl) (ne0 (by rw [ZG]; omega)) (fun ba oa he => ?_)
 subst he
 refine Z2 (Z0 (Z4 (sqt 3 rfl (sp rfl (PE.indexAddr Zbo rfl rfl (by omega) (by omega)) rfl (spL rfl rfl (lf0 Z0P (Z4B hx) rfl) rfl (pur 1 rfl (sqt 5 rfl (pur 2 rfl (sp rfl (PE.lenSl Zw rfl) rfl (sp rfl (PE.add rfl rfl (by omega)) rfl ?_))))))))))
 rw [show ((Z2w pl k).length : Int) + (x.l.length : Int) = ((Z2w pl (k + 1)).length : Int) by omega]
 refine pur 1 rfl (sqt 2 rfl (pur 2 rfl ?_))
 refine Z1 rfl ?_ ?_ <;> intro hc1
 simp only [decide_eq_true_eq] at hc1
 omega
 refine Z2 (sqr 2 rfl (sp rfl (PE.add rfl rfl (by omega)) rfl (pur 1 rfl ?_)))
 exact Z7 ⟨k + 1, by omega⟩ idH
 obtain rfl : k = pl.length := by omega
 refine Z9 (Za (Za (Zl (sqt 3 rfl (pur 1 rfl ?_)))))
 refine cl rfl Zcw rfl rfl (ZbK (Z2w pl pl.length).length (by omega) _ _) ?_
 rintro _ _ R1 ⟨o0, rfl, rfl, hR1⟩
 obtain rfl := hR1.symm
 clear hR1
 refine pur 1 rfl (Z0 (sqt 3 rfl (pur 1 rfl (sp rfl (PE.lenSl Z2Y rfl) rfl (pur 1 rfl (Z4 ?_))))))
 refine Zc (ι := (k : {k : Nat // k ≤ pl.length}) × OSl 3 1 (Z3 (Z2w pl k.1))) (fun y => ⟨[(6, y.2.fs), (25, .slice ap pl.length cp), (26, .int .i64 pl.length), (27, .int .i64 y.1.1)], y.2.G ++ H, R⟩) (fun y => pl.length - y.1.1) ⟨⟨0, Nat.zero_le _⟩, o0⟩ ?_ (fun y => ?_)
 exact Zh idH
 obtain ⟨⟨k, hk⟩, o⟩ := y
 dsimp only at hk o ⊢
 have hcl := Z0Q pl k
 have hcl2 := Z0Q pl (k + 1)
 refine sqt 1 rfl (pur 1 rfl (Z0 ?_))
 refine Z1 rfl ?_ ?_ <;> intro hc2 <;> try simp only [cS] at hc2
 obtain ⟨x, hx⟩ : ∃ x, pl[k]? = some x := ⟨_, List.getElem?_eq_getElem (by omega)⟩
 have hst := Z1k hx
 have hsl := congrArg List.length hst
 rw [List.length_append] at hsl
 refine Zn (a := ap) (sz := 1) (rows := Zt pl) (ne0 (by rw [ZG]; omega)) (fun ba oa he => ?_)
 subst he
 refine Sy.heap (fun w h => St.inn (x := x) h (List.mem_of_getElem? hx)) ?_
 refine Z2 (Z0 (Z4 (sqt 3 rfl (sp rfl (PE.indexAddr Zbo rfl rfl (by omega) (by omega)) rfl (spL rfl rfl (lf0 Z0P (Z4B hx) rfl) rfl (pur 1 rfl (sqr 4 rfl (pur 2 rfl ?_))))))))
 refine apO (news := Z3 x.l) o rfl Z2s rfl rfl (Z6B) (irl _) (by simp [ZZ, Z3, Value.oneCell']) (by rw [irl, irl]; omega) rfl (fun o33 => ?_)
 refine pur 1 rfl (sqr 2 rfl (sp rfl (PE.add rfl rfl (by omega)) rfl (pur 1 rfl ?_)))
 exact Z7 ⟨⟨k + 1, by omega⟩, o33.cast (by rw [hst]; simp [Z3])⟩ (fun w h => h.ftail)
 obtain rfl : k = pl.length := by omega
 refine Z9 (Za (Za (Zl (sqt 2 rfl (pur 2 rfl (Z6 ?_))))))
 exact rtA rfl rfl rfl ⟨o.cast (by unfold Z2w; rw [List.take_length]), rfl, rfl, rfl⟩ idH
theorem Z9u : cal Tryz.prog 68 = true := by kernel_rfl
def ZfO (h : Hse) (fr to_ : List Int) (spd : Int) (H : Z8) (R : Z5) : Value → Z8 → Z5 → Prop := fun v H' R' => H' = H ∧ R' = R ∧ ((h.rcE fr to_ spd ≠ 0 ∧ v = .tuple #[.int .i64 0, .int .i64 (h.rcE fr to_ spd)]) ∨
  (h.rcE fr to_ spd = 0 ∧ (∀ n, ¬ Pl h.gaps (msk to_) spd.toNat (msk fr) 0 n) ∧ v = .tuple #[.int .i64 0, .int .i64 6]) ∨
  (h.rcE fr to_ spd = 0 ∧ ∃ n : Nat, n ≤ 10 ∧ Lst (Pl h.gaps (msk to_) spd.toNat (msk fr) 0) n ∧ v = .tuple #[.int .i64 (n : Int), .int .i64 0]))
theorem Z3Y {gs : List Gp} (hg : gs.length ≤ 10) : ∀ {ls : List Nat}, (∀ l ∈ ls, l < 2 ^ gs.length) → ((ls.map Z08).flatten).length = Z6V gs ls
  | [], _ => rfl
  | l :: ls, h => by
    rw [List.map_cons, List.flatten_cons, List.length_append, Z3Y hg (fun x hx => h x (List.mem_cons_of_mem _ hx)), Z4j (h l (by simp)) hg]; rfl
theorem St.norows9 {sz : Nat} {H : Z8} {R : Z5} {w : World} (h : St H R w) : St H (Inn [] :: RowsA none sz (Zt []) :: R) w := St.inn0 (St.norows (sz := sz) h)
set_option maxHeartbeats 400000 in
theorem Z5I (h : Hse) (ag as_ : Option Addr) (cg cs : Nat) (hlg : h.gaps.length ≤ 9223372036854775807) (hls : h.sights.length ≤ 9223372036854775807) (fr to_ : List Int) (af at_ : Option Addr) (cf ct : Nat) (hlf : fr.length ≤ 1000000) (hlt : to_.length ≤ 1000000) (hfc : fr.length ≤ cf) (htc : to_.length ≤ ct) (spd : Int) (H : Z8) (R : Z5) [hG : MemRows ag 2 (Zk h.gaps) R] [hS : MemRows as_ 3 (Zo h.sights) R] [hF : MemRows af 1 (Z3 fr) R] [hT : MemRows at_ 1 (Z3 to_) R] :
    Fn Tryz.prog 22 [h.v (h.sg ag cg) (h.ss as_ cs), .slice af fr.length cf, .slice at_ to_.length ct, .int .i64 spd] H R (ZfO h fr to_ spd H R) := by
 refine Ze Tryz.func22 rfl Tryz.ntmps22 rfl ?_
 refine sqt 3 rfl (bx rfl rfl rfl (fun b4 => pur 2 rfl (sqt 10 rfl (spL rfl rfl (lhA (htl h (h.sg ag cg) (h.ss as_ cs)) Z06 rfl rfl rfl) rfl (pur 3 rfl ?_)))))
 refine cl rfl ZbP rfl rfl (Z7C h ag as_ cg cs hlg hls fr to_ af at_ cf ct hlf hlt hfc htc spd _ _) ?_
 rintro _ _ R1 ⟨rfl, hq⟩
 rcases hq with ⟨h9, rfl, hR1⟩ | ⟨h9, hnp, rfl, hR1⟩ | ⟨h9, ls, pl, a, c, hll, hpk, hpc, hlb, hrun, hlst, rfl, hR1⟩
 all_goals obtain rfl := hR1.symm
 all_goals clear hR1
 refine pur 5 rfl (sqt 6 rfl ?_)
 refine Sy.heap (fun w h => St.norows9 (sz := 1) h) ?_
 refine pur 1 rfl ?_
 refine cl rfl Z9u rfl rfl (Z2R [] none 0 (by decide) (by decide) _ _) ?_
 rintro _ _ R1 ⟨o, rfl, rfl, hR1⟩
 obtain rfl := hR1.symm
 clear hR1
 obtain ⟨ao, co, heo, hfz⟩ := o.freeze
 rw [heo, irl]
 refine Sy.heap (fun w h => hfz h) ?_
 clear hfz heo
 refine sp rfl (PE.lenSl Zw rfl) rfl (pur 3 rfl (Z6 ?_))
 exact rtB rfl rfl rfl rfl ⟨rfl, rfl, .inl ⟨h9, rfl⟩⟩ (fun w h9 => St.sub (h9.del b4))
 refine pur 5 rfl (sqt 6 rfl ?_)
 refine Sy.heap (fun w h => St.norows9 (sz := 1) h) ?_
 refine pur 1 rfl ?_
 refine cl rfl Z9u rfl rfl (Z2R [] none 0 (by decide) (by decide) _ _) ?_
 rintro _ _ R1 ⟨o, rfl, rfl, hR1⟩
 obtain rfl := hR1.symm
 clear hR1
 obtain ⟨ao, co, heo, hfz⟩ := o.freeze
 rw [heo, irl]
 refine Sy.heap (fun w h => hfz h) ?_
 clear hfz heo
 refine sp rfl (PE.lenSl Zw rfl) rfl (pur 3 rfl (Z6 ?_))
 exact rtB rfl rfl rfl rfl ⟨rfl, rfl, .inr (.inl ⟨h9, hnp, rfl⟩)⟩ (fun w h9 => St.sub (h9.del b4))
 refine pur 5 rfl (sqt 6 rfl ?_)
 have hgl := (Zbg h9).1.ok.gl
 have hlen : (lls pl).flatten.length = Z6V h.gaps ls := by rw [hll]; exact Z3Y hgl hlb
 have hs10 := hlst.1.few
 have hpl : pl.length = ls.length := by have := congrArg List.length hll; rw [Z2k, List.length_map] at this; exact this
 refine pur 1 rfl ?_
 refine cl rfl Z9u rfl rfl (Z2R pl a c (by omega) (by omega) _ _) ?_
 rintro _ _ R1 ⟨o, rfl, rfl, hR1⟩
 obtain rfl := hR1.symm
 clear hR1
 obtain ⟨ao, co, heo, hfz⟩ := o.freeze
 rw [heo, irl, hlen]
 refine Sy.heap (fun w h => hfz h) ?_
 clear hfz heo
 refine sp rfl (PE.lenSl Zw rfl) rfl (pur 3 rfl (Z6 ?_))
 exact rtB rfl rfl rfl rfl ⟨rfl, rfl, .inr (.inr ⟨h9, Z6V h.gaps ls, by omega, hlst, rfl⟩)⟩ (fun w h9 => St.sub (h9.del b4))
theorem Zd1 : cal Tryz.prog 148 = true := by kernel_rfl
theorem Zdy : cal Tryz.prog 149 = true := by kernel_rfl
theorem ZdJ : cal Tryz.prog 173 = true := by kernel_rfl
theorem Zct : cal Tryz.prog 84 = true := by kernel_rfl
theorem Zfv : cal Tryz.prog 95 = true := by kernel_rfl
theorem ZeP : cal Tryz.prog 96 = true := by kernel_rfl
theorem Zfc : cal Tryz.prog 97 = true := by kernel_rfl
def Hse.ledE (h : Hse) (fr to_ : List Int) (ls : List (List Int)) : Int := bif decide (h.botE fr to_ ≠ 0) then h.botE fr to_ else bif decide (Zz h.gaps.length ls.flatten ≠ 0) then Zz h.gaps.length ls.flatten else bif !(ls.all fun l => Z5N h.gaps 0 fr to_ l) then 8 else 0
def Hse.ledR (h : Hse) (fr to_ : List Int) (ls : List (List Int)) : Int := bif decide (h.ledE fr to_ ls = 0) then ls.length else 0
theorem Z8E (pl : List PL) (p : List Int → Bool) : (pl.all fun x => p x.l) = (lls pl).all p := by unfold lls; rw [List.all_map]; rfl
theorem Z5y {h : Hse} {fr to_ : List Int} {ls : List (List Int)} {e : Int} (he : h.ledE fr to_ ls = e) (h0 : e ≠ 0) : h.ledR fr to_ ls = 0 := by unfold Hse.ledR; rw [he, decide_eq_false h0]; rfl
theorem Z7R (xs : List PL) (a : Option Addr) (c g : Nat) (fst cap : List Value) (p : PL → Bool) (hg : cal Tryz.prog g = true) (hl : xs.length ≤ 9223372036854775807) (H : Z8) (R : Z5) [hR : MemRows a 1 (Zt xs) R] (hp : ∀ x, x ∈ xs → FnV Tryz.prog g (fst ++ [.slice x.a x.l.length x.c] ++ cap) H R (.bool (p x))) :
    FnV Tryz.prog 173 [.slice a xs.length c, .func (.func g) fst.toArray cap.toArray] H R (.int .i64 (match xs.findIdx? p with | some k => (k : Int) | none => -1)) := by
 refine Ze Tryz.func173 rfl Tryz.ntmps173 rfl ?_
 refine sqt 1 rfl (pur 1 rfl (Z0 (sqt 3 rfl (pur 1 rfl (sp rfl (PE.lenSl Z2Y rfl) rfl (pur 1 rfl (Z4 ?_)))))))
 refine Zc (ι := {k : Nat // k ≤ xs.length ∧ ∀ x ∈ xs.take k, p x = false}) (fun k => ⟨[(0, .slice a xs.length c), (1, .func (.func g) fst.toArray cap.toArray), (7, .int .i64 xs.length), (8, .int .i64 k.1)], H, R⟩) (fun k => xs.length - k.1) ⟨0, by simp⟩ ?_ (fun k => ?_)
 exact Zh idH
 obtain ⟨k, hk, hn⟩ := k
 dsimp only
 refine sqt 1 rfl (pur 1 rfl (Z0 ?_))
 refine Z1 rfl ?_ ?_ <;> intro hc0
 simp only [cS] at hc0
 obtain ⟨x, hx⟩ : ∃ x, xs[k]? = some x := ⟨_, List.getElem?_eq_getElem (by omega)⟩
 have hxm := List.mem_of_getElem? hx
 refine Zn (a := a) (sz := 1) (rows := Zt xs) (by cases xs <;> simp_all [Zt]) (fun b off he => ?_)
 subst he
 refine Z2 (Z0 (Z4 (sqt 2 rfl (pur 2 rfl (sqt 6 rfl (pur 3 rfl (sp rfl (PE.indexAddr Zbo rfl rfl (by omega) (by omega)) rfl (spL rfl rfl (lf0 Z0P (by simp [Zt, hx]; rfl) rfl) rfl ?_))))))))
 refine Z6T rfl rfl (hg) rfl rfl (hp x hxm) ?_
 refine Z1 rfl ?_ ?_ <;> intro hc1
 refine sqt 2 rfl (pur 2 rfl (Z6 ?_))
 first | (exact rtA rfl rfl rfl ⟨by rw [Z0b hx hn hc1]; rfl, rfl, rfl⟩ idH) | (exact rtA rfl rfl rfl ⟨by rw [ZW (by simpa using hn)]; rfl, rfl, rfl⟩ idH)
 refine Z2 (sqr 2 rfl (sp rfl (PE.add rfl rfl (by omega)) rfl (pur 1 rfl ?_)))
 exact Z7 ⟨k + 1, by omega, Z1u hx hn hc1⟩ idH
 simp only [cS] at hc0
 obtain rfl : k = xs.length := by omega
 refine Z9 (Za (Za (Zl (sqt 1 rfl (pur 1 rfl (Z6 ?_))))))
 first | (exact rtA rfl rfl rfl ⟨by rw [Z0b hx hn hc1]; rfl, rfl, rfl⟩ idH) | (exact rtA rfl rfl rfl ⟨by rw [ZW (by simpa using hn)]; rfl, rfl, rfl⟩ idH)
theorem Z70 (xs : List PL) (a : Option Addr) (c g : Nat) (fst cap : List Value) (p : PL → Bool) (hg : cal Tryz.prog g = true) (hl : xs.length ≤ 9223372036854775807) (H : Z8) (R : Z5) [hR : MemRows a 1 (Zt xs) R] (hp : ∀ x, x ∈ xs → FnV Tryz.prog g (fst ++ [.slice x.a x.l.length x.c] ++ cap) H R (.bool (p x))) :
    FnV Tryz.prog 148 [.slice a xs.length c, .func (.func g) fst.toArray cap.toArray] H R (.bool (xs.any p)) := by
 refine Ze Tryz.func148 rfl Tryz.ntmps148 rfl ?_
 refine sqt 1 rfl (pur 1 rfl (sqt 5 rfl (pur 2 rfl ?_)))
 refine clV rfl ZdJ rfl rfl (Z7R xs a c g fst cap p hg hl _ _ hp) ?_
 refine pur 2 rfl (Z6 ?_)
 exact rtA rfl rfl rfl ⟨by simp only [Z05]; exact Z38 _ _, rfl, rfl⟩ drp
theorem Z8d (x : PL) (g bf : Nat) (fst cap : List Value) (p : Bool) (hg : cal Tryz.prog g = true) (H : Z8) (R : Z5) [hM : Mem1 bf (cel 145 [.func (.func g) fst.toArray cap.toArray]) H] (hp : FnV Tryz.prog g (fst ++ [.slice x.a x.l.length x.c] ++ cap) H R (.bool p)) :
    FnV Tryz.prog 149 [.slice x.a x.l.length x.c, .pointer (some ⟨bf, 0, none⟩)] H R (.bool !p) := by
 refine Ze Tryz.func149 rfl Tryz.ntmps149 rfl ?_
 refine sqt 1 rfl (pur 1 rfl (sqt 5 rfl (spL rfl rfl (lh Zdg rfl rfl) rfl (pur 1 rfl ?_))))
 refine Z6T rfl rfl (hg) rfl rfl (hp) ?_
 refine pur 2 rfl (Z6 ?_)
 exact rtA rfl rfl rfl ⟨rfl, rfl, rfl⟩ drp
theorem Z50 (xs : List PL) (a : Option Addr) (c g : Nat) (fst cap : List Value) (p : PL → Bool) (hg : cal Tryz.prog g = true) (hl : xs.length ≤ 9223372036854775807) (H : Z8) (R : Z5) [hR : MemRows a 1 (Zt xs) R] (hp : ∀ b x, x ∈ xs → FnV Tryz.prog g (fst ++ [.slice x.a x.l.length x.c] ++ cap) ((b, cel 145 [.func (.func g) fst.toArray cap.toArray]) :: H) R (.bool (p x))) :
    FnV Tryz.prog 95 [.slice a xs.length c, .func (.func g) fst.toArray cap.toArray] H R (.bool (xs.all p)) := by
 refine Ze Tryz.func95 rfl Tryz.ntmps95 rfl ?_
 refine sqt 2 rfl (bx rfl rfl rfl (fun b3 => pur 1 rfl (sqt 5 rfl (pur 1 rfl (sp rfl (PE.makeFunc rfl rfl) rfl ?_)))))
 refine clV rfl Zd1 rfl rfl (Z70 xs a c 149 [] [_] (fun x => !p x) Zdy hl _ _ (hp := fun x hx => Z8d x g _ fst cap (p x) hg _ _ (hp := hp _ x hx))) ?_
 refine pur 2 rfl (Z6 ?_)
 exact rtA rfl rfl rfl ⟨by simp only [Z05]; rw [Z15], rfl, rfl⟩ drp
theorem Z9F (h : Hse) (ag as_ : Option Addr) (cg cs : Nat) (hok : h.ok) (fr to_ : List Int) (af at_ : Option Addr) (cf ct b4 b5 b6 : Nat) (hfr : ∀ x ∈ fr, 0 ≤ x ∧ x < 7) (hfl : fr.length ≤ 1000) (hnt : to_.length ≤ 1000000) (x : PL) (pl : List PL) (hxm : x ∈ pl) (hp : ∀ k ∈ x.l, 0 ≤ k) (hpl : x.l.length ≤ 1000000) (H : Z8) (R : Z5) [hG : MemRows ag 2 (Zk h.gaps) R] [hS : MemRows as_ 3 (Zo h.sights) R] [hF : MemRows af 1 (Z3 fr) R] [hT : MemRows at_ 1 (Z3 to_) R] [m4 : Mem1 b4 (cel 25 (htl h (h.sg ag cg) (h.ss as_ cs))) H] [m5 : Mem1 b5 (cel 26 [.slice af fr.length cf]) H] [m6 : Mem1 b6 (cel 26 [.slice at_ to_.length ct]) H] [hI : MemF (Inn pl) R] :
    FnV Tryz.prog 96 [.slice x.a x.l.length x.c, .pointer (some ⟨b4, 0, none⟩), .pointer (some ⟨b5, 0, none⟩), .pointer (some ⟨b6, 0, none⟩)] H R (.bool (Z5N h.gaps 0 fr to_ x.l)) := by
 refine Ze Tryz.func96 rfl Tryz.ntmps96 rfl ?_
 refine sqt 1 rfl ?_
 refine Sy.heap (fun w h => St.inn (x := x) h hxm) ?_
 refine pur 1 rfl (Z0 ?_)
 refine Zf [0, 1, 0, 0, 0, 31, 63] (.ld 0 (.ld 2 (.ld 3 (.tk 4 (.big 1 (.big 5 (.tk 6 .done))))))) Zy (by kernel_rfl) ?_
 refine ld rfl rfl (lhA (htl h (h.sg ag cg) (h.ss as_ cs)) Z06 rfl rfl rfl) rfl (ld rfl rfl (lh Z0P rfl rfl) rfl (ld rfl rfl (lh Z0P rfl rfl) rfl (Zg 1 rfl ?_)))
 refine cl rfl Z59 rfl rfl (Z5j h ag as_ cg cs _ _) ?_
 rintro _ _ _ ⟨bd, rfl, rfl, rfl⟩
 refine bg (fun w hs => ⟨(lh Z0P rfl rfl) w hs, (lh Z0P rfl rfl) w hs, trivial, trivial⟩) ?_
 refine clV rfl Zfc rfl rfl (ZbS (dkA h ag as_ cg cs bd) (Z0J h ag as_ cg cs hok bd) fr to_ x.l af at_ x.a cf ct x.c hfr hfl hnt hp hpl _ _) ?_
 refine bgT (Zg 1 rfl (Z6 ?_))
 exact rtA rfl rfl rfl ⟨rfl, rfl, rfl⟩ (fun w h9 => h9.ftail.ftail)
set_option maxHeartbeats 400000 in
theorem Z8w (h : Hse) (ag as_ : Option Addr) (cg cs : Nat) (hlg : h.gaps.length ≤ 9223372036854775807) (hls : h.sights.length ≤ 9223372036854775807) (fr to_ : List Int) (af at_ : Option Addr) (cf ct : Nat) (hlf : fr.length ≤ 1000000) (hlt : to_.length ≤ 1000000) (hfc : fr.length ≤ cf) (htc : to_.length ≤ ct) (pl : List PL) (ap : Option Addr) (cp : Nat) (hpl : pl.length ≤ 1000000) (htot : (lls pl).flatten.length ≤ 1000000) (H : Z8) (R : Z5) [hG : MemRows ag 2 (Zk h.gaps) R] [hS : MemRows as_ 3 (Zo h.sights) R] [hF : MemRows af 1 (Z3 fr) R] [hT : MemRows at_ 1 (Z3 to_) R] [hP : MemRows ap 1 (Zt pl) R] [hI : MemF (Inn pl) R] :
    FnV Tryz.prog 36 [h.v (h.sg ag cg) (h.ss as_ cs), .slice af fr.length cf, .slice at_ to_.length ct, .slice ap pl.length cp] H R (.tuple #[.int .i64 (h.ledR fr to_ (lls pl)), .int .i64 (h.ledE fr to_ (lls pl))]) := by
 refine Ze Tryz.func36 rfl Tryz.ntmps36 rfl ?_
 refine sqt 5 rfl (bx rfl rfl rfl (fun b4 => bx rfl rfl rfl (fun b5 => bx rfl rfl rfl (fun b6 => pur 2 rfl (Z0 (sqt 5 rfl (spL rfl rfl (lhA (htl h (h.sg ag cg) (h.ss as_ cs)) Z06 rfl rfl rfl) rfl (spL rfl rfl (lh Z0P rfl rfl) rfl (spL rfl rfl (lh Z0P rfl rfl) rfl ?_)))))))))
 refine clV rfl Z6t rfl rfl (Z3O h ag as_ cg cs hlg hls fr to_ af at_ cf ct (by omega) (by omega) hfc htc _ _) ?_
 refine pur 1 rfl (sqt 2 rfl (pur 2 rfl ?_))
 refine Z1 rfl ?_ ?_ <;> intro hc0
 have hbe : h.botE fr to_ ≠ 0 := of_decide_eq_true hc0
 have e : h.ledE fr to_ (lls pl) = h.botE fr to_ := by unfold Hse.ledE; rw [dT hbe]; rfl
 refine sqt 3 rfl (pur 3 rfl (Z6 ?_))
 exact rtB rfl rfl rfl rfl ⟨by rw [Z5y e (by assumption), e] <;> rfl, rfl, rfl⟩ drp
 have hbe : h.botE fr to_ = 0 := Classical.byContradiction fun e => by rw [decide_eq_true e] at hc0; cases hc0
 have hb := Z0x hbe
 obtain ⟨q1, q2, q3, q4, q5, q6⟩ := Z0g hb
 have hok := hb.ok
 refine Z2 (Z0 (Z0 ?_))
 refine Zf [0, 1, 0, 4, 15, 31] (.tk 0 (.ld 2 (.tk 3 (.big 1 (.big 4 (.tk 5 .done)))))) Zy (by kernel_rfl) ?_
 refine Zg 1 rfl (ld rfl rfl (lhA (htl h (h.sg ag cg) (h.ss as_ cs)) Z06 rfl rfl rfl) rfl (tk rfl (PE.makeFunc rfl rfl) rfl ?_))
 refine cl rfl Z9u rfl rfl (Z2R pl ap cp hpl htot _ _) ?_
 rintro _ _ R1 ⟨o, rfl, rfl, hR1⟩
 obtain rfl := hR1.symm
 clear hR1
 obtain ⟨ac, cc, heo, hcc, hfz⟩ := o.freezeC
 rw [irl] at hcc
 rw [heo, irl]
 refine Sy.heap (fun w h => hfz h) ?_
 clear hfz heo
 refine bg (fun w hs => ⟨(lhA (htl h (h.sg ag cg) (h.ss as_ cs)) Z06 rfl rfl rfl) w hs, trivial⟩) ?_
 refine clV rfl Z9J rfl rfl (Z2I (lls pl).flatten ac cc 84 [h.v (h.sg ag cg) (h.ss as_ cs)] [] (fun k => inB k 0 ((h.gaps.length : Int) - 1)) Zct (by omega) hcc _ _ (fun _ z _ => Ze0 h (by have := hok.gl; omega) ag cg (h.ss as_ cs) z _ _)) ?_
 refine bgT (Zg 1 rfl (sqt 2 rfl (pur 2 rfl ?_)))
 refine Z1 rfl ?_ ?_ <;> intro hc1
 have hle : Zz h.gaps.length (lls pl).flatten ≠ 0 := of_decide_eq_true hc1
 have e : h.ledE fr to_ (lls pl) = Zz h.gaps.length (lls pl).flatten := by unfold Hse.ledE; rw [hbe, dT hle]; rfl
 refine sqt 3 rfl (pur 3 rfl (Z6 ?_))
 exact rtB rfl rfl rfl rfl ⟨by rw [Z5y e (by assumption), e] <;> rfl, rfl, rfl⟩ (fun w h9 => St.sub (((h9.del b6).del b5).del b4))
 have hle : Zz h.gaps.length (lls pl).flatten = 0 := Classical.byContradiction fun e => by rw [show decide (ZaC (fun k => inB k 0 ((h.gaps.length : Int) - 1)) (lls pl).flatten ≠ 0) = true from decide_eq_true e] at hc1; cases hc1
 have hlx := (ZS hle).1
 have hin : ∀ x ∈ pl, (∀ k ∈ x.l, 0 ≤ k) ∧ x.l.length ≤ 1000000 := fun x hx => by
   have hm : x.l ∈ lls pl := List.mem_map.2 ⟨x, hx, rfl⟩
   refine ⟨fun k hk => (hlx k (List.mem_flatten.2 ⟨_, hm, hk⟩)).1, ?_⟩
   have := List.Sublist.length_le (List.sublist_flatten_of_mem hm)
   omega
 refine Z2 (Z0 (sqt 4 rfl (pur 1 rfl (sp rfl (PE.makeFunc rfl rfl) rfl ?_))))
 refine clV rfl Zfv rfl rfl (Z50 pl ap cp 96 [] [_, _, _] (fun x => Z5N h.gaps 0 fr to_ x.l) ZeP (by omega) _ _ (fun _ x hx => Z9F h ag as_ cg cs hok fr to_ af at_ cf ct b4 b5 b6 q1 (by omega) hlt x pl hx (hin x hx).1 (hin x hx).2 _ _)) ?_
 refine pur 1 rfl ?_
 refine Z1 rfl ?_ ?_ <;> intro hc2
 have hc9 : (!(pl.all fun x => Z5N h.gaps 0 fr to_ x.l)) = true := hc2
 rw [Z8E pl (fun l => Z5N h.gaps 0 fr to_ l)] at hc9
 have h8 : (8 : Int) ≠ 0 := by decide
 have e : h.ledE fr to_ (lls pl) = 8 := by unfold Hse.ledE; rw [hbe, hle, hc9]; rfl
 refine sqt 2 rfl (pur 2 rfl (Z6 ?_))
 exact rtB rfl rfl rfl rfl ⟨by rw [Z5y e (by assumption), e] <;> rfl, rfl, rfl⟩ (fun w h9 => St.sub (((h9.del b6).del b5).del b4))
 have hc9 : (!(pl.all fun x => Z5N h.gaps 0 fr to_ x.l)) = false := hc2
 rw [Z8E pl (fun l => Z5N h.gaps 0 fr to_ l)] at hc9
 have e : h.ledE fr to_ (lls pl) = 0 := by unfold Hse.ledE; rw [hbe, hle, hc9]; rfl
 have er : h.ledR fr to_ (lls pl) = pl.length := by unfold Hse.ledR; rw [e, Z2k]; rfl
 refine Z2 (sqt 4 rfl (pur 1 rfl (sp rfl (PE.lenSl Z2Y rfl) rfl (pur 2 rfl (Z6 ?_)))))
 exact rtB rfl rfl rfl rfl ⟨by rw [er, e] <;> rfl, rfl, rfl⟩ (fun w h9 => St.sub (((h9.del b6).del b5).del b4))
theorem Zey : Z0Z Tryz.prog 25 = some 3 := by kernel_rfl
theorem ZfJ : Z1r Tryz.prog 25 = some [(0, 1), (1, 1), (2, 1)] := by kernel_rfl
theorem Zf3 : Z1r Tryz.prog 67 = some [(0, 1), (1, 1), (2, 1)] := by kernel_rfl
theorem ZeI : slE Tryz.prog 22 = some (97, 2) := by kernel_rfl
theorem Zcn : ZQ Tryz.prog 25 = some ([.int .i64 0, .slice none 0 0, .slice none 0 0]) := by kernel_rfl
def Z6R : List Gp := [⟨0, 1⟩, ⟨0, 2⟩, ⟨1, 3⟩, ⟨2, 3⟩, ⟨3, 4⟩, ⟨4, 5⟩, ⟨1, 2⟩]
def sixS : List Sgt := [⟨2, 3, true⟩, ⟨1, 1, false⟩, ⟨2, 4, false⟩]
abbrev six (k : Nat) : Hse := ⟨6, Z6R, sixS.take k⟩
theorem Z6z (l : List Sgt) (k : Nat) : (Zo l).take k = Zo (l.take k) := (List.map_take).symm
theorem Zbb {k : Nat} (hk : k ≤ 3) : (six k).sights.length = k := by
  show (sixS.take k).length = k
  rw [List.length_take]; show min k 3 = k; omega
set_option maxHeartbeats 400000 in
theorem Z4J (k : Nat) (hk : k ≤ 3) (H : Z8) (R : Z5) :
    Fn Tryz.prog 69 [.int .i64 (k : Int)] H R (fun v H' R' => ∃ (ag as_ : Option Addr) (cg cs : Nat), v = (six k).v ((six k).sg ag cg) ((six k).ss as_ cs) ∧ k ≤ cs ∧ H' = H ∧ R' = RowsA ag 2 (Zk (six k).gaps) :: RowsA as_ 3 (Zo (six k).sights) :: R) := by
 refine Ze Tryz.func69 rfl Tryz.ntmps69 rfl ?_
 refine sqt 1 rfl (alc rfl Zcn rfl (fun b2 => sqt 5 rfl (sp rfl (PE.build (out := [_, _, _]) Zf3 ZdH rfl rfl) rfl (sp rfl (PE.build (out := [_, _, _]) Zf3 ZdH rfl rfl) rfl (sp rfl (PE.build (out := [_, _, _]) Zf3 ZdH rfl rfl) rfl ?_)))))
 refine bsl (out := [_, _, _, _, _, _, _, _, _]) rfl ZeK ZdH rfl rfl rfl rfl rfl rfl (fun b7 => ?_)
 refine pur 1 rfl (sqt 17 rfl (sp rfl (PE.build (out := [_, _]) Z8Y Z2W rfl rfl) rfl (sp rfl (PE.build (out := [_, _]) Z8Y Z2W rfl rfl) rfl (sp rfl (PE.build (out := [_, _]) Z8Y Z2W rfl rfl) rfl (sp rfl (PE.build (out := [_, _]) Z8Y Z2W rfl rfl) rfl (sp rfl (PE.build (out := [_, _]) Z8Y Z2W rfl rfl) rfl (sp rfl (PE.build (out := [_, _]) Z8Y Z2W rfl rfl) rfl (sp rfl (PE.build (out := [_, _]) Z8Y Z2W rfl rfl) rfl ?_))))))))
 refine bsl (out := [_, _, _, _, _, _, _, _, _, _, _, _, _, _]) rfl ZeI Z2W rfl rfl rfl rfl rfl rfl (fun b15 => ?_)
 refine pur 3 rfl (sp rfl (PE.lenSl Z9W rfl) rfl (sp rfl (PE.min rfl rfl) rfl (sp rfl (PE.max rfl rfl) rfl ?_)))
 rw [show max (0 : Int) (min (k : Int) ((3 : Nat) : Int)) = (k : Int) by omega]
 refine sp rfl (PE.slHi (h := k) ZeK rfl rfl (by omega)) rfl (sp rfl (PE.build (out := [_, _, _]) ZfJ Zcn rfl rfl) rfl ?_)
 refine ZN (l' := [.int .i64 6, .slice (some ⟨b15, 0, none⟩) 7 7, .slice (some ⟨b7, 0, none⟩) k 3]) rfl rfl rfl Zey rfl rfl rfl rfl (nl rfl) ?_
 refine Z6 ?_
 refine Sy.heap (fun w h9 => St.rows (sz := 3) (rows := Zo sixS) (rest := []) (h9.pull b7) (by simp [Zo, sixS, Z4S])) ?_
 refine Sy.heap (fun w h9 => St.rows (sz := 2) (rows := Zk Z6R) (rest := []) (h9.pull b15) (by simp [Zk, Z6R, grow])) ?_
 refine Sy.heap (fun w h9 => (show St _ (RowsA (some ⟨b7, 0, none⟩) 3 (Zo (sixS.take k)) :: _) w from Z6z sixS k ▸ St.rowsTake (a := some ⟨b7, 0, none⟩) (sz := 3) (rows := Zo sixS) h9 k)) ?_
 exact Zp (vs := [_]) rfl (.cons (RV.cell rfl (lhA [_, _, _] Z06 rfl rfl rfl)) .nil) rfl ⟨some ⟨b15, 0, none⟩, some ⟨b7, 0, none⟩, 7, 3, by unfold Hse.v Hse.sg Hse.ss htl; rw [Zbb hk]; rfl, hk, rfl, rfl⟩ (fun w h9 => St.sub (h9.del b2))
theorem Zf2 : cal Tryz.prog 89 = true := by kernel_rfl
theorem Z4i : Wth Z6R 7 := by
  intro g hg
  simp only [Z6R, List.mem_cons, List.not_mem_nil, or_false] at hg
  rcases hg with rfl | rfl | rfl | rfl | rfl | rfl | rfl <;> decide
theorem six_w : ((six 0).weeksR [0]).1 = [0, 1, 1, 2, 3, 4] ∧ ((six 0).weeksR [0]).2 = 0 := ⟨by kernel_rfl, by kernel_rfl⟩
theorem six_o : ((six 2).orgR).1 = [4] ∧ ((six 2).orgR).2 = 0 := ⟨by kernel_rfl, by kernel_rfl⟩
theorem six_s : ((six 2).surR 1).1 = [4, 5] ∧ ((six 2).surR 1).2 = 0 := ⟨by kernel_rfl, by kernel_rfl⟩
theorem six_c : ((six 3).claR).1 = [0, 1, 2] ∧ ((six 3).claR).2 = 0 := ⟨by kernel_rfl, by kernel_rfl⟩
theorem six_l : (six 0).ledR [0] [3] [[0, 2], [1, 3]] = 2 ∧ (six 0).ledE [0] [3] [[0, 2], [1, 3]] = 0 := ⟨by kernel_rfl, by kernel_rfl⟩
theorem six_b : (six 0).botE [0] [5] = 0 ∧ (six 0).botE [0] [3] = 0 ∧ (six 0).rcE [0] [1] 1 = 0 := ⟨by kernel_rfl, by kernel_rfl, by kernel_rfl⟩
theorem Zee : plD Z6R 2 1 8 1 0 3 = true := by kernel_rfl
theorem Ze8 : plD Z6R 2 1 8 1 0 2 = false := by kernel_rfl
theorem ZdU : plD Z6R 8 0 8 1 0 10 = false := by kernel_rfl
theorem Zel : plD Z6R 8 1 8 1 0 10 = true := by kernel_rfl
theorem Zeq : plD Z6R 32 10 8 1 0 1 = true := by kernel_rfl
theorem Zei : plD Z6R 32 10 8 1 0 0 = false := by kernel_rfl
theorem six_few : Lst (Pl (six 0).gaps (msk [1]) (1 : Int).toNat (msk [0]) 0) 3 := Z7s Z4i (by decide) Zee Ze8
theorem Zc6 : Lst (Pl (six 0).gaps (msk [5]) 10 (msk [0]) 0) 1 := Z7s Z4i (by decide) Zeq Zei
theorem Zc3 {s : Nat} (h1 : ∃ n, Pl (six 0).gaps (msk [3]) s (msk [0]) 0 n) (h2 : ∀ s', s' < s → ∀ n, ¬ Pl (six 0).gaps (msk [3]) s' (msk [0]) 0 n) : s = 1 := by
  rcases Nat.lt_trichotomy s 1 with h3 | h3 | h3
  · obtain rfl : s = 0 := by omega
    obtain ⟨n, hn⟩ := h1
    have hf := hn.few
    have h4 := Z55 (n := 10) (f := 8) Z4i (by decide) (by omega) hn (by have : (six 0).gaps.length = 7 := rfl; omega)
    have h5 : plD Z6R 8 0 8 1 0 10 = true := h4
    rw [ZdU] at h5
    cases h5
  · exact h3
  · obtain ⟨k, _, hk⟩ := Z4c Zel
    exact absurd hk (h2 1 h3 k)
theorem Z6x {f : Nat → Int} {V : List (Nat × Int)} (hf : Flw f (msk [0]) (msk [5]) (six 0).gaps) (hs : Shn (six 0).gaps (fun _ => true) f (msk [0]) (msk [5]) V) : (Z0p (Z10 V) (six 0).gaps).length = 1 := by
  have hc := (hs.cut (Z19 (Z0x six_b.1)) hf).1
  have hl : (Z0p (Z10 V) (six 0).gaps).length ≤ 7 := by
    unfold Z0p
    rw [List.length_map]
    exact Nat.le_trans (List.length_filter_le _ _) (by decide)
  exact (Cut.plan (sp := 10) Z4i (by decide) hc (by omega)).unique Zc6
theorem Z9M (xs ys : List Int) (a a2 : Option Addr) (c c2 : Nat) (hl : xs.length ≤ 9223372036854775807) (hl2 : ys.length ≤ 9223372036854775807) (H : Z8) (R : Z5) [hR : MemRows a 1 (Z3 xs) R] [hR2 : MemRows a2 1 (Z3 ys) R] :
    FnV Tryz.prog 89 [.slice a xs.length c, .slice a2 ys.length c2] H R (.bool (decide (xs = ys))) := by
 refine Ze Tryz.func89 rfl Tryz.ntmps89 rfl ?_
 refine sqt 1 rfl (pur 1 rfl (Z0 (sqt 5 rfl (pur 1 rfl (sp rfl (PE.lenSl Zw rfl) rfl (pur 1 rfl (sp rfl (PE.lenSl Zw rfl) rfl (pur 1 rfl ?_))))))))
 refine Z1 rfl ?_ ?_ <;> intro hc0
 have hne : xs ≠ ys := fun e => by subst e; simp at hc0
 refine sqt 1 rfl (pur 1 rfl (Z6 ?_))
 exact rtA rfl rfl rfl ⟨by first | (simp only [Z05]; rw [dT heq]; done) | (simp only [Z05]; rw [dF hne]), rfl, rfl⟩ idH
 have hle : xs.length = ys.length := by simp only [cS] at hc0; omega
 refine Z2 (Z0 (sqt 3 rfl (pur 1 rfl (sp rfl (PE.lenSl Zw rfl) rfl (pur 1 rfl (Z4 ?_))))))
 refine Zc (ι := {k : Nat // k ≤ xs.length ∧ xs.take k = ys.take k}) (fun k => ⟨[(0, .slice a xs.length c), (1, .slice a2 ys.length c2), (12, .int .i64 xs.length), (13, .int .i64 k.1)], H, R⟩) (fun k => xs.length - k.1) ⟨0, by simp⟩ ?_ (fun k => ?_)
 exact Zh idH
 obtain ⟨k, hk, hn⟩ := k
 dsimp only
 refine sqt 1 rfl (pur 1 rfl (Z0 ?_))
 refine Z1 rfl ?_ ?_ <;> intro hc1
 simp only [cS] at hc1
 obtain ⟨x, hx⟩ : ∃ x, xs[k]? = some x := ⟨_, List.getElem?_eq_getElem (by omega)⟩
 obtain ⟨z, hz⟩ : ∃ z, ys[k]? = some z := ⟨_, List.getElem?_eq_getElem (by omega)⟩
 refine Zn (a := a) (sz := 1) (rows := Z3 xs) (by intro h0; simp [Z3] at h0; simp [h0] at hx) (fun b off he => ?_)
 subst he
 refine Zn (a := a2) (sz := 1) (rows := Z3 ys) (by intro h0; simp [Z3] at h0; simp [h0] at hz) (fun b2 off2 he => ?_)
 subst he
 refine Z2 (Z0 (Z4 (sqt 2 rfl (pur 2 rfl (Z0 ?_)))))
 refine Zf [0, 0, 3, 7, 0, 0, 48, 112, 255] (tks 0 3 (.ld 3 (tks 4 3 (.ld 7 (.tk 8 .done))))) Zy (by kernel_rfl) ?_
 refine Zg 2 rfl (tk rfl (PE.indexAddr Z0R rfl rfl (by omega) (by omega)) rfl (ld rfl rfl (lf0 sc3 (by simp [Z3, hx]; rfl) rfl) rfl (Zg 2 rfl (tk rfl (PE.indexAddr Z0R rfl rfl (by omega) (by omega)) rfl (ld rfl rfl (lf0 sc3 (by simp [Z3, hz]; rfl) rfl) rfl (Zg 1 rfl ?_))))))
 refine Z1 rfl ?_ ?_ <;> intro hc2
 have hne : xs ≠ ys := fun e => by subst e; rw [hx] at hz; cases hz; simp at hc2
 refine sqt 1 rfl (pur 1 rfl (Z6 ?_))
 exact rtA rfl rfl rfl ⟨by first | (simp only [Z05]; rw [dT heq]; done) | (simp only [Z05]; rw [dF hne]), rfl, rfl⟩ idH
 have hxz : x = z := by simpa using hc2
 refine Z2 (sqr 2 rfl (sp rfl (PE.add rfl rfl (by omega)) rfl (pur 1 rfl ?_)))
 exact Z7 ⟨k + 1, by omega, by rw [List.take_add_one, List.take_add_one, hn, hx, hz, hxz]⟩ idH
 simp only [cS] at hc1
 obtain rfl : k = xs.length := by omega
 have heq : xs = ys := by
   rw [List.take_length] at hn
   exact hn.trans (by rw [hle]; exact List.take_length)
 refine Z9 (Za (Za (Zl (sqt 1 rfl (pur 1 rfl (Z6 ?_))))))
 exact rtA rfl rfl rfl ⟨by first | (simp only [Z05]; rw [dT heq]; done) | (simp only [Z05]; rw [dF hne]), rfl, rfl⟩ idH
theorem Z2K (xs ys : List Int) (a a2 : Option Addr) (c c2 : Nat) (hl : xs.length ≤ 9223372036854775807) (hl2 : ys.length ≤ 9223372036854775807) (H : Z8) (R : Z5) [hR : MemRows a 1 (Z3 xs) R] [hR2 : MemRows a2 1 (Z3 ys) R] :
    FnV Tryz.prog 26 [.slice a xs.length c, .slice a2 ys.length c2] H R (.bool (decide (xs = ys))) := by
 refine Ze Tryz.func26 rfl Tryz.ntmps26 rfl ?_
 refine sqt 1 rfl (pur 1 rfl (sqt 4 rfl (pur 2 rfl ?_)))
 refine clV rfl Zf2 rfl rfl (Z9M xs ys a a2 c c2 hl hl2 _ _) ?_
 refine pur 1 rfl (Z6 ?_)
 exact rtA rfl rfl rfl ⟨rfl, rfl, rfl⟩ drp
theorem Zcv : cal Tryz.prog 22 = true := by kernel_rfl
theorem ZeD : cal Tryz.prog 24 = true := by kernel_rfl
theorem Z9X : cal Tryz.prog 26 = true := by kernel_rfl
theorem Zdi : cal Tryz.prog 33 = true := by kernel_rfl
theorem Zeg : cal Tryz.prog 36 = true := by kernel_rfl
theorem ZeV : cal Tryz.prog 41 = true := by kernel_rfl
theorem Zfg : cal Tryz.prog 49 = true := by kernel_rfl
theorem ZeR : cal Tryz.prog 51 = true := by kernel_rfl
theorem ZeN : cal Tryz.prog 53 = true := by kernel_rfl
theorem Z4H : cal Tryz.prog 69 = true := by kernel_rfl
set_option maxHeartbeats 1000000 in
theorem Zc0 (H : Z8) (R : Z5) :
    FnV Tryz.prog 11 [] H R (.bool true) := by
 refine Ze Tryz.func11 rfl Tryz.ntmps11 rfl ?_
 refine sqt 1 rfl (pur 1 rfl (sqt 8 rfl ?_))
 refine cl rfl Z4H rfl rfl (Z4J 0 (by decide) _ _) ?_
 rintro _ _ R1 ⟨ag18, as18, cg18, cs18, rfl, _, rfl, hR1⟩
 obtain rfl := hR1.symm
 clear hR1
 refine bsl (out := [_]) rfl Z0l zl3 rfl rfl rfl rfl rfl rfl (fun b19 => ?_)
 refine Sy.heap (fun w h9 => St.rows (sz := 1) (rows := Z3 [0]) (rest := []) (h9.pull b19) (by simp)) ?_
 refine cl rfl ZeV rfl rfl (Zbw (six 0) ag18 as18 cg18 cs18 (by decide) (by decide) [0] (some ⟨b19, 0, none⟩) 1 (by decide) (by decide) _ _) ?_
 rintro _ _ R1 ⟨a1, c1, _, rfl, rfl, hR1⟩
 obtain rfl := hR1.symm
 clear hR1
 rw [six_w.1, six_w.2]
 refine pur 5 rfl (sqt 7 rfl ?_)
 refine cl rfl Z4H rfl rfl (Z4J 2 (by decide) _ _) ?_
 rintro _ _ R1 ⟨ag24, as24, cg24, cs24, rfl, _, rfl, hR1⟩
 obtain rfl := hR1.symm
 clear hR1
 refine cl rfl Zfg rfl rfl (Z6X (six 2) ag24 as24 cg24 cs24 (by decide) (by decide) _ _) ?_
 rintro _ _ R1 ⟨a2, c2, _, rfl, rfl, hR1⟩
 obtain rfl := hR1.symm
 clear hR1
 rw [six_o.1, six_o.2]
 refine pur 5 rfl (sqt 7 rfl ?_)
 refine cl rfl Z4H rfl rfl (Z4J 2 (by decide) _ _) ?_
 rintro _ _ R1 ⟨ag29, as29, cg29, cs29, rfl, _, rfl, hR1⟩
 obtain rfl := hR1.symm
 clear hR1
 refine cl rfl ZeR rfl rfl (Z9f (six 2) ag29 as29 cg29 cs29 (by decide) (by decide) 1 _ _) ?_
 rintro _ _ R1 ⟨a3, c3, _, rfl, rfl, hR1⟩
 obtain rfl := hR1.symm
 clear hR1
 rw [six_s.1, six_s.2]
 refine pur 5 rfl (sqt 7 rfl ?_)
 refine cl rfl Z4H rfl rfl (Z4J 3 (by decide) _ _) ?_
 rintro _ _ R1 ⟨ag34, as34, cg34, cs34, rfl, _, rfl, hR1⟩
 obtain rfl := hR1.symm
 clear hR1
 refine cl rfl ZeN rfl rfl (ZbT (six 3) ag34 as34 cg34 cs34 (by decide) (by decide) _ _) ?_
 rintro _ _ R1 ⟨a4, c4, _, rfl, rfl, hR1⟩
 obtain rfl := hR1.symm
 clear hR1
 rw [six_c.1, six_c.2]
 refine pur 5 rfl (sqt 9 rfl ?_)
 refine cl rfl Z4H rfl rfl (Z4J 0 (by decide) _ _) ?_
 rintro _ _ R1 ⟨ag39, as39, cg39, cs39, rfl, _, rfl, hR1⟩
 obtain rfl := hR1.symm
 clear hR1
 refine bsl (out := [_]) rfl Z0l zl3 rfl rfl rfl rfl rfl rfl (fun b40 => ?_)
 refine bsl (out := [_]) rfl Z0l zl3 rfl rfl rfl rfl rfl rfl (fun b41 => ?_)
 refine Sy.heap (fun w h9 => St.rows (sz := 1) (rows := Z3 [0]) (rest := []) (h9.pull b40) (by simp)) ?_
 refine Sy.heap (fun w h9 => St.rows (sz := 1) (rows := Z3 [1]) (rest := []) (h9.pull b41) (by simp)) ?_
 refine cl rfl Zcv rfl rfl (Z5I (six 0) ag39 as39 cg39 cs39 (by decide) (by decide) [0] [1] (some ⟨b40, 0, none⟩) (some ⟨b41, 0, none⟩) 1 1 (by decide) (by decide) (by decide) (by decide) 1 _ _) ?_
 rintro _ _ R1 ⟨rfl, hR1, hq⟩
 obtain rfl := hR1.symm
 clear hR1
 rcases hq with ⟨h9, _⟩ | ⟨_, hn, _⟩ | ⟨_, n, _, hn, rfl⟩
 · exact absurd six_b.2.2 h9
 · exact absurd six_few.1 (hn 3)
 obtain rfl := hn.unique six_few
 refine pur 5 rfl (sqt 12 rfl ?_)
 refine cl rfl Z4H rfl rfl (Z4J 0 (by decide) _ _) ?_
 rintro _ _ R1 ⟨ag46, as46, cg46, cs46, rfl, _, rfl, hR1⟩
 obtain rfl := hR1.symm
 clear hR1
 refine bsl (out := [_]) rfl Z0l zl3 rfl rfl rfl rfl rfl rfl (fun b47 => ?_)
 refine bsl (out := [_]) rfl Z0l zl3 rfl rfl rfl rfl rfl rfl (fun b48 => ?_)
 refine bsl (out := [_, _]) rfl Z0l zl3 rfl rfl rfl rfl rfl rfl (fun b49 => ?_)
 refine bsl (out := [_, _]) rfl Z0l zl3 rfl rfl rfl rfl rfl rfl (fun b50 => ?_)
 refine bsl (out := [_, _]) rfl Zaz Z6m rfl rfl rfl rfl rfl rfl (fun b51 => ?_)
 refine Sy.heap (fun w h9 => St.rows (sz := 1) (rows := Z3 [0]) (rest := []) (h9.pull b47) (by simp)) ?_
 refine Sy.heap (fun w h9 => St.rows (sz := 1) (rows := Z3 [3]) (rest := []) (h9.pull b48) (by simp)) ?_
 refine Sy.heap (fun w h9 => St.rows (sz := 1) (rows := Z3 [0, 2]) (rest := []) (h9.pull b49) (by simp)) ?_
 refine Sy.heap (fun w h9 => St.rows (sz := 1) (rows := Z3 [1, 3]) (rest := []) (h9.pull b50) (by simp)) ?_
 refine Sy.heap (fun w h9 => St.rows (sz := 1) (rows := Zt [⟨some ⟨b49, 0, none⟩, 2, [0, 2]⟩, ⟨some ⟨b50, 0, none⟩, 2, [1, 3]⟩]) (rest := []) (h9.pull b51) (by simp [Zt, Z3u])) ?_
 refine Sy.heap (fun w h9 => St.inn0 h9) ?_
 refine Sy.heap (fun w h9 => (show St _ (Inn [⟨some ⟨b49, 0, none⟩, 2, [0, 2]⟩] :: _) w from St.innSnoc (l := []) ⟨some ⟨b49, 0, none⟩, 2, [0, 2]⟩ h9)) ?_
 refine Sy.heap (fun w h9 => (show St _ (Inn [⟨some ⟨b49, 0, none⟩, 2, [0, 2]⟩, ⟨some ⟨b50, 0, none⟩, 2, [1, 3]⟩] :: _) w from St.innSnoc (l := [⟨some ⟨b49, 0, none⟩, 2, [0, 2]⟩]) ⟨some ⟨b50, 0, none⟩, 2, [1, 3]⟩ h9)) ?_
 refine cl rfl Zeg rfl rfl (Z8w (six 0) ag46 as46 cg46 cs46 (by decide) (by decide) [0] [3] (some ⟨b47, 0, none⟩) (some ⟨b48, 0, none⟩) 1 1 (by decide) (by decide) (by decide) (by decide) [⟨some ⟨b49, 0, none⟩, 2, [0, 2]⟩, ⟨some ⟨b50, 0, none⟩, 2, [1, 3]⟩] (some ⟨b51, 0, none⟩) 2 (by show 2 ≤ 1000000; decide) (by show 4 ≤ 1000000; decide) _ _) ?_
 rintro _ _ _ ⟨rfl, rfl, rfl⟩
 rw [show lls [⟨some ⟨b49, 0, none⟩, 2, [0, 2]⟩, ⟨some ⟨b50, 0, none⟩, 2, [1, 3]⟩] = [[0, 2], [1, 3]] from rfl, six_l.1, six_l.2]
 refine pur 5 rfl (sqt 9 rfl ?_)
 refine cl rfl Z4H rfl rfl (Z4J 0 (by decide) _ _) ?_
 rintro _ _ R1 ⟨ag56, as56, cg56, cs56, rfl, _, rfl, hR1⟩
 obtain rfl := hR1.symm
 clear hR1
 refine bsl (out := [_]) rfl Z0l zl3 rfl rfl rfl rfl rfl rfl (fun b57 => ?_)
 refine bsl (out := [_]) rfl Z0l zl3 rfl rfl rfl rfl rfl rfl (fun b58 => ?_)
 refine Sy.heap (fun w h9 => St.rows (sz := 1) (rows := Z3 [0]) (rest := []) (h9.pull b57) (by simp)) ?_
 refine Sy.heap (fun w h9 => St.rows (sz := 1) (rows := Z3 [5]) (rest := []) (h9.pull b58) (by simp)) ?_
 refine cl rfl Zdi rfl rfl (Zes (six 0) ag56 as56 cg56 cs56 (by decide) (by decide) [0] [5] (some ⟨b57, 0, none⟩) (some ⟨b58, 0, none⟩) 1 1 (by decide) (by decide) (by decide) (by decide) _ _) ?_
 rintro _ _ R1 ⟨rfl, hq⟩
 rcases hq with ⟨h9, _⟩ | ⟨_, f, V, a5, c5, hf, hs, _, rfl, hR1⟩
 · exact absurd six_b.1 h9
 obtain rfl := hR1.symm
 clear hR1
 rw [Z6x hf hs]
 refine pur 5 rfl (sqt 9 rfl ?_)
 refine cl rfl Z4H rfl rfl (Z4J 0 (by decide) _ _) ?_
 rintro _ _ R1 ⟨ag63, as63, cg63, cs63, rfl, _, rfl, hR1⟩
 obtain rfl := hR1.symm
 clear hR1
 refine bsl (out := [_]) rfl Z0l zl3 rfl rfl rfl rfl rfl rfl (fun b64 => ?_)
 refine bsl (out := [_]) rfl Z0l zl3 rfl rfl rfl rfl rfl rfl (fun b65 => ?_)
 refine Sy.heap (fun w h9 => St.rows (sz := 1) (rows := Z3 [0]) (rest := []) (h9.pull b64) (by simp)) ?_
 refine Sy.heap (fun w h9 => St.rows (sz := 1) (rows := Z3 [3]) (rest := []) (h9.pull b65) (by simp)) ?_
 refine cl rfl ZeD rfl rfl (Zbr (six 0) ag63 as63 cg63 cs63 (by decide) (by decide) [0] [3] (some ⟨b64, 0, none⟩) (some ⟨b65, 0, none⟩) 1 1 (by decide) (by decide) (by decide) (by decide) _ _) ?_
 rintro _ _ R1 ⟨rfl, hR1, hq⟩
 obtain rfl := hR1.symm
 clear hR1
 rcases hq with ⟨h9, _⟩ | ⟨_, n, _, hn1, hn2, rfl⟩
 · exact absurd six_b.2.1 h9
 obtain rfl := Zc3 hn1 hn2
 refine pur 5 rfl (sqt 68 rfl (pur 3 rfl ?_))
 refine Zv 71 rfl ?_ ?_ <;> intro g71
 refine pur 4 rfl ?_
 refine Zv 75 rfl ?_ ?_ <;> intro g75
 refine pur 4 rfl ?_
 refine Zv 79 rfl ?_ ?_ <;> intro g79
 refine pur 4 rfl ?_
 refine Zv 83 rfl ?_ ?_ <;> intro g83
 refine pur 4 rfl ?_
 refine Zv 87 rfl ?_ ?_ <;> intro g87
 refine pur 4 rfl ?_
 refine Zv 91 rfl ?_ ?_ <;> intro g91
 refine pur 4 rfl ?_
 refine Zv 95 rfl ?_ ?_ <;> intro g95
 refine pur 4 rfl ?_
 refine Zv 99 rfl ?_ ?_ <;> intro g99
 refine pur 1 rfl ?_
 refine Zco (out := [_, _, _, _, _, _]) rfl rfl rfl rfl Z0l zl3 rfl rfl rfl rfl rfl rfl (fun b101 => ?_)
 refine Sy.heap (fun w h9 => St.rows (sz := 1) (rows := Z3 [0, 1, 1, 2, 3, 4]) (rest := []) (h9.pull b101) (by simp)) ?_
 refine Z6U rfl rfl rfl rfl Z9X rfl rfl (Z2K [0, 1, 1, 2, 3, 4] [0, 1, 1, 2, 3, 4] a1 (some ⟨b101, 0, none⟩) c1 6 (by decide) (by decide) _ _) ?_
 refine pur 2 rfl ?_
 refine Zv 104 rfl ?_ ?_ <;> intro g104
 refine pur 1 rfl ?_
 refine Zco (out := [_]) rfl rfl rfl rfl Z0l zl3 rfl rfl rfl rfl rfl rfl (fun b106 => ?_)
 refine Sy.heap (fun w h9 => St.rows (sz := 1) (rows := Z3 [4]) (rest := []) (h9.pull b106) (by simp)) ?_
 refine Z6U rfl rfl rfl rfl Z9X rfl rfl (Z2K [4] [4] a2 (some ⟨b106, 0, none⟩) c2 1 (by decide) (by decide) _ _) ?_
 refine pur 2 rfl ?_
 refine Zv 109 rfl ?_ ?_ <;> intro g109
 refine pur 1 rfl ?_
 refine Zco (out := [_, _]) rfl rfl rfl rfl Z0l zl3 rfl rfl rfl rfl rfl rfl (fun b111 => ?_)
 refine Sy.heap (fun w h9 => St.rows (sz := 1) (rows := Z3 [4, 5]) (rest := []) (h9.pull b111) (by simp)) ?_
 refine Z6U rfl rfl rfl rfl Z9X rfl rfl (Z2K [4, 5] [4, 5] a3 (some ⟨b111, 0, none⟩) c3 2 (by decide) (by decide) _ _) ?_
 refine pur 2 rfl ?_
 refine Zv 114 rfl ?_ ?_ <;> intro g114
 refine pur 1 rfl ?_
 refine Zco (out := [_, _, _]) rfl rfl rfl rfl Z0l zl3 rfl rfl rfl rfl rfl rfl (fun b116 => ?_)
 refine Sy.heap (fun w h9 => St.rows (sz := 1) (rows := Z3 [0, 1, 2]) (rest := []) (h9.pull b116) (by simp)) ?_
 refine Z6U rfl rfl rfl rfl Z9X rfl rfl (Z2K [0, 1, 2] [0, 1, 2] a4 (some ⟨b116, 0, none⟩) c4 3 (by decide) (by decide) _ _) ?_
 refine pur 2 rfl ?_
 refine Zv 119 rfl ?_ ?_ <;> intro g119
 refine pur 4 rfl ?_
 refine Zv 123 rfl ?_ ?_ <;> intro g123
 refine pur 4 rfl ?_
 refine Zv 127 rfl ?_ ?_ <;> intro g127
 refine pur 1 rfl ?_
 refine spG rfl rfl rfl rfl (PE.lenSl Zw rfl) rfl ?_
 refine pur 3 rfl ?_
 refine Zv 132 rfl ?_ ?_ <;> intro g132
 refine pur 4 rfl (Z6 ?_)
 exact rtA rfl rfl rfl ⟨rfl, rfl, rfl⟩ (fun w h9 => St.sub h9)
 exact absurd g132 (by decide)
 exact absurd g127 (by decide)
 exact absurd g123 (by decide)
 exact absurd g119 (by decide)
 exact absurd g114 (by decide)
 exact absurd g109 (by decide)
 exact absurd g104 (by decide)
 exact absurd g99 (by decide)
 exact absurd g95 (by decide)
 exact absurd g91 (by decide)
 exact absurd g87 (by decide)
 exact absurd g83 (by decide)
 exact absurd g79 (by decide)
 exact absurd g75 (by decide)
 exact absurd g71 (by decide)
theorem ZfB : apT Tryz.prog 22 = some (97, 2, 16) := by kernel_rfl
theorem ZcF : cal Tryz.prog 135 = true := by kernel_rfl
theorem Z6n : cal Tryz.prog 67 = true := by kernel_rfl
theorem Zc2 : Z0Z Tryz.prog 163 = some 1 := by kernel_rfl
theorem ZfU : elN Tryz.prog 86 = some 1 := by kernel_rfl
theorem Z3U : Z2t Tryz.prog 165 0 = some 0 := by kernel_rfl
theorem Z1T : Z2t Tryz.prog 165 1 = some 1 := by kernel_rfl
theorem Z03 : Z2t Tryz.prog 165 2 = some 2 := by kernel_rfl
theorem Zdb : Z91 Tryz.prog 163 = some .u32 := by kernel_rfl
theorem Z9P : Z5B Tryz.prog 86 = true := by kernel_rfl
theorem ZeM : Z1r Tryz.prog 165 = some [(0, 1), (1, 1), (2, 1)] := by kernel_rfl
theorem Z35 : Z2A Tryz.prog 163 = true := by kernel_rfl
theorem sc5 : Z2A Tryz.prog 5 = true := by kernel_rfl
theorem ZeA : Z2A Tryz.prog 86 = true := by kernel_rfl
theorem Z9p : (Tryz.prog.underlying 163).isSome = true := by kernel_rfl
theorem us3 : (Tryz.prog.underlying 3).isSome = true := by kernel_rfl
theorem us5 : (Tryz.prog.underlying 5).isSome = true := by kernel_rfl
theorem Zf9 : ZQ Tryz.prog 165 = some ([.slice none 0 0, .int .i64 0, .int .u32 0]) := by kernel_rfl
def Zad (x : Int) : List Value := [.int .u8 x]
def Z36 (l : List Int) : List (List Value) := l.map Zad
theorem Z81 (g : List Int) (ag : Option Addr) (cg : Nat) (hgl : g.length ≤ 9223372036854775807) (H : Z8) (R : Z5) :
    Fn Tryz.prog 55 [.slice ag g.length cg] H R (fun v H' R' => ∃ bk, ∃ mx : Int, (0 ≤ mx ∧ mx ≤ 4294967295) ∧ v = .pointer (some ⟨bk, 0, none⟩) ∧ H' = (bk, cel 165 [.slice ag g.length cg, .int .i64 (0), .int .u32 (mx)]) :: H ∧ R' = R) := by
 refine Ze Tryz.func55 rfl Tryz.ntmps55 rfl ?_
 refine sqt 1 rfl (pur 1 rfl (sqt 8 rfl (pur 2 rfl (sp rfl (PE.lenSl Z9P rfl) rfl ?_))))
 refine spE rfl (PE.convU us3 Zdb rfl) rfl ?_
 rintro _ ⟨u6, rfl, hu6⟩
 refine spE rfl (PE.xorU rfl rfl) rfl ?_
 rintro _ ⟨u7, rfl, hu7⟩
 refine sp rfl (PE.build (out := [_, _, _]) ZeM Zf9 rfl rfl) rfl (bx rfl rfl rfl (fun b9 => pur 1 rfl (Z6 ?_)))
 exact rtA rfl rfl rfl ⟨b9, u7, hu7, rfl, rfl, rfl⟩ idH
theorem Z7g (g : List Int) (ag : Option Addr) (cg bk : Nat) (hgl : g.length ≤ 9223372036854775807) (tq mx : Int) (htq : 0 ≤ tq ∧ tq ≤ 1000000000) (hmx : 0 ≤ mx ∧ mx ≤ 4294967295) (H : Z8) (R : Z5) [hG : MemRows ag 1 (Z36 g) R] :
    Fn Tryz.prog 135 [.pointer (some ⟨bk, 0, none⟩)] ((bk, cel 165 [.slice ag g.length cg, .int .i64 (tq), .int .u32 (mx)]) :: H) R (fun v H' R' => ∃ x m' : Int, (0 ≤ x ∧ x ≤ 65535) ∧ v = .int .i64 x ∧ (0 ≤ m' ∧ m' ≤ 4294967295) ∧ H' = (bk, cel 165 [.slice ag g.length cg, .int .i64 (tq + 1), .int .u32 (m')]) :: H ∧ R' = R) := by
 refine Ze Tryz.func135 rfl Tryz.ntmps135 rfl ?_
 refine sqt 1 rfl (pur 1 rfl (Z0 (sqt 6 rfl (pur 1 rfl (sp rfl (PE.nilCheck rfl) rfl (sp rfl (PE.fA Z3U rfl) rfl (spL rfl rfl (lh ZeA rfl rfl) rfl (sp rfl (PE.lenSl Z9P rfl) rfl (pur 1 rfl (sqt 2 rfl (pur 2 rfl ?_)))))))))))
 refine Z1 rfl ?_ ?_ <;> intro hc0 <;> try simp only [cS] at hc0
 obtain ⟨y, hy⟩ : ∃ y, g[(tq % g.length).toNat]? = some y := ⟨_, List.getElem?_eq_getElem (by have := Int.emod_lt_of_pos tq hc0; have := Int.emod_nonneg tq (show (g.length : Int) ≠ 0 by omega); omega)⟩
 refine Zn (a := ag) (sz := 1) (rows := Z36 g) (by intro h0; simp [Z36] at h0; simp [h0] at hy) (fun bgr ogr he => ?_)
 subst he
 refine Zf [0, 0, 2, 6, 14, 0, 32, 96, 224, 0, 512, 1536, 3584, 0, 15872, 32736, 65504, 131040, 262142, 524286, 1048575, 2097151, 4194303] (tks 0 4 (.ld 4 (tks 5 3 (.ld 8 (tks 9 3 (.ld 12 (tks 13 3 (.ld 16 (tks 17 5 (.big 22 .done)))))))))) Zy (by kernel_rfl) ?_
 refine Zg 2 rfl (tk rfl (PE.nilCheck rfl) rfl (tk rfl (PE.fA Z03 rfl) rfl (ld rfl rfl (lh Z35 rfl rfl) rfl (Zg 1 rfl (tk rfl (PE.nilCheck rfl) rfl (tk rfl (PE.fA Z3U rfl) rfl (ld rfl rfl (lh ZeA rfl rfl) rfl (Zg 1 rfl (tk rfl (PE.nilCheck rfl) rfl (tk rfl (PE.fA Z1T rfl) rfl (ld rfl rfl (lh sc3 rfl rfl) rfl (Zg 1 rfl (tk rfl (PE.rem rfl rfl (by omega)) rfl (tk rfl (PE.indexAddr ZfU rfl rfl (by exact Int.emod_nonneg tq (by omega)) (by exact Int.emod_lt_of_pos tq hc0)) rfl (ld rfl rfl (lf0 (x := .int .u8 y) sc5 (by simp [Z36, Zad, hy]; rfl) rfl) rfl ?_)))))))))))))))
 refine tkE rfl (PE.convU us5 Zdb rfl) rfl ?_
 rintro _ ⟨u28, rfl, hu28⟩
 refine tkE rfl (PE.xorU rfl rfl) rfl ?_
 rintro _ ⟨u29, rfl, hu29⟩
 refine tkE rfl (PE.mulU rfl rfl) rfl ?_
 rintro _ ⟨u30, rfl, hu30⟩
 refine tk rfl (PE.nilCheck rfl) rfl (tk rfl (PE.fA Z03 rfl) rfl ?_)
 refine sto rfl rfl rfl Zc2 rfl rfl rfl rfl ?_
 refine bgT (sqt 8 rfl (pur 1 rfl (sp rfl (PE.nilCheck rfl) rfl (sp rfl (PE.fA Z1T rfl) rfl (spL rfl rfl (lh sc3 rfl rfl) rfl (sp rfl (PE.add rfl rfl (by omega)) rfl (sp rfl (PE.nilCheck rfl) rfl (sp rfl (PE.fA Z1T rfl) rfl ?_))))))))
 refine sto rfl rfl rfl cn3 rfl rfl rfl rfl ?_
 refine Z0 (Z0 ?_)
 refine Zf [0, 1, 3, 7, 0, 16, 48, 112, 240, 511] (tks 0 3 (.ld 3 (tks 4 3 (.ld 7 (.tk 8 (.tk 9 .done)))))) Zy (by kernel_rfl) ?_
 refine Zg 1 rfl (tk rfl (PE.nilCheck rfl) rfl (tk rfl (PE.fA Z1T rfl) rfl (ld rfl rfl (lh sc3 rfl rfl) rfl (Zg 1 rfl (tk rfl (PE.nilCheck rfl) rfl (tk rfl (PE.fA Z3U rfl) rfl (ld rfl rfl (lh ZeA rfl rfl) rfl (tk rfl (PE.lenSl Z9P rfl) rfl (Zg 1 rfl ?_)))))))))
 refine Z1 rfl ?_ ?_ <;> intro hc1 <;> try simp only [cS] at hc1
 refine sqr 10 rfl (pur 2 rfl (sp rfl (PE.nilCheck rfl) rfl (sp rfl (PE.fA Z03 rfl) rfl (spL rfl rfl (lh Z35 rfl rfl) rfl ?_))))
 refine spE rfl (PE.mulU rfl rfl) rfl ?_
 rintro _ ⟨u55, rfl, hu55⟩
 refine spE rfl (PE.addU rfl rfl) rfl ?_
 rintro _ ⟨u56, rfl, hu56⟩
 refine sp rfl (PE.nilCheck rfl) rfl (sp rfl (PE.fA Z03 rfl) rfl ?_)
 refine sto rfl rfl rfl Zc2 rfl rfl rfl rfl ?_
 refine Z0 ?_
 refine Zf [0, 1, 3, 7, 0, 16, 48, 112, 240, 511, 1023, 2047, 4095, 8191] (tks 0 3 (.ld 3 (tks 4 3 (.ld 7 (tks 8 6 .done))))) Zy (by kernel_rfl) ?_
 refine Zg 1 rfl (tk rfl (PE.nilCheck rfl) rfl (tk rfl (PE.fA Z03 rfl) rfl (ld rfl rfl (lh Z35 rfl rfl) rfl (Zg 1 rfl (tk rfl (PE.nilCheck rfl) rfl (tk rfl (PE.fA Z03 rfl) rfl (ld rfl rfl (lh Z35 rfl rfl) rfl ?_)))))))
 refine tkE rfl (PE.shrU rfl rfl (by decide) (by omega) (by omega)) rfl ?_
 rintro _ ⟨u67, rfl, hu67⟩
 refine tkE rfl (PE.xorU rfl rfl) rfl ?_
 rintro _ ⟨u68, rfl, hu68⟩
 refine tkE rfl (PE.shrU rfl rfl (by decide) (by omega) (by omega)) rfl ?_
 rintro _ ⟨u69, rfl, hu69⟩
 refine tkE rfl (PE.andU rfl rfl (by decide) (by decide)) rfl ?_
 rintro _ ⟨u70, rfl, hu70⟩
 refine tk rfl (PE.conv64 Z9p ik3 rfl (by omega)) rfl (Zg 1 rfl (Z6 ?_))
 first
   | exact rtA rfl rfl rfl ⟨u70, _, hu70, rfl, hu56, rfl, rfl⟩ idH
   | exact rtA rfl rfl rfl ⟨u70, _, hu70, rfl, hu30, rfl, rfl⟩ idH
   | exact rtA rfl rfl rfl ⟨u70, _, hu70, rfl, hmx, rfl, rfl⟩ idH
 refine Z2 (Z0 ?_)
 refine Zf [0, 1, 3, 7, 0, 16, 48, 112, 240, 511, 1023, 2047, 4095, 8191] (tks 0 3 (.ld 3 (tks 4 3 (.ld 7 (tks 8 6 .done))))) Zy (by kernel_rfl) ?_
 refine Zg 1 rfl (tk rfl (PE.nilCheck rfl) rfl (tk rfl (PE.fA Z03 rfl) rfl (ld rfl rfl (lh Z35 rfl rfl) rfl (Zg 1 rfl (tk rfl (PE.nilCheck rfl) rfl (tk rfl (PE.fA Z03 rfl) rfl (ld rfl rfl (lh Z35 rfl rfl) rfl ?_)))))))
 refine tkE rfl (PE.shrU rfl rfl (by decide) (by omega) (by omega)) rfl ?_
 rintro _ ⟨u67, rfl, hu67⟩
 refine tkE rfl (PE.xorU rfl rfl) rfl ?_
 rintro _ ⟨u68, rfl, hu68⟩
 refine tkE rfl (PE.shrU rfl rfl (by decide) (by omega) (by omega)) rfl ?_
 rintro _ ⟨u69, rfl, hu69⟩
 refine tkE rfl (PE.andU rfl rfl (by decide) (by decide)) rfl ?_
 rintro _ ⟨u70, rfl, hu70⟩
 refine tk rfl (PE.conv64 Z9p ik3 rfl (by omega)) rfl (Zg 1 rfl (Z6 ?_))
 first
   | exact rtA rfl rfl rfl ⟨u70, _, hu70, rfl, hu56, rfl, rfl⟩ idH
   | exact rtA rfl rfl rfl ⟨u70, _, hu70, rfl, hu30, rfl, rfl⟩ idH
   | exact rtA rfl rfl rfl ⟨u70, _, hu70, rfl, hmx, rfl, rfl⟩ idH
 refine Z2 (sqt 8 rfl (pur 1 rfl (sp rfl (PE.nilCheck rfl) rfl (sp rfl (PE.fA Z1T rfl) rfl (spL rfl rfl (lh sc3 rfl rfl) rfl (sp rfl (PE.add rfl rfl (by omega)) rfl (sp rfl (PE.nilCheck rfl) rfl (sp rfl (PE.fA Z1T rfl) rfl ?_))))))))
 refine sto rfl rfl rfl cn3 rfl rfl rfl rfl ?_
 refine Z0 (Z0 ?_)
 refine Zf [0, 1, 3, 7, 0, 16, 48, 112, 240, 511] (tks 0 3 (.ld 3 (tks 4 3 (.ld 7 (.tk 8 (.tk 9 .done)))))) Zy (by kernel_rfl) ?_
 refine Zg 1 rfl (tk rfl (PE.nilCheck rfl) rfl (tk rfl (PE.fA Z1T rfl) rfl (ld rfl rfl (lh sc3 rfl rfl) rfl (Zg 1 rfl (tk rfl (PE.nilCheck rfl) rfl (tk rfl (PE.fA Z3U rfl) rfl (ld rfl rfl (lh ZeA rfl rfl) rfl (tk rfl (PE.lenSl Z9P rfl) rfl (Zg 1 rfl ?_)))))))))
 refine Z1 rfl ?_ ?_ <;> intro hc1 <;> try simp only [cS] at hc1
 refine sqr 10 rfl (pur 2 rfl (sp rfl (PE.nilCheck rfl) rfl (sp rfl (PE.fA Z03 rfl) rfl (spL rfl rfl (lh Z35 rfl rfl) rfl ?_))))
 refine spE rfl (PE.mulU rfl rfl) rfl ?_
 rintro _ ⟨u55, rfl, hu55⟩
 refine spE rfl (PE.addU rfl rfl) rfl ?_
 rintro _ ⟨u56, rfl, hu56⟩
 refine sp rfl (PE.nilCheck rfl) rfl (sp rfl (PE.fA Z03 rfl) rfl ?_)
 refine sto rfl rfl rfl Zc2 rfl rfl rfl rfl ?_
 refine Z0 ?_
 refine Zf [0, 1, 3, 7, 0, 16, 48, 112, 240, 511, 1023, 2047, 4095, 8191] (tks 0 3 (.ld 3 (tks 4 3 (.ld 7 (tks 8 6 .done))))) Zy (by kernel_rfl) ?_
 refine Zg 1 rfl (tk rfl (PE.nilCheck rfl) rfl (tk rfl (PE.fA Z03 rfl) rfl (ld rfl rfl (lh Z35 rfl rfl) rfl (Zg 1 rfl (tk rfl (PE.nilCheck rfl) rfl (tk rfl (PE.fA Z03 rfl) rfl (ld rfl rfl (lh Z35 rfl rfl) rfl ?_)))))))
 refine tkE rfl (PE.shrU rfl rfl (by decide) (by omega) (by omega)) rfl ?_
 rintro _ ⟨u67, rfl, hu67⟩
 refine tkE rfl (PE.xorU rfl rfl) rfl ?_
 rintro _ ⟨u68, rfl, hu68⟩
 refine tkE rfl (PE.shrU rfl rfl (by decide) (by omega) (by omega)) rfl ?_
 rintro _ ⟨u69, rfl, hu69⟩
 refine tkE rfl (PE.andU rfl rfl (by decide) (by decide)) rfl ?_
 rintro _ ⟨u70, rfl, hu70⟩
 refine tk rfl (PE.conv64 Z9p ik3 rfl (by omega)) rfl (Zg 1 rfl (Z6 ?_))
 first
   | exact rtA rfl rfl rfl ⟨u70, _, hu70, rfl, hu56, rfl, rfl⟩ idH
   | exact rtA rfl rfl rfl ⟨u70, _, hu70, rfl, hu30, rfl, rfl⟩ idH
   | exact rtA rfl rfl rfl ⟨u70, _, hu70, rfl, hmx, rfl, rfl⟩ idH
 refine Z2 (Z0 ?_)
 refine Zf [0, 1, 3, 7, 0, 16, 48, 112, 240, 511, 1023, 2047, 4095, 8191] (tks 0 3 (.ld 3 (tks 4 3 (.ld 7 (tks 8 6 .done))))) Zy (by kernel_rfl) ?_
 refine Zg 1 rfl (tk rfl (PE.nilCheck rfl) rfl (tk rfl (PE.fA Z03 rfl) rfl (ld rfl rfl (lh Z35 rfl rfl) rfl (Zg 1 rfl (tk rfl (PE.nilCheck rfl) rfl (tk rfl (PE.fA Z03 rfl) rfl (ld rfl rfl (lh Z35 rfl rfl) rfl ?_)))))))
 refine tkE rfl (PE.shrU rfl rfl (by decide) (by omega) (by omega)) rfl ?_
 rintro _ ⟨u67, rfl, hu67⟩
 refine tkE rfl (PE.xorU rfl rfl) rfl ?_
 rintro _ ⟨u68, rfl, hu68⟩
 refine tkE rfl (PE.shrU rfl rfl (by decide) (by omega) (by omega)) rfl ?_
 rintro _ ⟨u69, rfl, hu69⟩
 refine tkE rfl (PE.andU rfl rfl (by decide) (by decide)) rfl ?_
 rintro _ ⟨u70, rfl, hu70⟩
 refine tk rfl (PE.conv64 Z9p ik3 rfl (by omega)) rfl (Zg 1 rfl (Z6 ?_))
 first
   | exact rtA rfl rfl rfl ⟨u70, _, hu70, rfl, hu56, rfl, rfl⟩ idH
   | exact rtA rfl rfl rfl ⟨u70, _, hu70, rfl, hu30, rfl, rfl⟩ idH
   | exact rtA rfl rfl rfl ⟨u70, _, hu70, rfl, hmx, rfl, rfl⟩ idH
theorem Z2o (g : List Int) (ag : Option Addr) (cg bk : Nat) (hgl : g.length ≤ 9223372036854775807) (tq mx : Int) (htq : 0 ≤ tq ∧ tq ≤ 1000000000) (hmx : 0 ≤ mx ∧ mx ≤ 4294967295) (n : Int) (H : Z8) (R : Z5) [hG : MemRows ag 1 (Z36 g) R] :
    Fn Tryz.prog 67 [.pointer (some ⟨bk, 0, none⟩), .int .i64 n] ((bk, cel 165 [.slice ag g.length cg, .int .i64 (tq), .int .u32 (mx)]) :: H) R (fun v H' R' => ∃ x m' : Int, (0 ≤ x ∧ x < max 1 n) ∧ v = .int .i64 x ∧ (0 ≤ m' ∧ m' ≤ 4294967295) ∧ H' = (bk, cel 165 [.slice ag g.length cg, .int .i64 (tq + 1), .int .u32 (m')]) :: H ∧ R' = R) := by
 refine Ze Tryz.func67 rfl Tryz.ntmps67 rfl ?_
 refine sqt 1 rfl (pur 1 rfl (sqt 6 rfl (pur 1 rfl ?_)))
 refine cl rfl ZcF rfl rfl (Z7g g ag cg bk hgl tq mx htq hmx _ _) ?_
 rintro _ _ _ ⟨x, m', hx, rfl, hm', rfl, rfl⟩
 refine pur 1 rfl (sp rfl (PE.max rfl rfl) rfl (sp rfl (PE.rem rfl rfl (by omega)) rfl (pur 1 rfl (Z6 ?_))))
 exact rtA rfl rfl rfl ⟨_, m', ⟨Int.emod_nonneg _ (by omega), Int.emod_lt_of_pos _ (by omega)⟩, rfl, hm', rfl, rfl⟩ idH
theorem Zcj (g : List Int) (ag : Option Addr) (cg bk : Nat) (hgl : g.length ≤ 9223372036854775807) (tq mx : Int) (htq : 0 ≤ tq ∧ tq ≤ 1000000000) (hmx : 0 ≤ mx ∧ mx ≤ 4294967295) (lo hi : Int) (hb : -1000000 ≤ lo ∧ lo ≤ 1000000 ∧ -1000000 ≤ hi ∧ hi ≤ 1000000) (H : Z8) (R : Z5) [hG : MemRows ag 1 (Z36 g) R] :
    Fn Tryz.prog 125 [.pointer (some ⟨bk, 0, none⟩), .int .i64 lo, .int .i64 hi] ((bk, cel 165 [.slice ag g.length cg, .int .i64 (tq), .int .u32 (mx)]) :: H) R (fun v H' R' => ∃ x m' : Int, (lo ≤ x ∧ x < lo + max 1 (hi - lo + 1)) ∧ v = .int .i64 x ∧ (0 ≤ m' ∧ m' ≤ 4294967295) ∧ H' = (bk, cel 165 [.slice ag g.length cg, .int .i64 (tq + 1), .int .u32 (m')]) :: H ∧ R' = R) := by
 refine Ze Tryz.func125 rfl Tryz.ntmps125 rfl ?_
 refine sqt 1 rfl (pur 1 rfl (sqt 9 rfl (pur 4 rfl (sp rfl (PE.sub rfl rfl (by omega)) rfl (sp rfl (PE.add rfl rfl (by omega)) rfl ?_)))))
 refine cl rfl Z6n rfl rfl (Z2o g ag cg bk hgl tq mx htq hmx (hi - lo + 1) _ _) ?_
 rintro _ _ _ ⟨x, m', hx, rfl, hm', rfl, rfl⟩
 refine sp rfl (PE.add rfl rfl (by omega)) rfl (pur 1 rfl (Z6 ?_))
 exact rtA rfl rfl rfl ⟨lo + x, m', ⟨by omega, by omega⟩, rfl, hm', rfl, rfl⟩ idH
theorem Z7m (g : List Int) (ag : Option Addr) (cg bk : Nat) (hgl : g.length ≤ 9223372036854775807) (tq mx : Int) (htq : 0 ≤ tq ∧ tq ≤ 1000000000) (hmx : 0 ≤ mx ∧ mx ≤ 4294967295) (n : Int) (H : Z8) (R : Z5) [hG : MemRows ag 1 (Z36 g) R] :
    Fn Tryz.prog 126 [.pointer (some ⟨bk, 0, none⟩), .int .i64 n] ((bk, cel 165 [.slice ag g.length cg, .int .i64 (tq), .int .u32 (mx)]) :: H) R (fun v H' R' => ∃ (x : Bool) (m' : Int), v = .bool x ∧ (0 ≤ m' ∧ m' ≤ 4294967295) ∧ H' = (bk, cel 165 [.slice ag g.length cg, .int .i64 (tq + 1), .int .u32 (m')]) :: H ∧ R' = R) := by
 refine Ze Tryz.func126 rfl Tryz.ntmps126 rfl ?_
 refine sqt 1 rfl (pur 1 rfl (sqt 5 rfl (pur 2 rfl ?_)))
 refine cl rfl Z6n rfl rfl (Z2o g ag cg bk hgl tq mx htq hmx n _ _) ?_
 rintro _ _ _ ⟨x, m', hx, rfl, hm', rfl, rfl⟩
 refine pur 2 rfl (Z6 ?_)
 exact rtA rfl rfl rfl ⟨_, m', rfl, hm', rfl, rfl⟩ idH
theorem ZdO : cal Tryz.prog 125 = true := by kernel_rfl
theorem Z7f : cal Tryz.prog 126 = true := by kernel_rfl
theorem ZfC : Z0Z Tryz.prog 22 = some 1 := by kernel_rfl
theorem Z3F {p q : Nat → Bool} {k : Nat} (h : ∀ j < k, p j = q j) : Z07 p k = Z07 q k := by
  unfold Z07
  rw [List.filter_congr fun j hj => h j (List.mem_range.1 hj)]
theorem Z40 (p : Nat → Bool) (k : Nat) (b : Bool) : Z07 (fun j => bif decide (j = k) then b else p j) (k + 1) = Z07 p k ++ bif b then [(k : Int)] else [] := by
  rw [Z3q, Z3F (q := p) fun j hj => by rw [decide_eq_false (show ¬ j = k by omega)]; rfl, decide_eq_true rfl]; rfl
theorem fltK_mem {p : Nat → Bool} {n : Nat} {j : Int} : j ∈ Z07 p n ↔ ∃ k : Nat, k < n ∧ p k = true ∧ j = k := by
  unfold Z07
  rw [List.mem_map]
  constructor
  · rintro ⟨k, h1, h2⟩
    rw [List.mem_filter, List.mem_range] at h1
    exact ⟨k, h1.1, h1.2, h2.symm⟩
  · rintro ⟨k, h1, h2, rfl⟩; exact ⟨k, List.mem_filter.2 ⟨List.mem_range.2 h1, h2⟩, rfl⟩
theorem Z9a (p : Nat → Bool) (n : Nat) : (Z07 p n).Pairwise (· < ·) := (List.pairwise_lt_range.filter _).map _ fun a b h => by omega
theorem Z6o (p : Nat → Bool) (n : Nat) : (Z07 p n).Nodup := List.nodup_iff_pairwise_ne.2 ((Z9a p n).imp fun h => by omega)
theorem Z77 (p : Nat → Bool) {n : Int} (hn : 0 ≤ n) : ∀ x ∈ Z07 p n.toNat, 0 ≤ x ∧ x < n := fun x hx => by
  obtain ⟨k, h1, _, rfl⟩ := fltK_mem.1 hx; omega
theorem Z1O (p : Nat → Bool) {n : Int} (hn : 0 ≤ n) : Zz n (Z07 p n.toNat) = 0 := Z24 (Z77 p hn) (Z6o p _)
structure MadeW (h : Hse) (nb ng : Int) : Prop where
  bins : 2 ≤ h.bins ∧ h.bins ≤ nb
  gl : (h.gaps.length : Int) ≤ ng
  gaps : ∀ g ∈ h.gaps, (0 ≤ g.a ∧ g.a < h.bins) ∧ (0 ≤ g.b ∧ g.b < h.bins) ∧ g.a ≠ g.b
  none : h.sights = []
theorem MadeW.ok {h : Hse} {nb ng : Int} (hm : MadeW h nb ng) (h1 : nb ≤ 7) (h2 : ng ≤ 10) : h.ok := ⟨by have := hm.bins; omega, by have := hm.gl; omega, by rw [hm.none]; exact Nat.zero_le _, hm.gaps, by rw [hm.none]; simp⟩
def ini (f : Nat → Int) (n k : Nat) : List Int := (List.range n).map fun j => bif decide (j < k) then f j else 0
theorem ZU (f : Nat → Int) (n k : Nat) : (ini f n k).length = n := by simp [ini]
theorem Z5Q {f : Nat → Int} {n k j : Nat} (hj : j < n) : na (ini f n k) j = bif decide (j < k) then f j else 0 := by
  unfold na ini
  rw [List.getD_eq_getElem?_getD, List.getElem?_map, List.getElem?_range hj]; rfl
theorem Z9s (f : Nat → Int) (n : Nat) : List.replicate n 0 = ini f n 0 := by
  apply List.ext_getElem?
  intro j
  rcases Nat.lt_or_ge j n with h | h
  · rw [Z0s (l := ini f n 0) (by rw [ZU]; exact h), Z5Q h, List.getElem?_replicate, if_pos h]; rfl
  · rw [List.getElem?_eq_none (by simpa using h), List.getElem?_eq_none (by rw [ZU]; exact h)]
theorem Z7k {f : Nat → Int} {n k : Nat} (hk : k < n) {v : Int} (hv : f k = v) : (ini f n k).set k v = ini f n (k + 1) := by
  apply List.ext_getElem?
  intro j
  rcases Nat.lt_or_ge j n with hj | hj
  · rw [Z0s (l := (ini f n k).set k _) (by rw [List.length_set, ZU]; exact hj), Z0s (by rw [ZU]; exact hj), Z1H (by rw [ZU]; exact hk), Z5Q hj, Z5Q hj]
    by_cases e : k = j
    · subst e; rw [decide_eq_true rfl, decide_eq_true (Nat.lt_succ_self k), ← hv]; rfl
    · rw [decide_eq_false e, show decide (j < k + 1) = decide (j < k) from decide_eq_decide.2 (by omega)]; rfl
  · rw [List.getElem?_eq_none (by rw [List.length_set, ZU]; exact hj), List.getElem?_eq_none (by rw [ZU]; exact hj)]
def clP (pl : List PL) (t : Nat) : Nat := msk (Z2w pl (t + 1))
def in0 (fr : List Int) (j : Nat) : Int := bif Z0r fr j then 0 else 100
theorem Z4a {l : List Int} (h : ∀ x ∈ l, 0 ≤ x) (j : Nat) : Z0r l (j : Int) = (msk l).testBit j := by rw [Bool.eq_iff_iff, hasI_iff, Zq h]
theorem FolI.start {gs : List Gp} {cl : Nat → Nat} {fr : List Int} (h : ∀ x ∈ fr, 0 ≤ x) (n : Nat) : FolI gs cl (msk fr) n 0 (Z2P gs (cl 0) (lvp gs cl (msk fr) 0) 0) (ini (in0 fr) n n) := ⟨ZU _ _ _, fun k hk => by
  rw [Z5Q hk, decide_eq_true hk, cond_true]
  unfold in0
  rw [Z4a h]
  show _ = bif (msk fr).testBit k then fol gs cl (msk fr) 0 k else bif (msk fr).testBit k then _ else 100
  cases hb : (msk fr).testBit k with
  | false => rfl
  | true =>
    rw [cond_true, cond_true]
    exact (Z7L (t := 0) (Nat.le_refl _) hb (fun i hi => absurd hi (Nat.not_lt_zero _))).symm⟩
def Zfz (s acc : Nat) (g : Gp) : Nat → Nat
  | 0 => acc
  | 1 => acc ||| (bif s.testBit g.a.toNat then 2 ^ g.b.toNat else 0)
  | _ => (acc ||| (bif s.testBit g.a.toNat then 2 ^ g.b.toNat else 0)) ||| (bif s.testBit g.b.toNat then 2 ^ g.a.toNat else 0)
def ZfF (g : Gp) : List Value := [.int .i64 g.a, .int .i64 g.b, .int .i64 g.b, .int .i64 g.a]
theorem Zcg {s acc n : Nat} {g : Gp} (ha : 0 ≤ g.a ∧ g.a < n) (hb : 0 ≤ g.b ∧ g.b < n) {j : Nat} (hj : j < 2) : ∃ u v : Nat, ∃ rest : List Value, u < n ∧ v < n ∧ (ZfF g).drop (j * 2) = [.int .i64 u, .int .i64 v] ++ rest ∧ Zfz s acc g (j + 1) = Zfz s acc g j ||| (bif s.testBit u then 2 ^ v else 0) := by
  have h1 : ((g.a.toNat : Nat) : Int) = g.a := by omega
  have h2 : ((g.b.toNat : Nat) : Int) = g.b := by omega
  match j, hj with
  | 0, _ => exact ⟨g.a.toNat, g.b.toNat, [.int .i64 g.b, .int .i64 g.a], by omega, by omega, by rw [h1, h2]; rfl, rfl⟩
  | 1, _ => exact ⟨g.b.toNat, g.a.toNat, [], by omega, by omega, by rw [h1, h2]; rfl, rfl⟩
theorem Z6j {pl : List PL} {k : Nat} (h : pl.length ≤ k) : Z2w pl (k + 1) = Z2w pl k := by unfold Z2w; rw [List.take_of_length_le (by omega), List.take_of_length_le h]
theorem Z69 {pl : List PL} {k : Nat} {x : Int} (h : x ∈ Z2w pl k) : x ∈ (lls pl).flatten := by
  unfold Z2w at h
  obtain ⟨l, h1, h2⟩ := List.mem_flatten.1 h
  obtain ⟨y, h3, rfl⟩ := List.mem_map.1 h1
  exact List.mem_flatten.2 ⟨_, List.mem_map_of_mem (List.mem_of_mem_take h3), h2⟩
theorem ZdI (l0 : List Int) (a0 : Option Addr) (c0 bk : Nat) (hgl : l0.length ≤ 9223372036854775807) (tq mx : Int) (htq : 0 ≤ tq ∧ tq ≤ 1000000) (hmx : 0 ≤ mx ∧ mx ≤ 4294967295) (nb ng : Int) (hnb : 2 ≤ nb ∧ nb ≤ 7) (hng : 0 ≤ ng ∧ ng ≤ 10) (H : Z8) (R : Z5) [hG : MemRows a0 1 (Z36 l0) R] :
    Fn Tryz.prog 54 [.pointer (some ⟨bk, 0, none⟩), .int .i64 nb, .int .i64 ng] ((bk, cel 165 [.slice a0 l0.length c0, .int .i64 (tq), .int .u32 (mx)]) :: H) R (fun v H' R' => ∃ (h : Hse) (p : Nat → Bool) (ag ar : Option Addr) (cg cr : Nat) (tq' mx' : Int), MadeW h nb ng ∧ h.gaps.length ≤ cg ∧ (Z07 p h.bins.toNat).length ≤ cr ∧ v = .tuple #[h.v (h.sg ag cg) (h.ss none 0), .slice ar (Z07 p h.bins.toNat).length cr] ∧ (tq ≤ tq' ∧ tq' ≤ tq + 100) ∧ (0 ≤ mx' ∧ mx' ≤ 4294967295) ∧ H' = (bk, cel 165 [.slice a0 l0.length c0, .int .i64 (tq'), .int .u32 (mx')]) :: H ∧ R' = RowsA none 3 (Zo h.sights) :: RowsA ar 1 (Z3 (Z07 p h.bins.toNat)) :: RowsA ag 2 (Zk h.gaps) :: R) := by
 refine Ze Tryz.func54 rfl Tryz.ntmps54 rfl ?_
 refine sqt 2 rfl (alc rfl Zcn rfl (fun b6 => pur 1 rfl (sqt 6 rfl (pur 2 rfl ?_))))
 refine ZF bk ?_
 refine cl rfl ZdO rfl rfl (Zcj l0 a0 c0 bk hgl _ _ (by omega) (by assumption) (2) (nb) (by first | omega | (dsimp only; omega)) _ _) ?_
 rintro _ _ R1 ⟨x15, m15, hx15, rfl, hm15, rfl, hR1⟩
 obtain rfl := hR1.symm
 refine sp rfl (PE.build (out := htl ⟨x15, [], []⟩ (.slice none 0 0) (.slice none 0 0)) ZfJ Zcn rfl rfl) rfl (alc rfl Zcn rfl (fun b8 => ?_))
 refine sto rfl rfl rfl Zey rfl rfl rfl rfl ?_
 refine Z0 (sqt 5 rfl ?_)
 refine ZF bk ?_
 refine pur 2 rfl (sp rfl (PE.add rfl rfl (by omega)) rfl ?_)
 refine cl rfl Z6n rfl rfl (Z2o l0 a0 c0 bk hgl _ _ (by omega) (by assumption) (ng + 1) _ _) ?_
 rintro _ _ R1 ⟨x20, m20, hx20, rfl, hm20, rfl, hR1⟩
 obtain rfl := hR1.symm
 refine pur 1 rfl (Z4 ?_)
 obtain ⟨n20, rfl⟩ : ∃ n : Nat, x20 = n := ⟨x20.toNat, by omega⟩
 refine Zc (ι := (x : {x : Nat × List Gp × Int × Int // x.1 ≤ n20 ∧ (x.2.1.length = x.1 ∧ ∀ g ∈ x.2.1, ((0 ≤ g.a ∧ g.a < x15) ∧ (0 ≤ g.b ∧ g.b < x15) ∧ g.a ≠ g.b)) ∧ (tq ≤ x.2.2.1 ∧ x.2.2.1 ≤ tq + 2 + 2 * x.1) ∧ (0 ≤ x.2.2.2 ∧ x.2.2.2 ≤ 4294967295)}) × OSl 97 2 (Zk x.1.2.1)) (fun x => ⟨[(0, .pointer (some ⟨bk, 0, none⟩)), (6, .pointer (some ⟨b6, 0, none⟩)), (8, .pointer (some ⟨b8, 0, none⟩)), (20, .int .i64 n20), (21, .int .i64 x.1.1.1)],
   (bk, cel 165 [.slice a0 l0.length c0, .int .i64 (x.1.1.2.2.1), .int .u32 (x.1.1.2.2.2)]) :: (x.2.G ++ (b8, cel 25 (htl ⟨x15, x.1.1.2.1, []⟩ x.2.fs (.slice none 0 0))) :: (b6, cel 25 [.int .i64 0, .slice none 0 0, .slice none 0 0]) :: H), R⟩) (fun x => n20 - x.1.1.1) ⟨⟨(0, [], tq + 1 + 1, m20), by omega, ⟨rfl, by simp⟩, by dsimp only; omega, by assumption⟩, OSl.nil _ _⟩ ?_ (fun x => ?_)
 exact Zh idH
 ·
  obtain ⟨⟨⟨k, l, tq2, mx2⟩, hk, ⟨hll, hlg⟩, htq2, hmx2⟩, o⟩ := x
  dsimp only at hk hll hlg htq2 hmx2 o ⊢
  refine sqt 1 rfl (pur 1 rfl (Z0 ?_))
  refine Z1 rfl ?_ ?_ <;> intro hc0 <;> try simp only [cS] at hc0
  ·
   have hrm : 0 ≤ (k : Int) % x15 ∧ (k : Int) % x15 < x15 := ⟨Int.emod_nonneg _ (by omega), Int.emod_lt_of_pos _ (by omega)⟩
   refine Z2 (Z0 (Z4 (sqt 2 rfl (pur 2 rfl (Z0 ?_)))))
   refine Zf [0, 0, 2, 7, 0, 0, 32, 112, 255, 0, 1023] (.tk 0 (.tk 1 (.ld 2 (tks 3 3 (.ld 6 (.any (.alt 7 (.tk 8 (.big 9 (.big 10 .done))) (.alt 9 (.big 7 (.tk 8 (.big 10 .done))) .stop)))))))) Zy (by kernel_rfl) ?_
   refine Zg 1 rfl (tk rfl (PE.fA Z0I rfl) rfl (ld rfl rfl (lh (v := .int .i64 x15) sc3 rfl rfl) rfl (tk rfl (PE.rem rfl rfl (by omega)) rfl (Zg 1 rfl (tk rfl (PE.fA Z0I rfl) rfl (ld rfl rfl (lh (v := .int .i64 x15) sc3 rfl rfl) rfl ?_))))))
   refine Z1h ?_ ?_
   ·
    refine ZF bk ?_
    refine cl rfl Z6n rfl rfl (Z2o l0 a0 c0 bk hgl _ _ (by omega) (by assumption) (x15) _ _) ?_
    rintro _ _ R1 ⟨x31, m31, hx31, rfl, hm31, rfl, hR1⟩
    obtain rfl := hR1.symm
    refine bg (fun w hs => ⟨trivial, (lh (v := .int .i64 x15) sc3 rfl rfl) w hs, trivial⟩) ?_
    refine tk rfl (PE.build (out := [.int .i64 ((k : Int) % x15), .int .i64 x31]) Z8Y Z2W rfl rfl) rfl (alc rfl Z2W rfl (fun b10 => ?_))
    refine bg (fun w hs => ⟨(lh (v := .int .i64 x15) sc3 rfl rfl) w hs, trivial⟩) ?_
    refine sto rfl rfl rfl Z8Z rfl rfl rfl rfl ?_
    refine bgT (Z0 (sqt 5 rfl (sp rfl (PE.fA ZM rfl) rfl (spL rfl rfl (lh sc3 rfl rfl) rfl (sp rfl (PE.fA ZC rfl) rfl (spL rfl rfl (lh sc3 rfl rfl) rfl (pur 1 rfl ?_)))))))
    refine Z1Q (ι := {x : Int × Int // ((0 ≤ x.1 ∧ x.1 < x15) ∧ (0 ≤ x.2 ∧ x.2 < x15) ∧ x.1 ≠ x.2)}) (fun x => ⟨[(0, .pointer (some ⟨bk, 0, none⟩)), (6, .pointer (some ⟨b6, 0, none⟩)), (8, .pointer (some ⟨b8, 0, none⟩)), (10, .pointer (some ⟨b10, 0, none⟩)), (20, .int .i64 n20), (21, .int .i64 k)], (b10, cel 97 [.int .i64 (x.1.1), .int .i64 (x.1.2)]) :: (bk, cel 165 [.slice a0 l0.length c0, .int .i64 (tq2 + 1), .int .u32 (m31)]) :: (o.G ++ (b8, cel 25 (htl ⟨x15, l, []⟩ o.fs (.slice none 0 0))) :: (b6, cel 25 [.int .i64 0, .slice none 0 0, .slice none 0 0]) :: H), R⟩) ?_ ?_
    ·
     refine Z1 rfl ?_ ?_ <;> intro hc1 <;> try simp only [cS] at hc1
     ·
      have hr2 : 0 ≤ (x31 + 1) % x15 ∧ (x31 + 1) % x15 < x15 := ⟨Int.emod_nonneg _ (by omega), Int.emod_lt_of_pos _ (by omega)⟩
      have hne : (x31 + 1) % x15 ≠ x31 := by
        rcases Int.lt_or_le (x31 + 1) x15 with h9 | h9
        · rw [Int.emod_eq_of_lt (by omega) h9]; omega
        · rw [show x31 + 1 = x15 by omega, Int.emod_self]; omega
      refine sqr 8 rfl (sp rfl (PE.fA ZC rfl) rfl (spL rfl rfl (lh sc3 rfl rfl) rfl (sp rfl (PE.add rfl rfl (by omega)) rfl (sp rfl (PE.fA Z0I rfl) rfl (spL rfl rfl (lh (v := .int .i64 x15) sc3 rfl rfl) rfl (sp rfl (PE.rem rfl rfl (by omega)) rfl (sp rfl (PE.fA ZC rfl) rfl ?_)))))))
      refine ZN (l' := [.int .i64 ((k : Int) % x15), .int .i64 ((x31 + 1) % x15)]) rfl rfl rfl cn3 rfl rfl rfl rfl (nl rfl) ?_
      exact Zu ⟨((k : Int) % x15, (x31 + 1) % x15), ⟨hrm, hr2, by dsimp only; omega⟩⟩ (fun w h9 => h9.perm (by first | exact .refl _ | exact List.Perm.swap _ _ _))
     ·
      refine Z2 ?_
      exact Zu ⟨((k : Int) % x15, x31), ⟨hrm, by dsimp only; omega, by dsimp only; omega⟩⟩ (fun w h9 => h9.perm (by first | exact .refl _ | exact List.Perm.swap _ _ _))
    rintro ⟨⟨ga, gb⟩, hgo⟩
    dsimp only at hgo ⊢
    refine Z0 (sqt 2 rfl ?_)
    refine ZF bk ?_
    refine pur 1 rfl ?_
    refine cl rfl Z7f rfl rfl (Z7m l0 a0 c0 bk hgl _ _ (by omega) (by assumption) (2) _ _) ?_
    rintro _ _ R1 ⟨x46, m46, rfl, hm46, rfl, hR1⟩
    obtain rfl := hR1.symm
    refine Z1Q (ι := {x : Int × Int // ((0 ≤ x.1 ∧ x.1 < x15) ∧ (0 ≤ x.2 ∧ x.2 < x15) ∧ x.1 ≠ x.2)}) (fun x => ⟨[(0, .pointer (some ⟨bk, 0, none⟩)), (6, .pointer (some ⟨b6, 0, none⟩)), (8, .pointer (some ⟨b8, 0, none⟩)), (10, .pointer (some ⟨b10, 0, none⟩)), (20, .int .i64 n20), (21, .int .i64 k)], (bk, cel 165 [.slice a0 l0.length c0, .int .i64 (tq2 + 1 + 1), .int .u32 (m46)]) :: (b10, cel 97 [.int .i64 (x.1.1), .int .i64 (x.1.2)]) :: (o.G ++ (b8, cel 25 (htl ⟨x15, l, []⟩ o.fs (.slice none 0 0))) :: (b6, cel 25 [.int .i64 0, .slice none 0 0, .slice none 0 0]) :: H), R⟩) ?_ ?_
    refine Z1 rfl ?_ ?_ <;> intro hc2
    refine sqr 8 rfl (sp rfl (PE.fA ZC rfl) rfl (spL rfl rfl (lh sc3 rfl rfl) rfl (sp rfl (PE.fA ZM rfl) rfl (spL rfl rfl (lh sc3 rfl rfl) rfl (sp rfl (PE.fA ZM rfl) rfl ?_)))))
    refine ZN (l' := [.int .i64 (gb), .int .i64 (gb)]) rfl rfl rfl cn3 rfl rfl rfl rfl (nl rfl) ?_
    refine sp rfl (PE.fA ZC rfl) rfl ?_
    refine ZN (l' := [.int .i64 (gb), .int .i64 (ga)]) rfl rfl rfl cn3 rfl rfl rfl rfl (nl rfl) ?_
    first | exact Zu ⟨(gb, ga), ⟨hgo.2.1, hgo.1, Ne.symm hgo.2.2⟩⟩ idH | exact Zu ⟨(ga, gb), hgo⟩ idH
    refine Z2 ?_
    first | exact Zu ⟨(gb, ga), ⟨hgo.2.1, hgo.1, Ne.symm hgo.2.2⟩⟩ idH | exact Zu ⟨(ga, gb), hgo⟩ idH
    rintro ⟨⟨ua, ub⟩, hgo2⟩
    dsimp only at hgo2 ⊢
    refine sqr 7 rfl (sp rfl (PE.fA ZV rfl) rfl (spL rfl rfl (lh Z3Q rfl rfl) rfl (spL rfl rfl (lhA [.int .i64 ua, .int .i64 ub] Z5P rfl rfl rfl) rfl ?_)))
    refine bsl (out := [_, _]) rfl ZeI Z2W rfl rfl rfl rfl rfl rfl (fun b56 => ?_)
    refine apO (o) rfl ZfB rfl rfl (Z0C (row := grow ⟨ua, ub⟩) rfl) rfl rfl ((by rw [Z0Y]; simp only [List.length_singleton]; omega)) rfl (fun o57 => ?_)
    refine sp rfl (PE.fA ZV rfl) rfl ?_
    refine ZN (l' := htl ⟨x15, l ++ [⟨ua, ub⟩], []⟩ o57.fs (.slice none 0 0)) rfl rfl rfl ZfC rfl (by rw [o57.cells.1]; first | done | rfl) (by rw [o57.cells.1]; simp [o57.cells.2]) (by rw [o57.cells.1]; first | done | rfl) (by rw [o57.cells.1]; first | done | exact Nat.le_of_ble_eq_true rfl) ?_
    refine sqr 2 rfl (sp rfl (PE.add rfl rfl (by omega)) rfl (pur 1 rfl ?_))
    exact Z7 ⟨⟨(k + 1, l ++ [⟨ua, ub⟩], tq2 + 1 + 1, m46), by dsimp only; omega, ⟨by simp [hll], fun g hg => (List.mem_append.1 hg).elim (hlg g) (fun h9 => by rw [List.mem_singleton.1 h9]; exact hgo2)⟩, by dsimp only; omega, by assumption⟩, o57.cast (by simp [Zk])⟩ (fun w h9 => ((h9.del b56).del b10).perm (by first | exact .refl _ | exact (Zj _ [_] _).symm))
   refine Z1h ?_ ?_
   ·
    refine alc rfl Z2W rfl (fun b10 => ?_)
    refine bg (fun w hs => ⟨(lh (v := .int .i64 x15) sc3 rfl rfl) w hs, (lh (v := .int .i64 x15) sc3 rfl rfl) w hs, trivial⟩) ?_
    refine ZF bk ?_
    refine cl rfl Z6n rfl rfl (Z2o l0 a0 c0 bk hgl _ _ (by omega) (by assumption) (x15) _ _) ?_
    rintro _ _ R1 ⟨x31, m31, hx31, rfl, hm31, rfl, hR1⟩
    obtain rfl := hR1.symm
    refine bg (fun w hs => ⟨trivial, (lh (v := .int .i64 x15) sc3 rfl rfl) w hs, trivial⟩) ?_
    refine tk rfl (PE.build (out := [.int .i64 ((k : Int) % x15), .int .i64 x31]) Z8Y Z2W rfl rfl) rfl ?_
    refine sto rfl rfl rfl Z8Z rfl rfl rfl rfl ?_
    refine bgT (Z0 (sqt 5 rfl (sp rfl (PE.fA ZM rfl) rfl (spL rfl rfl (lh sc3 rfl rfl) rfl (sp rfl (PE.fA ZC rfl) rfl (spL rfl rfl (lh sc3 rfl rfl) rfl (pur 1 rfl ?_)))))))
    refine Z1Q (ι := {x : Int × Int // ((0 ≤ x.1 ∧ x.1 < x15) ∧ (0 ≤ x.2 ∧ x.2 < x15) ∧ x.1 ≠ x.2)}) (fun x => ⟨[(0, .pointer (some ⟨bk, 0, none⟩)), (6, .pointer (some ⟨b6, 0, none⟩)), (8, .pointer (some ⟨b8, 0, none⟩)), (10, .pointer (some ⟨b10, 0, none⟩)), (20, .int .i64 n20), (21, .int .i64 k)], (b10, cel 97 [.int .i64 (x.1.1), .int .i64 (x.1.2)]) :: (bk, cel 165 [.slice a0 l0.length c0, .int .i64 (tq2 + 1), .int .u32 (m31)]) :: (o.G ++ (b8, cel 25 (htl ⟨x15, l, []⟩ o.fs (.slice none 0 0))) :: (b6, cel 25 [.int .i64 0, .slice none 0 0, .slice none 0 0]) :: H), R⟩) ?_ ?_
    ·
     refine Z1 rfl ?_ ?_ <;> intro hc1 <;> try simp only [cS] at hc1
     ·
      have hr2 : 0 ≤ (x31 + 1) % x15 ∧ (x31 + 1) % x15 < x15 := ⟨Int.emod_nonneg _ (by omega), Int.emod_lt_of_pos _ (by omega)⟩
      have hne : (x31 + 1) % x15 ≠ x31 := by
        rcases Int.lt_or_le (x31 + 1) x15 with h9 | h9
        · rw [Int.emod_eq_of_lt (by omega) h9]; omega
        · rw [show x31 + 1 = x15 by omega, Int.emod_self]; omega
      refine sqr 8 rfl (sp rfl (PE.fA ZC rfl) rfl (spL rfl rfl (lh sc3 rfl rfl) rfl (sp rfl (PE.add rfl rfl (by omega)) rfl (sp rfl (PE.fA Z0I rfl) rfl (spL rfl rfl (lh (v := .int .i64 x15) sc3 rfl rfl) rfl (sp rfl (PE.rem rfl rfl (by omega)) rfl (sp rfl (PE.fA ZC rfl) rfl ?_)))))))
      refine ZN (l' := [.int .i64 ((k : Int) % x15), .int .i64 ((x31 + 1) % x15)]) rfl rfl rfl cn3 rfl rfl rfl rfl (nl rfl) ?_
      exact Zu ⟨((k : Int) % x15, (x31 + 1) % x15), ⟨hrm, hr2, by dsimp only; omega⟩⟩ (fun w h9 => h9.perm (by first | exact .refl _ | exact List.Perm.swap _ _ _))
     ·
      refine Z2 ?_
      exact Zu ⟨((k : Int) % x15, x31), ⟨hrm, by dsimp only; omega, by dsimp only; omega⟩⟩ (fun w h9 => h9.perm (by first | exact .refl _ | exact List.Perm.swap _ _ _))
    rintro ⟨⟨ga, gb⟩, hgo⟩
    dsimp only at hgo ⊢
    refine Z0 (sqt 2 rfl ?_)
    refine ZF bk ?_
    refine pur 1 rfl ?_
    refine cl rfl Z7f rfl rfl (Z7m l0 a0 c0 bk hgl _ _ (by omega) (by assumption) (2) _ _) ?_
    rintro _ _ R1 ⟨x46, m46, rfl, hm46, rfl, hR1⟩
    obtain rfl := hR1.symm
    refine Z1Q (ι := {x : Int × Int // ((0 ≤ x.1 ∧ x.1 < x15) ∧ (0 ≤ x.2 ∧ x.2 < x15) ∧ x.1 ≠ x.2)}) (fun x => ⟨[(0, .pointer (some ⟨bk, 0, none⟩)), (6, .pointer (some ⟨b6, 0, none⟩)), (8, .pointer (some ⟨b8, 0, none⟩)), (10, .pointer (some ⟨b10, 0, none⟩)), (20, .int .i64 n20), (21, .int .i64 k)], (bk, cel 165 [.slice a0 l0.length c0, .int .i64 (tq2 + 1 + 1), .int .u32 (m46)]) :: (b10, cel 97 [.int .i64 (x.1.1), .int .i64 (x.1.2)]) :: (o.G ++ (b8, cel 25 (htl ⟨x15, l, []⟩ o.fs (.slice none 0 0))) :: (b6, cel 25 [.int .i64 0, .slice none 0 0, .slice none 0 0]) :: H), R⟩) ?_ ?_
    refine Z1 rfl ?_ ?_ <;> intro hc2
    refine sqr 8 rfl (sp rfl (PE.fA ZC rfl) rfl (spL rfl rfl (lh sc3 rfl rfl) rfl (sp rfl (PE.fA ZM rfl) rfl (spL rfl rfl (lh sc3 rfl rfl) rfl (sp rfl (PE.fA ZM rfl) rfl ?_)))))
    refine ZN (l' := [.int .i64 (gb), .int .i64 (gb)]) rfl rfl rfl cn3 rfl rfl rfl rfl (nl rfl) ?_
    refine sp rfl (PE.fA ZC rfl) rfl ?_
    refine ZN (l' := [.int .i64 (gb), .int .i64 (ga)]) rfl rfl rfl cn3 rfl rfl rfl rfl (nl rfl) ?_
    first | exact Zu ⟨(gb, ga), ⟨hgo.2.1, hgo.1, Ne.symm hgo.2.2⟩⟩ idH | exact Zu ⟨(ga, gb), hgo⟩ idH
    refine Z2 ?_
    first | exact Zu ⟨(gb, ga), ⟨hgo.2.1, hgo.1, Ne.symm hgo.2.2⟩⟩ idH | exact Zu ⟨(ga, gb), hgo⟩ idH
    rintro ⟨⟨ua, ub⟩, hgo2⟩
    dsimp only at hgo2 ⊢
    refine sqr 7 rfl (sp rfl (PE.fA ZV rfl) rfl (spL rfl rfl (lh Z3Q rfl rfl) rfl (spL rfl rfl (lhA [.int .i64 ua, .int .i64 ub] Z5P rfl rfl rfl) rfl ?_)))
    refine bsl (out := [_, _]) rfl ZeI Z2W rfl rfl rfl rfl rfl rfl (fun b56 => ?_)
    refine apO (o) rfl ZfB rfl rfl (Z0C (row := grow ⟨ua, ub⟩) rfl) rfl rfl ((by rw [Z0Y]; simp only [List.length_singleton]; omega)) rfl (fun o57 => ?_)
    refine sp rfl (PE.fA ZV rfl) rfl ?_
    refine ZN (l' := htl ⟨x15, l ++ [⟨ua, ub⟩], []⟩ o57.fs (.slice none 0 0)) rfl rfl rfl ZfC rfl (by rw [o57.cells.1]; first | done | rfl) (by rw [o57.cells.1]; simp [o57.cells.2]) (by rw [o57.cells.1]; first | done | rfl) (by rw [o57.cells.1]; first | done | exact Nat.le_of_ble_eq_true rfl) ?_
    refine sqr 2 rfl (sp rfl (PE.add rfl rfl (by omega)) rfl (pur 1 rfl ?_))
    exact Z7 ⟨⟨(k + 1, l ++ [⟨ua, ub⟩], tq2 + 1 + 1, m46), by dsimp only; omega, ⟨by simp [hll], fun g hg => (List.mem_append.1 hg).elim (hlg g) (fun h9 => by rw [List.mem_singleton.1 h9]; exact hgo2)⟩, by dsimp only; omega, by assumption⟩, o57.cast (by simp [Zk])⟩ (fun w h9 => ((h9.del b56).del b10).perm (by first | exact .refl _ | exact (Zj _ [_] _).symm))
   exact Z28
  obtain rfl : k = n20 := by omega
  obtain ⟨ag, cg, he, hcg, hf⟩ := o.freezeC
  rw [Z0Y] at hcg
  rw [he, Z0Y]
  refine ZF bk ?_
  refine Sy.heap (H' := _) (fun w h9 => hf (h9.perm (List.perm_middle (l₁ := o.G) (a := _)).symm)) ?_
  clear he hf
  obtain ⟨B, rfl⟩ : ∃ B : Nat, x15 = B := ⟨x15.toNat, by omega⟩
  refine Z9 (Za (Za (Zl (sqt 1 rfl (pur 1 rfl (Z0 (sqt 3 rfl (sp rfl (PE.fA Z0I rfl) rfl (spL rfl rfl (lh sc3 rfl rfl) rfl (pur 1 rfl (Z4 ?_)))))))))))
  refine Zc (ι := (x : {x : Nat × (Nat → Bool) × Int × Int // x.1 ≤ B ∧ (tq ≤ x.2.2.1 ∧ x.2.2.1 ≤ tq + 40 + x.1) ∧ (0 ≤ x.2.2.2 ∧ x.2.2.2 ≤ 4294967295)}) × OSl 3 1 (Z3 (Z07 x.1.2.1 x.1.1))) (fun x => ⟨[(0, .pointer (some ⟨bk, 0, none⟩)), (6, .pointer (some ⟨b6, 0, none⟩)), (8, .pointer (some ⟨b8, 0, none⟩)), (11, x.2.fs), (61, .int .i64 B), (62, .int .i64 x.1.1.1)],
    (bk, cel 165 [.slice a0 l0.length c0, .int .i64 (x.1.1.2.2.1), .int .u32 (x.1.1.2.2.2)]) :: (x.2.G ++ (b8, cel 25 (htl ⟨B, l, []⟩ (.slice ag l.length cg) (.slice none 0 0))) :: (b6, cel 25 [.int .i64 0, .slice none 0 0, .slice none 0 0]) :: H), RowsA ag 2 (Zk l) :: R⟩) (fun x => B - x.1.1.1) ⟨⟨(0, fun _ => false, tq2, mx2), by omega, by dsimp only; omega, by assumption⟩, OSl.nil _ _⟩ ?_ (fun x => ?_)
  exact Zh idH
  obtain ⟨⟨⟨i, p, tq3, mx3⟩, hi, htq3, hmx3⟩, o2⟩ := x
  dsimp only at hi htq3 hmx3 o2 ⊢
  have hfl := ZY p i
  refine sqt 1 rfl (pur 1 rfl (Z0 ?_))
  refine Z1 rfl ?_ ?_ <;> intro hc3 <;> try simp only [cS] at hc3
  refine Z2 (Z0 (Z4 (sqt 2 rfl (pur 2 rfl (sqt 2 rfl ?_)))))
  refine ZF bk ?_
  refine pur 1 rfl ?_
  refine cl rfl Z7f rfl rfl (Z7m l0 a0 c0 bk hgl _ _ (by omega) (by assumption) (3) _ _) ?_
  rintro _ _ R1 ⟨x66, m66, rfl, hm66, rfl, hR1⟩
  obtain rfl := hR1.symm
  refine Z1 rfl ?_ ?_ <;> intro hc4 <;> try simp only [cS] at hc4
  refine sqr 5 rfl (pur 2 rfl ?_)
  refine bsl (out := [_]) rfl Z0l zl3 rfl rfl rfl rfl rfl rfl (fun b69 => ?_)
  refine apO (o2) rfl Z2s rfl rfl (Z0C (row := [.int .i64 i]) rfl) rfl rfl ((by rw [irl]; simp only [List.length_singleton]; omega)) rfl (fun o70 => ?_)
  refine pur 1 rfl (sqr 2 rfl (sp rfl (PE.add rfl rfl (by omega)) rfl (pur 1 rfl ?_)))
  have hput := Z40 p i true
  exact Z7 ⟨⟨(i + 1, fun j => bif decide (j = i) then true else p j, tq3 + 1, m66), by dsimp only; omega, by dsimp only; omega, by assumption⟩, o70.cast (by rw [hput]; simp [Z3])⟩ (fun w h9 => (h9.del b69).perm (by first | exact .refl _ | exact (Zj _ [_] _).symm))
  refine Z2 (sqr 2 rfl (sp rfl (PE.add rfl rfl (by omega)) rfl (pur 1 rfl ?_)))
  have hput := Z40 p i false
  exact Z7 ⟨⟨(i + 1, fun j => bif decide (j = i) then false else p j, tq3 + 1, m66), by dsimp only; omega, by dsimp only; omega, by assumption⟩, o2.cast (by rw [hput]; simp [Z3])⟩ idH
  obtain rfl : i = B := by omega
  obtain ⟨ar, cr, he, hcr, hf⟩ := o2.freezeC
  rw [irl] at hcr
  rw [he, irl]
  refine ZF bk ?_
  refine Sy.heap (H' := _) (fun w h9 => hf (h9.perm (List.perm_middle (l₁ := o2.G) (a := _)).symm)) ?_
  clear he hf
  refine Z9 (Za (Za (Zl (sqt 4 rfl (spL rfl rfl (lhA (htl ⟨(i : Int), l, []⟩ (.slice ag l.length cg) (.slice none 0 0)) Z06 rfl rfl rfl) rfl (pur 1 rfl ?_))))))
  refine ZN (l' := htl ⟨(i : Int), l, []⟩ (.slice ag l.length cg) (.slice none 0 0)) rfl rfl rfl Zey rfl rfl rfl rfl (Nat.le_refl _) ?_
  refine pur 1 rfl (Z6 ?_)
  exact Zp (vs := [_, _]) rfl (.cons (RV.cell rfl (lhA [_, _, _] Z06 rfl rfl rfl)) (.cons (RV.tmp rfl) .nil)) rfl ⟨⟨(i : Int), l, []⟩, p, ag, ar, cg, cr, tq3, mx3, ⟨by dsimp only; omega, by dsimp only; omega, hlg, rfl⟩, hcg, hcr, rfl, by omega, by assumption, rfl, rfl⟩ (fun w h9 => St.norows ((h9.del b8).del b6))
theorem Zfp : Z4X Tryz.prog 166 = some 2 := by kernel_rfl
theorem Z6J : arN Tryz.prog 166 = some (2, 1) := by kernel_rfl
theorem Zft : Z0Z Tryz.prog 166 = some 2 := by kernel_rfl
theorem Zfo : elN Tryz.prog 167 = some 2 := by kernel_rfl
theorem ZdG : Z5B Tryz.prog 167 = true := by kernel_rfl
theorem Zfk : slE Tryz.prog 167 = some (166, 2) := by kernel_rfl
theorem Z96 : ZQ Tryz.prog 166 = some ([.int .i64 0, .int .i64 0]) := by kernel_rfl
theorem FnV.lendO {P : Program} {f : FuncId} {v : Value} {e sz : Nat} {rows : List (List Value)} (o : OSl e sz rows) (mk : Value → List Value) {T : Z8} {R : Z5}
    (h : ∀ (a : Option Addr) (c : Nat) (B : World → Prop), FnV P f (mk (.slice a rows.length c)) T (RowsA a sz rows :: B :: R) v) : FnV P f (mk o.fs) (o.G ++ T) R v := fun w hw => by
  obtain ⟨fs, G, hl, his⟩ := o
  rcases his with ⟨rfl, rfl, rfl⟩ | ⟨b, cap, junk, rfl, rfl, h1, h2, h3⟩
  · have h3 : St T (RowsA none sz [] :: (fun _ => True) :: R) w := St.also (St.also hw (f := fun _ => True) (fun _ _ => trivial)) (fun w' _ i row hi => by simp at hi)
    refine CallsIn.mono (h none 0 _ w h3) ?_
    rintro e' w' ⟨u, H', R', ⟨rfl, rfl, rfl⟩, he, hs'⟩
    exact ⟨_, _, R, ⟨rfl, rfl, rfl⟩, he, hs'.ftail.ftail⟩
  · exact FnV.lend (H := (b, cel e (rows.flatten ++ junk)) :: T) (b := b) (e := e) (sz := sz) (rows := rows) (junk := junk) hl (fun B => h _ cap B) w hw
set_option maxHeartbeats 400000 in
theorem Zbc (l0 : List Int) (a0 : Option Addr) (c0 bk : Nat) (hgl : l0.length ≤ 9223372036854775807) (tq mx : Int) (htq : 0 ≤ tq ∧ tq ≤ 1000000) (hmx : 0 ≤ mx ∧ mx ≤ 4294967295) (h : Hse) (ag as_ : Option Addr) (cg cs : Nat) (hok : h.ok) (H : Z8) (R : Z5) [hG : MemRows a0 1 (Z36 l0) R] :
    Fn Tryz.prog 56 [.pointer (some ⟨bk, 0, none⟩), h.v (h.sg ag cg) (h.ss as_ cs)] ((bk, cel 165 [.slice a0 l0.length c0, .int .i64 (tq), .int .u32 (mx)]) :: H) R (fun v H' R' => ∃ (d : Nat → Int) (af ak : Option Addr) (cf ck : Nat) (tq' mx' : Int), (Z07 (fun j => decide (d j = 0)) h.bins.toNat).length ≤ cf ∧ (Z07 (fun j => decide (d j = 1)) h.bins.toNat).length ≤ ck ∧ v = .tuple #[.slice af (Z07 (fun j => decide (d j = 0)) h.bins.toNat).length cf, .slice ak (Z07 (fun j => decide (d j = 1)) h.bins.toNat).length ck] ∧ (tq ≤ tq' ∧ tq' ≤ tq + 10) ∧ (0 ≤ mx' ∧ mx' ≤ 4294967295) ∧ H' = (bk, cel 165 [.slice a0 l0.length c0, .int .i64 (tq'), .int .u32 (mx')]) :: H ∧ R' = RowsA ak 1 (Z3 (Z07 (fun j => decide (d j = 1)) h.bins.toNat)) :: RowsA af 1 (Z3 (Z07 (fun j => decide (d j = 0)) h.bins.toNat)) :: R) := by
 refine Ze Tryz.func56 rfl Tryz.ntmps56 rfl ?_
 refine sqt 3 rfl ?_
 have hbn := hok.bins
 obtain ⟨B, hB⟩ : ∃ B : Nat, h.bins = B := ⟨h.bins.toNat, by omega⟩
 rw [show h.bins.toNat = B by omega]
 refine bx rfl rfl rfl (fun b3 => pur 2 rfl (sqt 2 rfl (pur 2 rfl (Z0 (sqt 3 rfl (sp rfl (PE.fA Z0I rfl) rfl (spL rfl rfl (lh (v := .int .i64 h.bins) sc3 rfl rfl) rfl ?_)))))))
 rw [hB]
 refine pur 1 rfl (Z4 ?_)
 refine Zc (ι := (x : {x : Nat × (Nat → Int) × Int × Int // x.1 ≤ B ∧ (tq ≤ x.2.2.1 ∧ x.2.2.1 ≤ tq + x.1) ∧ (0 ≤ x.2.2.2 ∧ x.2.2.2 ≤ 4294967295)}) × OSl 3 1 (Z3 (Z07 (fun j => decide (x.1.2.1 j = 0)) x.1.1)) × OSl 3 1 (Z3 (Z07 (fun j => decide (x.1.2.1 j = 1)) x.1.1))) (fun x => ⟨[(0, .pointer (some ⟨bk, 0, none⟩)), (6, x.2.1.fs), (7, x.2.2.fs), (10, .int .i64 B), (11, .int .i64 x.1.1.1)],
   (bk, cel 165 [.slice a0 l0.length c0, .int .i64 (x.1.1.2.2.1), .int .u32 (x.1.1.2.2.2)]) :: (x.2.1.G ++ (x.2.2.G ++ ((b3, cel 25 (htl h (h.sg ag cg) (h.ss as_ cs))) :: H))), R⟩) (fun x => B - x.1.1.1) ⟨⟨(0, fun _ => 0, tq, mx), by omega, by dsimp only; omega, by assumption⟩, OSl.nil _ _, OSl.nil _ _⟩ ?_ (fun x => ?_)
 ·
  exact Zh (fun w h9 => h9.perm (by first | exact .refl _ | exact List.Perm.swap _ _ _))
 obtain ⟨⟨⟨k, d, tq2, mx2⟩, hk, htq2, hmx2⟩, o1, o2⟩ := x
 dsimp only at hk htq2 hmx2 o1 o2 ⊢
 have hf1 := ZY (fun j => decide (d j = 0)) k
 have hf2 := ZY (fun j => decide (d j = 1)) k
 refine sqt 1 rfl (pur 1 rfl (Z0 ?_))
 refine Z1 rfl ?_ ?_ <;> intro hc0 <;> try simp only [cS] at hc0
 refine Z2 (Z0 (Z4 (sqt 2 rfl (pur 2 rfl (sqt 2 rfl ?_)))))
 refine ZF bk ?_
 refine pur 1 rfl ?_
 refine cl rfl Z6n rfl rfl (Z2o l0 a0 c0 bk hgl _ _ (by omega) (by assumption) (3) _ _) ?_
 rintro _ _ R1 ⟨x15, m15, hx15, rfl, hm15, rfl, hR1⟩
 obtain rfl := hR1.symm
 have hp : ∀ v : Int, Z07 (fun j => decide ((bif decide (j = k) then x15 else d j) = v)) (k + 1) = Z07 (fun j => decide (d j = v)) k ++ bif decide (x15 = v) then [(k : Int)] else [] := fun v => by
   rw [← Z40]
   exact Z3F fun j _ => by by_cases e : j = k <;> simp [e]
 refine Z4 (sqt 2 rfl (pur 2 rfl ?_))
 refine Z1 rfl ?_ ?_ <;> intro hc1 <;> try simp only [cS] at hc1
 refine sqr 5 rfl (pur 2 rfl ?_)
 refine bsl (out := [_]) rfl Z0l zl3 rfl rfl rfl rfl rfl rfl (fun b20 => ?_)
 refine apO (o1) rfl Z2s rfl rfl (Z0C (row := [.int .i64 k]) rfl) rfl rfl ((by rw [irl]; simp only [List.length_singleton]; omega)) rfl (fun o21 => ?_)
 refine pur 1 rfl (sqr 2 rfl (sp rfl (PE.add rfl rfl (by omega)) rfl (pur 1 rfl ?_)))
 exact Z7 ⟨⟨(k + 1, fun j => bif decide (j = k) then x15 else d j, tq2 + 1, m15), by dsimp only; omega, by dsimp only; omega, by assumption⟩, o21.cast (by rw [hp 0, dT hc1]; simp [Z3]), o2.cast (by rw [hp 1, dF (show ¬ x15 = 1 by omega)]; simp [Z3])⟩ (fun w h9 => (h9.del b20).perm (by first | exact .refl _ | exact (Zj _ [_] _).symm))
 refine sqt 2 rfl (pur 2 rfl ?_)
 refine Z1 rfl ?_ ?_ <;> intro hc2 <;> try simp only [cS] at hc2
 refine sqr 5 rfl (pur 2 rfl ?_)
 refine bsl (out := [_]) rfl Z0l zl3 rfl rfl rfl rfl rfl rfl (fun b26 => ?_)
 refine apO (o2) rfl Z2s rfl rfl (Z0C (row := [.int .i64 k]) rfl) rfl rfl ((by rw [irl]; simp only [List.length_singleton]; omega)) rfl (fun o27 => ?_)
 refine pur 1 rfl (sqr 2 rfl (sp rfl (PE.add rfl rfl (by omega)) rfl (pur 1 rfl ?_)))
 exact Z7 ⟨⟨(k + 1, fun j => bif decide (j = k) then x15 else d j, tq2 + 1, m15), by dsimp only; omega, by dsimp only; omega, by assumption⟩, o1.cast (by rw [hp 0, dF hc1]; simp [Z3]), o27.cast (by rw [hp 1, dT hc2]; simp [Z3])⟩ (fun w h9 => (h9.del b26).perm (by first | exact .refl _ | exact (Zj _ [_] _).symm | exact (Zj _ (_ :: _) _)))
 refine Z2 (sqr 2 rfl (sp rfl (PE.add rfl rfl (by omega)) rfl (pur 1 rfl ?_)))
 exact Z7 ⟨⟨(k + 1, fun j => bif decide (j = k) then x15 else d j, tq2 + 1, m15), by dsimp only; omega, by dsimp only; omega, by assumption⟩, o1.cast (by rw [hp 0, dF hc1]; simp [Z3]), o2.cast (by rw [hp 1, dF hc2]; simp [Z3])⟩ idH
 obtain rfl : k = B := by omega
 obtain ⟨af, cf, he1, hc9, hz1⟩ := o1.freezeC
 obtain ⟨ak, ck, he2, hc8, hz2⟩ := o2.freezeC
 rw [irl] at hc9 hc8
 rw [he1, he2, irl, irl]
 refine ZF bk ?_
 refine Sy.heap (H' := _) (fun w h9 => hz1 (h9.perm (List.perm_middle (l₁ := o1.G) (a := _)).symm)) ?_
 refine Sy.heap (H' := _) (fun w h9 => hz2 (h9.perm (List.perm_middle (l₁ := o2.G) (a := _)).symm)) ?_
 clear he1 he2 hz1 hz2
 refine Z9 (Za (Za (Zl (sqt 4 rfl (pur 4 rfl (Z6 ?_))))))
 exact rtB rfl rfl rfl rfl ⟨d, af, ak, cf, ck, tq2, mx2, hc9, hc8, rfl, ⟨htq2.1, by omega⟩, hmx2, rfl, rfl⟩ (fun w h9 => h9.del b3)
set_option maxHeartbeats 1000000 in
theorem Z4d (h : Hse) (ag as_ : Option Addr) (cg cs : Nat) (hok : h.ok) (fr : List Int) (af : Option Addr) (cf : Nat) (hfl0 : fr.length ≤ 1000000) (hfr : ∀ x ∈ fr, 0 ≤ x) (pl : List PL) (ap : Option Addr) (cp : Nat) (hpl : pl.length ≤ 1000000) (hpt : (lls pl).flatten.length ≤ 1000000) (hpx : ∀ x ∈ (lls pl).flatten, 0 ≤ x) (H : Z8) (R : Z5) [hG : MemRows ag 2 (Zk h.gaps) R] [hF : MemRows af 1 (Z3 fr) R] [hP : MemRows ap 1 (Zt pl) R] [hI : MemF (Inn pl) R] :
    Fn Tryz.prog 59 [h.v (h.sg ag cg) (h.ss as_ cs), .slice af fr.length cf, .slice ap pl.length cp] H R (fun v H' R' => ∃ (a : Option Addr) (c : Nat), v = .slice a h.bins.toNat c ∧ H' = H ∧ R' = RowsA a 1 (Z3 (Z5o h.gaps (clP pl) (msk fr) h.bins.toNat)) :: R) := by
 refine Ze Tryz.func59 rfl Tryz.ntmps59 rfl ?_
 refine sqt 2 rfl ?_
 have hbn := hok.bins
 have hgn := hok.gl
 obtain ⟨B, hB⟩ : ∃ B : Nat, h.bins = B := ⟨h.bins.toNat, by omega⟩
 rw [show h.bins.toNat = B by omega]
 refine bx rfl rfl rfl (fun b3 => pur 1 rfl (sqt 4 rfl (sp rfl (PE.fA Z0I rfl) rfl (spL rfl rfl (lh (v := .int .i64 h.bins) sc3 rfl rfl) rfl ?_))))
 rw [hB]
 refine mkS rfl Z2s zl3 rfl rfl (Nat.le_refl _) ⟨by omega, by omega⟩ rfl (fun b17 => ?_)
 rw [ZeY, Z9s (in0 fr)]
 refine pur 1 rfl (Z0 (sqt 3 rfl (pur 1 rfl (sp rfl (PE.lenSl Zw rfl) rfl (pur 1 rfl (Z4 ?_))))))
 refine Zc (ι := {k : Nat // k ≤ B}) (fun x => ⟨[(0, h.v (h.sg ag cg) (h.ss as_ cs)), (1, .slice af fr.length cf), (2, .slice ap pl.length cp), (3, .pointer (some ⟨b3, 0, none⟩)), (7, .slice (some ⟨b17, 0, none⟩) B B), (19, .int .i64 B), (20, .int .i64 x.1)], (b17, cel 3 (Zm (ini (in0 fr) B x.1))) :: (b3, cel 25 (htl h (h.sg ag cg) (h.ss as_ cs))) :: H, R⟩) (fun x => B - x.1) ⟨0, by omega⟩ ?_ (fun x => ?_)
 exact Zh idH
 obtain ⟨k, hk⟩ := x
 dsimp only at hk ⊢
 refine sqt 1 rfl (pur 1 rfl (Z0 ?_))
 refine Z1 rfl ?_ ?_ <;> intro hc0 <;> try simp only [cS] at hc0
 refine Z2 (Z0 (Z4 (sqt 2 rfl (pur 2 rfl (sqt 4 rfl (pur 2 rfl (sp rfl (PE.indexAddr Z0R rfl rfl (by omega) (by omega)) rfl ?_)))))))
 refine ZN (l' := Zm ((ini (in0 fr) B k).set k 100)) rfl rfl rfl cn3 rfl rfl rfl (Z0O (by rw [ZU]; omega) (by show 0 + ((k : Nat) : Int).toNat * 1 = k; omega)) (by rw [Zb]; (first | rw [ZU] | rw [List.length_set, ZU] | rw [hfl]); show 0 + ((k : Nat) : Int).toNat * 1 + 1 ≤ _; omega) ?_
 refine sqt 3 rfl (pur 2 rfl ?_)
 refine clV rfl Z3h rfl rfl (Zs fr af cf (k : Int) (by omega) _ _) ?_
 refine Z1 rfl ?_ ?_ <;> intro hc1 <;> try simp only [cS] at hc1
 refine sqr 4 rfl (pur 2 rfl (sp rfl (PE.indexAddr Z0R rfl rfl (by omega) (by omega)) rfl ?_))
 refine ZN (l' := Zm (((ini (in0 fr) B k).set k 100).set k 0)) rfl rfl rfl cn3 rfl rfl rfl (Z0O (by rw [List.length_set, ZU]; omega) (by show 0 + ((k : Nat) : Int).toNat * 1 = k; omega)) (by rw [Zb]; (first | rw [ZU] | rw [List.length_set, ZU] | rw [hfl]); show 0 + ((k : Nat) : Int).toNat * 1 + 1 ≤ _; omega) ?_
 refine sqr 2 rfl (sp rfl (PE.add rfl rfl (by omega)) rfl (pur 1 rfl ?_))
 rw [Z66, Z7k (k := k) (by omega) (by unfold in0; rw [show Z0r fr (k : Int) = _ from hc1]; rfl)]
 exact Z7 ⟨k + 1, by omega⟩ idH
 refine Z2 (sqr 2 rfl (sp rfl (PE.add rfl rfl (by omega)) rfl (pur 1 rfl ?_)))
 rw [Z7k (k := k) (by omega) (by unfold in0; rw [show Z0r fr (k : Int) = _ from hc1]; rfl)]
 exact Z7 ⟨k + 1, by omega⟩ idH
 obtain rfl : k = B := by omega
 have hst := FolI.start (gs := h.gaps) (cl := (clP pl)) hfr k
 refine Z9 (Za (Za (Zl (sqt 1 rfl (pur 1 rfl (Z0 (sqt 1 rfl (pur 1 rfl (Z4 ?_)))))))))
 refine Zc (ι := (x : {x : Nat × List Int // x.1 ≤ 20 ∧ FolI h.gaps (clP pl) (msk fr) k x.1 (Z2P h.gaps ((clP pl) x.1) (lvp h.gaps (clP pl) (msk fr) x.1) 0) x.2}) × OSl 3 1 (Z3 (Z2w pl x.1.1))) (fun x => ⟨[(0, h.v (h.sg ag cg) (h.ss as_ cs)), (1, .slice af fr.length cf), (2, .slice ap pl.length cp), (3, .pointer (some ⟨b3, 0, none⟩)), (7, .slice (some ⟨b17, 0, none⟩) k k), (9, x.2.fs), (33, .int .i64 x.1.1.1)], x.2.G ++ ((b17, cel 3 (Zm (x.1.1.2))) :: (b3, cel 25 (htl h (h.sg ag cg) (h.ss as_ cs))) :: H), R⟩) (fun x => 20 - x.1.1.1) ⟨⟨(0, ini (in0 fr) k k), by omega, hst⟩, OSl.nil _ _⟩ ?_ (fun x => ?_)
 exact Zh idH
 obtain ⟨⟨⟨w, o⟩, hw, hfo⟩, oc⟩ := x
 dsimp only at hw hfo oc ⊢
 have hcl := Z0Q pl w
 have hcl2 := Z0Q pl (w + 1)
 refine sqt 1 rfl (pur 1 rfl (Z0 ?_))
 refine Z1 rfl ?_ ?_ <;> intro hc2 <;> try simp only [cS] at hc2
 refine Z2 (Z0 (Z4 (sqt 2 rfl (pur 2 rfl (Z0 (sqt 4 rfl (pur 2 rfl (sp rfl (PE.lenSl Z2Y rfl) rfl (pur 1 rfl ?_)))))))))
 refine Z1Q (ι := OSl 3 1 (Z3 (Z2w pl (w + 1)))) (fun oc => ⟨[(0, h.v (h.sg ag cg) (h.ss as_ cs)), (1, .slice af fr.length cf), (2, .slice ap pl.length cp), (3, .pointer (some ⟨b3, 0, none⟩)), (7, .slice (some ⟨b17, 0, none⟩) k k), (9, oc.fs), (10, .int .i64 w), (33, .int .i64 w)], oc.G ++ ((b17, cel 3 (Zm (o))) :: (b3, cel 25 (htl h (h.sg ag cg) (h.ss as_ cs))) :: H), R⟩) ?_ ?_
 refine Z1 rfl ?_ ?_ <;> intro hc3 <;> try simp only [cS] at hc3
 obtain ⟨x, hx⟩ : ∃ x, pl[w]? = some x := ⟨_, List.getElem?_eq_getElem (by omega)⟩
 have hst := Z1k hx
 have hsl := congrArg List.length hst
 rw [List.length_append] at hsl
 refine Zn (a := ap) (sz := 1) (rows := Zt pl) (ne0 (by rw [ZG]; omega)) (fun ba oa he => ?_)
 subst he
 refine Sy.heap (fun w h9 => St.inn (x := x) h9 (List.mem_of_getElem? hx)) ?_
 refine sqr 7 rfl (pur 3 rfl (sp rfl (PE.indexAddr Zbo rfl rfl (by omega) (by omega)) rfl (spL rfl rfl (lf0 Z0P (Z4B hx) rfl) rfl ?_)))
 refine apO (news := Z3 x.l) oc rfl Z2s rfl rfl (Z6B) (irl _) (by simp [ZZ, Z3, Value.oneCell']) (by rw [irl, irl]; omega) rfl (fun o45 => ?_)
 refine pur 1 rfl ?_
 first | exact Zu (o45.cast (by rw [hst]; simp [Z3])) (fun w h9 => h9.ftail) | exact Zu (oc.cast (by rw [Z6j (by omega)])) idH
 refine Z2 ?_
 first | exact Zu (o45.cast (by rw [hst]; simp [Z3])) (fun w h9 => h9.ftail) | exact Zu (oc.cast (by rw [Z6j (by omega)])) idH
 intro oc
 dsimp only
 refine sqt 4 rfl (sp rfl (PE.fA ZV rfl) rfl (spL rfl rfl (lh Z3Q rfl rfl) rfl (sp rfl (PE.lenSl Z3w rfl) rfl (pur 1 rfl (Z4 ?_)))))
 refine Zc (ι := {x : Nat × List Int // x.1 ≤ h.gaps.length ∧ FolI h.gaps (clP pl) (msk fr) k w (Z2P h.gaps ((clP pl) w) (lvp h.gaps (clP pl) (msk fr) w) (x.1)) x.2}) (fun x => ⟨[(0, h.v (h.sg ag cg) (h.ss as_ cs)), (1, .slice af fr.length cf), (2, .slice ap pl.length cp), (3, .pointer (some ⟨b3, 0, none⟩)), (7, .slice (some ⟨b17, 0, none⟩) k k), (9, oc.fs), (10, .int .i64 w), (33, .int .i64 w), (47, h.sg ag cg), (48, .int .i64 h.gaps.length), (49, .int .i64 x.1.1)], oc.G ++ ((b17, cel 3 (Zm (x.1.2))) :: (b3, cel 25 (htl h (h.sg ag cg) (h.ss as_ cs))) :: H), R⟩) (fun x => h.gaps.length - x.1.1) ⟨(0, o), by omega, hfo⟩ ?_ (fun x => ?_)
 exact Zh idH
 obtain ⟨⟨i, o⟩, hi, hfo⟩ := x
 dsimp only at hi hfo ⊢
 refine sqt 1 rfl (pur 1 rfl (Z0 ?_))
 refine Z1 rfl ?_ ?_ <;> intro hc4 <;> try simp only [cS] at hc4
 obtain ⟨gg, hg⟩ : ∃ g, h.gaps[i]? = some g := ⟨_, List.getElem?_eq_getElem (by omega)⟩
 have hgo := hok.gaps gg (List.mem_of_getElem? hg)
 refine Zn (a := ag) (sz := 2) (rows := Zk h.gaps) (ne0 (by rw [Z0Y]; omega)) (fun ba oa he => ?_)
 subst he
 refine Z2 (Z0 (Z4 (sqt 6 rfl (pur 1 rfl (sp rfl (PE.indexAddr Z6P rfl rfl (by omega) (by omega)) rfl (spL rfl rfl (lfA Z5P (row := grow gg) (Z1g hg) rfl) rfl (alc rfl Z2W rfl (fun b12 => pur 1 rfl ?_))))))))
 refine ZN (l' := grow gg) rfl rfl rfl Z8Z rfl rfl rfl rfl (nl rfl) ?_
 refine Z0 (sqt 3 rfl (pur 2 rfl ?_))
 refine Sy.heap (H' := oc.G ++ ((b12, cel 97 (grow gg)) :: _)) (fun w h9 => h9.perm (Zj [_] _ _)) ?_
 refine clV rfl Z3h rfl rfl (FnV.lendO oc (fun v => [v, .int .i64 i]) (fun a5 c5 _ => by rw [irl]; exact Zs (Z2w pl (w + 1)) a5 c5 (i : Int) (by omega) _ _)) ?_
 refine Z1 rfl ?_ ?_ <;> intro hc5 <;> try simp only [cS] at hc5
 have hcb : (clP pl w).testBit i = true := by unfold clP; rw [← Z4a (fun x hx => hpx x (Z69 hx))]; exact hc5
 refine Z9 (Za (Zl (sqr 2 rfl (sp rfl (PE.add rfl rfl (by omega)) rfl (pur 1 rfl ?_)))))
 exact Z7 ⟨(i + 1, o), by dsimp only; omega, hfo.shut hcb⟩ (fun w h9 => h9.del b12)
 have hcb : (clP pl w).testBit i = false := by unfold clP; rw [← Z4a (fun x hx => hpx x (Z69 hx))]; exact hc5
 refine Z2 (sqt 13 rfl (sp rfl (PE.fA ZM rfl) rfl (spL rfl rfl (lh sc3 rfl rfl) rfl (sp rfl (PE.fA ZC rfl) rfl (spL rfl rfl (lh sc3 rfl rfl) rfl (sp rfl (PE.buildArr (out := [_, _]) Z6J Z96 rfl rfl) rfl (sp rfl (PE.fA ZC rfl) rfl (spL rfl rfl (lh sc3 rfl rfl) rfl (sp rfl (PE.fA ZM rfl) rfl (spL rfl rfl (lh sc3 rfl rfl) rfl (sp rfl (PE.buildArr (out := [_, _]) Z6J Z96 rfl rfl) rfl ?_)))))))))))
 refine bsl (out := [_, _, _, _]) rfl Zfk Z96 rfl rfl rfl rfl rfl rfl (fun b67 => ?_)
 refine sp rfl (PE.lenSl ZdG rfl) rfl (pur 1 rfl (Z4 ?_))
 refine Zc (ι := {x : Nat × List Int // x.1 ≤ 2 ∧ FolI h.gaps (clP pl) (msk fr) k w (Zfz (lvp h.gaps (clP pl) (msk fr) w) (Z2P h.gaps ((clP pl) w) (lvp h.gaps (clP pl) (msk fr) w) (i)) gg x.1) x.2}) (fun x => ⟨[(0, h.v (h.sg (some ⟨ba, oa, none⟩) cg) (h.ss as_ cs)), (1, .slice af fr.length cf), (2, .slice ap pl.length cp), (3, .pointer (some ⟨b3, 0, none⟩)), (7, .slice (some ⟨b17, 0, none⟩) k k), (9, oc.fs), (10, .int .i64 w), (33, .int .i64 w), (47, h.sg (some ⟨ba, oa, none⟩) cg), (48, .int .i64 h.gaps.length), (49, .int .i64 i), (67, .slice (some ⟨b67, 0, none⟩) 2 2), (68, .int .i64 2), (69, .int .i64 x.1.1)], (b67, cel 166 (ZfF gg)) :: (oc.G ++ ((b12, cel 97 (grow gg)) :: (b17, cel 3 (Zm (x.1.2))) :: (b3, cel 25 (htl h (h.sg (some ⟨ba, oa, none⟩) cg) (h.ss as_ cs))) :: H)), R⟩) (fun x => 2 - x.1.1) ⟨(0, o), by omega, hfo⟩ ?_ (fun x => ?_)
 exact Zh idH
 obtain ⟨⟨j, o⟩, hj, hfo⟩ := x
 dsimp only at hj hfo ⊢
 have hfl := hfo.len
 refine sqt 1 rfl (pur 1 rfl (Z0 ?_))
 refine Z1 rfl ?_ ?_ <;> intro hc6 <;> try simp only [cS] at hc6
 obtain ⟨u, v, rest, hu, hv, hdr, hacc⟩ := Zcg (s := (lvp h.gaps (clP pl) (msk fr) w)) (acc := (Z2P h.gaps ((clP pl) w) (lvp h.gaps (clP pl) (msk fr) w) (i))) (n := k) (show 0 ≤ gg.a ∧ gg.a < (k : Int) by omega) (show 0 ≤ gg.b ∧ gg.b < (k : Int) by omega) (show j < 2 by omega)
 have hbu := hfo.bd (by omega) hu
 have hbv := hfo.bd (by omega) hv
 refine Z2 (Z0 (Z4 (sqt 4 rfl (sp rfl (PE.indexAddr Zfo rfl rfl (by omega) (by omega)) rfl (spL rfl rfl (lhA [.int .i64 (u : Int), .int .i64 (v : Int)] Zfp rfl (rest := rest) (by rw [← hdr]; congr 1; show 0 + ((j : Nat) : Int).toNat * 2 = j * 2; omega) rfl) rfl (alc rfl Z96 rfl (fun b14 => ?_)))))))
 refine ZN (l' := [.int .i64 (u : Int), .int .i64 (v : Int)]) rfl rfl rfl Zft rfl rfl rfl rfl (nl rfl) ?_
 refine sqt 16 rfl (pur 1 rfl (sp rfl (PE.indexArr Z6J rfl rfl (by omega) (by omega)) rfl (spL rfl rfl (lh sc3 rfl rfl) rfl (sp rfl (PE.indexAddr Z0R rfl rfl (by omega) (by omega)) rfl (spL rfl rfl (lh sc3 rfl (Z0y (w := o) (k := u) (by omega) (by show 0 + ((u : Nat) : Int).toNat * 1 = u; omega))) rfl (pur 3 rfl ?_))))))
 refine Zv 80 rfl ?_ ?_ <;> intro g80
 simp only [decide_eq_true_eq] at g80
 refine pur 1 rfl ?_
 refine spG rfl rfl rfl rfl (PE.indexArr Z6J rfl rfl (by omega) (by omega)) rfl ?_
 refine Z2T rfl rfl rfl rfl rfl (lh sc3 rfl rfl) rfl ?_
 refine spG rfl rfl rfl rfl (PE.indexAddr Z0R rfl rfl (by omega) (by omega)) rfl ?_
 refine Z2T rfl rfl rfl rfl rfl (lh sc3 rfl (Z0y (w := o) (k := v) (by omega) (by show 0 + ((v : Nat) : Int).toNat * 1 = v; omega))) rfl (pur 3 rfl ?_)
 refine Z1 rfl ?_ ?_ <;> intro hc7 <;> try simp only [cS] at hc7
 refine Zf [0, 0, 2, 0, 0, 16, 56, 120, 0, 256, 1016, 2047, 4095] (.tk 0 (.tk 1 (.ld 2 (.tk 3 (.tk 4 (.ld 5 (.tk 6 (.ld 7 (tks 8 4 (.big 12 .done)))))))))) Zy (by kernel_rfl) ?_
 refine Zg 1 rfl (tk rfl (PE.indexArr Z6J rfl rfl (by omega) (by omega)) rfl (ld rfl rfl (lh sc3 rfl rfl) rfl (Zg 1 rfl (tk rfl (PE.indexArr Z6J rfl rfl (by omega) (by omega)) rfl (ld rfl rfl (lh sc3 rfl rfl) rfl (tk rfl (PE.indexAddr Z0R rfl rfl (by omega) (by omega)) rfl (ld rfl rfl (lh sc3 rfl (Z0y (w := o) (k := v) (by omega) (by show 0 + ((v : Nat) : Int).toNat * 1 = v; omega))) rfl (Zg 1 rfl (tk rfl (PE.add rfl rfl (by omega)) rfl (tk rfl (PE.min rfl rfl) rfl (tk rfl (PE.indexAddr Z0R rfl rfl (by omega) (by omega)) rfl ?_)))))))))))
 refine ZN (l' := Zm (o.set v (min (na o v) ((w : Int) + 1)))) rfl rfl rfl cn3 rfl rfl rfl (Z0O (by omega) (by show 0 + ((v : Nat) : Int).toNat * 1 = v; omega)) (by rw [Zb]; (first | rw [ZU] | rw [List.length_set, ZU] | rw [hfl]); show 0 + ((v : Nat) : Int).toNat * 1 + 1 ≤ _; omega) ?_
 refine bgT (sqr 2 rfl (sp rfl (PE.add rfl rfl (by omega)) rfl (pur 1 rfl ?_)))
 exact Z7 ⟨(j + 1, o.set v (min (na o v) ((w : Int) + 1))), by dsimp only; omega, by dsimp only; rw [hacc]; exact hfo.way (by omega) hu hv (by omega) (by omega)⟩ (fun w h9 => h9.del b14)
 refine Z2 (sqr 2 rfl (sp rfl (PE.add rfl rfl (by omega)) rfl (pur 1 rfl ?_)))
 exact Z7 ⟨(j + 1, o), by dsimp only; omega, by dsimp only; rw [hacc]; exact hfo.same (by omega) hu hv (fun h9 => by omega)⟩ (fun w h9 => h9.del b14)
 simp only [decide_eq_false_iff_not] at g80
 refine pur 8 rfl ?_
 refine ZA rfl ?_
 refine Z2 (sqr 2 rfl (sp rfl (PE.add rfl rfl (by omega)) rfl (pur 1 rfl ?_)))
 exact Z7 ⟨(j + 1, o), by dsimp only; omega, by dsimp only; rw [hacc]; exact hfo.same (by omega) hu hv (fun h9 => by omega)⟩ (fun w h9 => h9.del b14)
 obtain rfl : j = 2 := by omega
 refine Z9 (Za (Za (Zl (sqr 2 rfl (sp rfl (PE.add rfl rfl (by omega)) rfl (pur 1 rfl ?_))))))
 exact Z7 ⟨(i + 1, o), by dsimp only; omega, hfo.gap hg hcb⟩ (fun w h9 => (h9.del b67).del b12)
 obtain rfl : i = h.gaps.length := by omega
 have hwk := hfo.week
 refine Z9 (Za (Za (Zl (sqr 2 rfl (sp rfl (PE.add rfl rfl (by omega)) rfl (pur 1 rfl ?_))))))
 exact Z7 ⟨⟨(w + 1, o), by dsimp only; omega, hwk⟩, oc⟩ idH
 obtain rfl : w = 20 := by omega
 obtain rfl := hfo.done rfl
 refine Sy.heap (H' := _ :: (oc.G ++ _)) (fun w h9 => h9.perm (List.perm_middle (l₁ := oc.G) (a := _))) ?_
 refine Sy.heap (fun w h9 => St.rows (sz := 1) (rows := Z3 (Z5o h.gaps (clP pl) (msk fr) k)) (rest := []) (by rw [List.append_nil, show (Z3 (Z5o h.gaps (clP pl) (msk fr) k)).flatten = Zm (Z5o h.gaps (clP pl) (msk fr) k) from Z2h _]; exact h9) (fun r hr => by obtain ⟨x, _, rfl⟩ := List.mem_map.1 hr; rfl)) ?_
 refine Z9 (Za (Za (Zl (sqt 2 rfl (pur 2 rfl (Z6 ?_))))))
 exact rtA rfl rfl rfl ⟨_, k, rfl, rfl, rfl⟩ (fun w h9 => (St.drop (G := oc.G) h9).del b3)
theorem ZbG {A B C : List Value} {n : Nat} (h : n = A.length) : spl (A ++ B) n C = A ++ (C ++ B.drop C.length) := by
  subst h
  unfold spl
  rw [List.take_left, List.drop_append]
  simp
theorem Z5H (rows : List (List Value)) (i : Nat) : rows.flatten = (rows.take i).flatten ++ (rows.drop i).flatten := by rw [← List.flatten_append, List.take_append_drop]
theorem Z6E {sz : Nat} {rows : List (List Value)} (hs : ∀ r ∈ rows, r.length = sz) {junk : List Value} {i : Nat} (hi : i < rows.length) : spl (rows.flatten ++ junk) (i * sz) (rows.drop (i + 1)).flatten = (rows.eraseIdx i).flatten ++ (rows.flatten ++ junk).drop ((rows.length - 1) * sz) := by
  have h1 : (rows.take i).flatten.length = i * sz := by rw [ZT fun r hr => hs r (List.mem_of_mem_take hr), List.length_take, Nat.min_eq_left (by omega)]
  unfold spl
  have e1 : ((rows.flatten ++ junk).take (i * sz) : List Value) = (rows.take i).flatten := by
    rw [Z5H rows i, List.append_assoc, ← h1, List.take_left]
  have e2 : i * sz + (rows.drop (i + 1)).flatten.length = (rows.length - 1) * sz := by
    rw [ZT fun r hr => hs r (List.mem_of_mem_drop hr), List.length_drop, ← Nat.add_mul]
    congr 1; omega
  rw [e1, e2, List.eraseIdx_eq_take_drop_succ, List.flatten_append]
theorem ZbE {sz : Nat} {rows : List (List Value)} (hs : ∀ r ∈ rows, r.length = sz) {junk : List Value} {i j : Nat} {v : Value} (hi : i ≤ rows.length) (h : ((rows.drop i).flatten)[j]? = some v) : (rows.flatten ++ junk)[i * sz + j]? = some v := by
  have h1 : (rows.take i).flatten.length = i * sz := by rw [ZT fun r hr => hs r (List.mem_of_mem_take hr), List.length_take, Nat.min_eq_left hi]
  have hj := (List.getElem?_eq_some_iff.1 h).1
  rw [Z5H rows i, List.append_assoc, List.getElem?_append_right (by omega), show i * sz + j - (rows.take i).flatten.length = j by omega, List.getElem?_append_left hj]
  exact h
theorem Tru.nil (h : Hse) (l : List Int) : Tru h l [] := ⟨(fun s hs => by cases hs), rfl⟩
theorem Z7t {h : Hse} {l k : List Int} (hk : h.ok) (h1 : Zz h.bins l = 0) (h2 : Zz h.bins k = 0) (h3 : ∀ x ∈ l, x ∉ k) : h.botE l k = 0 := by
  have h4 : l.any (Z0r k) = false := List.any_eq_false.2 fun x hx h5 => h3 x hx (hasI_iff.1 h5)
  unfold Hse.botE
  rw [hse_ok.2 hk, h1, h2, h4]; rfl
theorem Z3j {d : Nat → Int} {n : Nat} : ∀ x ∈ Z07 (fun j => decide (d j = 0)) n, x ∉ Z07 (fun j => decide (d j = 1)) n := fun x h1 h2 => by
  obtain ⟨k, _, h3, rfl⟩ := fltK_mem.1 h1
  obtain ⟨k', _, h4, h5⟩ := fltK_mem.1 h2
  obtain rfl : k = k' := by omega
  have := of_decide_eq_true h3; have := of_decide_eq_true h4; omega
theorem ZdR (h : Hse) (ag as_ : Option Addr) (cg cs : Nat) (hok : h.ok) (fr to_ : List Int) (af at_ : Option Addr) (cf ct : Nat) (hlf : fr.length ≤ 1000000) (hlt : to_.length ≤ 1000000) (hfc : fr.length ≤ cf) (htc : to_.length ≤ ct) (hb : h.botE fr to_ = 0) (H : Z8) (R : Z5) [hG : MemRows ag 2 (Zk h.gaps) R] [hS : MemRows as_ 3 (Zo h.sights) R] [hF : MemRows af 1 (Z3 fr) R] [hT : MemRows at_ 1 (Z3 to_) R] : Fn Tryz.prog 33 [h.v (h.sg ag cg) (h.ss as_ cs), .slice af fr.length cf, .slice at_ to_.length ct] H R (fun v H' R' => ∃ (X : Nat) (a : Option Addr) (c : Nat), Cut h.gaps (msk fr) (msk to_) (Z0p X h.gaps).length ∧ Shut h.gaps (msk (Z0p X h.gaps)) (msk fr) (msk to_) ∧ (Z0p X h.gaps).length ≤ c ∧ v = .tuple #[.slice a (Z0p X h.gaps).length c, .int .i64 0] ∧ H' = H ∧ R' = RowsA a 1 (Z3 (Z0p X h.gaps)) :: R) := fun w hw => by
  refine CallsIn.mono (Zes h ag as_ cg cs (by have := hok.gl; omega) (by have := hok.sl; omega) fr to_ af at_ cf ct hlf hlt hfc htc H R w hw) ?_
  rintro e' w' ⟨u, H', R', ⟨rfl, hq⟩, he, hs'⟩
  rcases hq with ⟨h1, _⟩ | ⟨_, f, V, a, c, h2, h3, h4, rfl, rfl⟩
  · exact absurd hb h1
  · obtain ⟨h5, h6⟩ := h3.cut (Z19 (Z0x hb)) h2
    exact ⟨_, _, _, ⟨Z10 V, a, c, h5, h6, h4, rfl, rfl, rfl⟩, he, hs'⟩
def Hse.add (h : Hse) (s : Sgt) : Hse := ⟨h.bins, h.gaps, h.sights ++ [s]⟩
theorem Zat : cal Tryz.prog 159 = true := by kernel_rfl
theorem Zaf : cal Tryz.prog 176 = true := by kernel_rfl
structure DelI (l : List Int) (p : Int → Bool) (i j : Nat) (c : List Int) : Prop where
  len : c.length = l.length
  le : i < j ∧ j ≤ l.length
  pre : c.take i = (l.take j).filter (fun x => !p x)
  suf : ∀ q, j ≤ q → c[q]? = l[q]?
theorem Z1w {l : List Int} {j : Nat} {x : Int} (h : l[j]? = some x) : l.take (j + 1) = l.take j ++ [x] := by rw [List.take_add_one, h]; rfl
theorem DelI.start {l : List Int} {p : Int → Bool} {k : Nat} (h : l.findIdx? p = some k) : DelI l p k (k + 1) l := by
  obtain ⟨h1, h2, h3⟩ := List.findIdx?_eq_some_iff_getElem.1 h
  refine ⟨rfl, ⟨by omega, by omega⟩, ?_, fun _ _ => rfl⟩
  rw [Z1w (List.getElem?_eq_getElem h1), List.filter_append, List.filter_cons, h2]
  have : (l.take k).filter (fun x => !p x) = l.take k := List.filter_eq_self.2 fun x hx => by
    obtain ⟨q, hq, rfl⟩ := List.mem_iff_getElem.1 hx
    rw [List.length_take] at hq
    rw [List.getElem_take]
    have := h3 q (by omega)
    simpa using this
  rw [this]; simp
theorem DelI.skip {l : List Int} {p : Int → Bool} {i j : Nat} {c : List Int} (h : DelI l p i j c) {x : Int} (hx : l[j]? = some x) (hp : p x = true) : DelI l p i (j + 1) c := by
  have hj := (List.getElem?_eq_some_iff.1 hx).1
  refine ⟨h.len, ⟨by have := h.le; omega, by omega⟩, ?_, fun q hq => h.suf q (by omega)⟩
  rw [h.pre, Z1w hx, List.filter_append, List.filter_cons, hp]; simp
theorem DelI.keep {l : List Int} {p : Int → Bool} {i j : Nat} {c : List Int} (h : DelI l p i j c) {x : Int} (hx : l[j]? = some x) (hp : p x = false) : DelI l p (i + 1) (j + 1) (c.set i x) := by
  have hj := (List.getElem?_eq_some_iff.1 hx).1
  have hl := h.le
  have hn := h.len
  refine ⟨by rw [List.length_set]; exact hn, ⟨by omega, by omega⟩, ?_, fun q hq => by rw [List.getElem?_set_ne (by omega)]; exact h.suf q (by omega)⟩
  rw [Z1w hx, List.filter_append, List.filter_cons, hp, ← h.pre, Z1w (l := c.set i x) (x := x) (by rw [List.getElem?_set_self (by omega)]), List.take_set_of_le (Nat.le_refl _)]; rfl
theorem DelI.done {l : List Int} {p : Int → Bool} {i : Nat} {c : List Int} (h : DelI l p i l.length c) : c.take i = l.filter (fun x => !p x) ∧ i = (l.filter (fun x => !p x)).length := by
  have h1 := h.pre
  rw [List.take_length] at h1
  refine ⟨h1, ?_⟩
  rw [← h1, List.length_take, h.len]
  have := h.le; omega
theorem Z7p (n : Int) (H : Z8) (R : Z5) :
    FnV Tryz.prog 176 [.int .i64 n] H R (.bool false) := by
 refine Ze Tryz.func176 rfl Tryz.ntmps176 rfl ?_
 refine sqt 1 rfl (pur 1 rfl (sqt 4 rfl (pur 4 rfl (Z6 ?_))))
 exact rtA rfl rfl rfl ⟨by simp [Z05], rfl, rfl⟩ drp
theorem ZcB (x y : Int) (H : Z8) (R : Z5) :
    FnV Tryz.prog 159 [.int .i64 x, .int .i64 y] H R (.bool (decide (x < y))) := by
 refine Ze Tryz.func159 rfl Tryz.ntmps159 rfl ?_
 refine sqt 1 rfl (pur 1 rfl (sqt 13 rfl (pur 1 rfl ?_)))
 refine clV rfl Zaf rfl rfl (Z7p x _ _) ?_
 refine pur 11 rfl (Z6 ?_)
 exact rtA rfl rfl rfl ⟨rfl, rfl, rfl⟩ drp
theorem Z52 (xs : List Int) (a : Option Addr) (c : Nat) (hl : xs.length ≤ 9223372036854775807) (hs : xs.Pairwise (· < ·)) (H : Z8) (R : Z5) [hR : MemRows a 1 (Z3 xs) R] :
    FnV Tryz.prog 127 [.slice a xs.length c] H R (.bool true) := by
 refine Ze Tryz.func127 rfl Tryz.ntmps127 rfl ?_
 refine sqt 1 rfl (pur 1 rfl (Z0 (sqt 4 rfl (pur 1 rfl (sp rfl (PE.lenSl Zw rfl) rfl (sp rfl (PE.sub rfl rfl (by omega)) rfl (pur 1 rfl (Z4 ?_))))))))
 refine Zc (ι := {k : Nat // k ≤ xs.length}) (fun k => ⟨[(0, .slice a xs.length c), (3, .int .i64 ((k.1 : Int) - 1))], H, R⟩) (fun k => k.1) ⟨xs.length, Nat.le_refl _⟩ ?_ (fun k => ?_)
 exact Zh idH
 obtain ⟨k, hk⟩ := k
 dsimp only at hk ⊢
 refine Z0 (sqt 2 rfl (pur 2 rfl ?_))
 refine Z1 rfl ?_ ?_ <;> intro hc0 <;> try simp only [cS] at hc0
 obtain ⟨k, rfl⟩ : ∃ j, k = j + 2 := ⟨k - 2, by omega⟩
 obtain ⟨y, hy⟩ : ∃ y, xs[k + 1]? = some y := ⟨_, List.getElem?_eq_getElem (by omega)⟩
 obtain ⟨x, hx⟩ : ∃ x, xs[k]? = some x := ⟨_, List.getElem?_eq_getElem (by omega)⟩
 have hxy : x < y := by
   have h8 := List.pairwise_iff_getElem.1 hs k (k + 1) (by omega) (by omega) (by omega)
   rw [(List.getElem?_eq_some_iff.1 hx).2, (List.getElem?_eq_some_iff.1 hy).2] at h8; exact h8
 rw [show (((k + 2 : Nat) : Int) - 1) = (k + 1 : Nat) from by omega]
 refine Zn (a := a) (sz := 1) (rows := Z3 xs) (ne0 (by rw [irl]; omega)) (fun b off he => ?_)
 subst he
 refine Z2 (Z0 (Z4 (Z0 ?_)))
 refine Zf [0, 0, 3, 7, 0, 0, 32, 112, 240, 511] (tks 0 3 (.ld 3 (tks 4 4 (.ld 8 (.big 9 .done))))) Zy (by kernel_rfl) ?_
 refine Zg 2 rfl (tk rfl (PE.indexAddr Z0R rfl rfl (by omega) (by omega)) rfl (ld rfl rfl (lf0 (x := .int .i64 y) sc3 (Z0d hy) rfl) rfl (Zg 2 rfl (tk rfl (PE.sub rfl rfl (by omega)) rfl (tk rfl (PE.indexAddr Z0R rfl rfl (by omega) (by omega)) rfl (ld rfl rfl (lf0 (x := .int .i64 x) sc3 (by rw [show (((k + 1 : Nat) : Int) - 1).toNat = k from by omega]; exact Z0d hx) rfl) rfl ?_))))))
 refine clV rfl Zat rfl rfl (ZcB y x _ _) ?_
 refine bgT ?_
 refine Z1 rfl ?_ ?_ <;> intro hc1
 exact absurd hc1 (by simp; omega)
 refine Z2 (sqr 3 rfl (pur 1 rfl (sp rfl (PE.sub rfl rfl (by omega)) rfl (pur 1 rfl ?_))))
 exact Z7 ⟨k + 1, by omega⟩ idH
 refine Z9 (Za (Za (Zl (sqt 1 rfl (pur 1 rfl (Z6 ?_))))))
 exact rtA rfl rfl rfl ⟨rfl, rfl, rfl⟩ drp
end Go.Proofs.YthbjpnmclokinaaGreat
namespace Go.Proofs.YthbjpnmclokinaaGreat
set_option linter.unusedSimpArgs false
set_option linter.unusedVariables false
structure Bij (n : Nat) (R : Nat → Nat → Prop) : Prop where
  lt : ∀ u u', R u u' → u < n ∧ u' < n
  to : ∀ u, u < n → ∃ u', R u u'
  fr : ∀ u', u' < n → ∃ u, R u u'
  f : ∀ u u' v', R u u' → R u v' → u' = v'
  i : ∀ u v u', R u u' → R v u' → u = v
theorem Bij.symm {n : Nat} {R : Nat → Nat → Prop} (h : Bij n R) : Bij n fun u' u => R u u' := ⟨fun u u' h1 => (h.lt u' u h1).symm, h.fr, h.to, fun u u' v' h1 h2 => h.i u' v' u h1 h2, fun u v u' h1 h2 => h.f u' u v h1 h2⟩
structure Img (n : Nat) (R : Nat → Nat → Prop) (m m' : Nat) : Prop where
  lt : m < 2 ^ n
  lt' : m' < 2 ^ n
  bit : ∀ u u', R u u' → m.testBit u = m'.testBit u'
theorem Img.symm {n : Nat} {R : Nat → Nat → Prop} {m m' : Nat} (h : Img n R m m') : Img n (fun u' u => R u u') m' m := ⟨h.lt', h.lt, fun u u' h1 => (h.bit u' u h1).symm⟩
theorem Img.ex {n : Nat} {R : Nat → Nat → Prop} (hb : Bij n R) {m : Nat} (hm : m < 2 ^ n) : ∃ m', Img n R m m' := by
  classical
  obtain ⟨t, h1, h2⟩ := Z5s (fun u' => decide (∃ u, R u u' ∧ m.testBit u = true)) n
  refine ⟨t, hm, h1, fun u u' h => ?_⟩
  rw [h2 u', decide_eq_true (hb.lt u u' h).2, Bool.true_and, Bool.eq_iff_iff, decide_eq_true_eq]
  exact ⟨fun h3 => ⟨u, h, h3⟩, fun ⟨v, h3, h4⟩ => by rw [hb.i u v u' h h3]; exact h4⟩
theorem Img.unique {n : Nat} {R : Nat → Nat → Prop} (hb : Bij n R) {m a b : Nat} (h1 : Img n R m a) (h2 : Img n R m b) : a = b := ZH fun k => by
  rcases Nat.lt_or_ge k n with hk | hk
  · obtain ⟨u, hu⟩ := hb.fr k hk
    rw [← h1.bit u k hu, ← h2.bit u k hu]
  · rw [Z5c h1.lt' hk, Z5c h2.lt' hk]
theorem Img.zero {n : Nat} {R : Nat → Nat → Prop} : Img n R 0 0 := ⟨Nat.two_pow_pos _, Nat.two_pow_pos _, fun u u' _ => by rw [Nat.zero_testBit, Nat.zero_testBit]⟩
theorem Img.or {n : Nat} {R : Nat → Nat → Prop} {a a' b b' : Nat} (h1 : Img n R a a') (h2 : Img n R b b') : Img n R (a ||| b) (a' ||| b') := ⟨Z9G h1.lt h2.lt, Z9G h1.lt' h2.lt', fun u u' h => by rw [Nat.testBit_or, Nat.testBit_or, h1.bit u u' h, h2.bit u u' h]⟩
theorem Img.and {n : Nat} {R : Nat → Nat → Prop} (hb : Bij n R) {a a' b b' : Nat} (h1 : Img n R a a') (h2 : Img n R b b') (h : a &&& b = 0) : a' &&& b' = 0 := and_zero.2 fun k hk => by
  obtain ⟨u, hu⟩ := hb.fr k (Z0j h1.lt' hk)
  rw [← h2.bit u k hu]
  exact and_zero.1 h u (by rw [h1.bit u k hu]; exact hk)
theorem Img.cnt {n : Nat} {R : Nat → Nat → Prop} (hb : Bij n R) {m m' : Nat} (h : Img n R m m') : cnt n m = cnt n m' := by
  classical
  have hex : ∃ f : Nat → Nat, ∀ u, u < n → R u (f u) := ⟨fun u => if h : u < n then Classical.choose (hb.to u h) else 0, fun u hu => by
    dsimp only; rw [dif_pos hu]; exact Classical.choose_spec (hb.to u hu)⟩
  obtain ⟨f, hf⟩ := hex
  have hp : ((List.range n).map f).Perm (List.range n) := by
    refine (List.perm_ext_iff_of_nodup ?_ List.nodup_range).2 fun x => ?_
    · rw [List.nodup_iff_pairwise_ne, List.pairwise_map]
      refine List.pairwise_lt_range.imp_of_mem fun {a b} ha hb9 hab e => ?_
      have h1 := hf a (List.mem_range.1 ha)
      have h2 := hf b (List.mem_range.1 hb9)
      rw [← e] at h2
      have := hb.i a b _ h1 h2
      omega
    · rw [List.mem_range, List.mem_map]
      constructor
      · rintro ⟨u, hu, rfl⟩; exact (hb.lt _ _ (hf u (List.mem_range.1 hu))).2
      · intro hx
        obtain ⟨u, hu⟩ := hb.fr x hx
        have hul := (hb.lt u x hu).1
        exact ⟨u, List.mem_range.2 hul, hb.f u _ _ (hf u hul) hu⟩
  show (List.range n).countP (fun k => m.testBit k) = (List.range n).countP (fun k => m'.testBit k)
  have e1 := hp.countP_eq (fun k => m'.testBit k)
  rw [List.countP_map] at e1
  rw [← e1]
  exact List.countP_congr fun k hk => by rw [h.bit k (f k) (hf k (List.mem_range.1 hk))]; rfl
structure Sim (n : Nat) (gs gs' : List Gp) (R Q : Nat → Nat → Prop) : Prop where
  bin : Bij n R
  gap : Bij gs.length Q
  len : gs'.length = gs.length
  gp : ∀ i i' g g', Q i i' → gs[i]? = some g → gs'[i']? = some g' → R g.a.toNat g'.b.toNat ∧ R g.b.toNat g'.a.toNat
theorem Sim.symm {n : Nat} {gs gs' : List Gp} {R Q : Nat → Nat → Prop} (h : Sim n gs gs' R Q) : Sim n gs' gs (fun u' u => R u u') (fun i' i => Q i i') := ⟨h.bin.symm, by rw [h.len]; exact h.gap.symm, h.len.symm, fun i i' g g' h1 h2 h3 => by
  have := h.gp i' i g' g h1 h3 h2
  exact ⟨this.2, this.1⟩⟩
theorem Sim.wth {n : Nat} {gs gs' : List Gp} {R Q : Nat → Nat → Prop} (h : Sim n gs gs' R Q) : Wth gs n := fun g hg => by
  obtain ⟨i, hi⟩ := List.getElem?_of_mem hg
  have hl := (List.getElem?_eq_some_iff.1 hi).1
  obtain ⟨i', hq⟩ := h.gap.to i hl
  have hl' : i' < gs'.length := by rw [h.len]; exact (h.gap.lt i i' hq).2
  have h1 := h.gp i i' g gs'[i'] hq hi (List.getElem?_eq_getElem hl')
  exact ⟨(h.bin.lt _ _ h1.1).1, (h.bin.lt _ _ h1.2).1⟩
theorem Sim.adj {n : Nat} {gs gs' : List Gp} {R Q : Nat → Nat → Prop} (h : Sim n gs gs' R Q) {c c' u v u' v' : Nat} (hc : Img gs.length Q c c') (hu : R u u') (hv : R v v') (ha : Adj gs c u v) : Adj gs' c' u' v' := by
  obtain ⟨i, g, h1, h2, h3⟩ := ha
  have hl := (List.getElem?_eq_some_iff.1 h1).1
  obtain ⟨i', hq⟩ := h.gap.to i hl
  have hl' : i' < gs'.length := by rw [h.len]; exact (h.gap.lt i i' hq).2
  have h4 : gs'[i']? = some gs'[i'] := List.getElem?_eq_getElem hl'
  have h5 := h.gp i i' g _ hq h1 h4
  refine ⟨i', _, h4, by rw [← hc.bit i i' hq]; exact h2, ?_⟩
  rcases h3 with ⟨h6, h7⟩ | ⟨h6, h7⟩
  · right
    rw [h6] at h5; rw [h7] at h5
    exact ⟨(h.bin.f u _ _ h5.1 hu), (h.bin.f v _ _ h5.2 hv)⟩
  · left
    rw [h6] at h5; rw [h7] at h5
    exact ⟨(h.bin.f u _ _ h5.2 hu), (h.bin.f v _ _ h5.1 hv)⟩
theorem Sim.spr {n : Nat} {gs gs' : List Gp} {R Q : Nat → Nat → Prop} (h : Sim n gs gs' R Q) {c c' m m' : Nat} (hc : Img gs.length Q c c') (hm : Img n R m m') : Img n R (spr gs c m) (spr gs' c' m') := by
  refine ⟨Z1J h.wth hm.lt, Z1J h.symm.wth hm.lt', fun u u' hu => ?_⟩
  rw [Bool.eq_iff_iff, spr_test, spr_test]
  constructor
  · rintro (h1 | ⟨w, h1, h2⟩)
    · exact .inl (by rw [← hm.bit u u' hu]; exact h1)
    · obtain ⟨w', hw⟩ := h.bin.to w (h2.lt h.wth).1
      exact .inr ⟨w', by rw [← hm.bit w w' hw]; exact h1, h.adj hc hw hu h2⟩
  · rintro (h1 | ⟨w', h1, h2⟩)
    · exact .inl (by rw [hm.bit u u' hu]; exact h1)
    · obtain ⟨w, hw⟩ := h.bin.fr w' (h2.lt h.symm.wth).1
      exact .inr ⟨w, by rw [hm.bit w w' hw]; exact h1, h.symm.adj (by rw [h.len]; exact hc.symm) hw hu h2⟩
theorem Sim.lv {n : Nat} {gs gs' : List Gp} {R Q : Nat → Nat → Prop} (h : Sim n gs gs' R Q) {c c' m m' : Nat} (hc : Img gs.length Q c c') (hm : Img n R m m') : ∀ t, Img n R (lv gs c m t) (lv gs' c' m' t)
  | 0 => hm
  | t + 1 => h.spr hc (h.lv hc hm t)
theorem Sim.wk {n : Nat} {gs gs' : List Gp} {R Q : Nat → Nat → Prop} (h : Sim n gs gs' R Q) {c c' m m' u u' : Nat} (hc : Img gs.length Q c c') (hm : Img n R m m') (hu : R u u') : wk gs c m u = wk gs' c' m' u' := by
  unfold Go.Proofs.YthbjpnmclokinaaGreat.wk
  rw [show (fun t => (Go.Proofs.YthbjpnmclokinaaGreat.lv gs c m t).testBit u) = fun t => (Go.Proofs.YthbjpnmclokinaaGreat.lv gs' c' m' t).testBit u' from funext fun t => (h.lv hc hm t).bit u u' hu]
theorem Sim.shut {n : Nat} {gs gs' : List Gp} {R Q : Nat → Nat → Prop} (h : Sim n gs gs' R Q) {c c' S S' K K' : Nat} (hc : Img gs.length Q c c') (hS : Img n R S S') (hK : Img n R K K') (hs : Shut gs c S K) : Shut gs' c' S' K' := fun t v' hv => by
  obtain ⟨v, hr⟩ := h.bin.fr v' (Z0j (h.lv hc hS t).lt' hv)
  rw [← hK.bit v v' hr]
  exact hs t v (by rw [(h.lv hc hS t).bit v v' hr]; exact hv)
theorem Sim.cutLe {n : Nat} {gs gs' : List Gp} {R Q : Nat → Nat → Prop} (h : Sim n gs gs' R Q) {S S' K K' m m' : Nat} (hS : Img n R S S') (hK : Img n R K K') (h1 : Cut gs S K m) (h2 : Cut gs' S' K' m') : m' ≤ m := by
  obtain ⟨C, h3, h4, h5⟩ := h1.1
  obtain ⟨C', h6⟩ := Img.ex h.gap h3
  have h7 := h2.2 _ ⟨C', by rw [h.len]; exact h6.lt', h.shut h6 hS hK h4, rfl⟩
  rw [h.len, ← h6.cnt h.gap, h5] at h7; exact h7
theorem Sim.cut {n : Nat} {gs gs' : List Gp} {R Q : Nat → Nat → Prop} (h : Sim n gs gs' R Q) {S S' K K' m m' : Nat} (hS : Img n R S S') (hK : Img n R K K') (h1 : Cut gs S K m) (h2 : Cut gs' S' K' m') : m = m' := Nat.le_antisymm (h.symm.cutLe hS.symm hK.symm h2 h1) (h.cutLe hS hK h1 h2)
theorem Sim.pl {n : Nat} {gs gs' : List Gp} {R Q : Nat → Nat → Prop} (h : Sim n gs gs' R Q) {K K' sp m c k : Nat} (hK : Img n R K K') (hp : Pl gs K sp m c k) : ∀ {m' c' : Nat}, Img n R m m' → Img gs.length Q c c' → Pl gs' K' sp m' c' k := by
  induction hp with
  | @stay m c l hl hc hs he hk =>
    intro m' c' hm hc9
    obtain ⟨l', h1⟩ := Img.ex h.gap hl
    have h2 := h.spr (hc9.or h1) hm
    rw [he] at h2
    have e := h1.cnt h.gap
    rw [e]
    rw [← h.len]
    exact .stay (by rw [h.len]; exact h1.lt') (h1.and h.gap hc9 hc) (by rw [h.len, ← e]; exact hs) (h2.unique h.bin hm) (hm.and h.bin hK hk)
  | @go m c l k hl hc hs hne hk hp ih =>
    intro m' c' hm hc9
    obtain ⟨l', h1⟩ := Img.ex h.gap hl
    have h2 := h.spr (hc9.or h1) hm
    have e := h1.cnt h.gap
    rw [e]
    rw [← h.len]
    refine .go (by rw [h.len]; exact h1.lt') (h1.and h.gap hc9 hc) (by rw [h.len, ← e]; exact hs) (fun e2 => hne ?_) (h2.and h.bin hK hk) (ih h2 (hc9.or h1))
    rw [e2] at h2
    exact h2.symm.unique h.bin.symm hm.symm
theorem Sim.plan {n : Nat} {gs gs' : List Gp} {R Q : Nat → Nat → Prop} (h : Sim n gs gs' R Q) {S S' K K' sp k : Nat} (hS : Img n R S S') (hK : Img n R K K') : Pl gs K sp S 0 k ↔ Pl gs' K' sp S' 0 k :=
  ⟨fun hp => h.pl hK hp hS Img.zero, fun hp => h.symm.pl hK.symm hp hS.symm Img.zero⟩
theorem Img.map {n : Nat} {R : Nat → Nat → Prop} (hb : Bij n R) {l l' : List Int} (hl : ∀ x ∈ l, 0 ≤ x ∧ x < n) (h1 : ∀ x ∈ l, ∃ y ∈ l', R x.toNat y.toNat) (h2 : ∀ y ∈ l', 0 ≤ y ∧ ∃ x ∈ l, R x.toNat y.toNat) : Img n R (msk l) (msk l') := by
  refine ⟨Z0k hl, Z0k fun y hy => ?_, fun u u' hu => ?_⟩
  · obtain ⟨h3, x, hx, h4⟩ := h2 y hy
    have := (hb.lt _ _ h4).2
    omega
  · rw [Bool.eq_iff_iff, Zq (fun x hx => (hl x hx).1), Zq (fun y hy => (h2 y hy).1)]
    constructor
    · intro h
      obtain ⟨y, hy, h3⟩ := h1 _ h
      rw [Int.toNat_natCast] at h3
      have := hb.f u _ _ hu h3
      have h5 := (h2 y hy).1
      rw [show (u' : Int) = y by omega]; exact hy
    · intro h
      obtain ⟨_, x, hx, h3⟩ := h2 _ h
      rw [Int.toNat_natCast] at h3
      have := hb.i u _ _ hu h3
      have h5 := (hl x hx).1
      rw [show (u : Int) = x by omega]; exact hx
open Go
structure Ord (p : List Nat) (n : Nat) : Prop where
  len : p.length = n
  nd : p.Nodup
  lt : ∀ i ∈ p, i < n
theorem Ord.nil : Ord [] 0 := ⟨rfl, List.nodup_nil, by simp⟩
theorem Ord.ins {p : List Nat} {n j : Nat} (h : Ord p n) (hj : j ≤ n) : Ord (p.take j ++ n :: p.drop j) (n + 1) := by
  have hp : (p.take j ++ n :: p.drop j).Perm (n :: p) := by
    have h1 := List.perm_middle (a := n) (l₁ := p.take j) (l₂ := p.drop j)
    rwa [List.take_append_drop] at h1
  refine ⟨by rw [hp.length_eq]; simp [h.len], hp.nodup_iff.2 (List.nodup_cons.2 ⟨fun h1 => Nat.lt_irrefl _ (h.lt n h1), h.nd⟩), fun i hi => ?_⟩
  rcases List.mem_cons.1 (hp.mem_iff.1 hi) with rfl | h1
  · omega
  · have := h.lt i h1; omega
theorem Ord.bij {p : List Nat} {n : Nat} (h : Ord p n) : Bij n fun u u' => p[u]? = some u' := by
  have hl := h.len
  refine ⟨fun u u' h1 => ⟨by have := (List.getElem?_eq_some_iff.1 h1).1; omega, h.lt u' (List.mem_of_getElem? h1)⟩, fun u hu => ⟨_, List.getElem?_eq_getElem (by omega)⟩, fun u' hu => ?_, fun u u' v' h1 h2 => by rw [h1] at h2; exact Option.some.inj h2, fun u v u' h1 h2 => ?_⟩
  · have hm : u' ∈ p := Classical.byContradiction fun hn => by
      have h1 := List.Nodup.length_le_of_subset (l₁ := u' :: p) (l₂ := List.range n) (List.nodup_cons.2 ⟨hn, h.nd⟩) (fun x hx => by
        rcases List.mem_cons.1 hx with rfl | hx
        · exact List.mem_range.2 hu
        · exact List.mem_range.2 (h.lt x hx))
      rw [List.length_cons, List.length_range] at h1; omega
    exact List.getElem?_of_mem hm
  · obtain ⟨a1, a2⟩ := List.getElem?_eq_some_iff.1 h1
    obtain ⟨b1, b2⟩ := List.getElem?_eq_some_iff.1 h2
    have hp := List.nodup_iff_pairwise_ne.1 h.nd
    rcases Nat.lt_trichotomy u v with h3 | h3 | h3
    · exact absurd (a2.trans b2.symm) (List.pairwise_iff_getElem.1 hp u v a1 b1 h3)
    · exact h3
    · exact absurd (b2.trans a2.symm) (List.pairwise_iff_getElem.1 hp v u b1 a1 h3)
def inl (p : List Nat) : List Int := p.map fun (j : Nat) => (j : Int)
theorem Zb4 {p : List Nat} {u u' : Nat} (h : p[u]? = some u') : na (inl p) u = u' := Z4u (by unfold inl; rw [List.getElem?_map, h]; rfl)
def imG (p : List Nat) (g : Gp) : Gp := ⟨na (inl p) g.b.toNat, na (inl p) g.a.toNat⟩
def imS (p : List Nat) (x : Sgt) : Sgt := ⟨x.week, na (inl p) x.bin.toNat, x.seen⟩
def rnm (p : List Nat) (l : List Int) : List Int := l.map fun k => na (inl p) k.toNat
structure RnG (p s : List Nat) (gs : List Gp) (i : Nat) (G : List Gp) : Prop where
  len : G.length = gs.length
  at_ : ∀ j, j < i → ∀ g k, gs[j]? = some g → s[j]? = some k → G[k]? = some (imG p g)
theorem RnG.step {p s : List Nat} {gs G : List Gp} {i k : Nat} {g : Gp} (h : RnG p s gs i G) (hs : Ord s gs.length) (hg : gs[i]? = some g) (hk : s[i]? = some k) : RnG p s gs (i + 1) (G.set k (imG p g)) := by
  have hb := hs.bij
  have hkl := (hb.lt i k hk).2
  refine ⟨by rw [List.length_set]; exact h.len, fun j hj g' k' h1 h2 => ?_⟩
  by_cases e : j = i
  · subst e
    rw [hg] at h1; rw [hk] at h2
    obtain rfl := Option.some.inj h1
    obtain rfl := Option.some.inj h2
    exact List.getElem?_set_self (by rw [h.len]; exact hkl)
  · have hne : k ≠ k' := fun e2 => by subst e2; exact e (hb.i j i k h2 hk)
    rw [List.getElem?_set_ne hne]
    exact h.at_ j (by omega) g' k' h1 h2
structure RnS (p s : List Nat) (ss : List Sgt) (i : Nat) (S : List Sgt) : Prop where
  len : S.length = ss.length
  at_ : ∀ j, j < i → ∀ x k, ss[j]? = some x → s[j]? = some k → S[k]? = some (imS p x)
theorem RnS.step {p s : List Nat} {ss S : List Sgt} {i k : Nat} {x : Sgt} (h : RnS p s ss i S) (hs : Ord s ss.length) (hg : ss[i]? = some x) (hk : s[i]? = some k) : RnS p s ss (i + 1) (S.set k (imS p x)) := by
  have hb := hs.bij
  have hkl := (hb.lt i k hk).2
  refine ⟨by rw [List.length_set]; exact h.len, fun j hj g' k' h1 h2 => ?_⟩
  by_cases e : j = i
  · subst e
    rw [hg] at h1; rw [hk] at h2
    obtain rfl := Option.some.inj h1
    obtain rfl := Option.some.inj h2
    exact List.getElem?_set_self (by rw [h.len]; exact hkl)
  · have hne : k ≠ k' := fun e2 => by subst e2; exact e (hb.i j i k h2 hk)
    rw [List.getElem?_set_ne hne]
    exact h.at_ j (by omega) g' k' h1 h2
structure Rnm (q t : Hse) (p s r : List Nat) : Prop where
  bins : t.bins = q.bins
  op : Ord p q.bins.toNat
  os : Ord s q.gaps.length
  or : Ord r q.sights.length
  gs : RnG p s q.gaps q.gaps.length t.gaps
  ss : RnS p r q.sights q.sights.length t.sights
theorem Rnm.p {q t : Hse} {p s r : List Nat} (h : Rnm q t p s r) {u : Nat} (hu : u < q.bins.toNat) : ∃ u', p[u]? = some u' ∧ u' < q.bins.toNat ∧ na (inl p) u = u' := by
  obtain ⟨u', h1⟩ := h.op.bij.to u hu
  exact ⟨u', h1, (h.op.bij.lt u u' h1).2, Zb4 h1⟩
theorem Rnm.gap {q t : Hse} {p s r : List Nat} (h : Rnm q t p s r) {g' : Gp} (hg : g' ∈ t.gaps) : ∃ g ∈ q.gaps, g' = imG p g := by
  obtain ⟨k, hk⟩ := List.getElem?_of_mem hg
  have hkl := (List.getElem?_eq_some_iff.1 hk).1
  rw [h.gs.len] at hkl
  obtain ⟨i, hi⟩ := h.os.bij.fr k hkl
  have hil := (h.os.bij.lt i k hi).1
  have h1 := h.gs.at_ i hil _ k (List.getElem?_eq_getElem hil) hi
  rw [hk] at h1
  exact ⟨_, List.getElem_mem hil, Option.some.inj h1⟩
theorem Rnm.sgt {q t : Hse} {p s r : List Nat} (h : Rnm q t p s r) {x' : Sgt} (hx : x' ∈ t.sights) : ∃ x ∈ q.sights, x' = imS p x := by
  obtain ⟨k, hk⟩ := List.getElem?_of_mem hx
  have hkl := (List.getElem?_eq_some_iff.1 hk).1
  rw [h.ss.len] at hkl
  obtain ⟨i, hi⟩ := h.or.bij.fr k hkl
  have hil := (h.or.bij.lt i k hi).1
  have h1 := h.ss.at_ i hil _ k (List.getElem?_eq_getElem hil) hi
  rw [hk] at h1
  exact ⟨_, List.getElem_mem hil, Option.some.inj h1⟩
theorem Rnm.sgt2 {q t : Hse} {p s r : List Nat} (h : Rnm q t p s r) {x : Sgt} (hx : x ∈ q.sights) : imS p x ∈ t.sights := by
  obtain ⟨i, hi⟩ := List.getElem?_of_mem hx
  have hil := (List.getElem?_eq_some_iff.1 hi).1
  obtain ⟨k, hk⟩ := h.or.bij.to i hil
  exact List.mem_of_getElem? (h.ss.at_ i hil x k hi hk)
theorem Rnm.ok {q t : Hse} {p s r : List Nat} (h : Rnm q t p s r) (hq : q.ok) : t.ok := by
  have hb := hq.bins
  refine ⟨by rw [h.bins]; exact hb, by rw [h.gs.len]; exact hq.gl, by rw [h.ss.len]; exact hq.sl, fun g' hg => ?_, fun x' hx => ?_⟩
  · obtain ⟨g, h1, rfl⟩ := h.gap hg
    have h2 := hq.gaps g h1
    obtain ⟨a', a1, a2, a3⟩ := h.p (u := g.a.toNat) (by omega)
    obtain ⟨b', b1, b2, b3⟩ := h.p (u := g.b.toNat) (by omega)
    have hne : a' ≠ b' := fun e => by
      subst e
      have := h.op.bij.i _ _ _ a1 b1
      omega
    unfold imG
    rw [a3, b3, h.bins]
    exact ⟨by dsimp only; omega, by dsimp only; omega, by dsimp only; omega⟩
  · obtain ⟨x, h1, rfl⟩ := h.sgt hx
    have h2 := hq.sights x h1
    obtain ⟨a', a1, a2, a3⟩ := h.p (u := x.bin.toNat) (by omega)
    unfold imS
    rw [a3, h.bins]
    exact ⟨h2.1, by dsimp only; omega, by dsimp only; omega⟩
theorem Rnm.sim {q t : Hse} {p s r : List Nat} (h : Rnm q t p s r) (hq : q.ok) : Sim q.bins.toNat q.gaps t.gaps (fun u u' => p[u]? = some u') (fun i i' => s[i]? = some i') := ⟨h.op.bij, h.os.bij, h.gs.len, fun i i' g g' h1 h2 h3 => by
  have h4 := h.gs.at_ i (List.getElem?_eq_some_iff.1 h2).1 g i' h2 h1
  rw [h3] at h4
  obtain rfl := Option.some.inj h4
  have h5 := hq.gaps g (List.mem_of_getElem? h2)
  have hb := hq.bins
  obtain ⟨a', a1, a2, a3⟩ := h.p (u := g.a.toNat) (by omega)
  obtain ⟨b', b1, b2, b3⟩ := h.p (u := g.b.toNat) (by omega)
  unfold imG
  rw [a3, b3]
  exact ⟨a1, b1⟩⟩
theorem Rnm.inr {q t : Hse} {p s r : List Nat} (h : Rnm q t p s r) {l : List Int} (hl : ∀ x ∈ l, 0 ≤ x ∧ x < q.bins) : ∀ y ∈ rnm p l, 0 ≤ y ∧ y < t.bins := fun y hy => by
  obtain ⟨x, hx, rfl⟩ := List.mem_map.1 hy
  have := hl x hx
  obtain ⟨a', a1, a2, a3⟩ := h.p (u := x.toNat) (by omega)
  rw [a3, h.bins]; omega
theorem Rnm.eqv {q t : Hse} {p s r : List Nat} (h : Rnm q t p s r) {x y : Int} (hx : 0 ≤ x ∧ x < q.bins) (hy : 0 ≤ y ∧ y < q.bins) (e : na (inl p) x.toNat = na (inl p) y.toNat) : x = y := by
  obtain ⟨a', a1, a2, a3⟩ := h.p (u := x.toNat) (by omega)
  obtain ⟨b', b1, b2, b3⟩ := h.p (u := y.toNat) (by omega)
  rw [a3, b3] at e
  obtain rfl : a' = b' := by omega
  have := h.op.bij.i _ _ _ a1 b1
  omega
theorem Rnm.ls {q t : Hse} {p s r : List Nat} (h : Rnm q t p s r) {l : List Int} (hl : ∀ x ∈ l, 0 ≤ x ∧ x < q.bins) (hn : l.Nodup) : Zz t.bins (rnm p l) = 0 := Z24 (h.inr hl) (by
  unfold rnm
  rw [List.nodup_iff_pairwise_ne, List.pairwise_map]
  exact (List.nodup_iff_pairwise_ne.1 hn).imp_of_mem fun {a b} ha hb hab e => hab (h.eqv (hl a ha) (hl b hb) e))
theorem Rnm.apart {q t : Hse} {p s r : List Nat} (h : Rnm q t p s r) {l k : List Int} (hl : ∀ x ∈ l, 0 ≤ x ∧ x < q.bins) (hk : ∀ x ∈ k, 0 ≤ x ∧ x < q.bins) (ha : ∀ x ∈ l, x ∉ k) : ∀ x ∈ rnm p l, x ∉ rnm p k := fun x h1 h2 => by
  obtain ⟨y, hy, rfl⟩ := List.mem_map.1 h1
  obtain ⟨z, hz, e⟩ := List.mem_map.1 h2
  have := h.eqv (hk z hz) (hl y hy) e
  subst this
  exact ha z hy hz
theorem Rnm.ex {q t : Hse} {p s r : List Nat} (h : Rnm q t p s r) (hq : q.ok) {m m' : Nat} (hm : Img q.bins.toNat (fun u u' => p[u]? = some u') m m') : Z3L q.gaps m q.sights = Z3L t.gaps m' t.sights := by
  have hb := hq.bins
  have key : ∀ x ∈ q.sights, exS q.gaps m x = exS t.gaps m' (imS p x) := fun x hx => by
    have h1 := hq.sights x hx
    obtain ⟨a', a1, a2, a3⟩ := h.p (u := x.bin.toNat) (by omega)
    unfold exS imS
    rw [(h.sim hq).wk Img.zero hm a1, a3, Int.toNat_natCast]
  unfold Z3L
  rw [Bool.eq_iff_iff, List.all_eq_true, List.all_eq_true]
  constructor
  · intro h1 x' hx
    obtain ⟨x, h2, rfl⟩ := h.sgt hx
    rw [← key x h2]; exact h1 x h2
  · intro h1 x hx
    rw [key x hx]; exact h1 _ (h.sgt2 hx)
theorem Rnm.agr {q t : Hse} {p s r : List Nat} (h : Rnm q t p s r) (hq : q.ok) (ha : q.agr q.sights = true) : t.agr t.sights = true := by
  obtain ⟨m, h1, h2⟩ := (Z3f hq hq.sights).1 ha
  obtain ⟨m', h3⟩ := Img.ex h.op.bij h1
  have hok := h.ok hq
  exact (Z3f hok hok.sights).2 ⟨m', by rw [h.bins]; exact h3.lt', by rw [← h.ex hq h3]; exact h2⟩
end Go.Proofs.YthbjpnmclokinaaGreat
namespace Go.Proofs.YthbjpnmclokinaaGreat
set_option linter.unusedSimpArgs false
set_option linter.unusedVariables false
def Z6C (c : Nat) : List Nat → Nat
  | [] => c
  | l :: ls => Z6C (c ||| l) ls
def Z7F (gs : List Gp) (m c : Nat) : List Nat → Nat
  | [] => m
  | l :: ls => Z7F gs (spr gs (c ||| l) m) (c ||| l) ls
theorem Z7D {gs : List Gp} {cl : Nat → Nat} {ls : List Nat} {m : Nat} : ∀ (t : Nat), t ≤ ls.length → (∀ i, i < t → cl i = Z6C 0 (ls.take (i + 1))) → lvp gs cl m t = Z7F gs m 0 (ls.take t)
  | 0, _, _ => rfl
  | t + 1, ht, hc => by
    have ih := Z7D (gs := gs) (m := m) t (by omega) (fun i hi => hc i (by omega))
    have key : ∀ (ls : List Nat) (m c t : Nat), t < ls.length → Z7F gs m c (ls.take (t + 1)) = spr gs (Z6C c (ls.take (t + 1))) (Z7F gs m c (ls.take t)) := by
      intro ls
      induction ls with
      | nil => intro m c t h; cases h
      | cons l ls ih2 =>
        intro m c t h
        cases t with
        | zero => rfl
        | succ t => exact ih2 _ _ t (by simpa using h)
    show spr gs (cl t) (lvp gs cl m t) = _
    rw [key ls m 0 t (by omega), ← ih, hc t (by omega)]
theorem Z3R {gs : List Gp} {cl : Nat → Nat} {m t c : Nat} (h : ∀ i, t ≤ i → cl i = c) : ∀ j, lvp gs cl m (t + j) = lv gs c (lvp gs cl m t) j
  | 0 => rfl
  | j + 1 => by
    show spr gs (cl (t + j)) (lvp gs cl m (t + j)) = spr gs c (lv gs c (lvp gs cl m t) j)
    rw [h (t + j) (by omega), Z3R h j]
theorem Z4E {gs : List Gp} {n c m K j : Nat} (h : Wth gs n) (hm : m < 2 ^ n) (hj : n ≤ j + 1) : Shut gs c m K ↔ lv gs c m j &&& K = 0 := by
  constructor
  · intro hs; exact and_zero.2 fun v hv => hs j v hv
  · intro h0 t v hv
    rcases Nat.lt_or_ge t j with h1 | h1
    · exact and_zero.1 h0 v (Z6A (by omega) hv)
    · rw [Z29 h hm hj h1] at hv; exact and_zero.1 h0 v hv
open Go
def Z90 (l : List Int) : Bool := (List.range (l.length - 1)).all fun i => decide (na l i < na l (i + 1))
def lE (gl : Nat) (sp : Int) (l : List Int) : Int := bif !(l.all fun k => inB k 0 ((gl : Int) - 1)) then 1 else bif !Z90 l then 4 else bif decide (sp < (l.length : Int)) then 9 else 0
def plE (gl : Nat) (sp : Int) : List (List Int) → Int
  | [] => 0
  | l :: ls => bif decide (lE gl sp l ≠ 0) then lE gl sp l else plE gl sp ls
theorem plE_zero {gl : Nat} {sp : Int} : ∀ {pl : List (List Int)}, plE gl sp pl = 0 ↔ ∀ l ∈ pl, lE gl sp l = 0
  | [] => by simp [plE]
  | x :: pl => by
    unfold plE
    by_cases hx : lE gl sp x = 0
    · rw [decide_eq_false (by simpa using hx), cond_false, plE_zero, List.forall_mem_cons]
      exact ⟨fun h => ⟨hx, h⟩, fun h => h.2⟩
    · rw [decide_eq_true hx, cond_true]
      exact ⟨fun h => absurd h hx, fun h => absurd (h x (by simp)) hx⟩
theorem Ze1 {l : List Int} {i : Nat} (hi : i + 1 < l.length) (h : na l (i + 1) ≤ na l i) : Z90 l = false := by
  unfold Z90
  rw [List.all_eq_false]
  exact ⟨i, List.mem_range.2 (by omega), by simp; omega⟩
theorem ZbR {l : List Int} (h : ∀ i, i + 1 < l.length → na l i < na l (i + 1)) : Z90 l = true := by
  unfold Z90
  rw [List.all_eq_true]
  intro i hi
  exact decide_eq_true (h i (by have := List.mem_range.1 hi; omega))
theorem Zbd {gl : Nat} {sp : Int} {l : List Int} (h : lE gl sp l = 0) : (∀ x ∈ l, 0 ≤ x ∧ x < gl) ∧ Z90 l = true ∧ (l.length : Int) ≤ sp := by
  unfold lE at h
  cases h1 : l.all fun k => inB k 0 ((gl : Int) - 1) with
  | false => rw [h1] at h; cases h
  | true =>
    rw [h1] at h
    cases h2 : Z90 l with
    | false => rw [h2] at h; cases h
    | true =>
      rw [h2] at h
      by_cases h3 : sp < (l.length : Int)
      · rw [decide_eq_true h3] at h; cases h
      · refine ⟨fun x hx => ?_, rfl, by omega⟩
        have := List.all_eq_true.1 h1 x hx
        simp only [inB, Bool.and_eq_true, decide_eq_true_eq] at this; omega
def Hse.svM (h : Hse) (fr : List Int) (M : List Nat) : Nat := lv h.gaps (Z6C 0 M) (Z7F h.gaps (msk fr) 0 M) h.bins.toNat
def Hse.svB (h : Hse) (fr to_ : List Int) (pl : List (List Int)) : Bool := decide (h.svM fr (pl.map msk) &&& msk to_ = 0)
theorem Z6D (a b : List Int) : msk (a ++ b) = msk a ||| msk b := ZH fun k => by
  rw [Nat.testBit_or, Z2S, Z2S, Z2S, List.any_append]
theorem Z7N : ∀ (L : List (List Int)) (c : Nat), Z6C c (L.map msk) = c ||| msk L.flatten
  | [], c => (Nat.or_zero c).symm
  | l :: L, c => by
    rw [List.map_cons, List.flatten_cons, Z6D, ← Nat.or_assoc]
    exact Z7N L (c ||| msk l)
theorem Za9 {n : Nat} {l : List Int} (hr : ∀ x ∈ l, 0 ≤ x ∧ x < n) (hn : l.Nodup) : cnt n (msk l) = l.length := by
  rw [← Z1x, show l.length = (l.map Int.toNat).length from (List.length_map _).symm]
  refine List.Perm.length_eq ((List.perm_ext_iff_of_nodup (List.nodup_range.sublist List.filter_sublist) ?_).2 fun x => ?_)
  · rw [List.nodup_iff_pairwise_ne, List.pairwise_map]
    exact (List.nodup_iff_pairwise_ne.1 hn).imp_of_mem fun {a b} ha hb hab e => by
      have := hr a ha; have := hr b hb; omega
  · rw [List.mem_filter, List.mem_range, List.mem_map, Zq (fun k hk => (hr k hk).1)]
    constructor
    · rintro ⟨_, hx⟩; exact ⟨_, hx, Int.toNat_natCast x⟩
    · rintro ⟨y, hy, rfl⟩
      have := hr y hy
      exact ⟨by omega, by rw [show ((y.toNat : Nat) : Int) = y by omega]; exact hy⟩
theorem Z7v {h : Hse} (hk : h.ok) {fr to_ : List Int} (hf : ∀ x ∈ fr, 0 ≤ x ∧ x < h.bins) {pl : List PL} (hpl : pl.length ≤ 9) :
    (h.svB fr to_ (lls pl) = true ↔ Shut h.gaps (Z6C 0 ((lls pl).map msk)) (Z7F h.gaps (msk fr) 0 ((lls pl).map msk)) (msk to_)) ∧ (h.svB fr to_ (lls pl) = true ↔ lvp h.gaps (clP pl) (msk fr) 20 &&& msk to_ = 0) := by
  have hb := hk.bins
  have hm : msk fr < 2 ^ 7 := Z0k fun x hx => by have := hf x hx; omega
  have hw : Wth h.gaps h.bins.toNat := fun g hg => by have := hk.gaps g hg; omega
  have hml : msk fr < 2 ^ h.bins.toNat := Z0k fun x hx => by have := hf x hx; omega
  have hrl : ∀ {M : List Nat} {m c : Nat}, m < 2 ^ h.bins.toNat → Z7F h.gaps m c M < 2 ^ h.bins.toNat := fun {M} => by
    induction M with
    | nil => intro m c h; exact h
    | cons l M ih => intro m c h9; exact ih (Z1J hw h9)
  have hr := hrl (M := (lls pl).map msk) (c := 0) hml
  have hll : ((lls pl).map msk).length = pl.length := by rw [List.length_map, Z2k]
  have e1 : ∀ i, clP pl i = Z6C 0 (((lls pl).map msk).take (i + 1)) := fun i => by
    rw [← List.map_take, Z7N, Nat.zero_or]
    unfold clP Z2w lls
    rw [List.map_take]
  have e2 : lvp h.gaps (clP pl) (msk fr) pl.length = Z7F h.gaps (msk fr) 0 ((lls pl).map msk) := by
    have := Z7D (gs := h.gaps) (cl := clP pl) (ls := (lls pl).map msk) (m := msk fr) pl.length (by omega) (fun i hi => e1 i)
    rw [this, List.take_of_length_le (by omega)]
  have e3 : ∀ i, pl.length ≤ i → clP pl i = Z6C 0 ((lls pl).map msk) := fun i hi => by rw [e1, List.take_of_length_le (by omega)]
  have e4 : lvp h.gaps (clP pl) (msk fr) 20 = lv h.gaps (Z6C 0 ((lls pl).map msk)) (Z7F h.gaps (msk fr) 0 ((lls pl).map msk)) (20 - pl.length) := by
    have := Z3R (gs := h.gaps) (m := msk fr) e3 (20 - pl.length)
    rw [show pl.length + (20 - pl.length) = 20 by omega, e2] at this; exact this
  have s1 := Z4E (c := Z6C 0 ((lls pl).map msk)) (K := msk to_) hw hr (j := h.bins.toNat) (by omega)
  have s2 := Z4E (c := Z6C 0 ((lls pl).map msk)) (K := msk to_) hw hr (j := 20 - pl.length) (by omega)
  have k1 : h.svB fr to_ (lls pl) = true ↔ lv h.gaps (Z6C 0 ((lls pl).map msk)) (Z7F h.gaps (msk fr) 0 ((lls pl).map msk)) h.bins.toNat &&& msk to_ = 0 := by
    unfold Hse.svB Hse.svM
    rw [decide_eq_true_eq]
  exact ⟨k1.trans s1.symm, by rw [e4]; exact k1.trans (s1.symm.trans s2)⟩
theorem ZaU {gl : Nat} {sp : Int} {l : List Int} (h : (!(l.all fun k => inB k 0 ((gl : Int) - 1))) = false) (h2 : Z90 l = true) : lE gl sp l = bif decide (sp < (l.length : Int)) then 9 else 0 := by unfold lE; rw [h, h2]; rfl
theorem Zc9 {α : Type} {l : List α} {k : Nat} {x : α} (h : l[k]? = some x) : l.take (k + 1) = l.take k ++ [x] := by rw [List.take_add_one, h]; rfl
end Go.Proofs.YthbjpnmclokinaaGreat
namespace Go.Proofs.YthbjpnmclokinaaGreat
set_option linter.unusedSimpArgs false
set_option linter.unusedVariables false
structure Lm (l : List Int) (m : Nat) : Prop where
  rg : ∀ x ∈ l, 0 ≤ x ∧ x < 7
  nd : l.Nodup
  ms : msk l = m
theorem Zbf (l : List Int) (x : Int) : msk (l ++ [x]) = msk l ||| 2 ^ x.toNat := by
  unfold msk
  rw [List.foldl_append]; rfl
theorem Lm.has {l : List Int} {m : Nat} (h : Lm l m) {x : Int} (hx : 0 ≤ x) : Z0r l x = m.testBit x.toNat := by
  rw [← h.ms, Bool.eq_iff_iff, hasI_iff, Zq (fun k hk => (h.rg k hk).1), show ((x.toNat : Nat) : Int) = x by omega]
theorem Lm.add {l : List Int} {m : Nat} (h : Lm l m) {x : Int} (hx : 0 ≤ x ∧ x < 7) (hn : Z0r l x = false) : Lm (l ++ [x]) (m ||| 2 ^ x.toNat) := by
  refine ⟨fun y hy => ?_, ?_, by rw [Zbf, h.ms]⟩
  · rcases List.mem_append.1 hy with h1 | h1
    · exact h.rg y h1
    · rw [List.mem_singleton.1 h1]; exact hx
  · refine List.nodup_append.2 ⟨h.nd, by simp, fun a ha b hb e => ?_⟩
    rw [List.mem_singleton] at hb
    subst hb; subst e
    rw [hasI_iff.2 ha] at hn; cases hn
theorem ZcZ {m v : Nat} (h : m.testBit v = true) : m ||| 2 ^ v = m := ZH fun k => by
  rw [Nat.testBit_or, Nat.testBit_two_pow]
  by_cases e : v = k
  · subst e; rw [h]; rfl
  · rw [decide_eq_false e, Bool.or_false]
theorem Lm.way {l : List Int} {m : Nat} (h : Lm l m) {x : Int} (hx : 0 ≤ x ∧ x < 7) (p : Bool) : Lm (bif p && !Z0r l x then l ++ [x] else l) (m ||| (bif p then 2 ^ x.toNat else 0)) := by
  cases p with
  | false => rw [Bool.false_and, cond_false, cond_false, Nat.or_zero]; exact h
  | true =>
    rw [Bool.true_and, cond_true]
    cases hb : Z0r l x with
    | false => rw [Bool.not_false, cond_true]; exact h.add hx hb
    | true =>
      rw [Bool.not_true, cond_false]
      rw [h.has hx.1] at hb
      rw [ZcZ hb]; exact h
theorem Lm.len {l : List Int} {m : Nat} (h : Lm l m) : l.length = cnt 7 m := by
  rw [← Z1x, show l.length = (l.map Int.toNat).length from (List.length_map _).symm]
  refine List.Perm.length_eq ((List.perm_ext_iff_of_nodup ?_ (List.nodup_range.sublist List.filter_sublist)).2 fun x => ?_)
  · rw [List.nodup_iff_pairwise_ne, List.pairwise_map]
    exact (List.nodup_iff_pairwise_ne.1 h.nd).imp_of_mem fun {a b} ha hb hab e => by
      have := h.rg a ha; have := h.rg b hb; omega
  · rw [List.mem_filter, List.mem_range, List.mem_map, ← h.ms, Zq (fun k hk => (h.rg k hk).1)]
    constructor
    · rintro ⟨y, hy, rfl⟩
      have := h.rg y hy
      exact ⟨by omega, by rw [show ((y.toNat : Nat) : Int) = y by omega]; exact hy⟩
    · rintro ⟨_, hx⟩; exact ⟨_, hx, Int.toNat_natCast x⟩
theorem Lm.few {l : List Int} {m : Nat} (h : Lm l m) : l.length ≤ 7 := by rw [h.len]; exact Z1L _ _
theorem Lm.lt {l : List Int} {m : Nat} (h : Lm l m) : m < 2 ^ 7 := by rw [← h.ms]; exact Z0k h.rg
theorem Lm.of {n : Int} {l : List Int} (hn : n ≤ 7) (h : Zz n l = 0) : Lm l (msk l) := by
  unfold Zz at h
  cases h1 : l.all fun k => inB k 0 (n - 1) with
  | false => rw [h1] at h; cases h
  | true =>
    rw [h1] at h
    cases h2 : (List.range l.length).any (Z4y l) with
    | true => rw [h2] at h; cases h
    | false =>
      refine ⟨fun x hx => ?_, ?_, rfl⟩
      · have := List.all_eq_true.1 h1 x hx
        simp only [inB, Bool.and_eq_true, decide_eq_true_eq] at this; omega
      · rw [List.nodup_iff_pairwise_ne, List.pairwise_iff_getElem]
        intro i j hi hj hij e
        have h3 := List.any_eq_false.1 h2 j (List.mem_range.2 hj)
        apply h3
        unfold Z4y
        rw [hasI_iff, show na l j = l[j] from by unfold na; rw [List.getD_eq_getElem?_getD, List.getElem?_eq_getElem hj]; rfl, ← e]
        exact List.mem_of_getElem? (by rw [List.getElem?_take, if_pos hij, List.getElem?_eq_getElem hi])
def fw (gs : List Gp) (c m w k : Nat) : Int := match (List.range w).find? fun t => (lv gs c m t).testBit k with
  | some t => (t : Int)
  | none => -1
theorem Zbk (gs : List Gp) (c m k : Nat) : fw gs c m 0 k = -1 := rfl
theorem Z1z (gs : List Gp) (c m w k : Nat) : (∃ t : Nat, t < w ∧ fw gs c m w k = t ∧ (lv gs c m t).testBit k = true ∧ ∀ i : Nat, i < t → (lv gs c m i).testBit k = false) ∨ (fw gs c m w k = -1 ∧ ∀ i : Nat, i < w → (lv gs c m i).testBit k = false) := by
  unfold fw
  rcases hf : (List.range w).find? fun t => (lv gs c m t).testBit k with _ | t
  · refine .inr ⟨rfl, fun i hi => ?_⟩
    have := List.find?_eq_none.1 hf i (List.mem_range.2 hi)
    simpa using this
  · obtain ⟨h1, lp, lq, h2, h3⟩ := List.find?_eq_some_iff_append.1 hf
    have hm : t ∈ List.range w := by rw [h2]; simp
    refine .inl ⟨t, List.mem_range.1 hm, rfl, h1, fun i hi => ?_⟩
    have hi7 : i ∈ List.range w := List.mem_range.2 (by have := List.mem_range.1 hm; omega)
    have hp := List.pairwise_lt_range (n := w)
    rw [h2] at hi7 hp
    rw [List.pairwise_append] at hp
    rcases List.mem_append.1 hi7 with h4 | h4
    · have := h3 i h4; simpa using this
    · rcases List.mem_cons.1 h4 with rfl | h4
      · omega
      · have := (List.pairwise_cons.1 hp.2.1).1 i h4; omega
theorem ZbO {gs : List Gp} {c m w k : Nat} : fw gs c m (w + 1) k = bif decide (0 ≤ fw gs c m w k) then fw gs c m w k else bif (lv gs c m w).testBit k then (w : Int) else -1 := by
  rcases Z1z gs c m w k with ⟨t, h1, h2, h3, h4⟩ | ⟨h1, h2⟩
  · rw [h2, decide_eq_true (by omega), cond_true]
    rcases Z1z gs c m (w + 1) k with ⟨t', g1, g2, g3, g4⟩ | ⟨g1, g2⟩
    · rw [g2]
      rcases Nat.lt_trichotomy t t' with h | h | h
      · rw [g4 t h] at h3; cases h3
      · rw [h]
      · rw [h4 t' h] at g3; cases g3
    · rw [g2 t (by omega)] at h3; cases h3
  · rw [h1, decide_eq_false (by decide), cond_false]
    rcases Z1z gs c m (w + 1) k with ⟨t', g1, g2, g3, g4⟩ | ⟨g1, g2⟩
    · have : t' = w := by
        rcases Nat.lt_or_ge t' w with h | h
        · rw [h2 t' h] at g3; cases g3
        · omega
      subst this
      rw [g2, g3]; rfl
    · rw [g1, g2 w (by omega)]; rfl
def wkC (gs : List Gp) (c m k : Nat) : Int := bif decide (far ≤ wk gs c m k) then -1 else wk gs c m k
theorem Zf4 {gs : List Gp} {c m n k : Nat} (hn7 : n ≤ 7) (hn1 : 1 ≤ n) (hw : Wth gs n) (hm : m < 2 ^ n) : fw gs c m n k = wkC gs c m k := by
  unfold wkC
  rcases Z0F gs c m k with ⟨t, h1, h2, h3, h4⟩ | ⟨h1, h2⟩
  · rw [h2, decide_eq_false (by unfold far; omega), cond_false]
    rcases Z1z gs c m n k with ⟨t', g1, g2, g3, g4⟩ | ⟨g1, g2⟩
    · rw [g2]
      rcases Nat.lt_trichotomy t t' with h | h | h
      · rw [g4 t h] at h3; cases h3
      · rw [h]
      · rw [h4 t' h] at g3; cases g3
    · rcases Nat.lt_or_ge t n with h | h
      · rw [g2 t h] at h3; cases h3
      · rw [Z29 hw hm (t := n - 1) (by omega) (by omega), g2 (n - 1) (by omega)] at h3; cases h3
  · rw [h1, decide_eq_true (Int.le_refl _), cond_true]
    rcases Z1z gs c m n k with ⟨t', g1, g2, g3, g4⟩ | ⟨g1, g2⟩
    · rw [h2 t' (by omega)] at g3; cases g3
    · exact g1
def wkL (gs : List Gp) (c m n : Nat) : List Int := (List.range n).map (wkC gs c m)
theorem ZbX (gs : List Gp) (c m n : Nat) : (wkL gs c m n).length = n := by simp [wkL]
structure RwI (gs : List Gp) (c m n w : Nat) (met : List Int) (o : List Int) : Prop where
  len : o.length = n
  at_ : ∀ k < n, na o k = bif decide (0 ≤ fw gs c m w k) then fw gs c m w k else bif Z0r met (k : Int) then (w : Int) else -1
theorem RwI.put {gs : List Gp} {c m n w : Nat} {met o : List Int} {x : Int} (h : RwI gs c m n w met o) (hx : 0 ≤ x ∧ x.toNat < n) (hn : na o x.toNat < 0) : RwI gs c m n w (met ++ [x]) (o.set x.toNat (w : Int)) := by
  have hl := h.len
  refine ⟨by rw [List.length_set]; exact hl, fun k hk => ?_⟩
  have h1 := h.at_ k hk
  by_cases e : x.toNat = k
  · subst e
    have e1 : na (o.set x.toNat (w : Int)) x.toNat = (w : Int) := by unfold na; rw [List.getD_eq_getElem?_getD, List.getElem?_set_self (by omega)]; rfl
    rw [e1]
    have h2 : ¬ 0 ≤ fw gs c m w x.toNat := fun h9 => by rw [decide_eq_true h9, cond_true] at h1; omega
    rw [decide_eq_false h2, cond_false, show ((x.toNat : Nat) : Int) = x by omega, hasI_iff.2 (List.mem_append_right _ (by simp))]; rfl
  · have e1 : na (o.set x.toNat (w : Int)) k = na o k := by unfold na; simp only [List.getD_eq_getElem?_getD, List.getElem?_set_ne e]
    have e2 : Z0r (met ++ [x]) (k : Int) = Z0r met (k : Int) := by
      rw [Bool.eq_iff_iff, hasI_iff, hasI_iff, List.mem_append, List.mem_singleton]
      exact ⟨fun h9 => h9.resolve_right (fun e9 => by omega), .inl⟩
    rw [e1, e2]; exact h1
theorem RwI.skip {gs : List Gp} {c m n w : Nat} {met o : List Int} {x : Int} (h : RwI gs c m n w met o) (hx : 0 ≤ x ∧ x.toNat < n) (hn : 0 ≤ na o x.toNat) : RwI gs c m n w (met ++ [x]) o := by
  refine ⟨h.len, fun k hk => ?_⟩
  have h1 := h.at_ k hk
  by_cases e : x.toNat = k
  · subst e
    rw [h1]
    rw [h1] at hn
    by_cases h2 : 0 ≤ fw gs c m w x.toNat
    · rw [decide_eq_true h2]; rfl
    · rw [decide_eq_false h2, cond_false] at hn ⊢
      rw [cond_false, hasI_iff.2 (show ((x.toNat : Nat) : Int) ∈ met ++ [x] from List.mem_append_right _ (by simp; omega))]
      cases h3 : Z0r met ((x.toNat : Nat) : Int) with
      | true => rfl
      | false => rw [h3] at hn; exact absurd hn (show ¬ (0 : Int) ≤ -1 by decide)
  · have e2 : Z0r (met ++ [x]) (k : Int) = Z0r met (k : Int) := by
      rw [Bool.eq_iff_iff, hasI_iff, hasI_iff, List.mem_append, List.mem_singleton]
      exact ⟨fun h9 => h9.resolve_right (fun e9 => by omega), .inl⟩
    rw [e2]; exact h1
theorem RwI.week {gs : List Gp} {c m n w : Nat} {now o : List Int} (h : RwI gs c m n w now o) (hn : Lm now (lv gs c m w)) : RwI gs c m n (w + 1) [] o := ⟨h.len, fun k hk => by
  rw [h.at_ k hk, ZbO, hn.has (by omega), Int.toNat_natCast]
  cases h1 : decide (0 ≤ fw gs c m w k) with
  | true => rw [cond_true, h1]; rfl
  | false =>
    rw [cond_false]
    cases (lv gs c m w).testBit k with
    | true => rw [cond_true, decide_eq_true (show (0 : Int) ≤ (w : Int) by omega)]; rfl
    | false => rfl⟩
theorem RwI.done {gs : List Gp} {c m n : Nat} {o : List Int} (h : RwI gs c m n n [] o) (hn7 : n ≤ 7) (hn1 : 1 ≤ n) (hw : Wth gs n) (hm : m < 2 ^ n) : o = wkL gs c m n := by
  apply List.ext_getElem?
  intro k
  rcases Nat.lt_or_ge k n with hk | hk
  · have h1 := h.at_ k hk
    have h2 : o[k]? = some (na o k) := by unfold na; rw [List.getD_eq_getElem?_getD, List.getElem?_eq_getElem (by rw [h.len]; exact hk)]; rfl
    rw [h2, h1]
    unfold wkL
    rw [List.getElem?_map, List.getElem?_range hk]
    show some _ = some (wkC gs c m k)
    rw [← Zf4 hn7 hn1 hw hm]
    by_cases h3 : 0 ≤ fw gs c m n k
    · rw [decide_eq_true h3]; rfl
    · rw [decide_eq_false h3]
      rcases Z1z gs c m n k with ⟨t, _, h4, _⟩ | ⟨h4, _⟩
      · omega
      · rw [h4]; rfl
  · rw [List.getElem?_eq_none (by rw [h.len]; exact hk), List.getElem?_eq_none (by rw [ZbX]; exact hk)]
open Go
theorem Zfd : cal Tryz.prog 11 = true := by kernel_rfl
theorem Zd0 : cal Tryz.prog 129 = true := by kernel_rfl
theorem ZdL : cal Tryz.prog 132 = true := by kernel_rfl
theorem ZdA : cal Tryz.prog 133 = true := by kernel_rfl
theorem Zbz : cal Tryz.prog 14 = true := by kernel_rfl
theorem Zej : cal Tryz.prog 160 = true := by kernel_rfl
theorem Zdd : cal Tryz.prog 169 = true := by kernel_rfl
theorem Zff : cal Tryz.prog 54 = true := by kernel_rfl
theorem ZbY : cal Tryz.prog 55 = true := by kernel_rfl
theorem ZbC : cal Tryz.prog 56 = true := by kernel_rfl
theorem Zcb : cal Tryz.prog 58 = true := by kernel_rfl
theorem Zbe : cal Tryz.prog 59 = true := by kernel_rfl
theorem ZdD : cal Tryz.prog 64 = true := by kernel_rfl
theorem Zf0 : Z91 Tryz.prog 172 = some .u64 := by kernel_rfl
theorem ik5 : Z91 Tryz.prog 5 = some .u8 := by kernel_rfl
theorem Zfb : ZbD Tryz.prog 9 = true := by kernel_rfl
theorem Zf1 : (Tryz.prog.underlying 193).isSome = true := by kernel_rfl
theorem RwI.start (gs : List Gp) (c m B : Nat) : RwI gs c m B 0 [] (List.replicate B (-1)) := ⟨List.length_replicate, fun k hk => by
  rw [Zbk]
  unfold na
  rw [List.getD_eq_getElem?_getD, List.getElem?_replicate, if_pos hk]; rfl⟩
end Go.Proofs.YthbjpnmclokinaaGreat
namespace Go.Proofs.YthbjpnmclokinaaGreat
set_option linter.unusedSimpArgs false
set_option linter.unusedVariables false
def Stp1 (gs : List Gp) (K sp m c l n : Nat) : Prop := l &&& c = 0 ∧ cnt gs.length l ≤ sp ∧ spr gs (c ||| l) m &&& K = 0 ∧ ((spr gs (c ||| l) m = m ∧ n = cnt gs.length l) ∨ (spr gs (c ||| l) m ≠ m ∧ ∃ k, n = cnt gs.length l + k ∧ Lst (Pl gs K sp (spr gs (c ||| l) m) (c ||| l)) k))
def FwQ (gs : List Gp) (K sp m c : Nat) (x : Int) : Prop := (∃ n : Nat, Lst (Pl gs K sp m c) n ∧ x = n) ∨ ((∀ n, ¬ Pl gs K sp m c n) ∧ x = -1)
structure FwI (gs : List Gp) (K sp m c s : Nat) (x : Int) : Prop where
  lo : ∀ l, l < s → ∀ n, Stp1 gs K sp m c l n → 0 ≤ x ∧ x ≤ n
  is : x = -1 ∨ ∃ l n : Nat, l < s ∧ Stp1 gs K sp m c l n ∧ x = n
theorem FwI.start (gs : List Gp) (K sp m c : Nat) : FwI gs K sp m c 0 (-1) := ⟨fun l hl => absurd hl (Nat.not_lt_zero _), .inl rfl⟩
theorem FwI.skip {gs : List Gp} {K sp m c s : Nat} {x : Int} (h : FwI gs K sp m c s x) (hn : ∀ n, ¬ Stp1 gs K sp m c s n) : FwI gs K sp m c (s + 1) x := by
  refine ⟨fun l hl n hs => ?_, h.is.imp id fun ⟨l, n, h1, h2⟩ => ⟨l, n, by omega, h2⟩⟩
  rcases Nat.lt_or_ge l s with h1 | h1
  · exact h.lo l h1 n hs
  · obtain rfl : l = s := by omega
    exact absurd hs (hn n)
theorem Stp1.unique {gs : List Gp} {K sp m c l n n' : Nat} (h : Stp1 gs K sp m c l n) (h' : Stp1 gs K sp m c l n') : n = n' := by
  obtain ⟨_, _, _, h4⟩ := h
  obtain ⟨_, _, _, h5⟩ := h'
  rcases h4 with ⟨h1, h2⟩ | ⟨h1, k, h2, h3⟩ <;> rcases h5 with ⟨g1, g2⟩ | ⟨g1, k', g2, g3⟩
  · omega
  · exact absurd h1 g1
  · exact absurd g1 h1
  · rw [h2, g2, h3.unique g3]
theorem FwI.take {gs : List Gp} {K sp m c s n : Nat} {x : Int} (h : FwI gs K sp m c s x) (hs : Stp1 gs K sp m c s n) (hx : x < 0 ∨ (n : Int) < x) : FwI gs K sp m c (s + 1) n := by
  refine ⟨fun l hl n' hs' => ?_, .inr ⟨s, n, by omega, hs, rfl⟩⟩
  rcases Nat.lt_or_ge l s with h1 | h1
  · have := h.lo l h1 n' hs'
    omega
  · obtain rfl : l = s := by omega
    rw [hs'.unique hs]; omega
theorem Stp1.pl {gs : List Gp} {K sp m c l n : Nat} (hl : l < 2 ^ gs.length) (h : Stp1 gs K sp m c l n) : Pl gs K sp m c n := by
  obtain ⟨h1, h2, h3, h4⟩ := h
  rcases h4 with ⟨h5, rfl⟩ | ⟨h5, k, rfl, h6⟩
  · exact .stay hl h1 h2 h5 (by rw [h5] at h3; exact h3)
  · exact .go hl h1 h2 h5 h3 h6.1
theorem FwI.done {gs : List Gp} {K sp m c : Nat} {x : Int} (h : FwI gs K sp m c (2 ^ gs.length) x) : FwQ gs K sp m c x := by
  have key : ∀ n, Pl gs K sp m c n → ∃ l n', l < 2 ^ gs.length ∧ n' ≤ n ∧ Stp1 gs K sp m c l n' := fun n hp => by
    obtain ⟨l, h1, h2, h3, h4, h5⟩ := hp.cons_inv
    rcases h5 with ⟨h6, h7⟩ | ⟨h6, k, h7, h8⟩
    · exact ⟨l, n, h1, Nat.le_refl _, h2, h3, h4, .inl ⟨h6, h7⟩⟩
    · obtain ⟨k', h9, h10⟩ := Lst.ex h8
      exact ⟨l, cnt gs.length l + k', h1, by omega, h2, h3, h4, .inr ⟨h6, k', rfl, h9⟩⟩
  rcases h.is with h1 | ⟨l, n, h1, h2, h3⟩
  · refine .inr ⟨fun n hp => ?_, h1⟩
    obtain ⟨l, n', h2, _, h4⟩ := key n hp
    have := h.lo l h2 n' h4
    omega
  · refine .inl ⟨n, ⟨h2.pl h1, fun k hp => ?_⟩, h3⟩
    obtain ⟨l', n', g1, g2, g3⟩ := key k hp
    have := h.lo l' g1 n' g3
    omega
structure CtI (gs : List Gp) (S K s b : Nat) : Prop where
  lo : ∀ l, l < s → Shut gs l S K → b ≤ cnt gs.length l
  is : b = gs.length ∨ ∃ l, l < s ∧ Shut gs l S K ∧ cnt gs.length l = b
  le : b ≤ gs.length
theorem CtI.start (gs : List Gp) (S K : Nat) : CtI gs S K 0 gs.length := ⟨fun l hl => absurd hl (Nat.not_lt_zero _), .inl rfl, Nat.le_refl _⟩
theorem CtI.skip {gs : List Gp} {S K s b : Nat} (h : CtI gs S K s b) (hn : b ≤ cnt gs.length s ∨ ¬ Shut gs s S K) : CtI gs S K (s + 1) b := by
  refine ⟨fun l hl hs => ?_, h.is.imp id fun ⟨l, h1, h2⟩ => ⟨l, by omega, h2⟩, h.le⟩
  rcases Nat.lt_or_ge l s with h1 | h1
  · exact h.lo l h1 hs
  · obtain rfl : l = s := by omega
    exact hn.resolve_right (fun h9 => h9 hs)
theorem CtI.take {gs : List Gp} {S K s b : Nat} (h : CtI gs S K s b) (hb : cnt gs.length s < b) (hs : Shut gs s S K) : CtI gs S K (s + 1) (cnt gs.length s) := by
  refine ⟨fun l hl hs' => ?_, .inr ⟨s, by omega, hs, rfl⟩, by have := h.le; omega⟩
  rcases Nat.lt_or_ge l s with h1 | h1
  · have := h.lo l h1 hs'; omega
  · obtain rfl : l = s := by omega
    exact Nat.le_refl _
theorem CtI.done {gs : List Gp} {S K b : Nat} (ht : Two gs S K) (h : CtI gs S K (2 ^ gs.length) b) : Cut gs S K b := by
  refine ⟨?_, fun n ⟨C, h1, h2, h3⟩ => by rw [← h3]; exact h.lo C h1 h2⟩
  rcases h.is with h1 | h1
  · have hp := Nat.two_pow_pos gs.length
    refine ⟨2 ^ gs.length - 1, by omega, Z65 ht, ?_⟩
    rw [h1]
    unfold cnt
    rw [List.countP_eq_length.2, List.length_range]
    intro k hk
    rw [Nat.testBit_two_pow_sub_one]
    exact decide_eq_true (List.mem_range.1 hk)
  · obtain ⟨l, g1, g2, g3⟩ := h1
    exact ⟨l, g1, g2, g3⟩
theorem ZbM {gs : List Gp} {c S K : Nat} (hw : Wth gs 7) (hS : S < 2 ^ 7) (hK : K < 2 ^ 7) : Shut gs c S K ↔ ∀ k, K.testBit k = true → wkC gs c S k < 0 := by
  constructor
  · intro hs k hk
    unfold wkC
    rcases Z0F gs c S k with ⟨t, _, h2, h3, _⟩ | ⟨h1, _⟩
    · rw [hs t k h3] at hk; cases hk
    · rw [h1, decide_eq_true (Int.le_refl _)]; decide
  · intro h t v hv
    cases hk : K.testBit v with
    | false => rfl
    | true =>
      have h1 := h v hk
      unfold wkC at h1
      have h2 : (lv gs c S 6).testBit v = true := by
        rcases Nat.lt_or_ge t 6 with h3 | h3
        · exact Z6A (by omega) hv
        · rw [Z29 hw hS (t := 6) (by decide) h3] at hv; exact hv
      have h3 := (Z72 hw hS (t := 6) (by unfold far; decide)).2 h2
      rw [decide_eq_false (by unfold far; omega), cond_false] at h1
      have := Z5h gs c S v
      omega
open Go
theorem Z3a (xs : List Int) (a : Option Addr) (c : Nat) (hl : xs.length ≤ 1000000) (H : Z8) (R : Z5) [hR : MemRows a 1 (Z3 xs) R] :
    Fn Tryz.prog 14 [.slice a xs.length c] H R (fun v H' R' => ∃ o : OSl 3 1 (Z3 xs), v = o.fs ∧ o.here ∧ H' = o.G ++ H ∧ R' = R) := by
 refine Ze Tryz.func14 rfl Tryz.ntmps14 rfl ?_
 refine sqt 1 rfl (pur 1 rfl (sqt 6 rfl (pur 1 rfl (sp rfl (PE.lenSl Zw rfl) rfl ?_))))
 refine mkO rfl Z2s zl3 rfl rfl ⟨by omega, by omega⟩ rfl (fun o ho => ?_)
 refine pur 1 rfl ?_
 refine ZfD (news := Z3 xs) o rfl Z2s rfl rfl (Z6B) (by simp [Z3]) (by simp [ZZ, Z3, Value.oneCell']) ⟨by simp [Z3]; omega, by simp [Z3]; omega⟩ rfl ho (fun o2 ho2 => ?_)
 refine pur 1 rfl (Z6 ?_)
 exact rtA rfl rfl rfl ⟨o2.cast (by simp), rfl, ho2, rfl, rfl⟩ idH
theorem Z94 {b e : Nat} {l : List Value} {T : Z8} {R R' : Z5} {w : World} (h : St T (Z6H b (cel e l) R :: R') w) : b ∉ ids T := fun hb => by
  have h0 := (h.now (f := Z6H b (cel e l) R) (by simp)).1
  have hlt : b < w.heap.size := (Array.getElem?_eq_some_iff.1 h0).1
  have k1 : Keep (ids T) w { w with heap := w.heap.setIfInBounds b (.deferred (some [])) } := ⟨rfl, rfl, rfl, by simp, fun i hi hn => by
    show (w.heap.setIfInBounds b _)[i]? = _
    rw [Array.getElem?_setIfInBounds_ne (fun e => by subst e; exact hn hb)]⟩
  have h1 := (h.fact _ (by simp : Z6H b (cel e l) R ∈ Z6H b (cel e l) R :: R') _ k1).1
  have h2 : (w.heap.setIfInBounds b (.deferred (some [])))[b]? = some (cel e l) := h1
  rw [Array.getElem?_setIfInBounds_self_of_lt hlt] at h2
  cases h2
theorem Lm.grow {l l2 : List Int} {gs : List Gp} {c m : Nat} (h1 : Lm l m) (h2 : Lm l2 (spr gs c m)) : l.length < l2.length ↔ spr gs c m ≠ m := by
  rw [h1.len, h2.len]
  constructor
  · intro h e; rw [e] at h; exact Nat.lt_irrefl _ h
  · intro h
    have hex : ∃ k, (spr gs c m).testBit k = true ∧ m.testBit k = false := Classical.byContradiction fun hn => h (ZH fun k => by
      cases hb : m.testBit k with
      | true => exact Z0e hb
      | false =>
        cases hb2 : (spr gs c m).testBit k with
        | false => rfl
        | true => exact absurd ⟨k, hb2, hb⟩ hn)
    obtain ⟨k, h3, h4⟩ := hex
    unfold cnt
    exact Z1X (fun x _ hx => Z0e hx) ⟨k, List.mem_range.2 (Z0j h2.lt h3), h3, h4⟩
theorem Zbi (s : Nat) : (Z08 s).Nodup := by
  unfold Z08
  rw [List.nodup_iff_pairwise_ne, List.pairwise_map]
  exact (List.nodup_iff_pairwise_ne.1 (List.nodup_range.sublist List.filter_sublist)).imp fun h e => h (by omega)
theorem ZaI {l : List Int} {n : Nat} (h : ∀ x ∈ l, 0 ≤ x ∧ x < (n : Int)) (hn : l.Nodup) : l.length ≤ n := by rw [← Za9 h hn]; exact Z1L _ _
def ZaN (gl : Nat) (sp : Int) (pl : List (List Int)) : Int := bif decide (9 < pl.length) then 2 else bif decide (plE gl sp pl ≠ 0) then plE gl sp pl else Zz (gl : Int) pl.flatten
theorem Z84 {gl : Nat} {sp : Int} {pl : List (List Int)} (h : 9 < pl.length) : ZaN gl sp pl = 2 := by unfold ZaN; rw [decide_eq_true h]; rfl
theorem Zb1 {gl : Nat} {sp : Int} {pl : List (List Int)} (h : ¬ 9 < pl.length) (h2 : plE gl sp pl ≠ 0) : ZaN gl sp pl = plE gl sp pl := by unfold ZaN; rw [decide_eq_false h, decide_eq_true h2]; rfl
theorem Z7e {gl : Nat} {sp : Int} {pl : List (List Int)} (h : ¬ 9 < pl.length) (h2 : plE gl sp pl = 0) : ZaN gl sp pl = Zz (gl : Int) pl.flatten := by unfold ZaN; rw [decide_eq_false h, h2]; rfl
theorem Z5U (pl : List PL) : Z2w pl pl.length = (lls pl).flatten := by unfold Z2w lls; rw [List.take_length]
end Go.Proofs.YthbjpnmclokinaaGreat
