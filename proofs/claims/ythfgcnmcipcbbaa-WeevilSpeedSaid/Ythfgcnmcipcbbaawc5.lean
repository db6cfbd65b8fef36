/- Walks of the functions of the program, and the laws that join them: what the last theorem of this claim needs, in order. -/
import Derived.Test.Ythfgcnmcipcbbaawc4
namespace Go.Proofs.Ythfgcnmcipcbbaa
set_option linter.unusedSimpArgs false
set_option linter.unusedVariables false
open Go
theorem Z9u : cal Try.prog 24 = true := by kernel_rfl
def ZdP (h : Hse) (fr to_ : List Int) (H : Z7) (R : Z3) : Value → Z7 → Z3 → Prop := fun v H' R' => H' = H ∧ R' = R ∧ ((h.botE fr to_ ≠ 0 ∧ v = .tuple #[.int .i64 0, .int .i64 (h.botE fr to_)]) ∨
  (h.botE fr to_ = 0 ∧ ∃ s : Nat, s ≤ 10 ∧ (∃ n, Pl h.gaps (msk to_) s (msk fr) 0 n) ∧ (∀ s', s' < s → ∀ n, ¬ Pl h.gaps (msk to_) s' (msk fr) 0 n) ∧ v = .tuple #[.int .i64 (s : Int), .int .i64 0]))
theorem Z4D {h : Hse} {fr to_ : List Int} {s : Nat} (hb : h.botE fr to_ = 0) (hs : s ≤ 10) : h.rcE fr to_ (s : Int) = 0 := by
  have : inB (s : Int) 0 10 = true := by simp [inB]; omega
  unfold Hse.rcE; rw [hb, this]; rfl
theorem Z3u {h : Hse} {fr to_ : List Int} (hb : h.Bot fr to_) : Two h.gaps (msk fr) (msk to_) := by
  obtain ⟨q1, q2, q3, q4, q5, q6⟩ := Z11 hb
  have hok := hb.ok
  exact ⟨fun g hg => by have := hok.gaps g hg; have := hok.bins; omega, fun i g hg => by have := hok.gaps g (List.mem_of_getElem? hg); omega, Z1m fun x hx => q1 x hx, Z1m fun x hx => q2 x hx, fun v hv => by
    cases hk : (msk to_).testBit v with
    | false => rfl
    | true => exact absurd ((Zt (fun k hk => (q2 k hk).1) v).1 hk) (hb.no _ ((Zt (fun k hk => (q1 k hk).1) v).1 hv))⟩
theorem Z8v {h : Hse} {fr to_ : List Int} (hb : h.Bot fr to_) : ∃ n, Pl h.gaps (msk to_) 10 (msk fr) 0 n := by
  have ht := Z3u hb
  have hp := Nat.two_pow_pos h.gaps.length
  exact ⟨_, Pl.once ht.w ht.s (show 2 ^ h.gaps.length - 1 < 2 ^ h.gaps.length by omega) (Z8q ht) (Nat.le_trans (Z2O _ _) hb.ok.gl)⟩
set_option maxHeartbeats 400000 in
theorem Z6R (h : Hse) (ag as_ : Option Addr) (cg cs : Nat) (hlg : h.gaps.length ≤ 9223372036854775807) (hls : h.sights.length ≤ 9223372036854775807) (fr to_ : List Int) (af at_ : Option Addr) (cf ct : Nat) (hlf : fr.length ≤ 1000000) (hlt : to_.length ≤ 1000000) (hfc : fr.length ≤ cf) (htc : to_.length ≤ ct) (H : Z7) (R : Z3) [hG : MemRows ag 2 (Zc h.gaps) R] [hS : MemRows as_ 3 (Zj h.sights) R] [hF : MemRows af 1 (Z6 fr) R] [hT : MemRows at_ 1 (Z6 to_) R] :
    Fn Try.prog 22 [h.v (h.sg ag cg) (h.ss as_ cs), .slice af fr.length cf, .slice at_ to_.length ct] H R (ZdP h fr to_ H R) := by
 refine Ze Try.func22 rfl Try.ntmps22 rfl ?_
 refine sqt 3 rfl (bx rfl rfl rfl (fun b3 => pur 2 rfl (Z1 (sqt 5 rfl (spL rfl rfl (lhA (htl h (h.sg ag cg) (h.ss as_ cs)) Z07 rfl rfl rfl) rfl (pur 2 rfl ?_))))))
 refine clV rfl Z86 rfl rfl (Z5p h ag as_ cg cs hlg hls fr to_ af at_ cf ct (by omega) (by omega) hfc htc _ _) ?_
 refine pur 1 rfl (sqt 2 rfl (pur 2 rfl ?_))
 refine Z0 rfl ?_ ?_ <;> intro hc0
 have hbe : h.botE fr to_ ≠ 0 := of_decide_eq_true hc0
 refine sqt 3 rfl (pur 3 rfl (Z4 ?_))
 exact rtB rfl rfl rfl rfl ⟨rfl, rfl, .inl ⟨hbe, rfl⟩⟩ (fun w h9 => h9.del b3)
 ·
  have hbe : h.botE fr to_ = 0 := Classical.byContradiction fun e => by rw [decide_eq_true e] at hc0; cases hc0
  have hb := Z27 hbe
  obtain ⟨n0, hn0⟩ := Z8v hb
  refine Z2 (sqt 1 rfl (pur 1 rfl (Z5 ?_)))
  refine Zi (ι := {s : Nat // s ≤ 10 ∧ ∀ s', s' < s → ∀ n, ¬ Pl h.gaps (msk to_) s' (msk fr) 0 n}) (fun s => ⟨[(1, .slice af fr.length cf), (2, .slice at_ to_.length ct), (3, .pointer (some ⟨b3, 0, none⟩)), (9, .int .i64 (s.1 : Int))], (b3, cel 26 (htl h (h.sg ag cg) (h.ss as_ cs))) :: H, R⟩) (fun s => 11 - s.1) ⟨0, by omega, fun s' h9 => absurd h9 (Nat.not_lt_zero _)⟩ ?_ (fun s => ?_)
  exact Zp idH
  ·
   obtain ⟨s, hs, hno⟩ := s
   dsimp only at hs hno ⊢
   have hrz := Z4D hbe hs
   refine Z1 (Z5 (sqt 10 rfl (spL rfl rfl (lhA (htl h (h.sg ag cg) (h.ss as_ cs)) Z07 rfl rfl rfl) rfl (pur 3 rfl ?_))))
   refine cl rfl Z9u rfl rfl (Z6E h ag as_ cg cs hlg hls fr to_ af at_ cf ct hlf hlt hfc htc (s : Int) _ _) ?_
   rintro _ _ R1 ⟨rfl, hq⟩
   rcases hq with ⟨h9, _⟩ | ⟨_, hnp, rfl, hR1⟩ | ⟨_, ls, pl, a, c, _, _, _, _, _, hls2, rfl, hR1⟩
   · exact absurd hrz h9
   all_goals obtain rfl := hR1.symm
   all_goals clear hR1
   all_goals rw [Int.toNat_natCast] at *
   refine pur 5 rfl (sqt 2 rfl (pur 2 rfl ?_))
   refine Z0 rfl ?_ ?_ <;> intro hc1
   exact absurd hc1 (by decide)
   have hs10 : s ≠ 10 := fun e => hnp n0 (by rw [e]; exact hn0)
   refine Z2 (sqr 3 rfl (pur 1 rfl (sp rfl (PE.add rfl rfl (by omega)) rfl (pur 1 rfl ?_))))
   exact Z9 ⟨s + 1, by omega, fun s' h9 => (Nat.lt_succ_iff_lt_or_eq.1 h9).elim (hno s') (fun e => by subst e; exact hnp)⟩ idH
   refine pur 5 rfl (sqt 2 rfl (pur 2 rfl ?_))
   refine Z0 rfl ?_ ?_ <;> intro hc1
   refine sqt 3 rfl (pur 3 rfl (Z4 ?_))
   exact rtB rfl rfl rfl rfl ⟨rfl, rfl, .inr ⟨hbe, s, hs, ⟨_, hls2.1⟩, hno, rfl⟩⟩ (fun w h9 => St.sub (h9.del b3))
   exact absurd hc1 (by decide)
theorem ZcY : cal Try.prog 98 = true := by kernel_rfl
theorem ik3 : Z8U Try.prog 3 = some .i64 := by kernel_rfl
section steps
variable {P : Program} {r : Option Nat} {ops : Array Oper} {n : Nat} {L : Zf} {D : List Deferred} {H : Z7} {R : Z3} {K : Act → World → Prop}
  {i d : Nat} {ty : TypeId} {pos : String} {af : Array Edge}
theorem ZdD {t tn e sz by_ k : Nat} {kq kn : IntKind} {s x : Operand} {zl : List Value} (ho : ops[i]? = some ⟨some d, .call { callee := .builtin .append, args := #[s, x], argTypes := #[t, tn] }, ty, pos, af, none⟩)
    (ht : apT P t = some (e, sz, by_)) (htn : Z8U P tn = some kn) (hz : ZY P e = some zl) (hs : ev L s = some (.slice none 0 0)) (hx : ev L x = some (.int kq k))
    (hk : 0 < k) (hs0 : 0 < sz) (hb : k * by_ ≤ 140737488355328 ∧ k ≤ 9223372036854775807) (hd : Nat.blt d n = true)
    (h : ∀ (b' cap' : Nat) (junk : List Value), k ≤ cap' → cap' ≤ 9223372036854775807 → k * sz + junk.length = cap' * sz → Sy n ((d, .slice (some ⟨b', 0, none⟩) k cap') :: L) D ((b', cel e (Z19 k zl ++ junk)) :: H) R K) : Sy n L D H R (stp P r ops i K) := fun a w ha hD hw => by
  unfold apT at ht
  split at ht
  case h_2 => cases ht
  rename_i e' hu
  split at ht
  case h_2 => cases ht
  rename_i ie hi
  split at ht
  case h_2 => cases ht
  rename_i z hzz
  cases hzs : Nat.beq z.cells.size ie.size with
  | false => rw [hzs] at ht; cases ht
  | true =>
  rw [hzs, cond_true] at ht
  cases ht
  have hzs := Nat.eq_of_beq_eq_true hzs
  have hzl : z.cells.toList = zl := by
    have : ZY P e = some z.cells.toList := by simp [ZY, hi, hzz]
    rw [this] at hz; exact Option.some.inj hz
  have hun : P.underlying tn = some (.int kn) := by
    unfold Z8U at htn
    split at htn
    · rename_i q hq; cases htn; exact hq
    · cases htn
  have hold : (Builtin.firstCells ie.size 0 (.slice none 0 0)).run P w.drew = .ok ([] : List Value).toArray w.drew := by
    simp [Builtin.firstCells, Sem.run_pure]
  have h2 := Lib.run_append_grow_zeros (P := P) w t tn ty e ie z kq kn hu hun hi hzz none 0 0 [] hold k hk hs0 (by omega) (by omega) (by omega) (growslice_fits (by omega) (by rw [Nat.zero_add]; exact hb.1))
  rw [Nat.zero_add] at h2
  have hge := grownCap_ge w k 0 e
  have hcm : grownCap w k 0 e ≤ maxLen := grownCap_le_maxLen w _ 0 e (by simp only [maxLen]; omega)
  have hrep : ∀ q, (Builtin.zeroCells z.cells q).toList = Z19 q zl := fun q => by rw [← hzl]; simp [Builtin.zeroCells, Z19]
  have e1 : (.cells (([] : List Value).toArray ++ Builtin.zeroCells z.cells k ++ Builtin.zeroCells z.cells (grownCap w k 0 e - k)) e : Obj) = cel e (Z19 k zl ++ (Builtin.zeroCells z.cells (grownCap w k 0 e - k)).toList) := by
    unfold cel; congr 1; apply Array.toList_inj.1; simp [hrep]
  refine Zl ho (Zb _ rfl _) (v := .slice (some ⟨w.heap.size, 0, none⟩) k (grownCap w k 0 e)) (w' := w.drew.alloc (cel e (Z19 k zl ++ (Builtin.zeroCells z.cells (grownCap w k 0 e - k)).toList))) ?_
    (h w.heap.size (grownCap w k 0 e) (Builtin.zeroCells z.cells (grownCap w k 0 e - k)).toList hge (by simp only [maxLen] at hcm; omega) ?_ _ _ (ha.put (by simpa using hd) _) hD (hw.drew.alloc _))
  · simp only [execOp, resolve, invoke, builtin, Sem.run_bind, Sem.run_pure, Result.andThen, List.map_toArray, List.map_cons, List.map_nil, ha.reads _ _ hs, ha.reads _ _ hx]
    rw [e1] at h2
    rw [h2]
  · simp only [Array.length_toList, size_zeroCells, hzs, ← Nat.add_mul]
    congr 1; omega
end steps
theorem Z6j {k : Nat} {v : Value} : (Z19 k [v]).length = k := by simp [Z19]
def Z6i (pl : List PL) (k : Nat) : List Int := (lls (pl.take k)).flatten
theorem Z45 {pl : List PL} {k : Nat} {x : PL} (h : pl[k]? = some x) : Z6i pl (k + 1) = Z6i pl k ++ x.l := by
  unfold Z6i lls
  rw [List.take_add_one, h, Option.toList_some, List.map_append, List.flatten_append]; simp
theorem Z3H (pl : List PL) : ∀ k, (Z6i pl k).length ≤ (lls pl).flatten.length := fun k => by
  unfold Z6i lls
  have h : pl.map (·.l) = (pl.take k).map (·.l) ++ (pl.drop k).map (·.l) := by rw [← List.map_append, List.take_append_drop]
  rw [h, List.flatten_append, List.length_append]; omega
theorem Zad (k : Nat) (hk : k ≤ 1000000) (H : Z7) (R : Z3) :
    Fn Try.prog 98 [.slice none 0 0, .int .i64 (k : Int)] H R (fun v H' R' => ∃ o : OSl 3 1 [], v = o.fs ∧ H' = o.G ++ H ∧ R' = R) := by
 refine Ze Try.func98 rfl Try.ntmps98 rfl ?_
 refine sqt 1 rfl (pur 1 rfl (Z1 (sqt 2 rfl (pur 2 rfl ?_))))
 refine Z0 rfl ?_ ?_ <;> intro hc0
 simp only [decide_eq_true_eq] at hc0
 omega
 refine Z2 (Z1 (sqt 8 rfl (pur 2 rfl (sp rfl (PE.capSl Zw rfl) rfl (pur 1 rfl (sp rfl (PE.lenSl Zw rfl) rfl (sp rfl (PE.sub rfl rfl (by omega)) rfl (sp rfl (PE.sub rfl rfl (by omega)) rfl ?_))))))))
 rw [show (k : Int) - (((0 : Nat) : Int) - ((0 : Nat) : Int)) = (k : Int) by omega]
 refine pur 1 rfl (sqt 2 rfl (pur 2 rfl ?_))
 refine Z0 rfl ?_ ?_ <;> intro hc1
 try simp only [cS] at hc1
 refine sqr 10 rfl (pur 2 rfl (sp rfl (PE.capSl Zw rfl) rfl (sp rfl (PE.slHi (h := 0) Z0V rfl rfl (by omega)) rfl (pur 1 rfl ?_))))
 refine ZdD rfl Z3W ik3 zl3 rfl rfl (by omega) (by omega) (by omega) rfl (fun b2 cap2 jk2 hc1 hc2 hc3 => ?_)
 refine pur 1 rfl (sp rfl (PE.lenSl Zw rfl) rfl (sp rfl (PE.slHi (h := 0) Z0V rfl rfl (by omega)) rfl (pur 1 rfl (sqt 2 rfl (pur 2 rfl (Z4 ?_))))))
 exact rtA rfl rfl rfl ⟨⟨.slice (some ⟨b2, 0, none⟩) 0 cap2, [(b2, cel 3 (Z19 k [.int .i64 0] ++ jk2))], by simp, .inr ⟨b2, cap2, Z19 k [.int .i64 0] ++ jk2, rfl, rfl, by rw [List.length_append, Z6j]; simp only [List.length_nil]; omega, Nat.zero_le _, hc2⟩⟩, rfl, rfl, rfl⟩ idH
 refine Z2 (sqt 2 rfl (pur 2 rfl (Z4 ?_)))
 exact rtA rfl rfl rfl ⟨OSl.nil _ _, rfl, rfl, rfl⟩ idH
set_option maxHeartbeats 400000 in
theorem Z2e (pl : List PL) (ap : Option Addr) (cp : Nat) (hpl : pl.length ≤ 1000000) (htl : (lls pl).flatten.length ≤ 1000000) (H : Z7) (R : Z3) [hP : MemRows ap 1 (ZG pl) R] [hI : MemF (Inn pl) R] :
    Fn Try.prog 66 [.slice ap pl.length cp] H R (fun v H' R' => ∃ o : OSl 3 1 (Z6 (lls pl).flatten), v = o.fs ∧ H' = o.G ++ H ∧ R' = R) := by
 refine Ze Try.func66 rfl Try.ntmps66 rfl ?_
 refine sqt 1 rfl (pur 1 rfl (sqt 1 rfl (pur 1 rfl (Z1 (sqt 3 rfl (pur 1 rfl (sp rfl (PE.lenSl Z7C rfl) rfl (pur 1 rfl (Z5 ?_)))))))))
 refine Zi (ι := {k : Nat // k ≤ pl.length}) (fun k => ⟨[(0, .slice ap pl.length cp), (3, .int .i64 ((Z6i pl k.1).length : Nat)), (9, .slice ap pl.length cp), (10, .int .i64 pl.length), (11, .int .i64 k.1)], H, R⟩) (fun k => pl.length - k.1) ⟨0, Nat.zero_le _⟩ ?_ (fun k => ?_)
 exact Zp idH
 obtain ⟨k, hk⟩ := k
 dsimp only at hk ⊢
 have hcl := Z3H pl k
 have hcl2 := Z3H pl (k + 1)
 refine sqt 1 rfl (pur 1 rfl (Z1 ?_))
 refine Z0 rfl ?_ ?_ <;> intro hc0 <;> try simp only [cS] at hc0
 obtain ⟨x, hx⟩ : ∃ x, pl[k]? = some x := ⟨_, List.getElem?_eq_getElem (by omega)⟩
 have hst := congrArg List.length (Z45 hx)
 rw [List.length_append] at hst
 refine Zq (a := ap) (sz := 1) (rows := ZG pl) (ne0 (by rw [Z0y]; omega)) (fun ba oa he => ?_)
 subst he
 refine Z2 (Z1 (Z5 (sqt 3 rfl (sp rfl (PE.indexAddr Zck rfl rfl (by omega) (by omega)) rfl (spL rfl rfl (lf0 Z2X (Z90 hx) rfl) rfl (pur 1 rfl (sqt 5 rfl (pur 2 rfl (sp rfl (PE.lenSl Zw rfl) rfl (sp rfl (PE.add rfl rfl (by omega)) rfl ?_))))))))))
 rw [show ((Z6i pl k).length : Int) + (x.l.length : Int) = ((Z6i pl (k + 1)).length : Int) by omega]
 refine pur 1 rfl (sqt 2 rfl (pur 2 rfl ?_))
 refine Z0 rfl ?_ ?_ <;> intro hc1
 simp only [decide_eq_true_eq] at hc1
 omega
 refine Z2 (sqr 2 rfl (sp rfl (PE.add rfl rfl (by omega)) rfl (pur 1 rfl ?_)))
 exact Z9 ⟨k + 1, by omega⟩ idH
 obtain rfl : k = pl.length := by omega
 refine Z8 (Za (Za (Zk (sqt 3 rfl (pur 1 rfl ?_)))))
 refine cl rfl ZcY rfl rfl (Zad (Z6i pl pl.length).length (by omega) _ _) ?_
 rintro _ _ R1 ⟨o0, rfl, rfl, hR1⟩
 obtain rfl := hR1.symm
 clear hR1
 refine pur 1 rfl (Z1 (sqt 3 rfl (pur 1 rfl (sp rfl (PE.lenSl Z7C rfl) rfl (pur 1 rfl (Z5 ?_))))))
 refine Zi (ι := (k : {k : Nat // k ≤ pl.length}) × OSl 3 1 (Z6 (Z6i pl k.1))) (fun y => ⟨[(6, y.2.fs), (25, .slice ap pl.length cp), (26, .int .i64 pl.length), (27, .int .i64 y.1.1)], y.2.G ++ H, R⟩) (fun y => pl.length - y.1.1) ⟨⟨0, Nat.zero_le _⟩, o0⟩ ?_ (fun y => ?_)
 exact Zp idH
 obtain ⟨⟨k, hk⟩, o⟩ := y
 dsimp only at hk o ⊢
 have hcl := Z3H pl k
 have hcl2 := Z3H pl (k + 1)
 refine sqt 1 rfl (pur 1 rfl (Z1 ?_))
 refine Z0 rfl ?_ ?_ <;> intro hc2 <;> try simp only [cS] at hc2
 obtain ⟨x, hx⟩ : ∃ x, pl[k]? = some x := ⟨_, List.getElem?_eq_getElem (by omega)⟩
 have hst := Z45 hx
 have hsl := congrArg List.length hst
 rw [List.length_append] at hsl
 refine Zq (a := ap) (sz := 1) (rows := ZG pl) (ne0 (by rw [Z0y]; omega)) (fun ba oa he => ?_)
 subst he
 refine Sy.heap (fun w h => St.inn (x := x) h (List.mem_of_getElem? hx)) ?_
 refine Z2 (Z1 (Z5 (sqt 3 rfl (sp rfl (PE.indexAddr Zck rfl rfl (by omega) (by omega)) rfl (spL rfl rfl (lf0 Z2X (Z90 hx) rfl) rfl (pur 1 rfl (sqr 4 rfl (pur 2 rfl ?_))))))))
 refine apO (news := Z6 x.l) o rfl Z3W rfl rfl (Z8M) (irl _) (by simp [Z02, Z6, Value.oneCell']) (by rw [irl, irl]; omega) rfl (fun o33 => ?_)
 refine pur 1 rfl (sqr 2 rfl (sp rfl (PE.add rfl rfl (by omega)) rfl (pur 1 rfl ?_)))
 exact Z9 ⟨⟨k + 1, by omega⟩, o33.cast (by rw [hst]; simp [Z6])⟩ (fun w h => h.ftail)
 obtain rfl : k = pl.length := by omega
 refine Z8 (Za (Za (Zk (sqt 2 rfl (pur 2 rfl (Z4 ?_))))))
 exact rtA rfl rfl rfl ⟨o.cast (by unfold Z6i; rw [List.take_length]), rfl, rfl, rfl⟩ idH
theorem Z8u : cal Try.prog 66 = true := by kernel_rfl
def ZdN (h : Hse) (fr to_ : List Int) (spd : Int) (H : Z7) (R : Z3) : Value → Z7 → Z3 → Prop := fun v H' R' => H' = H ∧ R' = R ∧ ((h.rcE fr to_ spd ≠ 0 ∧ v = .tuple #[.int .i64 0, .int .i64 (h.rcE fr to_ spd)]) ∨
  (h.rcE fr to_ spd = 0 ∧ (∀ n, ¬ Pl h.gaps (msk to_) spd.toNat (msk fr) 0 n) ∧ v = .tuple #[.int .i64 0, .int .i64 6]) ∨
  (h.rcE fr to_ spd = 0 ∧ ∃ n : Nat, n ≤ 10 ∧ Lst (Pl h.gaps (msk to_) spd.toNat (msk fr) 0) n ∧ v = .tuple #[.int .i64 (n : Int), .int .i64 0]))
theorem Z5r {gs : List Gp} (hg : gs.length ≤ 10) : ∀ {ls : List Nat}, (∀ l ∈ ls, l < 2 ^ gs.length) → ((ls.map Z1F).flatten).length = Z7Q gs ls
  | [], _ => rfl
  | l :: ls, h => by
    rw [List.map_cons, List.flatten_cons, List.length_append, Z5r hg (fun x hx => h x (List.mem_cons_of_mem _ hx)), Z5b (h l (by simp)) hg]; rfl
theorem St.norows9 {sz : Nat} {H : Z7} {R : Z3} {w : World} (h : St H R w) : St H (Inn [] :: RowsA none sz (ZG []) :: R) w := St.inn0 (St.norows (sz := sz) h)
set_option maxHeartbeats 400000 in
theorem Z5c (h : Hse) (ag as_ : Option Addr) (cg cs : Nat) (hlg : h.gaps.length ≤ 9223372036854775807) (hls : h.sights.length ≤ 9223372036854775807) (fr to_ : List Int) (af at_ : Option Addr) (cf ct : Nat) (hlf : fr.length ≤ 1000000) (hlt : to_.length ≤ 1000000) (hfc : fr.length ≤ cf) (htc : to_.length ≤ ct) (spd : Int) (H : Z7) (R : Z3) [hG : MemRows ag 2 (Zc h.gaps) R] [hS : MemRows as_ 3 (Zj h.sights) R] [hF : MemRows af 1 (Z6 fr) R] [hT : MemRows at_ 1 (Z6 to_) R] :
    Fn Try.prog 25 [h.v (h.sg ag cg) (h.ss as_ cs), .slice af fr.length cf, .slice at_ to_.length ct, .int .i64 spd] H R (ZdN h fr to_ spd H R) := by
 refine Ze Try.func25 rfl Try.ntmps25 rfl ?_
 refine sqt 3 rfl (bx rfl rfl rfl (fun b4 => pur 2 rfl (sqt 10 rfl (spL rfl rfl (lhA (htl h (h.sg ag cg) (h.ss as_ cs)) Z07 rfl rfl rfl) rfl (pur 3 rfl ?_)))))
 refine cl rfl Z9u rfl rfl (Z6E h ag as_ cg cs hlg hls fr to_ af at_ cf ct hlf hlt hfc htc spd _ _) ?_
 rintro _ _ R1 ⟨rfl, hq⟩
 rcases hq with ⟨h9, rfl, hR1⟩ | ⟨h9, hnp, rfl, hR1⟩ | ⟨h9, ls, pl, a, c, hll, hpk, hpc, hlb, hrun, hlst, rfl, hR1⟩
 all_goals obtain rfl := hR1.symm
 all_goals clear hR1
 refine pur 5 rfl (sqt 6 rfl ?_)
 refine Sy.heap (fun w h => St.norows9 (sz := 1) h) ?_
 refine pur 1 rfl ?_
 refine cl rfl Z8u rfl rfl (Z2e [] none 0 (by decide) (by decide) _ _) ?_
 rintro _ _ R1 ⟨o, rfl, rfl, hR1⟩
 obtain rfl := hR1.symm
 clear hR1
 obtain ⟨ao, co, heo, hfz⟩ := o.freeze
 rw [heo, irl]
 refine Sy.heap (fun w h => hfz h) ?_
 clear hfz heo
 refine sp rfl (PE.lenSl Zw rfl) rfl (pur 3 rfl (Z4 ?_))
 exact rtB rfl rfl rfl rfl ⟨rfl, rfl, .inl ⟨h9, rfl⟩⟩ (fun w h9 => St.sub (h9.del b4))
 refine pur 5 rfl (sqt 6 rfl ?_)
 refine Sy.heap (fun w h => St.norows9 (sz := 1) h) ?_
 refine pur 1 rfl ?_
 refine cl rfl Z8u rfl rfl (Z2e [] none 0 (by decide) (by decide) _ _) ?_
 rintro _ _ R1 ⟨o, rfl, rfl, hR1⟩
 obtain rfl := hR1.symm
 clear hR1
 obtain ⟨ao, co, heo, hfz⟩ := o.freeze
 rw [heo, irl]
 refine Sy.heap (fun w h => hfz h) ?_
 clear hfz heo
 refine sp rfl (PE.lenSl Zw rfl) rfl (pur 3 rfl (Z4 ?_))
 exact rtB rfl rfl rfl rfl ⟨rfl, rfl, .inr (.inl ⟨h9, hnp, rfl⟩)⟩ (fun w h9 => St.sub (h9.del b4))
 refine pur 5 rfl (sqt 6 rfl ?_)
 have hgl := (Zbg h9).1.ok.gl
 have hlen : (lls pl).flatten.length = Z7Q h.gaps ls := by rw [hll]; exact Z5r hgl hlb
 have hs10 := hlst.1.few
 have hpl : pl.length = ls.length := by have := congrArg List.length hll; rw [Z4y, List.length_map] at this; exact this
 refine pur 1 rfl ?_
 refine cl rfl Z8u rfl rfl (Z2e pl a c (by omega) (by omega) _ _) ?_
 rintro _ _ R1 ⟨o, rfl, rfl, hR1⟩
 obtain rfl := hR1.symm
 clear hR1
 obtain ⟨ao, co, heo, hfz⟩ := o.freeze
 rw [heo, irl, hlen]
 refine Sy.heap (fun w h => hfz h) ?_
 clear hfz heo
 refine sp rfl (PE.lenSl Zw rfl) rfl (pur 3 rfl (Z4 ?_))
 exact rtB rfl rfl rfl rfl ⟨rfl, rfl, .inr (.inr ⟨h9, Z7Q h.gaps ls, by omega, hlst, rfl⟩)⟩ (fun w h9 => St.sub (h9.del b4))
theorem Zb1 : cal Try.prog 107 = true := by kernel_rfl
theorem ZbA : cal Try.prog 108 = true := by kernel_rfl
theorem ZbT : cal Try.prog 116 = true := by kernel_rfl
theorem Zbt : cal Try.prog 55 = true := by kernel_rfl
theorem Zdk : cal Try.prog 88 = true := by kernel_rfl
theorem Zcs : cal Try.prog 89 = true := by kernel_rfl
theorem Zcw : cal Try.prog 90 = true := by kernel_rfl
def Hse.ledE (h : Hse) (fr to_ : List Int) (ls : List (List Int)) : Int := bif decide (h.botE fr to_ ≠ 0) then h.botE fr to_ else bif decide (ZV h.gaps.length ls.flatten ≠ 0) then ZV h.gaps.length ls.flatten else bif !(ls.all fun l => Z7S h.gaps 0 fr to_ l) then 8 else 0
def Hse.ledR (h : Hse) (fr to_ : List Int) (ls : List (List Int)) : Int := bif decide (h.ledE fr to_ ls = 0) then ls.length else 0
theorem Z73 (pl : List PL) (p : List Int → Bool) : (pl.all fun x => p x.l) = (lls pl).all p := by unfold lls; rw [List.all_map]; rfl
theorem Z4P {h : Hse} {fr to_ : List Int} {ls : List (List Int)} {e : Int} (he : h.ledE fr to_ ls = e) (h0 : e ≠ 0) : h.ledR fr to_ ls = 0 := by unfold Hse.ledR; rw [he, decide_eq_false h0]; rfl
theorem Z7z (xs : List PL) (a : Option Addr) (c g : Nat) (fst cap : List Value) (p : PL → Bool) (hg : cal Try.prog g = true) (hl : xs.length ≤ 9223372036854775807) (H : Z7) (R : Z3) [hR : MemRows a 1 (ZG xs) R] (hp : ∀ x, x ∈ xs → FnV Try.prog g (fst ++ [.slice x.a x.l.length x.c] ++ cap) H R (.bool (p x))) :
    FnV Try.prog 116 [.slice a xs.length c, .func (.func g) fst.toArray cap.toArray] H R (.int .i64 (match xs.findIdx? p with | some k => (k : Int) | none => -1)) := by
 refine Ze Try.func116 rfl Try.ntmps116 rfl ?_
 refine sqt 1 rfl (pur 1 rfl (Z1 (sqt 3 rfl (pur 1 rfl (sp rfl (PE.lenSl Z7C rfl) rfl (pur 1 rfl (Z5 ?_)))))))
 refine Zi (ι := {k : Nat // k ≤ xs.length ∧ ∀ x ∈ xs.take k, p x = false}) (fun k => ⟨[(0, .slice a xs.length c), (1, .func (.func g) fst.toArray cap.toArray), (7, .int .i64 xs.length), (8, .int .i64 k.1)], H, R⟩) (fun k => xs.length - k.1) ⟨0, by simp⟩ ?_ (fun k => ?_)
 exact Zp idH
 obtain ⟨k, hk, hn⟩ := k
 dsimp only
 refine sqt 1 rfl (pur 1 rfl (Z1 ?_))
 refine Z0 rfl ?_ ?_ <;> intro hc0
 simp only [cS] at hc0
 obtain ⟨x, hx⟩ : ∃ x, xs[k]? = some x := ⟨_, List.getElem?_eq_getElem (by omega)⟩
 have hxm := List.mem_of_getElem? hx
 refine Zq (a := a) (sz := 1) (rows := ZG xs) (by cases xs <;> simp_all [ZG]) (fun b off he => ?_)
 subst he
 refine Z2 (Z1 (Z5 (sqt 2 rfl (pur 2 rfl (sqt 6 rfl (pur 3 rfl (sp rfl (PE.indexAddr Zck rfl rfl (by omega) (by omega)) rfl (spL rfl rfl (lf0 Z2X (by simp [ZG, hx]; rfl) rfl) rfl ?_))))))))
 refine Z67 rfl rfl (hg) rfl rfl (hp x hxm) ?_
 refine Z0 rfl ?_ ?_ <;> intro hc1
 refine sqt 2 rfl (pur 2 rfl (Z4 ?_))
 first | (exact rtA rfl rfl rfl ⟨by rw [Z01 hx hn hc1]; rfl, rfl, rfl⟩ idH) | (exact rtA rfl rfl rfl ⟨by rw [ZL (by simpa using hn)]; rfl, rfl, rfl⟩ idH)
 refine Z2 (sqr 2 rfl (sp rfl (PE.add rfl rfl (by omega)) rfl (pur 1 rfl ?_)))
 exact Z9 ⟨k + 1, by omega, Z10 hx hn hc1⟩ idH
 simp only [cS] at hc0
 obtain rfl : k = xs.length := by omega
 refine Z8 (Za (Za (Zk (sqt 1 rfl (pur 1 rfl (Z4 ?_))))))
 first | (exact rtA rfl rfl rfl ⟨by rw [Z01 hx hn hc1]; rfl, rfl, rfl⟩ idH) | (exact rtA rfl rfl rfl ⟨by rw [ZL (by simpa using hn)]; rfl, rfl, rfl⟩ idH)
theorem Z6B (xs : List PL) (a : Option Addr) (c g : Nat) (fst cap : List Value) (p : PL → Bool) (hg : cal Try.prog g = true) (hl : xs.length ≤ 9223372036854775807) (H : Z7) (R : Z3) [hR : MemRows a 1 (ZG xs) R] (hp : ∀ x, x ∈ xs → FnV Try.prog g (fst ++ [.slice x.a x.l.length x.c] ++ cap) H R (.bool (p x))) :
    FnV Try.prog 107 [.slice a xs.length c, .func (.func g) fst.toArray cap.toArray] H R (.bool (xs.any p)) := by
 refine Ze Try.func107 rfl Try.ntmps107 rfl ?_
 refine sqt 1 rfl (pur 1 rfl (sqt 5 rfl (pur 2 rfl ?_)))
 refine clV rfl ZbT rfl rfl (Z7z xs a c g fst cap p hg hl _ _ hp) ?_
 refine pur 2 rfl (Z4 ?_)
 exact rtA rfl rfl rfl ⟨by simp only [Z06]; exact Z2C _ _, rfl, rfl⟩ drp
theorem Z7E (x : PL) (g bf : Nat) (fst cap : List Value) (p : Bool) (hg : cal Try.prog g = true) (H : Z7) (R : Z3) [hM : Mem1 bf (cel 67 [.func (.func g) fst.toArray cap.toArray]) H] (hp : FnV Try.prog g (fst ++ [.slice x.a x.l.length x.c] ++ cap) H R (.bool p)) :
    FnV Try.prog 108 [.slice x.a x.l.length x.c, .pointer (some ⟨bf, 0, none⟩)] H R (.bool !p) := by
 refine Ze Try.func108 rfl Try.ntmps108 rfl ?_
 refine sqt 1 rfl (pur 1 rfl (sqt 5 rfl (spL rfl rfl (lh Zdy rfl rfl) rfl (pur 1 rfl ?_))))
 refine Z67 rfl rfl (hg) rfl rfl (hp) ?_
 refine pur 2 rfl (Z4 ?_)
 exact rtA rfl rfl rfl ⟨rfl, rfl, rfl⟩ drp
theorem Z4u (xs : List PL) (a : Option Addr) (c g : Nat) (fst cap : List Value) (p : PL → Bool) (hg : cal Try.prog g = true) (hl : xs.length ≤ 9223372036854775807) (H : Z7) (R : Z3) [hR : MemRows a 1 (ZG xs) R] (hp : ∀ b x, x ∈ xs → FnV Try.prog g (fst ++ [.slice x.a x.l.length x.c] ++ cap) ((b, cel 67 [.func (.func g) fst.toArray cap.toArray]) :: H) R (.bool (p x))) :
    FnV Try.prog 88 [.slice a xs.length c, .func (.func g) fst.toArray cap.toArray] H R (.bool (xs.all p)) := by
 refine Ze Try.func88 rfl Try.ntmps88 rfl ?_
 refine sqt 2 rfl (bx rfl rfl rfl (fun b3 => pur 1 rfl (sqt 5 rfl (pur 1 rfl (sp rfl (PE.makeFunc rfl rfl) rfl ?_)))))
 refine clV rfl Zb1 rfl rfl (Z6B xs a c 108 [] [_] (fun x => !p x) ZbA hl _ _ (hp := fun x hx => Z7E x g _ fst cap (p x) hg _ _ (hp := hp _ x hx))) ?_
 refine pur 2 rfl (Z4 ?_)
 exact rtA rfl rfl rfl ⟨by simp only [Z06]; rw [Z0O], rfl, rfl⟩ drp
theorem Z8s (h : Hse) (ag as_ : Option Addr) (cg cs : Nat) (hok : h.ok) (fr to_ : List Int) (af at_ : Option Addr) (cf ct b4 b5 b6 : Nat) (hfr : ∀ x ∈ fr, 0 ≤ x ∧ x < 7) (hfl : fr.length ≤ 1000) (hnt : to_.length ≤ 1000000) (x : PL) (pl : List PL) (hxm : x ∈ pl) (hp : ∀ k ∈ x.l, 0 ≤ k) (hpl : x.l.length ≤ 1000000) (H : Z7) (R : Z3) [hG : MemRows ag 2 (Zc h.gaps) R] [hS : MemRows as_ 3 (Zj h.sights) R] [hF : MemRows af 1 (Z6 fr) R] [hT : MemRows at_ 1 (Z6 to_) R] [m4 : Mem1 b4 (cel 26 (htl h (h.sg ag cg) (h.ss as_ cs))) H] [m5 : Mem1 b5 (cel 27 [.slice af fr.length cf]) H] [m6 : Mem1 b6 (cel 27 [.slice at_ to_.length ct]) H] [hI : MemF (Inn pl) R] :
    FnV Try.prog 89 [.slice x.a x.l.length x.c, .pointer (some ⟨b4, 0, none⟩), .pointer (some ⟨b5, 0, none⟩), .pointer (some ⟨b6, 0, none⟩)] H R (.bool (Z7S h.gaps 0 fr to_ x.l)) := by
 refine Ze Try.func89 rfl Try.ntmps89 rfl ?_
 refine sqt 1 rfl ?_
 refine Sy.heap (fun w h => St.inn (x := x) h hxm) ?_
 refine pur 1 rfl (Z1 ?_)
 refine Zd [0, 1, 0, 0, 0, 31, 63] (.ld 0 (.ld 2 (.ld 3 (.tk 4 (.big 1 (.big 5 (.tk 6 .done))))))) Zv (by kernel_rfl) ?_
 refine ld rfl rfl (lhA (htl h (h.sg ag cg) (h.ss as_ cs)) Z07 rfl rfl rfl) rfl (ld rfl rfl (lh Z2X rfl rfl) rfl (ld rfl rfl (lh Z2X rfl rfl) rfl (Zo 1 rfl ?_)))
 refine cl rfl Z5K rfl rfl (Z5L h ag as_ cg cs _ _) ?_
 rintro _ _ _ ⟨bd, rfl, rfl, rfl⟩
 refine bg (fun w hs => ⟨(lh Z2X rfl rfl) w hs, (lh Z2X rfl rfl) w hs, trivial, trivial⟩) ?_
 refine clV rfl Zcw rfl rfl (Za8 (dkA h ag as_ cg cs bd) (Z0A h ag as_ cg cs hok bd) fr to_ x.l af at_ x.a cf ct x.c hfr hfl hnt hp hpl _ _) ?_
 refine bgT (Zo 1 rfl (Z4 ?_))
 exact rtA rfl rfl rfl ⟨rfl, rfl, rfl⟩ (fun w h9 => h9.ftail.ftail)
set_option maxHeartbeats 400000 in
theorem Zal (h : Hse) (ag as_ : Option Addr) (cg cs : Nat) (hlg : h.gaps.length ≤ 9223372036854775807) (hls : h.sights.length ≤ 9223372036854775807) (fr to_ : List Int) (af at_ : Option Addr) (cf ct : Nat) (hlf : fr.length ≤ 1000000) (hlt : to_.length ≤ 1000000) (hfc : fr.length ≤ cf) (htc : to_.length ≤ ct) (pl : List PL) (ap : Option Addr) (cp : Nat) (hpl : pl.length ≤ 1000000) (htot : (lls pl).flatten.length ≤ 1000000) (H : Z7) (R : Z3) [hG : MemRows ag 2 (Zc h.gaps) R] [hS : MemRows as_ 3 (Zj h.sights) R] [hF : MemRows af 1 (Z6 fr) R] [hT : MemRows at_ 1 (Z6 to_) R] [hP : MemRows ap 1 (ZG pl) R] [hI : MemF (Inn pl) R] :
    FnV Try.prog 48 [h.v (h.sg ag cg) (h.ss as_ cs), .slice af fr.length cf, .slice at_ to_.length ct, .slice ap pl.length cp] H R (.tuple #[.int .i64 (h.ledR fr to_ (lls pl)), .int .i64 (h.ledE fr to_ (lls pl))]) := by
 refine Ze Try.func48 rfl Try.ntmps48 rfl ?_
 refine sqt 5 rfl (bx rfl rfl rfl (fun b4 => bx rfl rfl rfl (fun b5 => bx rfl rfl rfl (fun b6 => pur 2 rfl (Z1 (sqt 5 rfl (spL rfl rfl (lhA (htl h (h.sg ag cg) (h.ss as_ cs)) Z07 rfl rfl rfl) rfl (spL rfl rfl (lh Z2X rfl rfl) rfl (spL rfl rfl (lh Z2X rfl rfl) rfl ?_)))))))))
 refine clV rfl Z86 rfl rfl (Z5p h ag as_ cg cs hlg hls fr to_ af at_ cf ct (by omega) (by omega) hfc htc _ _) ?_
 refine pur 1 rfl (sqt 2 rfl (pur 2 rfl ?_))
 refine Z0 rfl ?_ ?_ <;> intro hc0
 have hbe : h.botE fr to_ ≠ 0 := of_decide_eq_true hc0
 have e : h.ledE fr to_ (lls pl) = h.botE fr to_ := by unfold Hse.ledE; rw [dT hbe]; rfl
 refine sqt 3 rfl (pur 3 rfl (Z4 ?_))
 exact rtB rfl rfl rfl rfl ⟨by rw [Z4P e (by assumption), e] <;> rfl, rfl, rfl⟩ drp
 have hbe : h.botE fr to_ = 0 := Classical.byContradiction fun e => by rw [decide_eq_true e] at hc0; cases hc0
 have hb := Z27 hbe
 obtain ⟨q1, q2, q3, q4, q5, q6⟩ := Z11 hb
 have hok := hb.ok
 refine Z2 (Z1 (Z1 ?_))
 refine Zd [0, 1, 0, 4, 15, 31] (.tk 0 (.ld 2 (.tk 3 (.big 1 (.big 4 (.tk 5 .done)))))) Zv (by kernel_rfl) ?_
 refine Zo 1 rfl (ld rfl rfl (lhA (htl h (h.sg ag cg) (h.ss as_ cs)) Z07 rfl rfl rfl) rfl (tk rfl (PE.makeFunc rfl rfl) rfl ?_))
 refine cl rfl Z8u rfl rfl (Z2e pl ap cp hpl htot _ _) ?_
 rintro _ _ R1 ⟨o, rfl, rfl, hR1⟩
 obtain rfl := hR1.symm
 clear hR1
 obtain ⟨ac, cc, heo, hcc, hfz⟩ := o.freezeC
 rw [irl] at hcc
 rw [heo, irl]
 refine Sy.heap (fun w h => hfz h) ?_
 clear hfz heo
 refine bg (fun w hs => ⟨(lhA (htl h (h.sg ag cg) (h.ss as_ cs)) Z07 rfl rfl rfl) w hs, trivial⟩) ?_
 refine clV rfl Z9y rfl rfl (Z3s (lls pl).flatten ac cc 55 [h.v (h.sg ag cg) (h.ss as_ cs)] [] (fun k => inB k 0 ((h.gaps.length : Int) - 1)) Zbt (by omega) hcc _ _ (fun _ z _ => ZaO h (by have := hok.gl; omega) ag cg (h.ss as_ cs) z _ _)) ?_
 refine bgT (Zo 1 rfl (sqt 2 rfl (pur 2 rfl ?_)))
 refine Z0 rfl ?_ ?_ <;> intro hc1
 have hle : ZV h.gaps.length (lls pl).flatten ≠ 0 := of_decide_eq_true hc1
 have e : h.ledE fr to_ (lls pl) = ZV h.gaps.length (lls pl).flatten := by unfold Hse.ledE; rw [hbe, dT hle]; rfl
 refine sqt 3 rfl (pur 3 rfl (Z4 ?_))
 exact rtB rfl rfl rfl rfl ⟨by rw [Z4P e (by assumption), e] <;> rfl, rfl, rfl⟩ (fun w h9 => St.sub (((h9.del b6).del b5).del b4))
 have hle : ZV h.gaps.length (lls pl).flatten = 0 := Classical.byContradiction fun e => by rw [show decide (Z9k (fun k => inB k 0 ((h.gaps.length : Int) - 1)) (lls pl).flatten ≠ 0) = true from decide_eq_true e] at hc1; cases hc1
 have hlx := (Z1c hle).1
 have hin : ∀ x ∈ pl, (∀ k ∈ x.l, 0 ≤ k) ∧ x.l.length ≤ 1000000 := fun x hx => by
   have hm : x.l ∈ lls pl := List.mem_map.2 ⟨x, hx, rfl⟩
   refine ⟨fun k hk => (hlx k (List.mem_flatten.2 ⟨_, hm, hk⟩)).1, ?_⟩
   have := List.Sublist.length_le (List.sublist_flatten_of_mem hm)
   omega
 refine Z2 (Z1 (sqt 4 rfl (pur 1 rfl (sp rfl (PE.makeFunc rfl rfl) rfl ?_))))
 refine clV rfl Zdk rfl rfl (Z4u pl ap cp 89 [] [_, _, _] (fun x => Z7S h.gaps 0 fr to_ x.l) Zcs (by omega) _ _ (fun _ x hx => Z8s h ag as_ cg cs hok fr to_ af at_ cf ct b4 b5 b6 q1 (by omega) hlt x pl hx (hin x hx).1 (hin x hx).2 _ _)) ?_
 refine pur 1 rfl ?_
 refine Z0 rfl ?_ ?_ <;> intro hc2
 have hc9 : (!(pl.all fun x => Z7S h.gaps 0 fr to_ x.l)) = true := hc2
 rw [Z73 pl (fun l => Z7S h.gaps 0 fr to_ l)] at hc9
 have h8 : (8 : Int) ≠ 0 := by decide
 have e : h.ledE fr to_ (lls pl) = 8 := by unfold Hse.ledE; rw [hbe, hle, hc9]; rfl
 refine sqt 2 rfl (pur 2 rfl (Z4 ?_))
 exact rtB rfl rfl rfl rfl ⟨by rw [Z4P e (by assumption), e] <;> rfl, rfl, rfl⟩ (fun w h9 => St.sub (((h9.del b6).del b5).del b4))
 have hc9 : (!(pl.all fun x => Z7S h.gaps 0 fr to_ x.l)) = false := hc2
 rw [Z73 pl (fun l => Z7S h.gaps 0 fr to_ l)] at hc9
 have e : h.ledE fr to_ (lls pl) = 0 := by unfold Hse.ledE; rw [hbe, hle, hc9]; rfl
 have er : h.ledR fr to_ (lls pl) = pl.length := by unfold Hse.ledR; rw [e, Z4y]; rfl
 refine Z2 (sqt 4 rfl (pur 1 rfl (sp rfl (PE.lenSl Z7C rfl) rfl (pur 2 rfl (Z4 ?_)))))
 exact rtB rfl rfl rfl rfl ⟨by rw [er, e] <;> rfl, rfl, rfl⟩ (fun w h9 => St.sub (((h9.del b6).del b5).del b4))
theorem Z8E : Z0L Try.prog 26 = some 3 := by kernel_rfl
theorem Zbc : Z12 Try.prog 26 = some [(0, 1), (1, 1), (2, 1)] := by kernel_rfl
theorem ZcF : Z12 Try.prog 38 = some [(0, 1), (1, 1), (2, 1)] := by kernel_rfl
theorem Z7P : slE Try.prog 23 = some (46, 2) := by kernel_rfl
theorem Z64 : ZY Try.prog 26 = some ([.int .i64 0, .slice none 0 0, .slice none 0 0]) := by kernel_rfl
def Z66 : List Gp := [⟨0, 1⟩, ⟨0, 2⟩, ⟨1, 3⟩, ⟨2, 3⟩, ⟨3, 4⟩, ⟨4, 5⟩, ⟨1, 2⟩]
def sixS : List Sgt := [⟨2, 3, true⟩, ⟨1, 1, false⟩, ⟨2, 4, false⟩]
abbrev six (k : Nat) : Hse := ⟨6, Z66, sixS.take k⟩
theorem Z61 (l : List Sgt) (k : Nat) : (Zj l).take k = Zj (l.take k) := (List.map_take).symm
theorem Zaa {k : Nat} (hk : k ≤ 3) : (six k).sights.length = k := by
  show (sixS.take k).length = k
  rw [List.length_take]; show min k 3 = k; omega
set_option maxHeartbeats 400000 in
theorem Z49 (k : Nat) (hk : k ≤ 3) (H : Z7) (R : Z3) :
    Fn Try.prog 47 [.int .i64 (k : Int)] H R (fun v H' R' => ∃ (ag as_ : Option Addr) (cg cs : Nat), v = (six k).v ((six k).sg ag cg) ((six k).ss as_ cs) ∧ k ≤ cs ∧ H' = H ∧ R' = RowsA ag 2 (Zc (six k).gaps) :: RowsA as_ 3 (Zj (six k).sights) :: R) := by
 refine Ze Try.func47 rfl Try.ntmps47 rfl ?_
 refine sqt 1 rfl (alc rfl Z64 rfl (fun b2 => sqt 5 rfl (sp rfl (PE.build (out := [_, _, _]) ZcF Zbb rfl rfl) rfl (sp rfl (PE.build (out := [_, _, _]) ZcF Zbb rfl rfl) rfl (sp rfl (PE.build (out := [_, _, _]) ZcF Zbb rfl rfl) rfl ?_)))))
 refine bsl (out := [_, _, _, _, _, _, _, _, _]) rfl Zcn Zbb rfl rfl rfl rfl rfl rfl (fun b7 => ?_)
 refine pur 1 rfl (sqt 17 rfl (sp rfl (PE.build (out := [_, _]) Z7R Z30 rfl rfl) rfl (sp rfl (PE.build (out := [_, _]) Z7R Z30 rfl rfl) rfl (sp rfl (PE.build (out := [_, _]) Z7R Z30 rfl rfl) rfl (sp rfl (PE.build (out := [_, _]) Z7R Z30 rfl rfl) rfl (sp rfl (PE.build (out := [_, _]) Z7R Z30 rfl rfl) rfl (sp rfl (PE.build (out := [_, _]) Z7R Z30 rfl rfl) rfl (sp rfl (PE.build (out := [_, _]) Z7R Z30 rfl rfl) rfl ?_))))))))
 refine bsl (out := [_, _, _, _, _, _, _, _, _, _, _, _, _, _]) rfl Z7P Z30 rfl rfl rfl rfl rfl rfl (fun b15 => ?_)
 refine pur 3 rfl (sp rfl (PE.lenSl Z6L rfl) rfl (sp rfl (PE.min rfl rfl) rfl (sp rfl (PE.max rfl rfl) rfl ?_)))
 rw [show max (0 : Int) (min (k : Int) ((3 : Nat) : Int)) = (k : Int) by omega]
 refine sp rfl (PE.slHi (h := k) Zcn rfl rfl (by omega)) rfl (sp rfl (PE.build (out := [_, _, _]) Zbc Z64 rfl rfl) rfl ?_)
 refine ZQ (l' := [.int .i64 6, .slice (some ⟨b15, 0, none⟩) 7 7, .slice (some ⟨b7, 0, none⟩) k 3]) rfl rfl rfl Z8E rfl rfl rfl rfl (nl rfl) ?_
 refine Z4 ?_
 refine Sy.heap (fun w h9 => St.rows (sz := 3) (rows := Zj sixS) (rest := []) (h9.pull b7) (by simp [Zj, sixS, Z3U])) ?_
 refine Sy.heap (fun w h9 => St.rows (sz := 2) (rows := Zc Z66) (rest := []) (h9.pull b15) (by simp [Zc, Z66, Z1A])) ?_
 refine Sy.heap (fun w h9 => (show St _ (RowsA (some ⟨b7, 0, none⟩) 3 (Zj (sixS.take k)) :: _) w from Z61 sixS k ▸ St.rowsTake (a := some ⟨b7, 0, none⟩) (sz := 3) (rows := Zj sixS) h9 k)) ?_
 exact Zh (vs := [_]) rfl (.cons (RV.cell rfl (lhA [_, _, _] Z07 rfl rfl rfl)) .nil) rfl ⟨some ⟨b15, 0, none⟩, some ⟨b7, 0, none⟩, 7, 3, by unfold Hse.v Hse.sg Hse.ss htl; rw [Zaa hk]; rfl, hk, rfl, rfl⟩ (fun w h9 => St.sub (h9.del b2))
theorem ZcH : cal Try.prog 91 = true := by kernel_rfl
theorem Z3z : Wth Z66 7 := by
  intro g hg
  simp only [Z66, List.mem_cons, List.not_mem_nil, or_false] at hg
  rcases hg with rfl | rfl | rfl | rfl | rfl | rfl | rfl <;> decide
theorem six_w : ((six 0).weeksR [0]).1 = [0, 1, 1, 2, 3, 4] ∧ ((six 0).weeksR [0]).2 = 0 := ⟨by kernel_rfl, by kernel_rfl⟩
theorem six_o : ((six 2).orgR).1 = [4] ∧ ((six 2).orgR).2 = 0 := ⟨by kernel_rfl, by kernel_rfl⟩
theorem six_s : ((six 2).surR 1).1 = [4, 5] ∧ ((six 2).surR 1).2 = 0 := ⟨by kernel_rfl, by kernel_rfl⟩
theorem six_c : ((six 3).claR).1 = [0, 1, 2] ∧ ((six 3).claR).2 = 0 := ⟨by kernel_rfl, by kernel_rfl⟩
theorem six_l : (six 0).ledR [0] [3] [[0, 2], [1, 3]] = 2 ∧ (six 0).ledE [0] [3] [[0, 2], [1, 3]] = 0 := ⟨by kernel_rfl, by kernel_rfl⟩
theorem six_b : (six 0).botE [0] [5] = 0 ∧ (six 0).botE [0] [3] = 0 ∧ (six 0).rcE [0] [1] 1 = 0 := ⟨by kernel_rfl, by kernel_rfl, by kernel_rfl⟩
theorem ZbQ : plD Z66 2 1 8 1 0 3 = true := by kernel_rfl
theorem Zbd : plD Z66 2 1 8 1 0 2 = false := by kernel_rfl
theorem ZbI : plD Z66 8 0 8 1 0 10 = false := by kernel_rfl
theorem ZaK : plD Z66 8 1 8 1 0 10 = true := by kernel_rfl
theorem Zbw : plD Z66 32 10 8 1 0 1 = true := by kernel_rfl
theorem Zc7 : plD Z66 32 10 8 1 0 0 = false := by kernel_rfl
theorem six_few : Lst (Pl (six 0).gaps (msk [1]) (1 : Int).toNat (msk [0]) 0) 3 := Z6G Z3z (by decide) ZbQ Zbd
theorem Z9L : Lst (Pl (six 0).gaps (msk [5]) 10 (msk [0]) 0) 1 := Z6G Z3z (by decide) Zbw Zc7
theorem Z9X {s : Nat} (h1 : ∃ n, Pl (six 0).gaps (msk [3]) s (msk [0]) 0 n) (h2 : ∀ s', s' < s → ∀ n, ¬ Pl (six 0).gaps (msk [3]) s' (msk [0]) 0 n) : s = 1 := by
  rcases Nat.lt_trichotomy s 1 with h3 | h3 | h3
  · obtain rfl : s = 0 := by omega
    obtain ⟨n, hn⟩ := h1
    have hf := hn.few
    have h4 := Z4E (n := 10) (f := 8) Z3z (by decide) (by omega) hn (by have : (six 0).gaps.length = 7 := rfl; omega)
    have h5 : plD Z66 8 0 8 1 0 10 = true := h4
    rw [ZbI] at h5
    cases h5
  · exact h3
  · obtain ⟨k, _, hk⟩ := Z3E ZaK
    exact absurd hk (h2 1 h3 k)
theorem Z5O {f : Nat → Int} {V : List (Nat × Int)} (hf : Flw f (msk [0]) (msk [5]) (six 0).gaps) (hs : Shn (six 0).gaps (fun _ => true) f (msk [0]) (msk [5]) V) : (Z0z (Z17 V) (six 0).gaps).length = 1 := by
  have hc := (hs.cut (Z3u (Z27 six_b.1)) hf).1
  have hl : (Z0z (Z17 V) (six 0).gaps).length ≤ 7 := by
    unfold Z0z
    rw [List.length_map]
    exact Nat.le_trans (List.length_filter_le _ _) (by decide)
  exact (Cut.plan (sp := 10) Z3z (by decide) hc (by omega)).unique Z9L
theorem Z8A (xs ys : List Int) (a a2 : Option Addr) (c c2 : Nat) (hl : xs.length ≤ 9223372036854775807) (hl2 : ys.length ≤ 9223372036854775807) (H : Z7) (R : Z3) [hR : MemRows a 1 (Z6 xs) R] [hR2 : MemRows a2 1 (Z6 ys) R] :
    FnV Try.prog 91 [.slice a xs.length c, .slice a2 ys.length c2] H R (.bool (decide (xs = ys))) := by
 refine Ze Try.func91 rfl Try.ntmps91 rfl ?_
 refine sqt 1 rfl (pur 1 rfl (Z1 (sqt 5 rfl (pur 1 rfl (sp rfl (PE.lenSl Zw rfl) rfl (pur 1 rfl (sp rfl (PE.lenSl Zw rfl) rfl (pur 1 rfl ?_))))))))
 refine Z0 rfl ?_ ?_ <;> intro hc0
 have hne : xs ≠ ys := fun e => by subst e; simp at hc0
 refine sqt 1 rfl (pur 1 rfl (Z4 ?_))
 exact rtA rfl rfl rfl ⟨by first | (simp only [Z06]; rw [dT heq]; done) | (simp only [Z06]; rw [dF hne]), rfl, rfl⟩ idH
 have hle : xs.length = ys.length := by simp only [cS] at hc0; omega
 refine Z2 (Z1 (sqt 3 rfl (pur 1 rfl (sp rfl (PE.lenSl Zw rfl) rfl (pur 1 rfl (Z5 ?_))))))
 refine Zi (ι := {k : Nat // k ≤ xs.length ∧ xs.take k = ys.take k}) (fun k => ⟨[(0, .slice a xs.length c), (1, .slice a2 ys.length c2), (12, .int .i64 xs.length), (13, .int .i64 k.1)], H, R⟩) (fun k => xs.length - k.1) ⟨0, by simp⟩ ?_ (fun k => ?_)
 exact Zp idH
 obtain ⟨k, hk, hn⟩ := k
 dsimp only
 refine sqt 1 rfl (pur 1 rfl (Z1 ?_))
 refine Z0 rfl ?_ ?_ <;> intro hc1
 simp only [cS] at hc1
 obtain ⟨x, hx⟩ : ∃ x, xs[k]? = some x := ⟨_, List.getElem?_eq_getElem (by omega)⟩
 obtain ⟨z, hz⟩ : ∃ z, ys[k]? = some z := ⟨_, List.getElem?_eq_getElem (by omega)⟩
 refine Zq (a := a) (sz := 1) (rows := Z6 xs) (by intro h0; simp [Z6] at h0; simp [h0] at hx) (fun b off he => ?_)
 subst he
 refine Zq (a := a2) (sz := 1) (rows := Z6 ys) (by intro h0; simp [Z6] at h0; simp [h0] at hz) (fun b2 off2 he => ?_)
 subst he
 refine Z2 (Z1 (Z5 (sqt 2 rfl (pur 2 rfl (Z1 ?_)))))
 refine Zd [0, 0, 3, 7, 0, 0, 48, 112, 255] (tks 0 3 (.ld 3 (tks 4 3 (.ld 7 (.tk 8 .done))))) Zv (by kernel_rfl) ?_
 refine Zo 2 rfl (tk rfl (PE.indexAddr Z3b rfl rfl (by omega) (by omega)) rfl (ld rfl rfl (lf0 sc3 (by simp [Z6, hx]; rfl) rfl) rfl (Zo 2 rfl (tk rfl (PE.indexAddr Z3b rfl rfl (by omega) (by omega)) rfl (ld rfl rfl (lf0 sc3 (by simp [Z6, hz]; rfl) rfl) rfl (Zo 1 rfl ?_))))))
 refine Z0 rfl ?_ ?_ <;> intro hc2
 have hne : xs ≠ ys := fun e => by subst e; rw [hx] at hz; cases hz; simp at hc2
 refine sqt 1 rfl (pur 1 rfl (Z4 ?_))
 exact rtA rfl rfl rfl ⟨by first | (simp only [Z06]; rw [dT heq]; done) | (simp only [Z06]; rw [dF hne]), rfl, rfl⟩ idH
 have hxz : x = z := by simpa using hc2
 refine Z2 (sqr 2 rfl (sp rfl (PE.add rfl rfl (by omega)) rfl (pur 1 rfl ?_)))
 exact Z9 ⟨k + 1, by omega, by rw [List.take_add_one, List.take_add_one, hn, hx, hz, hxz]⟩ idH
 simp only [cS] at hc1
 obtain rfl : k = xs.length := by omega
 have heq : xs = ys := by
   rw [List.take_length] at hn
   exact hn.trans (by rw [hle]; exact List.take_length)
 refine Z8 (Za (Za (Zk (sqt 1 rfl (pur 1 rfl (Z4 ?_))))))
 exact rtA rfl rfl rfl ⟨by first | (simp only [Z06]; rw [dT heq]; done) | (simp only [Z06]; rw [dF hne]), rfl, rfl⟩ idH
theorem Z2f (xs ys : List Int) (a a2 : Option Addr) (c c2 : Nat) (hl : xs.length ≤ 9223372036854775807) (hl2 : ys.length ≤ 9223372036854775807) (H : Z7) (R : Z3) [hR : MemRows a 1 (Z6 xs) R] [hR2 : MemRows a2 1 (Z6 ys) R] :
    FnV Try.prog 49 [.slice a xs.length c, .slice a2 ys.length c2] H R (.bool (decide (xs = ys))) := by
 refine Ze Try.func49 rfl Try.ntmps49 rfl ?_
 refine sqt 1 rfl (pur 1 rfl (sqt 4 rfl (pur 2 rfl ?_)))
 refine clV rfl ZcH rfl rfl (Z8A xs ys a a2 c c2 hl hl2 _ _) ?_
 refine pur 1 rfl (Z4 ?_)
 exact rtA rfl rfl rfl ⟨rfl, rfl, rfl⟩ drp
theorem ZcW : cal Try.prog 12 = true := by kernel_rfl
theorem ZcX : cal Try.prog 14 = true := by kernel_rfl
theorem ZcK : cal Try.prog 15 = true := by kernel_rfl
theorem ZcB : cal Try.prog 18 = true := by kernel_rfl
theorem Z7U : cal Try.prog 22 = true := by kernel_rfl
theorem Z8C : cal Try.prog 23 = true := by kernel_rfl
theorem Z5J : cal Try.prog 25 = true := by kernel_rfl
theorem Z3X : cal Try.prog 47 = true := by kernel_rfl
theorem ZcA : cal Try.prog 48 = true := by kernel_rfl
theorem Z8b : cal Try.prog 49 = true := by kernel_rfl
set_option maxHeartbeats 1000000 in
theorem Z4O (H : Z7) (R : Z3) :
    FnV Try.prog 16 [] H R (.bool true) := by
 refine Ze Try.func16 rfl Try.ntmps16 rfl ?_
 refine sqt 1 rfl (pur 1 rfl (sqt 8 rfl ?_))
 refine cl rfl Z3X rfl rfl (Z49 0 (by decide) _ _) ?_
 rintro _ _ R1 ⟨ag18, as18, cg18, cs18, rfl, _, rfl, hR1⟩
 obtain rfl := hR1.symm
 clear hR1
 refine bsl (out := [_]) rfl Z0V zl3 rfl rfl rfl rfl rfl rfl (fun b19 => ?_)
 refine Sy.heap (fun w h9 => St.rows (sz := 1) (rows := Z6 [0]) (rest := []) (h9.pull b19) (by simp)) ?_
 refine cl rfl ZcB rfl rfl (Za6 (six 0) ag18 as18 cg18 cs18 (by decide) (by decide) [0] (some ⟨b19, 0, none⟩) 1 (by decide) (by decide) _ _) ?_
 rintro _ _ R1 ⟨a1, c1, _, rfl, rfl, hR1⟩
 obtain rfl := hR1.symm
 clear hR1
 rw [six_w.1, six_w.2]
 refine pur 5 rfl (sqt 7 rfl ?_)
 refine cl rfl Z3X rfl rfl (Z49 2 (by decide) _ _) ?_
 rintro _ _ R1 ⟨ag24, as24, cg24, cs24, rfl, _, rfl, hR1⟩
 obtain rfl := hR1.symm
 clear hR1
 refine cl rfl ZcX rfl rfl (Z6d (six 2) ag24 as24 cg24 cs24 (by decide) (by decide) _ _) ?_
 rintro _ _ R1 ⟨a2, c2, _, rfl, rfl, hR1⟩
 obtain rfl := hR1.symm
 clear hR1
 rw [six_o.1, six_o.2]
 refine pur 5 rfl (sqt 7 rfl ?_)
 refine cl rfl Z3X rfl rfl (Z49 2 (by decide) _ _) ?_
 rintro _ _ R1 ⟨ag29, as29, cg29, cs29, rfl, _, rfl, hR1⟩
 obtain rfl := hR1.symm
 clear hR1
 refine cl rfl ZcK rfl rfl (Z8h (six 2) ag29 as29 cg29 cs29 (by decide) (by decide) 1 _ _) ?_
 rintro _ _ R1 ⟨a3, c3, _, rfl, rfl, hR1⟩
 obtain rfl := hR1.symm
 clear hR1
 rw [six_s.1, six_s.2]
 refine pur 5 rfl (sqt 7 rfl ?_)
 refine cl rfl Z3X rfl rfl (Z49 3 (by decide) _ _) ?_
 rintro _ _ R1 ⟨ag34, as34, cg34, cs34, rfl, _, rfl, hR1⟩
 obtain rfl := hR1.symm
 clear hR1
 refine cl rfl ZcW rfl rfl (Zay (six 3) ag34 as34 cg34 cs34 (by decide) (by decide) _ _) ?_
 rintro _ _ R1 ⟨a4, c4, _, rfl, rfl, hR1⟩
 obtain rfl := hR1.symm
 clear hR1
 rw [six_c.1, six_c.2]
 refine pur 5 rfl (sqt 9 rfl ?_)
 refine cl rfl Z3X rfl rfl (Z49 0 (by decide) _ _) ?_
 rintro _ _ R1 ⟨ag39, as39, cg39, cs39, rfl, _, rfl, hR1⟩
 obtain rfl := hR1.symm
 clear hR1
 refine bsl (out := [_]) rfl Z0V zl3 rfl rfl rfl rfl rfl rfl (fun b40 => ?_)
 refine bsl (out := [_]) rfl Z0V zl3 rfl rfl rfl rfl rfl rfl (fun b41 => ?_)
 refine Sy.heap (fun w h9 => St.rows (sz := 1) (rows := Z6 [0]) (rest := []) (h9.pull b40) (by simp)) ?_
 refine Sy.heap (fun w h9 => St.rows (sz := 1) (rows := Z6 [1]) (rest := []) (h9.pull b41) (by simp)) ?_
 refine cl rfl Z5J rfl rfl (Z5c (six 0) ag39 as39 cg39 cs39 (by decide) (by decide) [0] [1] (some ⟨b40, 0, none⟩) (some ⟨b41, 0, none⟩) 1 1 (by decide) (by decide) (by decide) (by decide) 1 _ _) ?_
 rintro _ _ R1 ⟨rfl, hR1, hq⟩
 obtain rfl := hR1.symm
 clear hR1
 rcases hq with ⟨h9, _⟩ | ⟨_, hn, _⟩ | ⟨_, n, _, hn, rfl⟩
 · exact absurd six_b.2.2 h9
 · exact absurd six_few.1 (hn 3)
 obtain rfl := hn.unique six_few
 refine pur 5 rfl (sqt 12 rfl ?_)
 refine cl rfl Z3X rfl rfl (Z49 0 (by decide) _ _) ?_
 rintro _ _ R1 ⟨Z60, as46, cg46, cs46, rfl, _, rfl, hR1⟩
 obtain rfl := hR1.symm
 clear hR1
 refine bsl (out := [_]) rfl Z0V zl3 rfl rfl rfl rfl rfl rfl (fun b47 => ?_)
 refine bsl (out := [_]) rfl Z0V zl3 rfl rfl rfl rfl rfl rfl (fun b48 => ?_)
 refine bsl (out := [_, _]) rfl Z0V zl3 rfl rfl rfl rfl rfl rfl (fun b49 => ?_)
 refine bsl (out := [_, _]) rfl Z0V zl3 rfl rfl rfl rfl rfl rfl (fun b50 => ?_)
 refine bsl (out := [_, _]) rfl Zcj Z9p rfl rfl rfl rfl rfl rfl (fun b51 => ?_)
 refine Sy.heap (fun w h9 => St.rows (sz := 1) (rows := Z6 [0]) (rest := []) (h9.pull b47) (by simp)) ?_
 refine Sy.heap (fun w h9 => St.rows (sz := 1) (rows := Z6 [3]) (rest := []) (h9.pull b48) (by simp)) ?_
 refine Sy.heap (fun w h9 => St.rows (sz := 1) (rows := Z6 [0, 2]) (rest := []) (h9.pull b49) (by simp)) ?_
 refine Sy.heap (fun w h9 => St.rows (sz := 1) (rows := Z6 [1, 3]) (rest := []) (h9.pull b50) (by simp)) ?_
 refine Sy.heap (fun w h9 => St.rows (sz := 1) (rows := ZG [⟨some ⟨b49, 0, none⟩, 2, [0, 2]⟩, ⟨some ⟨b50, 0, none⟩, 2, [1, 3]⟩]) (rest := []) (h9.pull b51) (by simp [ZG, Z5Z])) ?_
 refine Sy.heap (fun w h9 => St.inn0 h9) ?_
 refine Sy.heap (fun w h9 => (show St _ (Inn [⟨some ⟨b49, 0, none⟩, 2, [0, 2]⟩] :: _) w from St.innSnoc (l := []) ⟨some ⟨b49, 0, none⟩, 2, [0, 2]⟩ h9)) ?_
 refine Sy.heap (fun w h9 => (show St _ (Inn [⟨some ⟨b49, 0, none⟩, 2, [0, 2]⟩, ⟨some ⟨b50, 0, none⟩, 2, [1, 3]⟩] :: _) w from St.innSnoc (l := [⟨some ⟨b49, 0, none⟩, 2, [0, 2]⟩]) ⟨some ⟨b50, 0, none⟩, 2, [1, 3]⟩ h9)) ?_
 refine cl rfl ZcA rfl rfl (Zal (six 0) Z60 as46 cg46 cs46 (by decide) (by decide) [0] [3] (some ⟨b47, 0, none⟩) (some ⟨b48, 0, none⟩) 1 1 (by decide) (by decide) (by decide) (by decide) [⟨some ⟨b49, 0, none⟩, 2, [0, 2]⟩, ⟨some ⟨b50, 0, none⟩, 2, [1, 3]⟩] (some ⟨b51, 0, none⟩) 2 (by show 2 ≤ 1000000; decide) (by show 4 ≤ 1000000; decide) _ _) ?_
 rintro _ _ _ ⟨rfl, rfl, rfl⟩
 rw [show lls [⟨some ⟨b49, 0, none⟩, 2, [0, 2]⟩, ⟨some ⟨b50, 0, none⟩, 2, [1, 3]⟩] = [[0, 2], [1, 3]] from rfl, six_l.1, six_l.2]
 refine pur 5 rfl (sqt 9 rfl ?_)
 refine cl rfl Z3X rfl rfl (Z49 0 (by decide) _ _) ?_
 rintro _ _ R1 ⟨ag56, as56, cg56, cs56, rfl, _, rfl, hR1⟩
 obtain rfl := hR1.symm
 clear hR1
 refine bsl (out := [_]) rfl Z0V zl3 rfl rfl rfl rfl rfl rfl (fun b57 => ?_)
 refine bsl (out := [_]) rfl Z0V zl3 rfl rfl rfl rfl rfl rfl (fun b58 => ?_)
 refine Sy.heap (fun w h9 => St.rows (sz := 1) (rows := Z6 [0]) (rest := []) (h9.pull b57) (by simp)) ?_
 refine Sy.heap (fun w h9 => St.rows (sz := 1) (rows := Z6 [5]) (rest := []) (h9.pull b58) (by simp)) ?_
 refine cl rfl Z8C rfl rfl (ZbX (six 0) ag56 as56 cg56 cs56 (by decide) (by decide) [0] [5] (some ⟨b57, 0, none⟩) (some ⟨b58, 0, none⟩) 1 1 (by decide) (by decide) (by decide) (by decide) _ _) ?_
 rintro _ _ R1 ⟨rfl, hq⟩
 rcases hq with ⟨h9, _⟩ | ⟨_, f, V, a5, c5, hf, hs, _, rfl, hR1⟩
 · exact absurd six_b.1 h9
 obtain rfl := hR1.symm
 clear hR1
 rw [Z5O hf hs]
 refine pur 5 rfl (sqt 9 rfl ?_)
 refine cl rfl Z3X rfl rfl (Z49 0 (by decide) _ _) ?_
 rintro _ _ R1 ⟨ag63, as63, cg63, cs63, rfl, _, rfl, hR1⟩
 obtain rfl := hR1.symm
 clear hR1
 refine bsl (out := [_]) rfl Z0V zl3 rfl rfl rfl rfl rfl rfl (fun b64 => ?_)
 refine bsl (out := [_]) rfl Z0V zl3 rfl rfl rfl rfl rfl rfl (fun b65 => ?_)
 refine Sy.heap (fun w h9 => St.rows (sz := 1) (rows := Z6 [0]) (rest := []) (h9.pull b64) (by simp)) ?_
 refine Sy.heap (fun w h9 => St.rows (sz := 1) (rows := Z6 [3]) (rest := []) (h9.pull b65) (by simp)) ?_
 refine cl rfl Z7U rfl rfl (Z6R (six 0) ag63 as63 cg63 cs63 (by decide) (by decide) [0] [3] (some ⟨b64, 0, none⟩) (some ⟨b65, 0, none⟩) 1 1 (by decide) (by decide) (by decide) (by decide) _ _) ?_
 rintro _ _ R1 ⟨rfl, hR1, hq⟩
 obtain rfl := hR1.symm
 clear hR1
 rcases hq with ⟨h9, _⟩ | ⟨_, n, _, hn1, hn2, rfl⟩
 · exact absurd six_b.2.1 h9
 obtain rfl := Z9X hn1 hn2
 refine pur 5 rfl (sqt 68 rfl (pur 3 rfl ?_))
 refine Zn 71 rfl ?_ ?_ <;> intro g71
 refine pur 4 rfl ?_
 refine Zn 75 rfl ?_ ?_ <;> intro g75
 refine pur 4 rfl ?_
 refine Zn 79 rfl ?_ ?_ <;> intro g79
 refine pur 4 rfl ?_
 refine Zn 83 rfl ?_ ?_ <;> intro g83
 refine pur 4 rfl ?_
 refine Zn 87 rfl ?_ ?_ <;> intro g87
 refine pur 4 rfl ?_
 refine Zn 91 rfl ?_ ?_ <;> intro g91
 refine pur 4 rfl ?_
 refine Zn 95 rfl ?_ ?_ <;> intro g95
 refine pur 4 rfl ?_
 refine Zn 99 rfl ?_ ?_ <;> intro g99
 refine pur 1 rfl ?_
 refine Zco (out := [_, _, _, _, _, _]) rfl rfl rfl rfl Z0V zl3 rfl rfl rfl rfl rfl rfl (fun b101 => ?_)
 refine Sy.heap (fun w h9 => St.rows (sz := 1) (rows := Z6 [0, 1, 1, 2, 3, 4]) (rest := []) (h9.pull b101) (by simp)) ?_
 refine Z81 rfl rfl rfl rfl Z8b rfl rfl (Z2f [0, 1, 1, 2, 3, 4] [0, 1, 1, 2, 3, 4] a1 (some ⟨b101, 0, none⟩) c1 6 (by decide) (by decide) _ _) ?_
 refine pur 2 rfl ?_
 refine Zn 104 rfl ?_ ?_ <;> intro g104
 refine pur 1 rfl ?_
 refine Zco (out := [_]) rfl rfl rfl rfl Z0V zl3 rfl rfl rfl rfl rfl rfl (fun b106 => ?_)
 refine Sy.heap (fun w h9 => St.rows (sz := 1) (rows := Z6 [4]) (rest := []) (h9.pull b106) (by simp)) ?_
 refine Z81 rfl rfl rfl rfl Z8b rfl rfl (Z2f [4] [4] a2 (some ⟨b106, 0, none⟩) c2 1 (by decide) (by decide) _ _) ?_
 refine pur 2 rfl ?_
 refine Zn 109 rfl ?_ ?_ <;> intro g109
 refine pur 1 rfl ?_
 refine Zco (out := [_, _]) rfl rfl rfl rfl Z0V zl3 rfl rfl rfl rfl rfl rfl (fun b111 => ?_)
 refine Sy.heap (fun w h9 => St.rows (sz := 1) (rows := Z6 [4, 5]) (rest := []) (h9.pull b111) (by simp)) ?_
 refine Z81 rfl rfl rfl rfl Z8b rfl rfl (Z2f [4, 5] [4, 5] a3 (some ⟨b111, 0, none⟩) c3 2 (by decide) (by decide) _ _) ?_
 refine pur 2 rfl ?_
 refine Zn 114 rfl ?_ ?_ <;> intro g114
 refine pur 1 rfl ?_
 refine Zco (out := [_, _, _]) rfl rfl rfl rfl Z0V zl3 rfl rfl rfl rfl rfl rfl (fun b116 => ?_)
 refine Sy.heap (fun w h9 => St.rows (sz := 1) (rows := Z6 [0, 1, 2]) (rest := []) (h9.pull b116) (by simp)) ?_
 refine Z81 rfl rfl rfl rfl Z8b rfl rfl (Z2f [0, 1, 2] [0, 1, 2] a4 (some ⟨b116, 0, none⟩) c4 3 (by decide) (by decide) _ _) ?_
 refine pur 2 rfl ?_
 refine Zn 119 rfl ?_ ?_ <;> intro g119
 refine pur 4 rfl ?_
 refine Zn 123 rfl ?_ ?_ <;> intro g123
 refine pur 4 rfl ?_
 refine Zn 127 rfl ?_ ?_ <;> intro g127
 refine pur 1 rfl ?_
 refine spG rfl rfl rfl rfl (PE.lenSl Zw rfl) rfl ?_
 refine pur 3 rfl ?_
 refine Zn 132 rfl ?_ ?_ <;> intro g132
 refine pur 4 rfl (Z4 ?_)
 exact rtA rfl rfl rfl ⟨rfl, rfl, rfl⟩ (fun w h9 => St.sub h9)
 exact absurd g132 (by decide)
 exact absurd g127 (by decide)
 exact absurd g123 (by decide)
 exact absurd g119 (by decide)
 exact absurd g114 (by decide)
 exact absurd g109 (by decide)
 exact absurd g104 (by decide)
 exact absurd g99 (by decide)
 exact absurd g95 (by decide)
 exact absurd g91 (by decide)
 exact absurd g87 (by decide)
 exact absurd g83 (by decide)
 exact absurd g79 (by decide)
 exact absurd g75 (by decide)
 exact absurd g71 (by decide)
theorem ZcS : apT Try.prog 23 = some (46, 2, 16) := by kernel_rfl
theorem Z5V : cal Try.prog 36 = true := by kernel_rfl
theorem Zdo : cal Try.prog 77 = true := by kernel_rfl
theorem Zct : Z0L Try.prog 70 = some 1 := by kernel_rfl
theorem ZdL : elN Try.prog 22 = some 1 := by kernel_rfl
theorem Z5z : Z21 Try.prog 72 0 = some 0 := by kernel_rfl
theorem Z2B : Z21 Try.prog 72 1 = some 1 := by kernel_rfl
theorem Z0o : Z21 Try.prog 72 2 = some 2 := by kernel_rfl
theorem Zdt : Z8U Try.prog 70 = some .u32 := by kernel_rfl
theorem Z8t : Z62 Try.prog 22 = true := by kernel_rfl
theorem ZdQ : Z12 Try.prog 72 = some [(0, 1), (1, 1), (2, 1)] := by kernel_rfl
theorem Zch : Z2a Try.prog 22 = true := by kernel_rfl
theorem sc5 : Z2a Try.prog 5 = true := by kernel_rfl
theorem Z6D : Z2a Try.prog 70 = true := by kernel_rfl
theorem us3 : (Try.prog.underlying 3).isSome = true := by kernel_rfl
theorem us5 : (Try.prog.underlying 5).isSome = true := by kernel_rfl
theorem Zci : (Try.prog.underlying 70).isSome = true := by kernel_rfl
theorem ZdA : ZY Try.prog 72 = some ([.slice none 0 0, .int .i64 0, .int .u32 0]) := by kernel_rfl
def Z8W (x : Int) : List Value := [.int .u8 x]
def Z2M (l : List Int) : List (List Value) := l.map Z8W
theorem Z8Y (g : List Int) (ag : Option Addr) (cg : Nat) (hgl : g.length ≤ 9223372036854775807) (H : Z7) (R : Z3) :
    Fn Try.prog 10 [.slice ag g.length cg] H R (fun v H' R' => ∃ bk, ∃ mx : Int, (0 ≤ mx ∧ mx ≤ 4294967295) ∧ v = .pointer (some ⟨bk, 0, none⟩) ∧ H' = (bk, cel 72 [.slice ag g.length cg, .int .i64 (0), .int .u32 (mx)]) :: H ∧ R' = R) := by
 refine Ze Try.func10 rfl Try.ntmps10 rfl ?_
 refine sqt 1 rfl (pur 1 rfl (sqt 8 rfl (pur 2 rfl (sp rfl (PE.lenSl Z8t rfl) rfl ?_))))
 refine spE rfl (PE.convU us3 Zdt rfl) rfl ?_
 rintro _ ⟨u6, rfl, hu6⟩
 refine spE rfl (PE.xorU rfl rfl) rfl ?_
 rintro _ ⟨u7, rfl, hu7⟩
 refine sp rfl (PE.build (out := [_, _, _]) ZdQ ZdA rfl rfl) rfl (bx rfl rfl rfl (fun b9 => pur 1 rfl (Z4 ?_)))
 exact rtA rfl rfl rfl ⟨b9, u7, hu7, rfl, rfl, rfl⟩ idH
theorem Z7A (g : List Int) (ag : Option Addr) (cg bk : Nat) (hgl : g.length ≤ 9223372036854775807) (tq mx : Int) (htq : 0 ≤ tq ∧ tq ≤ 1000000000) (hmx : 0 ≤ mx ∧ mx ≤ 4294967295) (H : Z7) (R : Z3) [hG : MemRows ag 1 (Z2M g) R] :
    Fn Try.prog 77 [.pointer (some ⟨bk, 0, none⟩)] ((bk, cel 72 [.slice ag g.length cg, .int .i64 (tq), .int .u32 (mx)]) :: H) R (fun v H' R' => ∃ x m' : Int, (0 ≤ x ∧ x ≤ 65535) ∧ v = .int .i64 x ∧ (0 ≤ m' ∧ m' ≤ 4294967295) ∧ H' = (bk, cel 72 [.slice ag g.length cg, .int .i64 (tq + 1), .int .u32 (m')]) :: H ∧ R' = R) := by
 refine Ze Try.func77 rfl Try.ntmps77 rfl ?_
 refine sqt 1 rfl (pur 1 rfl (Z1 (sqt 6 rfl (pur 1 rfl (sp rfl (PE.nilCheck rfl) rfl (sp rfl (PE.fA Z5z rfl) rfl (spL rfl rfl (lh Zch rfl rfl) rfl (sp rfl (PE.lenSl Z8t rfl) rfl (pur 1 rfl (sqt 2 rfl (pur 2 rfl ?_)))))))))))
 refine Z0 rfl ?_ ?_ <;> intro hc0 <;> try simp only [cS] at hc0
 obtain ⟨y, hy⟩ : ∃ y, g[(tq % g.length).toNat]? = some y := ⟨_, List.getElem?_eq_getElem (by have := Int.emod_lt_of_pos tq hc0; have := Int.emod_nonneg tq (show (g.length : Int) ≠ 0 by omega); omega)⟩
 refine Zq (a := ag) (sz := 1) (rows := Z2M g) (by intro h0; simp [Z2M] at h0; simp [h0] at hy) (fun bgr ogr he => ?_)
 subst he
 refine Zd [0, 0, 2, 6, 14, 0, 32, 96, 224, 0, 512, 1536, 3584, 0, 15872, 32736, 65504, 131040, 262142, 524286, 1048575, 2097151, 4194303] (tks 0 4 (.ld 4 (tks 5 3 (.ld 8 (tks 9 3 (.ld 12 (tks 13 3 (.ld 16 (tks 17 5 (.big 22 .done)))))))))) Zv (by kernel_rfl) ?_
 refine Zo 2 rfl (tk rfl (PE.nilCheck rfl) rfl (tk rfl (PE.fA Z0o rfl) rfl (ld rfl rfl (lh Z6D rfl rfl) rfl (Zo 1 rfl (tk rfl (PE.nilCheck rfl) rfl (tk rfl (PE.fA Z5z rfl) rfl (ld rfl rfl (lh Zch rfl rfl) rfl (Zo 1 rfl (tk rfl (PE.nilCheck rfl) rfl (tk rfl (PE.fA Z2B rfl) rfl (ld rfl rfl (lh sc3 rfl rfl) rfl (Zo 1 rfl (tk rfl (PE.rem rfl rfl (by omega)) rfl (tk rfl (PE.indexAddr ZdL rfl rfl (by exact Int.emod_nonneg tq (by omega)) (by exact Int.emod_lt_of_pos tq hc0)) rfl (ld rfl rfl (lf0 (x := .int .u8 y) sc5 (by simp [Z2M, Z8W, hy]; rfl) rfl) rfl ?_)))))))))))))))
 refine tkE rfl (PE.convU us5 Zdt rfl) rfl ?_
 rintro _ ⟨u28, rfl, hu28⟩
 refine tkE rfl (PE.xorU rfl rfl) rfl ?_
 rintro _ ⟨u29, rfl, hu29⟩
 refine tkE rfl (PE.mulU rfl rfl) rfl ?_
 rintro _ ⟨u30, rfl, hu30⟩
 refine tk rfl (PE.nilCheck rfl) rfl (tk rfl (PE.fA Z0o rfl) rfl ?_)
 refine sto rfl rfl rfl Zct rfl rfl rfl rfl ?_
 refine bgT (sqt 8 rfl (pur 1 rfl (sp rfl (PE.nilCheck rfl) rfl (sp rfl (PE.fA Z2B rfl) rfl (spL rfl rfl (lh sc3 rfl rfl) rfl (sp rfl (PE.add rfl rfl (by omega)) rfl (sp rfl (PE.nilCheck rfl) rfl (sp rfl (PE.fA Z2B rfl) rfl ?_))))))))
 refine sto rfl rfl rfl cn3 rfl rfl rfl rfl ?_
 refine Z1 (Z1 ?_)
 refine Zd [0, 1, 3, 7, 0, 16, 48, 112, 240, 511] (tks 0 3 (.ld 3 (tks 4 3 (.ld 7 (.tk 8 (.tk 9 .done)))))) Zv (by kernel_rfl) ?_
 refine Zo 1 rfl (tk rfl (PE.nilCheck rfl) rfl (tk rfl (PE.fA Z2B rfl) rfl (ld rfl rfl (lh sc3 rfl rfl) rfl (Zo 1 rfl (tk rfl (PE.nilCheck rfl) rfl (tk rfl (PE.fA Z5z rfl) rfl (ld rfl rfl (lh Zch rfl rfl) rfl (tk rfl (PE.lenSl Z8t rfl) rfl (Zo 1 rfl ?_)))))))))
 refine Z0 rfl ?_ ?_ <;> intro hc1 <;> try simp only [cS] at hc1
 refine sqr 10 rfl (pur 2 rfl (sp rfl (PE.nilCheck rfl) rfl (sp rfl (PE.fA Z0o rfl) rfl (spL rfl rfl (lh Z6D rfl rfl) rfl ?_))))
 refine spE rfl (PE.mulU rfl rfl) rfl ?_
 rintro _ ⟨u55, rfl, hu55⟩
 refine spE rfl (PE.addU rfl rfl) rfl ?_
 rintro _ ⟨u56, rfl, hu56⟩
 refine sp rfl (PE.nilCheck rfl) rfl (sp rfl (PE.fA Z0o rfl) rfl ?_)
 refine sto rfl rfl rfl Zct rfl rfl rfl rfl ?_
 refine Z1 ?_
 refine Zd [0, 1, 3, 7, 0, 16, 48, 112, 240, 511, 1023, 2047, 4095, 8191] (tks 0 3 (.ld 3 (tks 4 3 (.ld 7 (tks 8 6 .done))))) Zv (by kernel_rfl) ?_
 refine Zo 1 rfl (tk rfl (PE.nilCheck rfl) rfl (tk rfl (PE.fA Z0o rfl) rfl (ld rfl rfl (lh Z6D rfl rfl) rfl (Zo 1 rfl (tk rfl (PE.nilCheck rfl) rfl (tk rfl (PE.fA Z0o rfl) rfl (ld rfl rfl (lh Z6D rfl rfl) rfl ?_)))))))
 refine tkE rfl (PE.shrU rfl rfl (by decide) (by omega) (by omega)) rfl ?_
 rintro _ ⟨u67, rfl, hu67⟩
 refine tkE rfl (PE.xorU rfl rfl) rfl ?_
 rintro _ ⟨u68, rfl, hu68⟩
 refine tkE rfl (PE.shrU rfl rfl (by decide) (by omega) (by omega)) rfl ?_
 rintro _ ⟨u69, rfl, hu69⟩
 refine tkE rfl (PE.andU rfl rfl (by decide) (by decide)) rfl ?_
 rintro _ ⟨u70, rfl, hu70⟩
 refine tk rfl (PE.conv64 Zci ik3 rfl (by omega)) rfl (Zo 1 rfl (Z4 ?_))
 first
   | exact rtA rfl rfl rfl ⟨u70, _, hu70, rfl, hu56, rfl, rfl⟩ idH
   | exact rtA rfl rfl rfl ⟨u70, _, hu70, rfl, hu30, rfl, rfl⟩ idH
   | exact rtA rfl rfl rfl ⟨u70, _, hu70, rfl, hmx, rfl, rfl⟩ idH
 refine Z2 (Z1 ?_)
 refine Zd [0, 1, 3, 7, 0, 16, 48, 112, 240, 511, 1023, 2047, 4095, 8191] (tks 0 3 (.ld 3 (tks 4 3 (.ld 7 (tks 8 6 .done))))) Zv (by kernel_rfl) ?_
 refine Zo 1 rfl (tk rfl (PE.nilCheck rfl) rfl (tk rfl (PE.fA Z0o rfl) rfl (ld rfl rfl (lh Z6D rfl rfl) rfl (Zo 1 rfl (tk rfl (PE.nilCheck rfl) rfl (tk rfl (PE.fA Z0o rfl) rfl (ld rfl rfl (lh Z6D rfl rfl) rfl ?_)))))))
 refine tkE rfl (PE.shrU rfl rfl (by decide) (by omega) (by omega)) rfl ?_
 rintro _ ⟨u67, rfl, hu67⟩
 refine tkE rfl (PE.xorU rfl rfl) rfl ?_
 rintro _ ⟨u68, rfl, hu68⟩
 refine tkE rfl (PE.shrU rfl rfl (by decide) (by omega) (by omega)) rfl ?_
 rintro _ ⟨u69, rfl, hu69⟩
 refine tkE rfl (PE.andU rfl rfl (by decide) (by decide)) rfl ?_
 rintro _ ⟨u70, rfl, hu70⟩
 refine tk rfl (PE.conv64 Zci ik3 rfl (by omega)) rfl (Zo 1 rfl (Z4 ?_))
 first
   | exact rtA rfl rfl rfl ⟨u70, _, hu70, rfl, hu56, rfl, rfl⟩ idH
   | exact rtA rfl rfl rfl ⟨u70, _, hu70, rfl, hu30, rfl, rfl⟩ idH
   | exact rtA rfl rfl rfl ⟨u70, _, hu70, rfl, hmx, rfl, rfl⟩ idH
 refine Z2 (sqt 8 rfl (pur 1 rfl (sp rfl (PE.nilCheck rfl) rfl (sp rfl (PE.fA Z2B rfl) rfl (spL rfl rfl (lh sc3 rfl rfl) rfl (sp rfl (PE.add rfl rfl (by omega)) rfl (sp rfl (PE.nilCheck rfl) rfl (sp rfl (PE.fA Z2B rfl) rfl ?_))))))))
 refine sto rfl rfl rfl cn3 rfl rfl rfl rfl ?_
 refine Z1 (Z1 ?_)
 refine Zd [0, 1, 3, 7, 0, 16, 48, 112, 240, 511] (tks 0 3 (.ld 3 (tks 4 3 (.ld 7 (.tk 8 (.tk 9 .done)))))) Zv (by kernel_rfl) ?_
 refine Zo 1 rfl (tk rfl (PE.nilCheck rfl) rfl (tk rfl (PE.fA Z2B rfl) rfl (ld rfl rfl (lh sc3 rfl rfl) rfl (Zo 1 rfl (tk rfl (PE.nilCheck rfl) rfl (tk rfl (PE.fA Z5z rfl) rfl (ld rfl rfl (lh Zch rfl rfl) rfl (tk rfl (PE.lenSl Z8t rfl) rfl (Zo 1 rfl ?_)))))))))
 refine Z0 rfl ?_ ?_ <;> intro hc1 <;> try simp only [cS] at hc1
 refine sqr 10 rfl (pur 2 rfl (sp rfl (PE.nilCheck rfl) rfl (sp rfl (PE.fA Z0o rfl) rfl (spL rfl rfl (lh Z6D rfl rfl) rfl ?_))))
 refine spE rfl (PE.mulU rfl rfl) rfl ?_
 rintro _ ⟨u55, rfl, hu55⟩
 refine spE rfl (PE.addU rfl rfl) rfl ?_
 rintro _ ⟨u56, rfl, hu56⟩
 refine sp rfl (PE.nilCheck rfl) rfl (sp rfl (PE.fA Z0o rfl) rfl ?_)
 refine sto rfl rfl rfl Zct rfl rfl rfl rfl ?_
 refine Z1 ?_
 refine Zd [0, 1, 3, 7, 0, 16, 48, 112, 240, 511, 1023, 2047, 4095, 8191] (tks 0 3 (.ld 3 (tks 4 3 (.ld 7 (tks 8 6 .done))))) Zv (by kernel_rfl) ?_
 refine Zo 1 rfl (tk rfl (PE.nilCheck rfl) rfl (tk rfl (PE.fA Z0o rfl) rfl (ld rfl rfl (lh Z6D rfl rfl) rfl (Zo 1 rfl (tk rfl (PE.nilCheck rfl) rfl (tk rfl (PE.fA Z0o rfl) rfl (ld rfl rfl (lh Z6D rfl rfl) rfl ?_)))))))
 refine tkE rfl (PE.shrU rfl rfl (by decide) (by omega) (by omega)) rfl ?_
 rintro _ ⟨u67, rfl, hu67⟩
 refine tkE rfl (PE.xorU rfl rfl) rfl ?_
 rintro _ ⟨u68, rfl, hu68⟩
 refine tkE rfl (PE.shrU rfl rfl (by decide) (by omega) (by omega)) rfl ?_
 rintro _ ⟨u69, rfl, hu69⟩
 refine tkE rfl (PE.andU rfl rfl (by decide) (by decide)) rfl ?_
 rintro _ ⟨u70, rfl, hu70⟩
 refine tk rfl (PE.conv64 Zci ik3 rfl (by omega)) rfl (Zo 1 rfl (Z4 ?_))
 first
   | exact rtA rfl rfl rfl ⟨u70, _, hu70, rfl, hu56, rfl, rfl⟩ idH
   | exact rtA rfl rfl rfl ⟨u70, _, hu70, rfl, hu30, rfl, rfl⟩ idH
   | exact rtA rfl rfl rfl ⟨u70, _, hu70, rfl, hmx, rfl, rfl⟩ idH
 refine Z2 (Z1 ?_)
 refine Zd [0, 1, 3, 7, 0, 16, 48, 112, 240, 511, 1023, 2047, 4095, 8191] (tks 0 3 (.ld 3 (tks 4 3 (.ld 7 (tks 8 6 .done))))) Zv (by kernel_rfl) ?_
 refine Zo 1 rfl (tk rfl (PE.nilCheck rfl) rfl (tk rfl (PE.fA Z0o rfl) rfl (ld rfl rfl (lh Z6D rfl rfl) rfl (Zo 1 rfl (tk rfl (PE.nilCheck rfl) rfl (tk rfl (PE.fA Z0o rfl) rfl (ld rfl rfl (lh Z6D rfl rfl) rfl ?_)))))))
 refine tkE rfl (PE.shrU rfl rfl (by decide) (by omega) (by omega)) rfl ?_
 rintro _ ⟨u67, rfl, hu67⟩
 refine tkE rfl (PE.xorU rfl rfl) rfl ?_
 rintro _ ⟨u68, rfl, hu68⟩
 refine tkE rfl (PE.shrU rfl rfl (by decide) (by omega) (by omega)) rfl ?_
 rintro _ ⟨u69, rfl, hu69⟩
 refine tkE rfl (PE.andU rfl rfl (by decide) (by decide)) rfl ?_
 rintro _ ⟨u70, rfl, hu70⟩
 refine tk rfl (PE.conv64 Zci ik3 rfl (by omega)) rfl (Zo 1 rfl (Z4 ?_))
 first
   | exact rtA rfl rfl rfl ⟨u70, _, hu70, rfl, hu56, rfl, rfl⟩ idH
   | exact rtA rfl rfl rfl ⟨u70, _, hu70, rfl, hu30, rfl, rfl⟩ idH
   | exact rtA rfl rfl rfl ⟨u70, _, hu70, rfl, hmx, rfl, rfl⟩ idH
theorem Z1P (g : List Int) (ag : Option Addr) (cg bk : Nat) (hgl : g.length ≤ 9223372036854775807) (tq mx : Int) (htq : 0 ≤ tq ∧ tq ≤ 1000000000) (hmx : 0 ≤ mx ∧ mx ≤ 4294967295) (n : Int) (H : Z7) (R : Z3) [hG : MemRows ag 1 (Z2M g) R] :
    Fn Try.prog 36 [.pointer (some ⟨bk, 0, none⟩), .int .i64 n] ((bk, cel 72 [.slice ag g.length cg, .int .i64 (tq), .int .u32 (mx)]) :: H) R (fun v H' R' => ∃ x m' : Int, (0 ≤ x ∧ x < max 1 n) ∧ v = .int .i64 x ∧ (0 ≤ m' ∧ m' ≤ 4294967295) ∧ H' = (bk, cel 72 [.slice ag g.length cg, .int .i64 (tq + 1), .int .u32 (m')]) :: H ∧ R' = R) := by
 refine Ze Try.func36 rfl Try.ntmps36 rfl ?_
 refine sqt 1 rfl (pur 1 rfl (sqt 6 rfl (pur 1 rfl ?_)))
 refine cl rfl Zdo rfl rfl (Z7A g ag cg bk hgl tq mx htq hmx _ _) ?_
 rintro _ _ _ ⟨x, m', hx, rfl, hm', rfl, rfl⟩
 refine pur 1 rfl (sp rfl (PE.max rfl rfl) rfl (sp rfl (PE.rem rfl rfl (by omega)) rfl (pur 1 rfl (Z4 ?_))))
 exact rtA rfl rfl rfl ⟨_, m', ⟨Int.emod_nonneg _ (by omega), Int.emod_lt_of_pos _ (by omega)⟩, rfl, hm', rfl, rfl⟩ idH
theorem Zak (g : List Int) (ag : Option Addr) (cg bk : Nat) (hgl : g.length ≤ 9223372036854775807) (tq mx : Int) (htq : 0 ≤ tq ∧ tq ≤ 1000000000) (hmx : 0 ≤ mx ∧ mx ≤ 4294967295) (lo hi : Int) (hb : -1000000 ≤ lo ∧ lo ≤ 1000000 ∧ -1000000 ≤ hi ∧ hi ≤ 1000000) (H : Z7) (R : Z3) [hG : MemRows ag 1 (Z2M g) R] :
    Fn Try.prog 35 [.pointer (some ⟨bk, 0, none⟩), .int .i64 lo, .int .i64 hi] ((bk, cel 72 [.slice ag g.length cg, .int .i64 (tq), .int .u32 (mx)]) :: H) R (fun v H' R' => ∃ x m' : Int, (lo ≤ x ∧ x < lo + max 1 (hi - lo + 1)) ∧ v = .int .i64 x ∧ (0 ≤ m' ∧ m' ≤ 4294967295) ∧ H' = (bk, cel 72 [.slice ag g.length cg, .int .i64 (tq + 1), .int .u32 (m')]) :: H ∧ R' = R) := by
 refine Ze Try.func35 rfl Try.ntmps35 rfl ?_
 refine sqt 1 rfl (pur 1 rfl (sqt 9 rfl (pur 4 rfl (sp rfl (PE.sub rfl rfl (by omega)) rfl (sp rfl (PE.add rfl rfl (by omega)) rfl ?_)))))
 refine cl rfl Z5V rfl rfl (Z1P g ag cg bk hgl tq mx htq hmx (hi - lo + 1) _ _) ?_
 rintro _ _ _ ⟨x, m', hx, rfl, hm', rfl, rfl⟩
 refine sp rfl (PE.add rfl rfl (by omega)) rfl (pur 1 rfl (Z4 ?_))
 exact rtA rfl rfl rfl ⟨lo + x, m', ⟨by omega, by omega⟩, rfl, hm', rfl, rfl⟩ idH
theorem Z77 (g : List Int) (ag : Option Addr) (cg bk : Nat) (hgl : g.length ≤ 9223372036854775807) (tq mx : Int) (htq : 0 ≤ tq ∧ tq ≤ 1000000000) (hmx : 0 ≤ mx ∧ mx ≤ 4294967295) (n : Int) (H : Z7) (R : Z3) [hG : MemRows ag 1 (Z2M g) R] :
    Fn Try.prog 13 [.pointer (some ⟨bk, 0, none⟩), .int .i64 n] ((bk, cel 72 [.slice ag g.length cg, .int .i64 (tq), .int .u32 (mx)]) :: H) R (fun v H' R' => ∃ (x : Bool) (m' : Int), v = .bool x ∧ (0 ≤ m' ∧ m' ≤ 4294967295) ∧ H' = (bk, cel 72 [.slice ag g.length cg, .int .i64 (tq + 1), .int .u32 (m')]) :: H ∧ R' = R) := by
 refine Ze Try.func13 rfl Try.ntmps13 rfl ?_
 refine sqt 1 rfl (pur 1 rfl (sqt 5 rfl (pur 2 rfl ?_)))
 refine cl rfl Z5V rfl rfl (Z1P g ag cg bk hgl tq mx htq hmx n _ _) ?_
 rintro _ _ _ ⟨x, m', hx, rfl, hm', rfl, rfl⟩
 refine pur 2 rfl (Z4 ?_)
 exact rtA rfl rfl rfl ⟨_, m', rfl, hm', rfl, rfl⟩ idH
theorem Zac : cal Try.prog 13 = true := by kernel_rfl
theorem Zd6 : cal Try.prog 35 = true := by kernel_rfl
theorem Zdx : Z0L Try.prog 23 = some 1 := by kernel_rfl
theorem Z3a {p q : Nat → Bool} {k : Nat} (h : ∀ j < k, p j = q j) : Z0c p k = Z0c q k := by
  unfold Z0c
  rw [List.filter_congr fun j hj => h j (List.mem_range.1 hj)]
theorem Z3I (p : Nat → Bool) (k : Nat) (b : Bool) : Z0c (fun j => bif decide (j = k) then b else p j) (k + 1) = Z0c p k ++ bif b then [(k : Int)] else [] := by
  rw [Z2P, Z3a (q := p) fun j hj => by rw [decide_eq_false (show ¬ j = k by omega)]; rfl, decide_eq_true rfl]; rfl
theorem fltK_mem {p : Nat → Bool} {n : Nat} {j : Int} : j ∈ Z0c p n ↔ ∃ k : Nat, k < n ∧ p k = true ∧ j = k := by
  unfold Z0c
  rw [List.mem_map]
  constructor
  · rintro ⟨k, h1, h2⟩
    rw [List.mem_filter, List.mem_range] at h1
    exact ⟨k, h1.1, h1.2, h2.symm⟩
  · rintro ⟨k, h1, h2, rfl⟩; exact ⟨k, List.mem_filter.2 ⟨List.mem_range.2 h1, h2⟩, rfl⟩
theorem Z83 (p : Nat → Bool) (n : Nat) : (Z0c p n).Pairwise (· < ·) := (List.pairwise_lt_range.filter _).map _ fun a b h => by omega
theorem Z5M (p : Nat → Bool) (n : Nat) : (Z0c p n).Nodup := List.nodup_iff_pairwise_ne.2 ((Z83 p n).imp fun h => by omega)
theorem Z69 (p : Nat → Bool) {n : Int} (hn : 0 ≤ n) : ∀ x ∈ Z0c p n.toNat, 0 ≤ x ∧ x < n := fun x hx => by
  obtain ⟨k, h1, _, rfl⟩ := fltK_mem.1 hx; omega
theorem Z4U (p : Nat → Bool) {n : Int} (hn : 0 ≤ n) : ZV n (Z0c p n.toNat) = 0 := Z8x (Z69 p hn) (Z5M p _)
structure MadeW (h : Hse) (nb ng : Int) : Prop where
  bins : 2 ≤ h.bins ∧ h.bins ≤ nb
  gl : (h.gaps.length : Int) ≤ ng
  gaps : ∀ g ∈ h.gaps, (0 ≤ g.a ∧ g.a < h.bins) ∧ (0 ≤ g.b ∧ g.b < h.bins) ∧ g.a ≠ g.b
  none : h.sights = []
theorem MadeW.ok {h : Hse} {nb ng : Int} (hm : MadeW h nb ng) (h1 : nb ≤ 7) (h2 : ng ≤ 10) : h.ok := ⟨by have := hm.bins; omega, by have := hm.gl; omega, by rw [hm.none]; exact Nat.zero_le _, hm.gaps, by rw [hm.none]; simp⟩
def ini (f : Nat → Int) (n k : Nat) : List Int := (List.range n).map fun j => bif decide (j < k) then f j else 0
theorem Z9O (f : Nat → Int) (n k : Nat) : (ini f n k).length = n := by simp [ini]
theorem Zb8 {f : Nat → Int} {n k j : Nat} (hj : j < n) : na (ini f n k) j = bif decide (j < k) then f j else 0 := by
  unfold na ini
  rw [List.getD_eq_getElem?_getD, List.getElem?_map, List.getElem?_range hj]; rfl
def in0 (fr : List Int) (j : Nat) : Int := bif Z35 fr j then 0 else 100
theorem Z9C {l : List Int} (h : ∀ x ∈ l, 0 ≤ x) (j : Nat) : Z35 l (j : Int) = (msk l).testBit j := by rw [Bool.eq_iff_iff, hasI_iff, Zt h]
theorem FolI.start {gs : List Gp} {cl : Nat → Nat} {fr : List Int} (h : ∀ x ∈ fr, 0 ≤ x) (n : Nat) : FolI gs cl (msk fr) n 0 (Z4I gs (cl 0) (lvp gs cl (msk fr) 0) 0) (ini (in0 fr) n n) := ⟨Z9O _ _ _, fun k hk => by
  rw [Zb8 hk, decide_eq_true hk, cond_true]
  unfold in0
  rw [Z9C h]
  show _ = bif (msk fr).testBit k then fol gs cl (msk fr) 0 k else bif (msk fr).testBit k then _ else 100
  cases hb : (msk fr).testBit k with
  | false => rfl
  | true =>
    rw [cond_true, cond_true]
    exact (Z7f (t := 0) (Nat.le_refl _) hb (fun i hi => absurd hi (Nat.not_lt_zero _))).symm⟩
theorem ZaX (l0 : List Int) (a0 : Option Addr) (c0 bk : Nat) (hgl : l0.length ≤ 9223372036854775807) (tq mx : Int) (htq : 0 ≤ tq ∧ tq ≤ 1000000) (hmx : 0 ≤ mx ∧ mx ≤ 4294967295) (nb ng : Int) (hnb : 2 ≤ nb ∧ nb ≤ 7) (hng : 0 ≤ ng ∧ ng ≤ 10) (H : Z7) (R : Z3) [hG : MemRows a0 1 (Z2M l0) R] :
    Fn Try.prog 9 [.pointer (some ⟨bk, 0, none⟩), .int .i64 nb, .int .i64 ng] ((bk, cel 72 [.slice a0 l0.length c0, .int .i64 (tq), .int .u32 (mx)]) :: H) R (fun v H' R' => ∃ (h : Hse) (p : Nat → Bool) (ag ar : Option Addr) (cg cr : Nat) (tq' mx' : Int), MadeW h nb ng ∧ h.gaps.length ≤ cg ∧ (Z0c p h.bins.toNat).length ≤ cr ∧ v = .tuple #[h.v (h.sg ag cg) (h.ss none 0), .slice ar (Z0c p h.bins.toNat).length cr] ∧ (tq ≤ tq' ∧ tq' ≤ tq + 100) ∧ (0 ≤ mx' ∧ mx' ≤ 4294967295) ∧ H' = (bk, cel 72 [.slice a0 l0.length c0, .int .i64 (tq'), .int .u32 (mx')]) :: H ∧ R' = RowsA none 3 (Zj h.sights) :: RowsA ar 1 (Z6 (Z0c p h.bins.toNat)) :: RowsA ag 2 (Zc h.gaps) :: R) := by
 refine Ze Try.func9 rfl Try.ntmps9 rfl ?_
 refine sqt 2 rfl (alc rfl Z64 rfl (fun b6 => pur 1 rfl (sqt 6 rfl (pur 2 rfl ?_))))
 refine ZH bk ?_
 refine cl rfl Zd6 rfl rfl (Zak l0 a0 c0 bk hgl _ _ (by omega) (by assumption) (2) (nb) (by first | omega | (dsimp only; omega)) _ _) ?_
 rintro _ _ R1 ⟨x15, m15, hx15, rfl, hm15, rfl, hR1⟩
 obtain rfl := hR1.symm
 refine sp rfl (PE.build (out := htl ⟨x15, [], []⟩ (.slice none 0 0) (.slice none 0 0)) Zbc Z64 rfl rfl) rfl (alc rfl Z64 rfl (fun b8 => ?_))
 refine sto rfl rfl rfl Z8E rfl rfl rfl rfl ?_
 refine Z1 (sqt 5 rfl ?_)
 refine ZH bk ?_
 refine pur 2 rfl (sp rfl (PE.add rfl rfl (by omega)) rfl ?_)
 refine cl rfl Z5V rfl rfl (Z1P l0 a0 c0 bk hgl _ _ (by omega) (by assumption) (ng + 1) _ _) ?_
 rintro _ _ R1 ⟨x20, m20, hx20, rfl, hm20, rfl, hR1⟩
 obtain rfl := hR1.symm
 refine pur 1 rfl (Z5 ?_)
 obtain ⟨n20, rfl⟩ : ∃ n : Nat, x20 = n := ⟨x20.toNat, by omega⟩
 refine Zi (ι := (x : {x : Nat × List Gp × Int × Int // x.1 ≤ n20 ∧ (x.2.1.length = x.1 ∧ ∀ g ∈ x.2.1, ((0 ≤ g.a ∧ g.a < x15) ∧ (0 ≤ g.b ∧ g.b < x15) ∧ g.a ≠ g.b)) ∧ (tq ≤ x.2.2.1 ∧ x.2.2.1 ≤ tq + 2 + 2 * x.1) ∧ (0 ≤ x.2.2.2 ∧ x.2.2.2 ≤ 4294967295)}) × OSl 46 2 (Zc x.1.2.1)) (fun x => ⟨[(0, .pointer (some ⟨bk, 0, none⟩)), (6, .pointer (some ⟨b6, 0, none⟩)), (8, .pointer (some ⟨b8, 0, none⟩)), (20, .int .i64 n20), (21, .int .i64 x.1.1.1)],
   (bk, cel 72 [.slice a0 l0.length c0, .int .i64 (x.1.1.2.2.1), .int .u32 (x.1.1.2.2.2)]) :: (x.2.G ++ (b8, cel 26 (htl ⟨x15, x.1.1.2.1, []⟩ x.2.fs (.slice none 0 0))) :: (b6, cel 26 [.int .i64 0, .slice none 0 0, .slice none 0 0]) :: H), R⟩) (fun x => n20 - x.1.1.1) ⟨⟨(0, [], tq + 1 + 1, m20), by omega, ⟨rfl, by simp⟩, by dsimp only; omega, by assumption⟩, OSl.nil _ _⟩ ?_ (fun x => ?_)
 exact Zp idH
 ·
  obtain ⟨⟨⟨k, l, tq2, mx2⟩, hk, ⟨hll, hlg⟩, htq2, hmx2⟩, o⟩ := x
  dsimp only at hk hll hlg htq2 hmx2 o ⊢
  refine sqt 1 rfl (pur 1 rfl (Z1 ?_))
  refine Z0 rfl ?_ ?_ <;> intro hc0 <;> try simp only [cS] at hc0
  ·
   have hrm : 0 ≤ (k : Int) % x15 ∧ (k : Int) % x15 < x15 := ⟨Int.emod_nonneg _ (by omega), Int.emod_lt_of_pos _ (by omega)⟩
   refine Z2 (Z1 (Z5 (sqt 2 rfl (pur 2 rfl (Z1 ?_)))))
   refine Zd [0, 0, 2, 7, 0, 0, 32, 112, 255, 0, 1023] (.tk 0 (.tk 1 (.ld 2 (tks 3 3 (.ld 6 (.any (.alt 7 (.tk 8 (.big 9 (.big 10 .done))) (.alt 9 (.big 7 (.tk 8 (.big 10 .done))) .stop)))))))) Zv (by kernel_rfl) ?_
   refine Zo 1 rfl (tk rfl (PE.fA Z0m rfl) rfl (ld rfl rfl (lh (v := .int .i64 x15) sc3 rfl rfl) rfl (tk rfl (PE.rem rfl rfl (by omega)) rfl (Zo 1 rfl (tk rfl (PE.fA Z0m rfl) rfl (ld rfl rfl (lh (v := .int .i64 x15) sc3 rfl rfl) rfl ?_))))))
   refine Z1h ?_ ?_
   ·
    refine ZH bk ?_
    refine cl rfl Z5V rfl rfl (Z1P l0 a0 c0 bk hgl _ _ (by omega) (by assumption) (x15) _ _) ?_
    rintro _ _ R1 ⟨x31, m31, hx31, rfl, hm31, rfl, hR1⟩
    obtain rfl := hR1.symm
    refine bg (fun w hs => ⟨trivial, (lh (v := .int .i64 x15) sc3 rfl rfl) w hs, trivial⟩) ?_
    refine tk rfl (PE.build (out := [.int .i64 ((k : Int) % x15), .int .i64 x31]) Z7R Z30 rfl rfl) rfl (alc rfl Z30 rfl (fun b10 => ?_))
    refine bg (fun w hs => ⟨(lh (v := .int .i64 x15) sc3 rfl rfl) w hs, trivial⟩) ?_
    refine sto rfl rfl rfl Z9o rfl rfl rfl rfl ?_
    refine bgT (Z1 (sqt 5 rfl (sp rfl (PE.fA ZU rfl) rfl (spL rfl rfl (lh sc3 rfl rfl) rfl (sp rfl (PE.fA ZF rfl) rfl (spL rfl rfl (lh sc3 rfl rfl) rfl (pur 1 rfl ?_)))))))
    refine Z2u (ι := {x : Int × Int // ((0 ≤ x.1 ∧ x.1 < x15) ∧ (0 ≤ x.2 ∧ x.2 < x15) ∧ x.1 ≠ x.2)}) (fun x => ⟨[(0, .pointer (some ⟨bk, 0, none⟩)), (6, .pointer (some ⟨b6, 0, none⟩)), (8, .pointer (some ⟨b8, 0, none⟩)), (10, .pointer (some ⟨b10, 0, none⟩)), (20, .int .i64 n20), (21, .int .i64 k)], (b10, cel 46 [.int .i64 (x.1.1), .int .i64 (x.1.2)]) :: (bk, cel 72 [.slice a0 l0.length c0, .int .i64 (tq2 + 1), .int .u32 (m31)]) :: (o.G ++ (b8, cel 26 (htl ⟨x15, l, []⟩ o.fs (.slice none 0 0))) :: (b6, cel 26 [.int .i64 0, .slice none 0 0, .slice none 0 0]) :: H), R⟩) ?_ ?_
    ·
     refine Z0 rfl ?_ ?_ <;> intro hc1 <;> try simp only [cS] at hc1
     ·
      have hr2 : 0 ≤ (x31 + 1) % x15 ∧ (x31 + 1) % x15 < x15 := ⟨Int.emod_nonneg _ (by omega), Int.emod_lt_of_pos _ (by omega)⟩
      have hne : (x31 + 1) % x15 ≠ x31 := by
        rcases Int.lt_or_le (x31 + 1) x15 with h9 | h9
        · rw [Int.emod_eq_of_lt (by omega) h9]; omega
        · rw [show x31 + 1 = x15 by omega, Int.emod_self]; omega
      refine sqr 8 rfl (sp rfl (PE.fA ZF rfl) rfl (spL rfl rfl (lh sc3 rfl rfl) rfl (sp rfl (PE.add rfl rfl (by omega)) rfl (sp rfl (PE.fA Z0m rfl) rfl (spL rfl rfl (lh (v := .int .i64 x15) sc3 rfl rfl) rfl (sp rfl (PE.rem rfl rfl (by omega)) rfl (sp rfl (PE.fA ZF rfl) rfl ?_)))))))
      refine ZQ (l' := [.int .i64 ((k : Int) % x15), .int .i64 ((x31 + 1) % x15)]) rfl rfl rfl cn3 rfl rfl rfl rfl (nl rfl) ?_
      exact ZE ⟨((k : Int) % x15, (x31 + 1) % x15), ⟨hrm, hr2, by dsimp only; omega⟩⟩ (fun w h9 => h9.perm (by first | exact .refl _ | exact List.Perm.swap _ _ _))
     ·
      refine Z2 ?_
      exact ZE ⟨((k : Int) % x15, x31), ⟨hrm, by dsimp only; omega, by dsimp only; omega⟩⟩ (fun w h9 => h9.perm (by first | exact .refl _ | exact List.Perm.swap _ _ _))
    rintro ⟨⟨ga, gb⟩, hgo⟩
    dsimp only at hgo ⊢
    refine Z1 (sqt 2 rfl ?_)
    refine ZH bk ?_
    refine pur 1 rfl ?_
    refine cl rfl Zac rfl rfl (Z77 l0 a0 c0 bk hgl _ _ (by omega) (by assumption) (2) _ _) ?_
    rintro _ _ R1 ⟨x46, m46, rfl, hm46, rfl, hR1⟩
    obtain rfl := hR1.symm
    refine Z2u (ι := {x : Int × Int // ((0 ≤ x.1 ∧ x.1 < x15) ∧ (0 ≤ x.2 ∧ x.2 < x15) ∧ x.1 ≠ x.2)}) (fun x => ⟨[(0, .pointer (some ⟨bk, 0, none⟩)), (6, .pointer (some ⟨b6, 0, none⟩)), (8, .pointer (some ⟨b8, 0, none⟩)), (10, .pointer (some ⟨b10, 0, none⟩)), (20, .int .i64 n20), (21, .int .i64 k)], (bk, cel 72 [.slice a0 l0.length c0, .int .i64 (tq2 + 1 + 1), .int .u32 (m46)]) :: (b10, cel 46 [.int .i64 (x.1.1), .int .i64 (x.1.2)]) :: (o.G ++ (b8, cel 26 (htl ⟨x15, l, []⟩ o.fs (.slice none 0 0))) :: (b6, cel 26 [.int .i64 0, .slice none 0 0, .slice none 0 0]) :: H), R⟩) ?_ ?_
    refine Z0 rfl ?_ ?_ <;> intro hc2
    refine sqr 8 rfl (sp rfl (PE.fA ZF rfl) rfl (spL rfl rfl (lh sc3 rfl rfl) rfl (sp rfl (PE.fA ZU rfl) rfl (spL rfl rfl (lh sc3 rfl rfl) rfl (sp rfl (PE.fA ZU rfl) rfl ?_)))))
    refine ZQ (l' := [.int .i64 (gb), .int .i64 (gb)]) rfl rfl rfl cn3 rfl rfl rfl rfl (nl rfl) ?_
    refine sp rfl (PE.fA ZF rfl) rfl ?_
    refine ZQ (l' := [.int .i64 (gb), .int .i64 (ga)]) rfl rfl rfl cn3 rfl rfl rfl rfl (nl rfl) ?_
    first | exact ZE ⟨(gb, ga), ⟨hgo.2.1, hgo.1, Ne.symm hgo.2.2⟩⟩ idH | exact ZE ⟨(ga, gb), hgo⟩ idH
    refine Z2 ?_
    first | exact ZE ⟨(gb, ga), ⟨hgo.2.1, hgo.1, Ne.symm hgo.2.2⟩⟩ idH | exact ZE ⟨(ga, gb), hgo⟩ idH
    rintro ⟨⟨ua, ub⟩, hgo2⟩
    dsimp only at hgo2 ⊢
    refine sqr 7 rfl (sp rfl (PE.fA ZT rfl) rfl (spL rfl rfl (lh Z3g rfl rfl) rfl (spL rfl rfl (lhA [.int .i64 ua, .int .i64 ub] Z60 rfl rfl rfl) rfl ?_)))
    refine bsl (out := [_, _]) rfl Z7P Z30 rfl rfl rfl rfl rfl rfl (fun b56 => ?_)
    refine apO (o) rfl ZcS rfl rfl (Z0D (row := Z1A ⟨ua, ub⟩) rfl) rfl rfl ((by rw [Z08]; simp only [List.length_singleton]; omega)) rfl (fun o57 => ?_)
    refine sp rfl (PE.fA ZT rfl) rfl ?_
    refine ZQ (l' := htl ⟨x15, l ++ [⟨ua, ub⟩], []⟩ o57.fs (.slice none 0 0)) rfl rfl rfl Zdx rfl (by rw [o57.cells.1]; first | done | rfl) (by rw [o57.cells.1]; simp [o57.cells.2]) (by rw [o57.cells.1]; first | done | rfl) (by rw [o57.cells.1]; first | done | exact Nat.le_of_ble_eq_true rfl) ?_
    refine sqr 2 rfl (sp rfl (PE.add rfl rfl (by omega)) rfl (pur 1 rfl ?_))
    exact Z9 ⟨⟨(k + 1, l ++ [⟨ua, ub⟩], tq2 + 1 + 1, m46), by dsimp only; omega, ⟨by simp [hll], fun g hg => (List.mem_append.1 hg).elim (hlg g) (fun h9 => by rw [List.mem_singleton.1 h9]; exact hgo2)⟩, by dsimp only; omega, by assumption⟩, o57.cast (by simp [Zc])⟩ (fun w h9 => ((h9.del b56).del b10).perm (by first | exact .refl _ | exact (Zg _ [_] _).symm))
   refine Z1h ?_ ?_
   ·
    refine alc rfl Z30 rfl (fun b10 => ?_)
    refine bg (fun w hs => ⟨(lh (v := .int .i64 x15) sc3 rfl rfl) w hs, (lh (v := .int .i64 x15) sc3 rfl rfl) w hs, trivial⟩) ?_
    refine ZH bk ?_
    refine cl rfl Z5V rfl rfl (Z1P l0 a0 c0 bk hgl _ _ (by omega) (by assumption) (x15) _ _) ?_
    rintro _ _ R1 ⟨x31, m31, hx31, rfl, hm31, rfl, hR1⟩
    obtain rfl := hR1.symm
    refine bg (fun w hs => ⟨trivial, (lh (v := .int .i64 x15) sc3 rfl rfl) w hs, trivial⟩) ?_
    refine tk rfl (PE.build (out := [.int .i64 ((k : Int) % x15), .int .i64 x31]) Z7R Z30 rfl rfl) rfl ?_
    refine sto rfl rfl rfl Z9o rfl rfl rfl rfl ?_
    refine bgT (Z1 (sqt 5 rfl (sp rfl (PE.fA ZU rfl) rfl (spL rfl rfl (lh sc3 rfl rfl) rfl (sp rfl (PE.fA ZF rfl) rfl (spL rfl rfl (lh sc3 rfl rfl) rfl (pur 1 rfl ?_)))))))
    refine Z2u (ι := {x : Int × Int // ((0 ≤ x.1 ∧ x.1 < x15) ∧ (0 ≤ x.2 ∧ x.2 < x15) ∧ x.1 ≠ x.2)}) (fun x => ⟨[(0, .pointer (some ⟨bk, 0, none⟩)), (6, .pointer (some ⟨b6, 0, none⟩)), (8, .pointer (some ⟨b8, 0, none⟩)), (10, .pointer (some ⟨b10, 0, none⟩)), (20, .int .i64 n20), (21, .int .i64 k)], (b10, cel 46 [.int .i64 (x.1.1), .int .i64 (x.1.2)]) :: (bk, cel 72 [.slice a0 l0.length c0, .int .i64 (tq2 + 1), .int .u32 (m31)]) :: (o.G ++ (b8, cel 26 (htl ⟨x15, l, []⟩ o.fs (.slice none 0 0))) :: (b6, cel 26 [.int .i64 0, .slice none 0 0, .slice none 0 0]) :: H), R⟩) ?_ ?_
    ·
     refine Z0 rfl ?_ ?_ <;> intro hc1 <;> try simp only [cS] at hc1
     ·
      have hr2 : 0 ≤ (x31 + 1) % x15 ∧ (x31 + 1) % x15 < x15 := ⟨Int.emod_nonneg _ (by omega), Int.emod_lt_of_pos _ (by omega)⟩
      have hne : (x31 + 1) % x15 ≠ x31 := by
        rcases Int.lt_or_le (x31 + 1) x15 with h9 | h9
        · rw [Int.emod_eq_of_lt (by omega) h9]; omega
        · rw [show x31 + 1 = x15 by omega, Int.emod_self]; omega
      refine sqr 8 rfl (sp rfl (PE.fA ZF rfl) rfl (spL rfl rfl (lh sc3 rfl rfl) rfl (sp rfl (PE.add rfl rfl (by omega)) rfl (sp rfl (PE.fA Z0m rfl) rfl (spL rfl rfl (lh (v := .int .i64 x15) sc3 rfl rfl) rfl (sp rfl (PE.rem rfl rfl (by omega)) rfl (sp rfl (PE.fA ZF rfl) rfl ?_)))))))
      refine ZQ (l' := [.int .i64 ((k : Int) % x15), .int .i64 ((x31 + 1) % x15)]) rfl rfl rfl cn3 rfl rfl rfl rfl (nl rfl) ?_
      exact ZE ⟨((k : Int) % x15, (x31 + 1) % x15), ⟨hrm, hr2, by dsimp only; omega⟩⟩ (fun w h9 => h9.perm (by first | exact .refl _ | exact List.Perm.swap _ _ _))
     ·
      refine Z2 ?_
      exact ZE ⟨((k : Int) % x15, x31), ⟨hrm, by dsimp only; omega, by dsimp only; omega⟩⟩ (fun w h9 => h9.perm (by first | exact .refl _ | exact List.Perm.swap _ _ _))
    rintro ⟨⟨ga, gb⟩, hgo⟩
    dsimp only at hgo ⊢
    refine Z1 (sqt 2 rfl ?_)
    refine ZH bk ?_
    refine pur 1 rfl ?_
    refine cl rfl Zac rfl rfl (Z77 l0 a0 c0 bk hgl _ _ (by omega) (by assumption) (2) _ _) ?_
    rintro _ _ R1 ⟨x46, m46, rfl, hm46, rfl, hR1⟩
    obtain rfl := hR1.symm
    refine Z2u (ι := {x : Int × Int // ((0 ≤ x.1 ∧ x.1 < x15) ∧ (0 ≤ x.2 ∧ x.2 < x15) ∧ x.1 ≠ x.2)}) (fun x => ⟨[(0, .pointer (some ⟨bk, 0, none⟩)), (6, .pointer (some ⟨b6, 0, none⟩)), (8, .pointer (some ⟨b8, 0, none⟩)), (10, .pointer (some ⟨b10, 0, none⟩)), (20, .int .i64 n20), (21, .int .i64 k)], (bk, cel 72 [.slice a0 l0.length c0, .int .i64 (tq2 + 1 + 1), .int .u32 (m46)]) :: (b10, cel 46 [.int .i64 (x.1.1), .int .i64 (x.1.2)]) :: (o.G ++ (b8, cel 26 (htl ⟨x15, l, []⟩ o.fs (.slice none 0 0))) :: (b6, cel 26 [.int .i64 0, .slice none 0 0, .slice none 0 0]) :: H), R⟩) ?_ ?_
    refine Z0 rfl ?_ ?_ <;> intro hc2
    refine sqr 8 rfl (sp rfl (PE.fA ZF rfl) rfl (spL rfl rfl (lh sc3 rfl rfl) rfl (sp rfl (PE.fA ZU rfl) rfl (spL rfl rfl (lh sc3 rfl rfl) rfl (sp rfl (PE.fA ZU rfl) rfl ?_)))))
    refine ZQ (l' := [.int .i64 (gb), .int .i64 (gb)]) rfl rfl rfl cn3 rfl rfl rfl rfl (nl rfl) ?_
    refine sp rfl (PE.fA ZF rfl) rfl ?_
    refine ZQ (l' := [.int .i64 (gb), .int .i64 (ga)]) rfl rfl rfl cn3 rfl rfl rfl rfl (nl rfl) ?_
    first | exact ZE ⟨(gb, ga), ⟨hgo.2.1, hgo.1, Ne.symm hgo.2.2⟩⟩ idH | exact ZE ⟨(ga, gb), hgo⟩ idH
    refine Z2 ?_
    first | exact ZE ⟨(gb, ga), ⟨hgo.2.1, hgo.1, Ne.symm hgo.2.2⟩⟩ idH | exact ZE ⟨(ga, gb), hgo⟩ idH
    rintro ⟨⟨ua, ub⟩, hgo2⟩
    dsimp only at hgo2 ⊢
    refine sqr 7 rfl (sp rfl (PE.fA ZT rfl) rfl (spL rfl rfl (lh Z3g rfl rfl) rfl (spL rfl rfl (lhA [.int .i64 ua, .int .i64 ub] Z60 rfl rfl rfl) rfl ?_)))
    refine bsl (out := [_, _]) rfl Z7P Z30 rfl rfl rfl rfl rfl rfl (fun b56 => ?_)
    refine apO (o) rfl ZcS rfl rfl (Z0D (row := Z1A ⟨ua, ub⟩) rfl) rfl rfl ((by rw [Z08]; simp only [List.length_singleton]; omega)) rfl (fun o57 => ?_)
    refine sp rfl (PE.fA ZT rfl) rfl ?_
    refine ZQ (l' := htl ⟨x15, l ++ [⟨ua, ub⟩], []⟩ o57.fs (.slice none 0 0)) rfl rfl rfl Zdx rfl (by rw [o57.cells.1]; first | done | rfl) (by rw [o57.cells.1]; simp [o57.cells.2]) (by rw [o57.cells.1]; first | done | rfl) (by rw [o57.cells.1]; first | done | exact Nat.le_of_ble_eq_true rfl) ?_
    refine sqr 2 rfl (sp rfl (PE.add rfl rfl (by omega)) rfl (pur 1 rfl ?_))
    exact Z9 ⟨⟨(k + 1, l ++ [⟨ua, ub⟩], tq2 + 1 + 1, m46), by dsimp only; omega, ⟨by simp [hll], fun g hg => (List.mem_append.1 hg).elim (hlg g) (fun h9 => by rw [List.mem_singleton.1 h9]; exact hgo2)⟩, by dsimp only; omega, by assumption⟩, o57.cast (by simp [Zc])⟩ (fun w h9 => ((h9.del b56).del b10).perm (by first | exact .refl _ | exact (Zg _ [_] _).symm))
   exact Z2S
  obtain rfl : k = n20 := by omega
  obtain ⟨ag, cg, he, hcg, hf⟩ := o.freezeC
  rw [Z08] at hcg
  rw [he, Z08]
  refine ZH bk ?_
  refine Sy.heap (H' := _) (fun w h9 => hf (h9.perm (List.perm_middle (l₁ := o.G) (a := _)).symm)) ?_
  clear he hf
  obtain ⟨B, rfl⟩ : ∃ B : Nat, x15 = B := ⟨x15.toNat, by omega⟩
  refine Z8 (Za (Za (Zk (sqt 1 rfl (pur 1 rfl (Z1 (sqt 3 rfl (sp rfl (PE.fA Z0m rfl) rfl (spL rfl rfl (lh sc3 rfl rfl) rfl (pur 1 rfl (Z5 ?_)))))))))))
  refine Zi (ι := (x : {x : Nat × (Nat → Bool) × Int × Int // x.1 ≤ B ∧ (tq ≤ x.2.2.1 ∧ x.2.2.1 ≤ tq + 40 + x.1) ∧ (0 ≤ x.2.2.2 ∧ x.2.2.2 ≤ 4294967295)}) × OSl 3 1 (Z6 (Z0c x.1.2.1 x.1.1))) (fun x => ⟨[(0, .pointer (some ⟨bk, 0, none⟩)), (6, .pointer (some ⟨b6, 0, none⟩)), (8, .pointer (some ⟨b8, 0, none⟩)), (11, x.2.fs), (61, .int .i64 B), (62, .int .i64 x.1.1.1)],
    (bk, cel 72 [.slice a0 l0.length c0, .int .i64 (x.1.1.2.2.1), .int .u32 (x.1.1.2.2.2)]) :: (x.2.G ++ (b8, cel 26 (htl ⟨B, l, []⟩ (.slice ag l.length cg) (.slice none 0 0))) :: (b6, cel 26 [.int .i64 0, .slice none 0 0, .slice none 0 0]) :: H), RowsA ag 2 (Zc l) :: R⟩) (fun x => B - x.1.1.1) ⟨⟨(0, fun _ => false, tq2, mx2), by omega, by dsimp only; omega, by assumption⟩, OSl.nil _ _⟩ ?_ (fun x => ?_)
  exact Zp idH
  obtain ⟨⟨⟨i, p, tq3, mx3⟩, hi, htq3, hmx3⟩, o2⟩ := x
  dsimp only at hi htq3 hmx3 o2 ⊢
  have hfl := Z0n p i
  refine sqt 1 rfl (pur 1 rfl (Z1 ?_))
  refine Z0 rfl ?_ ?_ <;> intro hc3 <;> try simp only [cS] at hc3
  refine Z2 (Z1 (Z5 (sqt 2 rfl (pur 2 rfl (sqt 2 rfl ?_)))))
  refine ZH bk ?_
  refine pur 1 rfl ?_
  refine cl rfl Zac rfl rfl (Z77 l0 a0 c0 bk hgl _ _ (by omega) (by assumption) (3) _ _) ?_
  rintro _ _ R1 ⟨x66, m66, rfl, hm66, rfl, hR1⟩
  obtain rfl := hR1.symm
  refine Z0 rfl ?_ ?_ <;> intro hc4 <;> try simp only [cS] at hc4
  refine sqr 5 rfl (pur 2 rfl ?_)
  refine bsl (out := [_]) rfl Z0V zl3 rfl rfl rfl rfl rfl rfl (fun b69 => ?_)
  refine apO (o2) rfl Z3W rfl rfl (Z0D (row := [.int .i64 i]) rfl) rfl rfl ((by rw [irl]; simp only [List.length_singleton]; omega)) rfl (fun o70 => ?_)
  refine pur 1 rfl (sqr 2 rfl (sp rfl (PE.add rfl rfl (by omega)) rfl (pur 1 rfl ?_)))
  have hput := Z3I p i true
  exact Z9 ⟨⟨(i + 1, fun j => bif decide (j = i) then true else p j, tq3 + 1, m66), by dsimp only; omega, by dsimp only; omega, by assumption⟩, o70.cast (by rw [hput]; simp [Z6])⟩ (fun w h9 => (h9.del b69).perm (by first | exact .refl _ | exact (Zg _ [_] _).symm))
  refine Z2 (sqr 2 rfl (sp rfl (PE.add rfl rfl (by omega)) rfl (pur 1 rfl ?_)))
  have hput := Z3I p i false
  exact Z9 ⟨⟨(i + 1, fun j => bif decide (j = i) then false else p j, tq3 + 1, m66), by dsimp only; omega, by dsimp only; omega, by assumption⟩, o2.cast (by rw [hput]; simp [Z6])⟩ idH
  obtain rfl : i = B := by omega
  obtain ⟨ar, cr, he, hcr, hf⟩ := o2.freezeC
  rw [irl] at hcr
  rw [he, irl]
  refine ZH bk ?_
  refine Sy.heap (H' := _) (fun w h9 => hf (h9.perm (List.perm_middle (l₁ := o2.G) (a := _)).symm)) ?_
  clear he hf
  refine Z8 (Za (Za (Zk (sqt 4 rfl (spL rfl rfl (lhA (htl ⟨(i : Int), l, []⟩ (.slice ag l.length cg) (.slice none 0 0)) Z07 rfl rfl rfl) rfl (pur 1 rfl ?_))))))
  refine ZQ (l' := htl ⟨(i : Int), l, []⟩ (.slice ag l.length cg) (.slice none 0 0)) rfl rfl rfl Z8E rfl rfl rfl rfl (Nat.le_refl _) ?_
  refine pur 1 rfl (Z4 ?_)
  exact Zh (vs := [_, _]) rfl (.cons (RV.cell rfl (lhA [_, _, _] Z07 rfl rfl rfl)) (.cons (RV.tmp rfl) .nil)) rfl ⟨⟨(i : Int), l, []⟩, p, ag, ar, cg, cr, tq3, mx3, ⟨by dsimp only; omega, by dsimp only; omega, hlg, rfl⟩, hcg, hcr, rfl, by omega, by assumption, rfl, rfl⟩ (fun w h9 => St.norows ((h9.del b8).del b6))
set_option maxHeartbeats 400000 in
theorem Zda (l0 : List Int) (a0 : Option Addr) (c0 bk : Nat) (hgl : l0.length ≤ 9223372036854775807) (tq mx : Int) (htq : 0 ≤ tq ∧ tq ≤ 1000000) (hmx : 0 ≤ mx ∧ mx ≤ 4294967295) (h : Hse) (ag as_ : Option Addr) (cg cs : Nat) (hok : h.ok) (H : Z7) (R : Z3) [hG : MemRows a0 1 (Z2M l0) R] :
    Fn Try.prog 21 [.pointer (some ⟨bk, 0, none⟩), h.v (h.sg ag cg) (h.ss as_ cs)] ((bk, cel 72 [.slice a0 l0.length c0, .int .i64 (tq), .int .u32 (mx)]) :: H) R (fun v H' R' => ∃ (d : Nat → Int) (af ak : Option Addr) (cf ck : Nat) (tq' mx' : Int), (Z0c (fun j => decide (d j = 0)) h.bins.toNat).length ≤ cf ∧ (Z0c (fun j => decide (d j = 1)) h.bins.toNat).length ≤ ck ∧ v = .tuple #[.slice af (Z0c (fun j => decide (d j = 0)) h.bins.toNat).length cf, .slice ak (Z0c (fun j => decide (d j = 1)) h.bins.toNat).length ck] ∧ (tq ≤ tq' ∧ tq' ≤ tq + 10) ∧ (0 ≤ mx' ∧ mx' ≤ 4294967295) ∧ H' = (bk, cel 72 [.slice a0 l0.length c0, .int .i64 (tq'), .int .u32 (mx')]) :: H ∧ R' = RowsA ak 1 (Z6 (Z0c (fun j => decide (d j = 1)) h.bins.toNat)) :: RowsA af 1 (Z6 (Z0c (fun j => decide (d j = 0)) h.bins.toNat)) :: R) := by
 refine Ze Try.func21 rfl Try.ntmps21 rfl ?_
 refine sqt 3 rfl ?_
 have hbn := hok.bins
 obtain ⟨B, hB⟩ : ∃ B : Nat, h.bins = B := ⟨h.bins.toNat, by omega⟩
 rw [show h.bins.toNat = B by omega]
 refine bx rfl rfl rfl (fun b3 => pur 2 rfl (sqt 2 rfl (pur 2 rfl (Z1 (sqt 3 rfl (sp rfl (PE.fA Z0m rfl) rfl (spL rfl rfl (lh (v := .int .i64 h.bins) sc3 rfl rfl) rfl ?_)))))))
 rw [hB]
 refine pur 1 rfl (Z5 ?_)
 refine Zi (ι := (x : {x : Nat × (Nat → Int) × Int × Int // x.1 ≤ B ∧ (tq ≤ x.2.2.1 ∧ x.2.2.1 ≤ tq + x.1) ∧ (0 ≤ x.2.2.2 ∧ x.2.2.2 ≤ 4294967295)}) × OSl 3 1 (Z6 (Z0c (fun j => decide (x.1.2.1 j = 0)) x.1.1)) × OSl 3 1 (Z6 (Z0c (fun j => decide (x.1.2.1 j = 1)) x.1.1))) (fun x => ⟨[(0, .pointer (some ⟨bk, 0, none⟩)), (6, x.2.1.fs), (7, x.2.2.fs), (10, .int .i64 B), (11, .int .i64 x.1.1.1)],
   (bk, cel 72 [.slice a0 l0.length c0, .int .i64 (x.1.1.2.2.1), .int .u32 (x.1.1.2.2.2)]) :: (x.2.1.G ++ (x.2.2.G ++ ((b3, cel 26 (htl h (h.sg ag cg) (h.ss as_ cs))) :: H))), R⟩) (fun x => B - x.1.1.1) ⟨⟨(0, fun _ => 0, tq, mx), by omega, by dsimp only; omega, by assumption⟩, OSl.nil _ _, OSl.nil _ _⟩ ?_ (fun x => ?_)
 ·
  exact Zp (fun w h9 => h9.perm (by first | exact .refl _ | exact List.Perm.swap _ _ _))
 obtain ⟨⟨⟨k, d, tq2, mx2⟩, hk, htq2, hmx2⟩, o1, o2⟩ := x
 dsimp only at hk htq2 hmx2 o1 o2 ⊢
 have hf1 := Z0n (fun j => decide (d j = 0)) k
 have hf2 := Z0n (fun j => decide (d j = 1)) k
 refine sqt 1 rfl (pur 1 rfl (Z1 ?_))
 refine Z0 rfl ?_ ?_ <;> intro hc0 <;> try simp only [cS] at hc0
 refine Z2 (Z1 (Z5 (sqt 2 rfl (pur 2 rfl (sqt 2 rfl ?_)))))
 refine ZH bk ?_
 refine pur 1 rfl ?_
 refine cl rfl Z5V rfl rfl (Z1P l0 a0 c0 bk hgl _ _ (by omega) (by assumption) (3) _ _) ?_
 rintro _ _ R1 ⟨x15, m15, hx15, rfl, hm15, rfl, hR1⟩
 obtain rfl := hR1.symm
 have hp : ∀ v : Int, Z0c (fun j => decide ((bif decide (j = k) then x15 else d j) = v)) (k + 1) = Z0c (fun j => decide (d j = v)) k ++ bif decide (x15 = v) then [(k : Int)] else [] := fun v => by
   rw [← Z3I]
   exact Z3a fun j _ => by by_cases e : j = k <;> simp [e]
 refine Z5 (sqt 2 rfl (pur 2 rfl ?_))
 refine Z0 rfl ?_ ?_ <;> intro hc1 <;> try simp only [cS] at hc1
 refine sqr 5 rfl (pur 2 rfl ?_)
 refine bsl (out := [_]) rfl Z0V zl3 rfl rfl rfl rfl rfl rfl (fun b20 => ?_)
 refine apO (o1) rfl Z3W rfl rfl (Z0D (row := [.int .i64 k]) rfl) rfl rfl ((by rw [irl]; simp only [List.length_singleton]; omega)) rfl (fun o21 => ?_)
 refine pur 1 rfl (sqr 2 rfl (sp rfl (PE.add rfl rfl (by omega)) rfl (pur 1 rfl ?_)))
 exact Z9 ⟨⟨(k + 1, fun j => bif decide (j = k) then x15 else d j, tq2 + 1, m15), by dsimp only; omega, by dsimp only; omega, by assumption⟩, o21.cast (by rw [hp 0, dT hc1]; simp [Z6]), o2.cast (by rw [hp 1, dF (show ¬ x15 = 1 by omega)]; simp [Z6])⟩ (fun w h9 => (h9.del b20).perm (by first | exact .refl _ | exact (Zg _ [_] _).symm))
 refine sqt 2 rfl (pur 2 rfl ?_)
 refine Z0 rfl ?_ ?_ <;> intro hc2 <;> try simp only [cS] at hc2
 refine sqr 5 rfl (pur 2 rfl ?_)
 refine bsl (out := [_]) rfl Z0V zl3 rfl rfl rfl rfl rfl rfl (fun b26 => ?_)
 refine apO (o2) rfl Z3W rfl rfl (Z0D (row := [.int .i64 k]) rfl) rfl rfl ((by rw [irl]; simp only [List.length_singleton]; omega)) rfl (fun o27 => ?_)
 refine pur 1 rfl (sqr 2 rfl (sp rfl (PE.add rfl rfl (by omega)) rfl (pur 1 rfl ?_)))
 exact Z9 ⟨⟨(k + 1, fun j => bif decide (j = k) then x15 else d j, tq2 + 1, m15), by dsimp only; omega, by dsimp only; omega, by assumption⟩, o1.cast (by rw [hp 0, dF hc1]; simp [Z6]), o27.cast (by rw [hp 1, dT hc2]; simp [Z6])⟩ (fun w h9 => (h9.del b26).perm (by first | exact .refl _ | exact (Zg _ [_] _).symm | exact (Zg _ (_ :: _) _)))
 refine Z2 (sqr 2 rfl (sp rfl (PE.add rfl rfl (by omega)) rfl (pur 1 rfl ?_)))
 exact Z9 ⟨⟨(k + 1, fun j => bif decide (j = k) then x15 else d j, tq2 + 1, m15), by dsimp only; omega, by dsimp only; omega, by assumption⟩, o1.cast (by rw [hp 0, dF hc1]; simp [Z6]), o2.cast (by rw [hp 1, dF hc2]; simp [Z6])⟩ idH
 obtain rfl : k = B := by omega
 obtain ⟨af, cf, he1, hc9, hz1⟩ := o1.freezeC
 obtain ⟨ak, ck, he2, hc8, hz2⟩ := o2.freezeC
 rw [irl] at hc9 hc8
 rw [he1, he2, irl, irl]
 refine ZH bk ?_
 refine Sy.heap (H' := _) (fun w h9 => hz1 (h9.perm (List.perm_middle (l₁ := o1.G) (a := _)).symm)) ?_
 refine Sy.heap (H' := _) (fun w h9 => hz2 (h9.perm (List.perm_middle (l₁ := o2.G) (a := _)).symm)) ?_
 clear he1 he2 hz1 hz2
 refine Z8 (Za (Za (Zk (sqt 4 rfl (pur 4 rfl (Z4 ?_))))))
 exact rtB rfl rfl rfl rfl ⟨d, af, ak, cf, ck, tq2, mx2, hc9, hc8, rfl, ⟨htq2.1, by omega⟩, hmx2, rfl, rfl⟩ (fun w h9 => h9.del b3)
theorem Zd9 : cal Try.prog 56 = true := by kernel_rfl
theorem ZcV : cal Try.prog 57 = true := by kernel_rfl
theorem Zd1 : cal Try.prog 58 = true := by kernel_rfl
theorem Z4B (xs : List Gp) (a : Option Addr) (c : Nat) (hl : xs.length ≤ 1000000) (H : Z7) (R : Z3) [hR : MemRows a 2 (Zc xs) R] :
    Fn Try.prog 57 [.slice a xs.length c] H R (fun v H' R' => ∃ o : OSl 46 2 (Zc xs), v = o.fs ∧ H' = o.G ++ H ∧ R' = R ∧ (a.isSome = true → o.here)) := by
 refine Ze Try.func57 rfl Try.ntmps57 rfl ?_
 refine sqt 1 rfl (pur 1 rfl (Z1 (sqt 2 rfl (pur 1 rfl (sp rfl (PE.eqlNil Z1E rfl rfl) rfl ?_)))))
 refine Z0 rfl ?_ ?_ <;> intro hc0
 refine Sy.pre (fun w h => Z3P (h.now hR.mem) hc0) (fun hnil => ?_)
 obtain rfl : xs = [] := by simpa [Zc] using hnil
 refine sqt 1 rfl (pur 1 rfl (Z4 ?_))
 first
   | exact rtA rfl rfl rfl ⟨o2.cast (by simp), rfl, rfl, rfl, fun _ => ho2⟩ idH
   | exact rtA rfl rfl rfl ⟨OSl.nil _ _, rfl, rfl, rfl, fun h => by cases a <;> simp_all⟩ idH
 refine Z2 (sqt 4 rfl ?_)
 refine Zb6 rfl Z7P rfl (fun o5 ho5 => ?_)
 refine pur 1 rfl ?_
 refine Zds (news := Zc xs) o5 rfl ZcS rfl rfl (Z8M) (by simp [Zc]) (by simp [Z02, Zc, Z1A, Value.oneCell']) ⟨by simp [Zc]; omega, by simp [Zc]; omega⟩ rfl ho5 (fun o2 ho2 => ?_)
 refine pur 1 rfl (Z4 ?_)
 first
   | exact rtA rfl rfl rfl ⟨o2.cast (by simp), rfl, rfl, rfl, fun _ => ho2⟩ idH
   | exact rtA rfl rfl rfl ⟨OSl.nil _ _, rfl, rfl, rfl, fun h => by cases a <;> simp_all⟩ idH
theorem Z4w (xs : List Sgt) (a : Option Addr) (c : Nat) (hl : xs.length ≤ 1000000) (H : Z7) (R : Z3) [hR : MemRows a 3 (Zj xs) R] :
    Fn Try.prog 58 [.slice a xs.length c] H R (fun v H' R' => ∃ o : OSl 38 3 (Zj xs), v = o.fs ∧ H' = o.G ++ H ∧ R' = R) := by
 refine Ze Try.func58 rfl Try.ntmps58 rfl ?_
 refine sqt 1 rfl (pur 1 rfl (Z1 (sqt 2 rfl (pur 1 rfl (sp rfl (PE.eqlNil Z6L rfl rfl) rfl ?_)))))
 refine Z0 rfl ?_ ?_ <;> intro hc0
 refine Sy.pre (fun w h => Z3P (h.now hR.mem) hc0) (fun hnil => ?_)
 obtain rfl : xs = [] := by simpa [Zj] using hnil
 refine sqt 1 rfl (pur 1 rfl (Z4 ?_))
 first
   | exact rtA rfl rfl rfl ⟨o2.cast (by simp), rfl, rfl, rfl⟩ idH
   | exact rtA rfl rfl rfl ⟨OSl.nil _ _, rfl, rfl, rfl⟩ idH
 refine Z2 (sqt 4 rfl ?_)
 refine Zb6 rfl Zcn rfl (fun o5 ho5 => ?_)
 refine pur 1 rfl ?_
 refine Zds (news := Zj xs) o5 rfl Zdz rfl rfl (Z8M) (by simp [Zj]) (by simp [Z02, Zj, Z3U, Value.oneCell', Value.oneCell']) ⟨by simp [Zj]; omega, by simp [Zj]; omega⟩ rfl ho5 (fun o2 ho2 => ?_)
 refine pur 1 rfl (Z4 ?_)
 first
   | exact rtA rfl rfl rfl ⟨o2.cast (by simp), rfl, rfl, rfl⟩ idH
   | exact rtA rfl rfl rfl ⟨OSl.nil _ _, rfl, rfl, rfl⟩ idH
theorem Z9F {A B C : List Value} {n : Nat} (h : n = A.length) : spl (A ++ B) n C = A ++ (C ++ B.drop C.length) := by
  subst h
  unfold spl
  rw [List.take_left, List.drop_append]
  simp
theorem Z51 (rows : List (List Value)) (i : Nat) : rows.flatten = (rows.take i).flatten ++ (rows.drop i).flatten := by rw [← List.flatten_append, List.take_append_drop]
theorem Z5P {sz : Nat} {rows : List (List Value)} (hs : ∀ r ∈ rows, r.length = sz) {junk : List Value} {i : Nat} (hi : i < rows.length) : spl (rows.flatten ++ junk) (i * sz) (rows.drop (i + 1)).flatten = (rows.eraseIdx i).flatten ++ (rows.flatten ++ junk).drop ((rows.length - 1) * sz) := by
  have h1 : (rows.take i).flatten.length = i * sz := by rw [ZJ fun r hr => hs r (List.mem_of_mem_take hr), List.length_take, Nat.min_eq_left (by omega)]
  unfold spl
  have e1 : ((rows.flatten ++ junk).take (i * sz) : List Value) = (rows.take i).flatten := by
    rw [Z51 rows i, List.append_assoc, ← h1, List.take_left]
  have e2 : i * sz + (rows.drop (i + 1)).flatten.length = (rows.length - 1) * sz := by
    rw [ZJ fun r hr => hs r (List.mem_of_mem_drop hr), List.length_drop, ← Nat.add_mul]
    congr 1; omega
  rw [e1, e2, List.eraseIdx_eq_take_drop_succ, List.flatten_append]
theorem Z9Y {sz : Nat} {rows : List (List Value)} (hs : ∀ r ∈ rows, r.length = sz) {junk : List Value} {i j : Nat} {v : Value} (hi : i ≤ rows.length) (h : ((rows.drop i).flatten)[j]? = some v) : (rows.flatten ++ junk)[i * sz + j]? = some v := by
  have h1 : (rows.take i).flatten.length = i * sz := by rw [ZJ fun r hr => hs r (List.mem_of_mem_take hr), List.length_take, Nat.min_eq_left hi]
  have hj := (List.getElem?_eq_some_iff.1 h).1
  rw [Z51 rows i, List.append_assoc, List.getElem?_append_right (by omega), show i * sz + j - (rows.take i).flatten.length = j by omega, List.getElem?_append_left hj]
  exact h
theorem Z1e (l : List Gp) (i : Nat) : (Zc l).drop i = Zc (l.drop i) := by unfold Zc; rw [List.map_drop]
theorem Z4t (l : List Gp) (i : Nat) : (Zc l).eraseIdx i = Zc (l.eraseIdx i) := by
  unfold Zc
  rw [List.eraseIdx_eq_take_drop_succ, List.eraseIdx_eq_take_drop_succ, List.map_append, List.map_take, List.map_drop]
theorem Z1o (l : List Gp) : (Zc l).flatten.length = l.length * 2 := by rw [ZJ (Z52 l), Z08]
theorem Zas (l : List Gp) : (Zc l).flatten.all (·.oneCell') = true := List.all_eq_true.2 fun v hv => by
  obtain ⟨r, hr, h2⟩ := List.mem_flatten.1 hv
  obtain ⟨x, _, rfl⟩ := List.mem_map.1 hr
  simp only [Z1A, List.mem_cons, List.not_mem_nil, or_false] at h2
  rcases h2 with rfl | rfl <;> rfl
def Hse.cloE (h : Hse) (n : Int) : Int := bif decide (h.check ≠ 0) then h.check else bif !inB n 0 ((h.gaps.length : Int) - 1) then 1 else 0
def Hse.cloH (h : Hse) (n : Int) : Hse := bif decide (h.cloE n = 0) then ⟨h.bins, h.gaps.eraseIdx n.toNat, h.sights⟩ else ⟨0, [], []⟩
theorem Zab {h : Hse} {n : Int} (hc : h.check ≠ 0) : h.cloE n = h.check ∧ h.cloH n = ⟨0, [], []⟩ := by
  have e : h.cloE n = h.check := by unfold Hse.cloE; rw [decide_eq_true hc]; rfl
  exact ⟨e, by unfold Hse.cloH; rw [e, decide_eq_false hc]; rfl⟩
theorem Zap {h : Hse} {n : Int} (hc : h.check = 0) (hi : (!inB n 0 ((h.gaps.length : Int) - 1)) = true) : h.cloE n = 1 ∧ h.cloH n = ⟨0, [], []⟩ := by
  have e : h.cloE n = 1 := by unfold Hse.cloE; rw [decide_eq_false (fun e => e hc), hi]; rfl
  exact ⟨e, by unfold Hse.cloH; rw [e]; rfl⟩
theorem Z70 {h : Hse} {n : Int} (hc : h.check = 0) (hi : (!inB n 0 ((h.gaps.length : Int) - 1)) = false) : h.cloE n = 0 ∧ h.cloH n = ⟨h.bins, h.gaps.eraseIdx n.toNat, h.sights⟩ := by
  have e : h.cloE n = 0 := by unfold Hse.cloE; rw [decide_eq_false (fun e => e hc), hi]; rfl
  exact ⟨e, by unfold Hse.cloH; rw [e]; rfl⟩
theorem St.norows2 {s t : Nat} {H : Z7} {R : Z3} {w : World} (h : St H R w) : St H (RowsA none s [] :: RowsA none t [] :: R) w := St.norows (St.norows h)
theorem Z6g (l : List Gp) (o : OSl 46 2 (Zc l)) (hl : l.length ≤ 1000000) (i : Nat) (hi : i < l.length) (H : Z7) (R : Z3) :
    Fn Try.prog 56 [o.fs, .int .i64 i, .int .i64 ((i + 1 : Nat) : Int)] (o.G ++ H) R (fun v H' R' => ∃ a c', (l.eraseIdx i).length ≤ c' ∧ v = .slice a (l.eraseIdx i).length c' ∧ H' = H ∧ R' = RowsA a 2 (Zc (l.eraseIdx i)) :: R) := by
 have hgl9 : (Zc l).length = l.length := Z08 l
 obtain ⟨b, cap, junk, hfs, hG, hj, hcap, hmx⟩ := o.is.resolve_left (fun h => by have := congrArg List.length h.1; rw [hgl9] at this; simp only [List.length_nil] at this; omega)
 rw [hgl9] at hfs hcap hj
 rw [hfs, hG]
 refine Ze Try.func56 rfl Try.ntmps56 rfl ?_
 refine sqt 1 rfl ?_
 refine Sy.heap (H' := (b, cel 46 ((Zc l).flatten ++ junk)) :: H) idH ?_
 refine pur 1 rfl (sqt 6 rfl (pur 4 rfl (sp rfl (PE.lenSl Z1E rfl) rfl (sp rfl (PE.slLHM Z7P rfl rfl rfl rfl (by omega) (by omega) (by omega)) rfl (Z1 (sqt 3 rfl (pur 3 rfl ?_)))))))
 refine Z0 rfl ?_ ?_ <;> intro hc0
 exact absurd hc0 (by simp; omega)
 refine Z2 (sqt 3 rfl (pur 1 rfl (sp rfl (PE.lenSl Z1E rfl) rfl (pur 1 rfl (Z1 ?_)))))
 refine Zd [0, 0, 3, 0, 0, 24, 63, 127] (tks 0 6 (.big 6 (.tk 7 .done))) Zv (by kernel_rfl) ?_
 refine Zo 2 rfl (tk rfl (PE.slHi Z7P rfl rfl (by omega)) rfl (Zo 2 rfl (tk rfl (PE.slLoA Z7P rfl rfl (by omega)) rfl ?_)))
 obtain ⟨ax, hax, hsrc⟩ : ∃ ax : Addr, (if cap = i + 1 then some (⟨b, 0, none⟩ : Addr) else (some (⟨b, 0, none⟩ : Addr)).map (·.add ((i + 1) * 2))) = some ax ∧ ∀ j v, (((Zc l).drop (i + 1)).flatten)[j]? = some v → ax.add j = ⟨b, (i + 1) * 2 + j, none⟩ := by
   by_cases h9 : cap = i + 1
   · refine ⟨_, if_pos h9, fun j v hj => ?_⟩
     have := (List.getElem?_eq_some_iff.1 hj).1
     rw [Z1e, Z1o, List.length_drop] at this; omega
   · exact ⟨_, if_neg h9, fun j v hj => by show ((⟨b, 0, none⟩ : Addr).add ((i + 1) * 2)).add j = _; rw [Zz, Zz]; simp⟩
 rw [hax]
 refine apI (((Zc l).drop (i + 1)).flatten) rfl Z7P rfl rfl (by rw [Z1e, Z1o, List.length_drop]) (fun w hs j v hj => by rw [hsrc j v hj, Z1p (hs.held (b, cel 46 ((Zc l).flatten ++ junk)) (by simp))]; simpa using Z9Y (junk := junk) (Z52 l) (by rw [Z08]; omega) hj) (by rw [Z1e]; exact Zas _) (by omega) (by rw [Z1e, Z1o, List.length_drop, List.length_append, Z1o]; omega) rfl ?_
 rw [Z5P (Z52 l) (by rw [Z08]; exact hi), Z08, Z4t, show i + (l.length - (i + 1)) = l.length - 1 from by omega]
 obtain ⟨jk, hjk⟩ : ∃ jk, jk = ((Zc l).flatten ++ junk).drop ((l.length - 1) * 2) := ⟨_, rfl⟩
 rw [← hjk]
 have hel : (l.eraseIdx i).length = l.length - 1 := List.length_eraseIdx_of_lt hi
 refine bgT (Zo 1 rfl (sqt 6 rfl (pur 2 rfl (sp rfl (PE.lenSl Z1E rfl) rfl (pur 1 rfl (sp rfl (PE.slLH Z7P rfl rfl rfl (by omega) (by omega) (by omega)) rfl ?_))))))
 refine ZdH rfl rfl Z7P Z30 rfl rfl rfl (by rw [hjk, List.length_append, Z1o, List.length_drop, List.length_append, Z1o]; omega) ?_
 rw [Z9F (by rw [Z1o, hel]; omega)]
 obtain ⟨jk2, hjk2⟩ : ∃ jk2, jk2 = (Z19 (l.length - (l.length - 1)) [Value.int .i64 0, .int .i64 0] ++ jk.drop (Z19 (l.length - (l.length - 1)) [Value.int .i64 0, .int .i64 0]).length) := ⟨_, rfl⟩
 rw [← hjk2]
 refine sqt 2 rfl (pur 2 rfl (Z4 ?_))
 refine Sy.heap (fun w h => St.rows (sz := 2) (rows := Zc (l.eraseIdx i)) (rest := jk2) h (Z52 _)) ?_
 rw [← hel]
 exact rtA rfl rfl rfl ⟨_, cap, by omega, rfl, rfl, rfl⟩ drp
set_option maxHeartbeats 400000 in
theorem Z7k (h : Hse) (ag as_ : Option Addr) (cg cs : Nat) (hlg : h.gaps.length ≤ 1000000) (hls : h.sights.length ≤ 1000000) (n : Int) (hn : -1000000 ≤ n ∧ n ≤ 1000000) (H : Z7) (R : Z3) [hG : MemRows ag 2 (Zc h.gaps) R] [hS : MemRows as_ 3 (Zj h.sights) R] :
    Fn Try.prog 20 [h.v (h.sg ag cg) (h.ss as_ cs), .int .i64 n] H R (fun v H' R' => ∃ (ax ay : Option Addr) (cx cy : Nat), ((h.cloH n).gaps.length ≤ cx ∧ (h.cloH n).sights.length ≤ cy) ∧ v = .tuple #[(h.cloH n).v ((h.cloH n).sg ax cx) ((h.cloH n).ss ay cy), .int .i64 (h.cloE n)] ∧ H' = H ∧ R' = RowsA ax 2 (Zc (h.cloH n).gaps) :: RowsA ay 3 (Zj (h.cloH n).sights) :: R) := by
 refine Ze Try.func20 rfl Try.ntmps20 rfl ?_
 refine sqt 3 rfl (bx rfl rfl rfl (fun b2 => alc rfl Z64 rfl (fun b4 => pur 1 rfl (Z1 (sqt 3 rfl (spL rfl rfl (lhA (htl h (h.sg ag cg) (h.ss as_ cs)) Z07 rfl rfl rfl) rfl ?_))))))
 refine clV rfl Z5R rfl rfl (Z1K h ag as_ cg cs (by omega) (by omega) _ _) ?_
 refine pur 1 rfl (sqt 2 rfl (pur 2 rfl ?_))
 refine Z0 rfl ?_ ?_ <;> intro hc0
 have hck : h.check ≠ 0 := of_decide_eq_true hc0
 obtain ⟨e1, e2⟩ := Zab (n := n) hck
 refine sqt 4 rfl (sp rfl (PE.build (out := htl ⟨0, [], []⟩ (.slice none 0 0) (.slice none 0 0)) Zbc Z64 rfl rfl) rfl (pur 1 rfl ?_))
 refine ZQ (l' := htl ⟨0, [], []⟩ (.slice none 0 0) (.slice none 0 0)) rfl rfl rfl Z8E rfl rfl rfl rfl (nl rfl) ?_
 refine pur 1 rfl (Z4 ?_)
 rw [e1, e2]
 exact Zh (vs := [_, _]) rfl (.cons (RV.cell rfl (lhA [_, _, _] Z07 rfl rfl rfl)) (.cons (RV.tmp rfl) .nil)) rfl ⟨none, none, 0, 0, ⟨Nat.le_refl _, Nat.le_refl _⟩, rfl, rfl, rfl⟩ (fun w h9 => St.norows2 ((h9.del b4).del b2))
 have hck : h.check = 0 := Classical.byContradiction fun e => by rw [decide_eq_true e] at hc0; cases hc0
 have hok := hse_ok.1 hck
 have hgl := hok.gl
 refine Z2 (Z1 (sqt 4 rfl (spL rfl rfl (lhA (htl h (h.sg ag cg) (h.ss as_ cs)) Z07 rfl rfl rfl) rfl (pur 1 rfl ?_))))
 refine clV rfl Zbt rfl rfl (ZaO h (by omega) ag cg (h.ss as_ cs) n _ _) ?_
 refine pur 1 rfl ?_
 refine Z0 rfl ?_ ?_ <;> intro hc1
 try simp only [cS] at hc1
 obtain ⟨e1, e2⟩ := Zap (n := n) hck (by rw [hc1] <;> rfl)
 refine sqt 3 rfl (sp rfl (PE.build (out := htl ⟨0, [], []⟩ (.slice none 0 0) (.slice none 0 0)) Zbc Z64 rfl rfl) rfl ?_)
 refine ZQ (l' := htl ⟨0, [], []⟩ (.slice none 0 0) (.slice none 0 0)) rfl rfl rfl Z8E rfl rfl rfl rfl (nl rfl) ?_
 refine pur 1 rfl (Z4 ?_)
 rw [e1, e2]
 exact Zh (vs := [_, _]) rfl (.cons (RV.cell rfl (lhA [_, _, _] Z07 rfl rfl rfl)) (.cons (RV.tmp rfl) .nil)) rfl ⟨none, none, 0, 0, ⟨Nat.le_refl _, Nat.le_refl _⟩, rfl, rfl, rfl⟩ (fun w h9 => St.norows2 ((h9.del b4).del b2))
 obtain ⟨e1, e2⟩ := Z70 (n := n) hck hc1
 have hnr : 0 ≤ n ∧ n < h.gaps.length := by
   simp only [inB, Bool.not_eq_false', Bool.and_eq_true, decide_eq_true_eq] at hc1; omega
 obtain ⟨i, rfl⟩ : ∃ i : Nat, n = i := ⟨n.toNat, by omega⟩
 rw [Int.toNat_natCast] at e2
 refine Z2 (Z1 ?_)
 refine Zd [0, 1, 0, 4, 12, 0, 0, 64, 252, 0, 512, 2044, 4095, 8191, 16383] (.tk 0 (.ld 1 (.tk 2 (.ld 3 (tks 5 3 (.tk 9 (.ld 10 (.big 4 (.big 8 (.big 11 (.tk 12 (.big 13 (.tk 14 .done))))))))))))) Zv (by kernel_rfl) ?_
 refine tk rfl (PE.fA Z0m rfl) rfl (ld rfl rfl (lh sc3 rfl rfl) rfl (tk rfl (PE.fA ZT rfl) rfl (ld rfl rfl (lh Z3g rfl rfl) rfl (Zo 2 rfl (tk rfl (PE.add rfl rfl (by omega)) rfl (tk rfl (PE.fA Z1k rfl) rfl (ld rfl rfl (lh Z63 rfl rfl) rfl ?_)))))))
 refine cl rfl ZcV rfl rfl (Z4B h.gaps ag cg (by omega) _ _) ?_
 rintro _ _ R1 ⟨og, rfl, rfl, hR1, _⟩
 obtain rfl := hR1.symm
 clear hR1
 refine bg (fun w hs => ⟨(lh Z63 rfl rfl) w hs, trivial, (lh sc3 rfl rfl) w hs, trivial⟩) ?_
 rw [show (i : Int) + 1 = ((i + 1 : Nat) : Int) by omega]
 refine cl rfl Zd9 rfl rfl (Z6g h.gaps og (by omega) i (by omega) _ _) ?_
 rintro _ _ R1 ⟨ax, cx, hcx, rfl, rfl, hR1⟩
 obtain rfl := hR1.symm
 clear hR1
 refine bg (fun w hs => ⟨(lh Z63 rfl rfl) w hs, (lh sc3 rfl rfl) w hs, trivial⟩) ?_
 refine cl rfl Zd1 rfl rfl (Z4w h.sights as_ cs (by omega) _ _) ?_
 rintro _ _ R1 ⟨os, rfl, rfl, hR1⟩
 obtain rfl := hR1.symm
 clear hR1
 obtain ⟨ay, cy, he, hcy, hz⟩ := os.freezeC
 rw [Z4d] at hcy
 rw [he, Z4d]
 refine Sy.heap (H' := _) (fun w h9 => hz h9) ?_
 clear he hz
 refine bg (fun w hs => ⟨trivial, (lh sc3 rfl rfl) w hs, trivial⟩) ?_
 refine tk rfl (PE.build (out := htl ⟨h.bins, h.gaps.eraseIdx i, h.sights⟩ (.slice ax (h.gaps.eraseIdx i).length cx) (.slice ay h.sights.length cy)) Zbc Z64 rfl rfl) rfl ?_
 refine ZQ (l' := htl ⟨h.bins, h.gaps.eraseIdx i, h.sights⟩ (.slice ax (h.gaps.eraseIdx i).length cx) (.slice ay h.sights.length cy)) rfl rfl rfl Z8E rfl rfl rfl rfl (nl rfl) ?_
 refine bgT (Zo 1 rfl (Z4 ?_))
 rw [e1, e2]
 exact Zh (vs := [_, _]) rfl (.cons (RV.cell rfl (lhA [_, _, _] Z07 rfl rfl rfl)) (.cons (RV.tmp rfl) .nil)) rfl ⟨ax, ay, cx, cy, ⟨hcx, hcy⟩, rfl, rfl, rfl⟩ (fun w h9 => ((h9.del b4).del b2).facts (fun g hg => by simp only [List.mem_cons] at hg ⊢; rcases hg with h8 | h8 | h8 <;> simp [h8]))
theorem ZaS : cal Try.prog 10 = true := by kernel_rfl
theorem Z9D : cal Try.prog 16 = true := by kernel_rfl
theorem Zc9 : cal Try.prog 20 = true := by kernel_rfl
theorem ZdB : cal Try.prog 9 = true := by kernel_rfl
theorem Tru.nil (h : Hse) (l : List Int) : Tru h l [] := ⟨(fun s hs => by cases hs), rfl⟩
theorem Z9f {h : Hse} {l k : List Int} (hk : h.ok) (h1 : ZV h.bins l = 0) (h2 : ZV h.bins k = 0) (h3 : ∀ x ∈ l, x ∉ k) : h.botE l k = 0 := by
  have h4 : l.any (Z35 k) = false := List.any_eq_false.2 fun x hx h5 => h3 x hx (hasI_iff.1 h5)
  unfold Hse.botE
  rw [hse_ok.2 hk, h1, h2, h4]; rfl
theorem Z6v {d : Nat → Int} {n : Nat} : ∀ x ∈ Z0c (fun j => decide (d j = 0)) n, x ∉ Z0c (fun j => decide (d j = 1)) n := fun x h1 h2 => by
  obtain ⟨k, _, h3, rfl⟩ := fltK_mem.1 h1
  obtain ⟨k', _, h4, h5⟩ := fltK_mem.1 h2
  obtain rfl : k = k' := by omega
  have := of_decide_eq_true h3; have := of_decide_eq_true h4; omega
theorem ZaV {gs : List Gp} {S K m : Nat} (h : Cut gs S K m) : m ≤ gs.length := by
  obtain ⟨C, _, _, h3⟩ := h.1
  rw [← h3]; exact Z2O _ _
theorem ZcL {gs : List Gp} {K sp S n : Nat} (h : Pl gs K sp S 0 n) : n ≤ gs.length := by have := h.few; rw [Z0r] at this; exact this
theorem Z3h (h : Hse) (ag as_ : Option Addr) (cg cs : Nat) (hok : h.ok) (fr to_ : List Int) (af at_ : Option Addr) (cf ct : Nat) (hlf : fr.length ≤ 1000000) (hlt : to_.length ≤ 1000000) (hfc : fr.length ≤ cf) (htc : to_.length ≤ ct) (hb : h.botE fr to_ = 0) (H : Z7) (R : Z3) [hG : MemRows ag 2 (Zc h.gaps) R] [hS : MemRows as_ 3 (Zj h.sights) R] [hF : MemRows af 1 (Z6 fr) R] [hT : MemRows at_ 1 (Z6 to_) R] : Fn Try.prog 22 [h.v (h.sg ag cg) (h.ss as_ cs), .slice af fr.length cf, .slice at_ to_.length ct] H R (fun v H' R' => (∃ s : Nat, s ≤ 10 ∧ Spd h.gaps (msk fr) (msk to_) s ∧ v = .tuple #[.int .i64 (s : Int), .int .i64 0]) ∧ H' = H ∧ R' = R) := fun w hw => by
  refine CallsIn.mono (Z6R h ag as_ cg cs (by have := hok.gl; omega) (by have := hok.sl; omega) fr to_ af at_ cf ct hlf hlt hfc htc H R w hw) ?_
  rintro e' w' ⟨u, H', R', ⟨rfl, hq⟩, he, hs'⟩
  obtain ⟨rfl, hq⟩ := hq
  rcases hq with ⟨h1, _⟩ | ⟨_, s, h2, h3, h4, rfl⟩
  · exact absurd hb h1
  · exact ⟨_, _, R', ⟨⟨s, h2, ⟨h3, h4⟩, rfl⟩, rfl, rfl⟩, he, hs'⟩
theorem Z6q (h : Hse) (ag as_ : Option Addr) (cg cs : Nat) (hok : h.ok) (fr to_ : List Int) (af at_ : Option Addr) (cf ct : Nat) (hlf : fr.length ≤ 1000000) (hlt : to_.length ≤ 1000000) (hfc : fr.length ≤ cf) (htc : to_.length ≤ ct) (hb : h.botE fr to_ = 0) (H : Z7) (R : Z3) [hG : MemRows ag 2 (Zc h.gaps) R] [hS : MemRows as_ 3 (Zj h.sights) R] [hF : MemRows af 1 (Z6 fr) R] [hT : MemRows at_ 1 (Z6 to_) R] : Fn Try.prog 23 [h.v (h.sg ag cg) (h.ss as_ cs), .slice af fr.length cf, .slice at_ to_.length ct] H R (fun v H' R' => ∃ (X : Nat) (a : Option Addr) (c : Nat), Cut h.gaps (msk fr) (msk to_) (Z0z X h.gaps).length ∧ Shut h.gaps (msk (Z0z X h.gaps)) (msk fr) (msk to_) ∧ (Z0z X h.gaps).length ≤ c ∧ v = .tuple #[.slice a (Z0z X h.gaps).length c, .int .i64 0] ∧ H' = H ∧ R' = RowsA a 1 (Z6 (Z0z X h.gaps)) :: R) := fun w hw => by
  refine CallsIn.mono (ZbX h ag as_ cg cs (by have := hok.gl; omega) (by have := hok.sl; omega) fr to_ af at_ cf ct hlf hlt hfc htc H R w hw) ?_
  rintro e' w' ⟨u, H', R', ⟨rfl, hq⟩, he, hs'⟩
  rcases hq with ⟨h1, _⟩ | ⟨_, f, V, a, c, h2, h3, h4, rfl, rfl⟩
  · exact absurd hb h1
  · obtain ⟨h5, h6⟩ := h3.cut (Z3u (Z27 hb)) h2
    exact ⟨_, _, _, ⟨Z17 V, a, c, h5, h6, h4, rfl, rfl, rfl⟩, he, hs'⟩
theorem Z43 (h : Hse) (ag as_ : Option Addr) (cg cs : Nat) (hok : h.ok) (fr to_ : List Int) (af at_ : Option Addr) (cf ct : Nat) (hlf : fr.length ≤ 1000000) (hlt : to_.length ≤ 1000000) (hfc : fr.length ≤ cf) (htc : to_.length ≤ ct) (hb : h.botE fr to_ = 0) (spd : Nat) (hsp : spd ≤ 10) (hpl : ∃ n, Pl h.gaps (msk to_) spd (msk fr) 0 n) (H : Z7) (R : Z3) [hG : MemRows ag 2 (Zc h.gaps) R] [hS : MemRows as_ 3 (Zj h.sights) R] [hF : MemRows af 1 (Z6 fr) R] [hT : MemRows at_ 1 (Z6 to_) R] : Fn Try.prog 25 [h.v (h.sg ag cg) (h.ss as_ cs), .slice af fr.length cf, .slice at_ to_.length ct, .int .i64 (spd : Int)] H R (fun v H' R' => (∃ n : Nat, n ≤ 10 ∧ Lst (Pl h.gaps (msk to_) spd (msk fr) 0) n ∧ v = .tuple #[.int .i64 (n : Int), .int .i64 0]) ∧ H' = H ∧ R' = R) := fun w hw => by
  refine CallsIn.mono (Z5c h ag as_ cg cs (by have := hok.gl; omega) (by have := hok.sl; omega) fr to_ af at_ cf ct hlf hlt hfc htc (spd : Int) H R w hw) ?_
  rintro e' w' ⟨u, H', R', ⟨rfl, hq⟩, he, hs'⟩
  obtain ⟨rfl, hq⟩ := hq
  have hrz := Z4D hb hsp
  rw [hrz, Int.toNat_natCast] at hq
  rcases hq with ⟨h1, _⟩ | ⟨_, h1, _⟩ | ⟨_, n, h2, h3, rfl⟩
  · exact absurd rfl h1
  · obtain ⟨n, hn⟩ := hpl; exact absurd hn (h1 n)
  · exact ⟨_, _, R', ⟨⟨n, h2, h3, rfl⟩, rfl, rfl⟩, he, hs'⟩
theorem Z87 (h : Hse) (ag as_ : Option Addr) (cg cs : Nat) (hok : h.ok) (fr to_ : List Int) (af at_ : Option Addr) (cf ct : Nat) (hlf : fr.length ≤ 1000000) (hlt : to_.length ≤ 1000000) (hfc : fr.length ≤ cf) (htc : to_.length ≤ ct) (hb : h.botE fr to_ = 0) (spd : Nat) (hsp : spd ≤ 10) (hpl : ∀ n, ¬ Pl h.gaps (msk to_) spd (msk fr) 0 n) (H : Z7) (R : Z3) [hG : MemRows ag 2 (Zc h.gaps) R] [hS : MemRows as_ 3 (Zj h.sights) R] [hF : MemRows af 1 (Z6 fr) R] [hT : MemRows at_ 1 (Z6 to_) R] : Fn Try.prog 24 [h.v (h.sg ag cg) (h.ss as_ cs), .slice af fr.length cf, .slice at_ to_.length ct, .int .i64 (spd : Int)] H R (fun v H' R' => v = .tuple #[.slice none 0 0, .int .i64 6] ∧ H' = H ∧ R' = R) := fun w hw => by
  refine CallsIn.mono (Z6E h ag as_ cg cs (by have := hok.gl; omega) (by have := hok.sl; omega) fr to_ af at_ cf ct hlf hlt hfc htc (spd : Int) H R w hw) ?_
  rintro e' w' ⟨u, H', R', ⟨rfl, hq⟩, he, hs'⟩
  have hrz := Z4D hb hsp
  rw [hrz, Int.toNat_natCast] at hq
  rcases hq with ⟨h1, _⟩ | ⟨_, h1, rfl, rfl⟩ | ⟨_, ls, pl, a, c, _, _, _, _, _, h2, _⟩
  · exact absurd rfl h1
  · exact ⟨_, _, _, ⟨rfl, rfl, rfl⟩, he, hs'⟩
  · exact absurd h2.1 (hpl _)
theorem ZcT : cal Try.prog 21 = true := by kernel_rfl
theorem Z8G {h : Hse} (hk : h.ok) (i : Nat) : Hse.ok ⟨h.bins, h.gaps.eraseIdx i, h.sights⟩ := ⟨hk.bins, by have := hk.gl; have := List.length_eraseIdx_le h.gaps i; show (h.gaps.eraseIdx i).length ≤ 10; omega, hk.sl, fun g hg => hk.gaps g (List.mem_of_mem_eraseIdx hg), hk.sights⟩
theorem Z9n {h : Hse} (hk : h.ok) {i : Nat} (hi : i < h.gaps.length) : h.cloE i = 0 ∧ h.cloH i = ⟨h.bins, h.gaps.eraseIdx i, h.sights⟩ := by
  have := Z70 (n := i) (hse_ok.2 hk) (by simp [inB]; omega)
  rw [Int.toNat_natCast] at this; exact this
def Zdf (gs : List Gp) (S K : Nat) (s : Nat) (last : Int) : Prop := ∀ k, Lst (Pl gs K s S 0) k → (k : Int) ≤ last
set_option maxHeartbeats 1000000 in
theorem Z3y (l0 : List Int) (a0 : Option Addr) (c0 : Nat) (hl0 : l0.length ≤ 9223372036854775807) (l1 : List Int) (a1 : Option Addr) (c1 : Nat) (hl1 : l1.length ≤ 9223372036854775807) (n2 : Int) (hn2 : 0 ≤ n2 ∧ n2 ≤ 255) (H : Z7) (R : Z3) [hG0 : MemRows a0 1 (Z2M l0) R] [hG1 : MemRows a1 1 (Z2M l1) R] :
    Fn Try.prog 5 [.slice a0 l0.length c0, .slice a1 l1.length c1, .int .u8 n2] H R (fun v H' R' => v = .bool true ∧ H' = H ∧ R' = R) := by
 refine Ze Try.func5 rfl Try.ntmps5 rfl ?_
 refine sqt 1 rfl (pur 1 rfl (sqt 9 rfl (pur 1 rfl ?_)))
 refine cl rfl ZaS rfl rfl (Z8Y l0 a0 c0 hl0 _ _) ?_
 rintro _ _ R1 ⟨bk, mk, hmk, rfl, rfl, hR1⟩
 obtain rfl := hR1.symm
 clear hR1
 refine cl rfl ZdB rfl rfl (ZaX l0 a0 c0 bk hl0 0 mk (by omega) hmk 6 8 (by omega) (by omega) _ _) ?_
 rintro _ _ R1 ⟨h, p, ag, ar, cg, cr, tqb, mxb, hmd, hcg, hcr, rfl, htqb, hmxb, rfl, hR1⟩
 obtain rfl := hR1.symm
 clear hR1
 have hok := hmd.ok (by omega) (by omega)
 have hck := hse_ok.2 hok
 have hbn := hok.bins
 have hgl := hok.gl
 have hsl := hok.sl
 have hnb := hmd.bins
 have hng := hmd.gl
 have hss := hmd.none
 obtain ⟨B, hB⟩ : ∃ B : Nat, h.bins = B := ⟨h.bins.toNat, by omega⟩
 have hBt : h.bins.toNat = B := by omega
 have hfb := Z0n p h.bins.toNat
 have hfr := Z69 p (show 0 ≤ h.bins by omega)
 have hfe := Z4U p (show 0 ≤ h.bins by omega)
 have hm7 : msk (Z0c p h.bins.toNat) < 2 ^ 7 := Z1m fun x hx => by have := hfr x hx; omega
 refine pur 3 rfl (alc rfl Z64 rfl (fun b7 => ?_))
 refine ZQ (l' := htl h (h.sg ag cg) (h.ss none 0)) rfl rfl rfl Z8E rfl rfl rfl rfl (nl rfl) ?_
 refine pur 1 rfl (Z1 ?_)
 refine Zd [0, 1, 0, 7, 15, 31, 31, 63, 255] (.tk 0 (.ld 2 (.big 1 (.big 3 (tks 4 5 .done))))) Zv (by kernel_rfl) ?_
 refine Zo 1 rfl (ld rfl rfl (lhA (htl h (h.sg ag cg) (h.ss none 0)) Z07 rfl rfl rfl) rfl ?_)
 refine cl rfl ZaS rfl rfl (Z8Y l1 a1 c1 hl1 _ _) ?_
 rintro _ _ R1 ⟨bq, mq, hmq, rfl, rfl, hR1⟩
 obtain rfl := hR1.symm
 clear hR1
 refine bg (fun w hs => ⟨(lhA (htl h (h.sg ag cg) (h.ss none 0)) Z07 rfl rfl rfl) w hs, trivial⟩) ?_
 refine ZH bq ?_
 refine cl rfl ZcT rfl rfl (Zda l1 a1 c1 bq hl1 0 mq (by omega) hmq h ag none cg 0 hok _ _) ?_
 rintro _ _ R1 ⟨d, af, ak, cf, ck, tqd, mxd, hcf, hck9, rfl, htqd, hmxd, rfl, hR1⟩
 obtain rfl := hR1.symm
 clear hR1
 obtain ⟨fr, hfr9⟩ : ∃ fr, fr = Z0c (fun j => decide (d j = 0)) h.bins.toNat := ⟨_, rfl⟩
 obtain ⟨to_, hto9⟩ : ∃ to_, to_ = Z0c (fun j => decide (d j = 1)) h.bins.toNat := ⟨_, rfl⟩
 rw [← hfr9, ← hto9]
 rw [← hfr9] at hcf
 rw [← hto9] at hck9
 have hfl : fr.length ≤ 7 := by rw [hfr9]; have := Z0n (fun j => decide (d j = 0)) h.bins.toNat; omega
 have htl9 : to_.length ≤ 7 := by rw [hto9]; have := Z0n (fun j => decide (d j = 1)) h.bins.toNat; omega
 have hfe9 : ZV h.bins fr = 0 := by rw [hfr9]; exact Z4U _ (by omega)
 have hte9 : ZV h.bins to_ = 0 := by rw [hto9]; exact Z4U _ (by omega)
 have hap : ∀ x ∈ fr, x ∉ to_ := by rw [hfr9, hto9]; exact Z6v
 have hbot := Z9f hok hfe9 hte9 hap
 have htw := Z3u (Z27 hbot)
 refine bgT (Zo 5 rfl (sqt 9 rfl (spL rfl rfl (lhA (htl h (h.sg ag cg) (h.ss none 0)) Z07 rfl rfl rfl) rfl (pur 2 rfl ?_))))
 refine cl rfl Z7U rfl rfl (Z3h h ag none cg 0 hok fr to_ af ak cf ck (by omega) (by omega) hcf hck9 hbot _ _) ?_
 rintro _ _ R1 ⟨⟨n, hn10, hsp, rfl⟩, rfl, hR1⟩
 obtain rfl := hR1.symm
 clear hR1
 refine pur 5 rfl (sqt 9 rfl (spL rfl rfl (lhA (htl h (h.sg ag cg) (h.ss none 0)) Z07 rfl rfl rfl) rfl (pur 2 rfl ?_)))
 refine cl rfl Z8C rfl rfl (Z6q h ag none cg 0 hok fr to_ af ak cf ck (by omega) (by omega) hcf hck9 hbot _ _) ?_
 rintro _ _ R1 ⟨X, ac, cc, hcut, hshut, hcc, rfl, rfl, hR1⟩
 obtain rfl := hR1.symm
 clear hR1
 obtain ⟨m, hm⟩ : ∃ m, (Z0z X h.gaps).length = m := ⟨_, rfl⟩
 rw [hm] at hcut hcc
 rw [hm]
 have hsc := hsp.cut htw.w htw.s hcut
 have hml := ZaV hcut
 refine pur 5 rfl (Z1 (sqt 24 rfl (pur 3 rfl ?_)))
 refine Zn 58 rfl ?_ ?_ <;> intro g58
 exact absurd g58 (by simp)
 refine pur 4 rfl ?_
 refine Zn 62 rfl ?_ ?_ <;> intro g62
 exact absurd g62 (by simp)
 refine pur 4 rfl ?_
 refine Zn 66 rfl ?_ ?_ <;> intro g66
 simp only [decide_eq_true_eq] at g66; omega
 refine pur 2 rfl ?_
 refine spG rfl rfl rfl rfl (PE.lenSl Zw rfl) rfl ?_
 refine pur 3 rfl ?_
 refine Zn 72 rfl ?_ ?_ <;> intro g72
 simp only [decide_eq_true_eq] at g72; omega
 refine pur 3 rfl ?_
 refine spG rfl rfl rfl rfl (PE.lenSl Zw rfl) rfl ?_
 refine pur 1 rfl ?_
 refine spG rfl rfl rfl rfl (PE.neqBool ub4 rfl rfl) rfl ?_
 refine pur 1 rfl ?_
 refine Z0 rfl ?_ ?_ <;> intro hc0
 have e9 : decide ((n : Int) = 0) = decide ((m : Int) = 0) := decide_eq_decide.2 (by omega)
 rw [e9] at hc0
 simp at hc0
 refine Z2 (Z1 (sqt 2 rfl (pur 2 rfl ?_)))
 refine Z2u (ι := Unit) (fun _ => ⟨[(2, .int .u8 n2), (7, .pointer (some ⟨b7, 0, none⟩)), (9, .slice af fr.length cf), (10, .slice ak to_.length ck), (11, .int .i64 (n : Int)), (13, .slice ac m cc)], (bq, cel 72 [.slice a1 l1.length c1, .int .i64 (tqd), .int .u32 (mxd)]) :: (b7, cel 26 (htl h ((h).sg ag cg) ((h).ss none 0))) :: (bk, cel 72 [.slice a0 l0.length c0, .int .i64 (tqb), .int .u32 (mxb)]) :: H, RowsA ac 1 (Z6 (Z0z X h.gaps)) :: RowsA ak 1 (Z6 to_) :: RowsA af 1 (Z6 fr) :: RowsA none 3 (Zj h.sights) :: RowsA ar 1 (Z6 (Z0c p h.bins.toNat)) :: RowsA ag 2 (Zc h.gaps) :: R⟩) ?_ ?_
 refine Z0 rfl ?_ ?_ <;> intro hc1 <;> try simp only [cS] at hc1
 obtain ⟨n, rfl⟩ : ∃ d, n = d + 1 := ⟨n - 1, by omega⟩
 refine sqt 11 rfl (spL rfl rfl (lhA (htl h (h.sg ag cg) (h.ss none 0)) Z07 rfl rfl rfl) rfl (pur 3 rfl (sp rfl (PE.sub rfl rfl (by omega)) rfl ?_)))
 rw [show ((n + 1 : Nat) : Int) - 1 = ((n : Nat) : Int) by omega]
 refine cl rfl Z9u rfl rfl (Z87 h ag none cg 0 hok fr to_ af ak cf ck (by omega) (by omega) hcf hck9 hbot n (by omega) (hsp.2 n (by omega)) _ _) ?_
 rintro _ _ R1 ⟨rfl, rfl, hR1⟩
 obtain rfl := hR1.symm
 clear hR1
 refine pur 5 rfl (sqt 2 rfl (pur 2 rfl ?_))
 refine Z0 rfl ?_ ?_ <;> intro hc2
 exact absurd hc2 (by simp)
 refine Z2 ?_
 exact ZE () idH
 refine Z2 ?_
 exact ZE () idH
 rintro ⟨⟩
 dsimp only
 refine sqt 4 rfl (sp rfl (PE.fA ZT rfl) rfl (spL rfl rfl (lh Z3g rfl rfl) rfl (sp rfl (PE.lenSl Z1E rfl) rfl (pur 1 rfl (Z1 (sqt 2 rfl (pur 2 rfl (Z5 ?_))))))))
 refine Zi (ι := {y : Nat × Int // (n ≤ y.1 ∧ y.1 ≤ m + 1) ∧ Zdf h.gaps (msk fr) (msk to_) y.1 y.2}) (fun y => ⟨[(2, .int .u8 n2), (7, .pointer (some ⟨b7, 0, none⟩)), (9, .slice af fr.length cf), (10, .slice ak to_.length ck), (11, .int .i64 (n : Int)), (13, .slice ac m cc), (17, .int .i64 y.1.2), (18, .int .i64 (y.1.1 : Int))], (bq, cel 72 [.slice a1 l1.length c1, .int .i64 (tqd), .int .u32 (mxd)]) :: (b7, cel 26 (htl h ((h).sg ag cg) ((h).ss none 0))) :: (bk, cel 72 [.slice a0 l0.length c0, .int .i64 (tqb), .int .u32 (mxb)]) :: H, RowsA ac 1 (Z6 (Z0z X h.gaps)) :: RowsA ak 1 (Z6 to_) :: RowsA af 1 (Z6 fr) :: RowsA none 3 (Zj h.sights) :: RowsA ar 1 (Z6 (Z0c p h.bins.toNat)) :: RowsA ag 2 (Zc h.gaps) :: R⟩) (fun y => m + 1 - y.1.1) ⟨(n, (h.gaps.length : Int)), ⟨by dsimp only; omega, by dsimp only; omega⟩, fun k hk => by have := ZcL hk.1; dsimp only; omega⟩ ?_ (fun y => ?_)
 exact Zp idH
 obtain ⟨⟨s, last⟩, ⟨hs1, hs2⟩, hls⟩ := y
 dsimp only at hs1 hs2 hls ⊢
 refine Z1 (sqt 4 rfl (pur 2 rfl (sp rfl (PE.lenSl Zw rfl) rfl (pur 1 rfl ?_))))
 refine Z0 rfl ?_ ?_ <;> intro hc3 <;> try simp only [cS] at hc3
 obtain ⟨n0, hn0⟩ := hsp.1
 refine Z2 (Z1 (Z5 (sqt 10 rfl (spL rfl rfl (lhA (htl h (h.sg ag cg) (h.ss none 0)) Z07 rfl rfl rfl) rfl (pur 3 rfl ?_)))))
 refine cl rfl Z5J rfl rfl (Z43 h ag none cg 0 hok fr to_ af ak cf ck (by omega) (by omega) hcf hck9 hbot s (by omega) ⟨n0, hn0.speed hs1⟩ _ _) ?_
 rintro _ _ R1 ⟨⟨many, hmn, hml9, rfl⟩, rfl, hR1⟩
 obtain rfl := hR1.symm
 clear hR1
 refine pur 5 rfl (Z1 (sqt 7 rfl (pur 3 rfl ?_)))
 refine Zn 113 rfl ?_ ?_ <;> intro g113
 exact absurd g113 (by simp)
 refine pur 4 rfl ?_
 refine Z0 rfl ?_ ?_ <;> intro hc4
 have h8 := hls many hml9
 simp only [decide_eq_true_eq] at hc4
 omega
 refine Z2 (sqr 2 rfl (pur 2 rfl (sqr 3 rfl (pur 1 rfl (sp rfl (PE.add rfl rfl (by omega)) rfl (pur 1 rfl ?_))))))
 exact Z9 ⟨(s + 1, (many : Int)), ⟨by dsimp only; omega, by dsimp only; omega⟩, fun k hk => by have := Z4a (Nat.le_succ s) hml9 hk; dsimp only; omega⟩ idH
 refine Z8 (Za (Za (Zk (Z1 (sqt 4 rfl (sp rfl (PE.fA ZT rfl) rfl (spL rfl rfl (lh Z3g rfl rfl) rfl (sp rfl (PE.lenSl Z1E rfl) rfl (pur 1 rfl ?_)))))))))
 refine Z0 rfl ?_ ?_ <;> intro hc5
 refine sqt 2 rfl ?_
 refine clV rfl Z9D rfl rfl (Z4O _ _) ?_
 refine pur 1 rfl (Z4 ?_)
 exact rtA rfl rfl rfl ⟨rfl, rfl, rfl⟩ (fun w h9 => ((h9.del b7).del bq).del bk |>.sub)
 try simp only [cS] at hc5
 have hg1 : 1 ≤ h.gaps.length := by omega
 obtain ⟨i, hi⟩ : ∃ i : Nat, n2 % (h.gaps.length : Int) = i := ⟨(n2 % (h.gaps.length : Int)).toNat, by have := Int.emod_nonneg n2 (show (h.gaps.length : Int) ≠ 0 by omega); omega⟩
 have hil : i < h.gaps.length := by have := Int.emod_lt_of_pos n2 (show 0 < (h.gaps.length : Int) by omega); omega
 obtain ⟨hc0E, hcH⟩ := Z9n hok hil
 have hok2 := Z8G hok i
 have hbot2 : (Hse.mk h.bins (h.gaps.eraseIdx i) h.sights).botE fr to_ = 0 := Z9f hok2 hfe9 hte9 hap
 obtain ⟨n0, hn0⟩ := hsp.1
 refine Z2 (Z1 ?_)
 refine Zd [0, 0, 2, 0, 8, 24, 62, 127, 255, 511, 511, 0, 3071, 8191] (.ld 0 (tks 1 3 (.ld 4 (.tk 5 (.tk 6 (.any (.alt 7 (tks 8 3 (.big 11 (.big 12 (.tk 13 .done)))) (.alt 11 (.big 7 (tks 8 3 (.big 12 (.tk 13 .done)))) .stop)))))))) Zv (by kernel_rfl) ?_
 refine ld rfl rfl (lhA (htl h (h.sg ag cg) (h.ss none 0)) Z07 rfl rfl rfl) rfl (Zo 1 rfl (tk rfl (PE.conv64 us5 ik3 rfl (by omega)) rfl (tk rfl (PE.fA ZT rfl) rfl (ld rfl rfl (lh Z3g rfl rfl) rfl (tk rfl (PE.lenSl Z1E rfl) rfl (tk rfl (PE.rem rfl rfl (by omega)) rfl ?_))))))
 refine Z1h ?_ ?_
 rw [hi]
 refine cl rfl Zc9 rfl rfl (Z7k h ag none cg 0 (by omega) (by omega) i (by omega) _ _) ?_
 rintro _ _ R1 ⟨ax, ay, cx, cy, ⟨hcx, hcy⟩, rfl, rfl, hR1⟩
 obtain rfl := hR1.symm
 clear hR1
 rw [hc0E, hcH]
 rw [hcH] at hcx hcy
 refine bgT (Zo 3 rfl (alc rfl Z64 rfl (fun b21 => bgT ?_)))
 refine ZQ (l' := htl ⟨h.bins, h.gaps.eraseIdx i, h.sights⟩ (.slice ax (h.gaps.eraseIdx i).length cx) (.slice ay h.sights.length cy)) rfl rfl rfl Z8E rfl rfl rfl rfl (nl rfl) ?_
 refine bgT (Zo 1 rfl (sqt 9 rfl (spL rfl rfl (lhA (htl ⟨h.bins, h.gaps.eraseIdx i, h.sights⟩ (.slice ax (h.gaps.eraseIdx i).length cx) (.slice ay h.sights.length cy)) Z07 rfl rfl rfl) rfl (pur 2 rfl ?_))))
 refine cl rfl Z7U rfl rfl (Z3h ⟨h.bins, h.gaps.eraseIdx i, h.sights⟩ ax ay cx cy hok2 fr to_ af ak cf ck (by omega) (by omega) hcf hck9 hbot2 _ _) ?_
 rintro _ _ R1 ⟨⟨n9, hn910, hsp9, rfl⟩, rfl, hR1⟩
 obtain rfl := hR1.symm
 clear hR1
 have hse : n9 ≤ n := hsp.erase htw.w htw.s hil hsp9
 refine pur 5 rfl (sqt 9 rfl (spL rfl rfl (lhA (htl ⟨h.bins, h.gaps.eraseIdx i, h.sights⟩ (.slice ax (h.gaps.eraseIdx i).length cx) (.slice ay h.sights.length cy)) Z07 rfl rfl rfl) rfl (pur 2 rfl ?_)))
 refine cl rfl Z8C rfl rfl (Z6q ⟨h.bins, h.gaps.eraseIdx i, h.sights⟩ ax ay cx cy hok2 fr to_ af ak cf ck (by omega) (by omega) hcf hck9 hbot2 _ _) ?_
 rintro _ _ R1 ⟨X2, ac2, cc2, hcut2, hshut2, hcc2, rfl, rfl, hR1⟩
 obtain rfl := hR1.symm
 clear hR1
 have hce := hcut.erase hil hcut2
 dsimp only at hce
 refine pur 5 rfl (sqt 10 rfl (spL rfl rfl (lhA (htl h (h.sg ag cg) (h.ss none 0)) Z07 rfl rfl rfl) rfl (pur 3 rfl ?_)))
 refine cl rfl Z5J rfl rfl (Z43 h ag none cg 0 hok fr to_ af ak cf ck (by omega) (by omega) hcf hck9 hbot n hn10 ⟨n0, hn0⟩ _ _) ?_
 rintro _ _ R1 ⟨⟨q1, hq110, hq1, rfl⟩, rfl, hR1⟩
 obtain rfl := hR1.symm
 clear hR1
 refine pur 5 rfl (sqt 10 rfl (spL rfl rfl (lhA (htl ⟨h.bins, h.gaps.eraseIdx i, h.sights⟩ (.slice ax (h.gaps.eraseIdx i).length cx) (.slice ay h.sights.length cy)) Z07 rfl rfl rfl) rfl (pur 3 rfl ?_)))
 refine cl rfl Z5J rfl rfl (Z43 ⟨h.bins, h.gaps.eraseIdx i, h.sights⟩ ax ay cx cy hok2 fr to_ af ak cf ck (by omega) (by omega) hcf hck9 hbot2 n hn10 (Z2m htw.w htw.s hil ⟨n0, hn0⟩) _ _) ?_
 rintro _ _ R1 ⟨⟨q2, hq210, hq2, rfl⟩, rfl, hR1⟩
 obtain rfl := hR1.symm
 clear hR1
 have hqe := Z24 htw.w htw.s hil hq1 hq2
 refine pur 5 rfl (sqt 47 rfl (pur 3 rfl ?_))
 refine Zn 167 rfl ?_ ?_ <;> intro g167
 refine pur 4 rfl ?_
 refine Zn 171 rfl ?_ ?_ <;> intro g171
 refine pur 4 rfl ?_
 refine Zn 175 rfl ?_ ?_ <;> intro g175
 refine pur 4 rfl ?_
 refine Zn 179 rfl ?_ ?_ <;> intro g179
 refine pur 4 rfl ?_
 refine Zn 183 rfl ?_ ?_ <;> intro g183
 refine pur 5 rfl ?_
 refine Zn 188 rfl ?_ ?_ <;> intro g188
 refine pur 1 rfl ?_
 refine spG rfl rfl rfl rfl (PE.lenSl Zw rfl) rfl ?_
 refine pur 1 rfl ?_
 refine spG rfl rfl rfl rfl (PE.lenSl Zw rfl) rfl ?_
 refine pur 3 rfl ?_
 refine Zn 195 rfl ?_ ?_ <;> intro g195
 refine pur 1 rfl ?_
 refine spG rfl rfl rfl rfl (PE.lenSl Zw rfl) rfl ?_
 refine pur 1 rfl ?_
 refine spG rfl rfl rfl rfl (PE.lenSl Zw rfl) rfl ?_
 refine spG rfl rfl rfl rfl (PE.sub rfl rfl (by omega)) rfl ?_
 refine pur 3 rfl ?_
 refine Zn 203 rfl ?_ ?_ <;> intro g203
 refine pur 5 rfl ?_
 refine Zn 208 rfl ?_ ?_ <;> intro g208
 refine Z81 rfl rfl rfl rfl Z9D rfl rfl (Z4O _ _) ?_
 refine pur 2 rfl (Z4 ?_)
 exact rtA rfl rfl rfl ⟨rfl, rfl, rfl⟩ (fun w h9 => (((h9.del b21).del b7).del bq).del bk |>.sub)
 simp only [decide_eq_false_iff_not] at g208; omega
 simp only [decide_eq_false_iff_not] at g203; omega
 simp only [decide_eq_false_iff_not] at g195; omega
 simp only [decide_eq_false_iff_not] at g188; omega
 exact absurd g183 (by simp)
 exact absurd g179 (by simp)
 exact absurd g175 (by simp)
 exact absurd g171 (by simp)
 exact absurd g167 (by simp)
 refine Z1h ?_ ?_
 refine alc rfl Z64 rfl (fun b21 => ?_)
 refine bg (fun w hs => ⟨(lh Z3g rfl rfl) w hs, (lhA (htl h (h.sg ag cg) (h.ss none 0)) Z07 rfl rfl rfl) w hs, trivial⟩) ?_
 rw [hi]
 refine cl rfl Zc9 rfl rfl (Z7k h ag none cg 0 (by omega) (by omega) i (by omega) _ _) ?_
 rintro _ _ R1 ⟨ax, ay, cx, cy, ⟨hcx, hcy⟩, rfl, rfl, hR1⟩
 obtain rfl := hR1.symm
 clear hR1
 rw [hc0E, hcH]
 rw [hcH] at hcx hcy
 refine bgT (Zo 3 rfl ?_)
 refine ZQ (l' := htl ⟨h.bins, h.gaps.eraseIdx i, h.sights⟩ (.slice ax (h.gaps.eraseIdx i).length cx) (.slice ay h.sights.length cy)) rfl rfl rfl Z8E rfl rfl rfl rfl (nl rfl) ?_
 refine bgT (Zo 1 rfl (sqt 9 rfl (spL rfl rfl (lhA (htl ⟨h.bins, h.gaps.eraseIdx i, h.sights⟩ (.slice ax (h.gaps.eraseIdx i).length cx) (.slice ay h.sights.length cy)) Z07 rfl rfl rfl) rfl (pur 2 rfl ?_))))
 refine cl rfl Z7U rfl rfl (Z3h ⟨h.bins, h.gaps.eraseIdx i, h.sights⟩ ax ay cx cy hok2 fr to_ af ak cf ck (by omega) (by omega) hcf hck9 hbot2 _ _) ?_
 rintro _ _ R1 ⟨⟨n9, hn910, hsp9, rfl⟩, rfl, hR1⟩
 obtain rfl := hR1.symm
 clear hR1
 have hse : n9 ≤ n := hsp.erase htw.w htw.s hil hsp9
 refine pur 5 rfl (sqt 9 rfl (spL rfl rfl (lhA (htl ⟨h.bins, h.gaps.eraseIdx i, h.sights⟩ (.slice ax (h.gaps.eraseIdx i).length cx) (.slice ay h.sights.length cy)) Z07 rfl rfl rfl) rfl (pur 2 rfl ?_)))
 refine cl rfl Z8C rfl rfl (Z6q ⟨h.bins, h.gaps.eraseIdx i, h.sights⟩ ax ay cx cy hok2 fr to_ af ak cf ck (by omega) (by omega) hcf hck9 hbot2 _ _) ?_
 rintro _ _ R1 ⟨X2, ac2, cc2, hcut2, hshut2, hcc2, rfl, rfl, hR1⟩
 obtain rfl := hR1.symm
 clear hR1
 have hce := hcut.erase hil hcut2
 dsimp only at hce
 refine pur 5 rfl (sqt 10 rfl (spL rfl rfl (lhA (htl h (h.sg ag cg) (h.ss none 0)) Z07 rfl rfl rfl) rfl (pur 3 rfl ?_)))
 refine cl rfl Z5J rfl rfl (Z43 h ag none cg 0 hok fr to_ af ak cf ck (by omega) (by omega) hcf hck9 hbot n hn10 ⟨n0, hn0⟩ _ _) ?_
 rintro _ _ R1 ⟨⟨q1, hq110, hq1, rfl⟩, rfl, hR1⟩
 obtain rfl := hR1.symm
 clear hR1
 refine pur 5 rfl (sqt 10 rfl (spL rfl rfl (lhA (htl ⟨h.bins, h.gaps.eraseIdx i, h.sights⟩ (.slice ax (h.gaps.eraseIdx i).length cx) (.slice ay h.sights.length cy)) Z07 rfl rfl rfl) rfl (pur 3 rfl ?_)))
 refine cl rfl Z5J rfl rfl (Z43 ⟨h.bins, h.gaps.eraseIdx i, h.sights⟩ ax ay cx cy hok2 fr to_ af ak cf ck (by omega) (by omega) hcf hck9 hbot2 n hn10 (Z2m htw.w htw.s hil ⟨n0, hn0⟩) _ _) ?_
 rintro _ _ R1 ⟨⟨q2, hq210, hq2, rfl⟩, rfl, hR1⟩
 obtain rfl := hR1.symm
 clear hR1
 have hqe := Z24 htw.w htw.s hil hq1 hq2
 refine pur 5 rfl (sqt 47 rfl (pur 3 rfl ?_))
 refine Zn 167 rfl ?_ ?_ <;> intro g167
 refine pur 4 rfl ?_
 refine Zn 171 rfl ?_ ?_ <;> intro g171
 refine pur 4 rfl ?_
 refine Zn 175 rfl ?_ ?_ <;> intro g175
 refine pur 4 rfl ?_
 refine Zn 179 rfl ?_ ?_ <;> intro g179
 refine pur 4 rfl ?_
 refine Zn 183 rfl ?_ ?_ <;> intro g183
 refine pur 5 rfl ?_
 refine Zn 188 rfl ?_ ?_ <;> intro g188
 refine pur 1 rfl ?_
 refine spG rfl rfl rfl rfl (PE.lenSl Zw rfl) rfl ?_
 refine pur 1 rfl ?_
 refine spG rfl rfl rfl rfl (PE.lenSl Zw rfl) rfl ?_
 refine pur 3 rfl ?_
 refine Zn 195 rfl ?_ ?_ <;> intro g195
 refine pur 1 rfl ?_
 refine spG rfl rfl rfl rfl (PE.lenSl Zw rfl) rfl ?_
 refine pur 1 rfl ?_
 refine spG rfl rfl rfl rfl (PE.lenSl Zw rfl) rfl ?_
 refine spG rfl rfl rfl rfl (PE.sub rfl rfl (by omega)) rfl ?_
 refine pur 3 rfl ?_
 refine Zn 203 rfl ?_ ?_ <;> intro g203
 refine pur 5 rfl ?_
 refine Zn 208 rfl ?_ ?_ <;> intro g208
 refine Z81 rfl rfl rfl rfl Z9D rfl rfl (Z4O _ _) ?_
 refine pur 2 rfl (Z4 ?_)
 exact rtA rfl rfl rfl ⟨rfl, rfl, rfl⟩ (fun w h9 => (((h9.del b21).del b7).del bq).del bk |>.sub)
 simp only [decide_eq_false_iff_not] at g208; omega
 simp only [decide_eq_false_iff_not] at g203; omega
 simp only [decide_eq_false_iff_not] at g195; omega
 simp only [decide_eq_false_iff_not] at g188; omega
 exact absurd g183 (by simp)
 exact absurd g179 (by simp)
 exact absurd g175 (by simp)
 exact absurd g171 (by simp)
 exact absurd g167 (by simp)
 exact Z2S
end Go.Proofs.Ythfgcnmcipcbbaa
