/- Walks of the functions of the program, and the laws that join them: what the last theorem of this claim needs, in order. -/
import Derived.Test.YthbjpnmclokinaaGreatog4
namespace Go.Proofs.YthbjpnmclokinaaGreat
set_option linter.unusedSimpArgs false
set_option linter.unusedVariables false
open Go
theorem Zf4 : cal Tryz.prog 21 = true := by kernel_rfl
def ZgV (h : Hse) (fr to_ : List Int) (H : Zc) (R : Z6) : Value → Zc → Z6 → Prop := fun v H' R' => H' = H ∧ R' = R ∧ ((h.botE fr to_ ≠ 0 ∧ v = .tuple #[.int .i64 0, .int .i64 (h.botE fr to_)]) ∨
  (h.botE fr to_ = 0 ∧ ∃ s : Nat, s ≤ 10 ∧ (∃ n, Pl h.gaps (msk to_) s (msk fr) 0 n) ∧ (∀ s', s' < s → ∀ n, ¬ Pl h.gaps (msk to_) s' (msk fr) 0 n) ∧ v = .tuple #[.int .i64 (s : Int), .int .i64 0]))
theorem Zd5 {h : Hse} {fr to_ : List Int} {s : Nat} (hb : h.botE fr to_ = 0) (hs : s ≤ 10) : h.rcE fr to_ (s : Int) = 0 := by
  have : inB (s : Int) 0 10 = true := by simp [inB]; omega
  unfold Hse.rcE; rw [hb, this]; rfl
theorem Z8U {h : Hse} {fr to_ : List Int} (hb : h.Bot fr to_) : Two h.gaps (msk fr) (msk to_) := by
  obtain ⟨q1, q2, q3, q4, q5, q6⟩ := Z1E hb
  have hok := hb.ok
  exact ⟨fun g hg => by have := hok.gaps g hg; have := hok.bins; omega, fun i g hg => by have := hok.gaps g (List.mem_of_getElem? hg); omega, Z0V fun x hx => q1 x hx, Z0V fun x hx => q2 x hx, fun v hv => by
    cases hk : (msk to_).testBit v with
    | false => rfl
    | true => exact absurd ((Zw (fun k hk => (q2 k hk).1) v).1 hk) (hb.no _ ((Zw (fun k hk => (q1 k hk).1) v).1 hv))⟩
theorem ZaI {h : Hse} {fr to_ : List Int} (hb : h.Bot fr to_) : ∃ n, Pl h.gaps (msk to_) 10 (msk fr) 0 n := by
  have ht := Z8U hb
  have hp := Nat.two_pow_pos h.gaps.length
  exact ⟨_, Pl.once ht.w ht.s (show 2 ^ h.gaps.length - 1 < 2 ^ h.gaps.length by omega) (Z7a ht) (Nat.le_trans (Z2l _ _) hb.ok.gl)⟩
set_option maxHeartbeats 400000 in
theorem Zc9 (h : Hse) (ag as_ : Option Addr) (cg cs : Nat) (hlg : h.gaps.length ≤ 9223372036854775807) (hls : h.sights.length ≤ 9223372036854775807) (fr to_ : List Int) (af at_ : Option Addr) (cf ct : Nat) (hlf : fr.length ≤ 1000000) (hlt : to_.length ≤ 1000000) (hfc : fr.length ≤ cf) (htc : to_.length ≤ ct) (H : Zc) (R : Z6) [hG : MemRows ag 2 (Zf h.gaps) R] [hS : MemRows as_ 3 (Ze h.sights) R] [hF : MemRows af 1 (Z4 fr) R] [hT : MemRows at_ 1 (Z4 to_) R] :
    Fn Tryz.prog 24 [h.v (h.sg ag cg) (h.ss as_ cs), .slice af fr.length cf, .slice at_ to_.length ct] H R (ZgV h fr to_ H R) := by
 refine Zi Tryz.func24 rfl Tryz.ntmps24 rfl ?_
 refine sqt 3 rfl (bx rfl rfl rfl (fun b3 => pur 2 rfl (Z0 (sqt 5 rfl (spL rfl rfl (lhA (htl h (h.sg ag cg) (h.ss as_ cs)) Z14 rfl rfl rfl) rfl (pur 2 rfl ?_))))))
 refine clV rfl ZaA rfl rfl (Z7j h ag as_ cg cs hlg hls fr to_ af at_ cf ct (by omega) (by omega) hfc htc _ _) ?_
 refine pur 1 rfl (sqt 2 rfl (pur 2 rfl ?_))
 refine Z1 rfl ?_ ?_ <;> intro hc0
 have hbe : h.botE fr to_ ≠ 0 := of_decide_eq_true hc0
 refine sqt 3 rfl (pur 3 rfl (Z5 ?_))
 exact rtB rfl rfl rfl rfl ⟨rfl, rfl, .inl ⟨hbe, rfl⟩⟩ (fun w h9 => h9.del b3)
 ·
  have hbe : h.botE fr to_ = 0 := Classical.byContradiction fun e => by rw [decide_eq_true e] at hc0; cases hc0
  have hb := Z4d hbe
  obtain ⟨n0, hn0⟩ := ZaI hb
  refine Z2 (sqt 1 rfl (pur 1 rfl (Z3 ?_)))
  refine Zd (ι := {s : Nat // s ≤ 10 ∧ ∀ s', s' < s → ∀ n, ¬ Pl h.gaps (msk to_) s' (msk fr) 0 n}) (fun s => ⟨[(1, .slice af fr.length cf), (2, .slice at_ to_.length ct), (3, .pointer (some ⟨b3, 0, none⟩)), (9, .int .i64 (s.1 : Int))], (b3, cel 25 (htl h (h.sg ag cg) (h.ss as_ cs))) :: H, R⟩) (fun s => 11 - s.1) ⟨0, by omega, fun s' h9 => absurd h9 (Nat.not_lt_zero _)⟩ ?_ (fun s => ?_)
  exact Zk idH
  ·
   obtain ⟨s, hs, hno⟩ := s
   dsimp only at hs hno ⊢
   have hrz := Zd5 hbe hs
   refine Z0 (Z3 (sqt 10 rfl (spL rfl rfl (lhA (htl h (h.sg ag cg) (h.ss as_ cs)) Z14 rfl rfl rfl) rfl (pur 3 rfl ?_))))
   refine cl rfl Zf4 rfl rfl (Zbs h ag as_ cg cs hlg hls fr to_ af at_ cf ct hlf hlt hfc htc (s : Int) _ _) ?_
   rintro _ _ R1 ⟨rfl, hq⟩
   rcases hq with ⟨h9, _⟩ | ⟨_, hnp, rfl, hR1⟩ | ⟨_, ls, pl, a, c, _, _, _, _, _, hls2, rfl, hR1⟩
   · exact absurd hrz h9
   all_goals obtain rfl := hR1.symm
   all_goals clear hR1
   all_goals rw [Int.toNat_natCast] at *
   refine pur 5 rfl (sqt 2 rfl (pur 2 rfl ?_))
   refine Z1 rfl ?_ ?_ <;> intro hc1
   exact absurd hc1 (by decide)
   have hs10 : s ≠ 10 := fun e => hnp n0 (by rw [e]; exact hn0)
   refine Z2 (sqr 3 rfl (pur 1 rfl (sp rfl (PE.add rfl rfl (by omega)) rfl (pur 1 rfl ?_))))
   exact Zb ⟨s + 1, by omega, fun s' h9 => (Nat.lt_succ_iff_lt_or_eq.1 h9).elim (hno s') (fun e => by subst e; exact hnp)⟩ idH
   refine pur 5 rfl (sqt 2 rfl (pur 2 rfl ?_))
   refine Z1 rfl ?_ ?_ <;> intro hc1
   refine sqt 3 rfl (pur 3 rfl (Z5 ?_))
   exact rtB rfl rfl rfl rfl ⟨rfl, rfl, .inr ⟨hbe, s, hs, ⟨_, hls2.1⟩, hno, rfl⟩⟩ (fun w h9 => St.sub (h9.del b3))
   exact absurd hc1 (by decide)
theorem Ze1 : cal Tryz.prog 136 = true := by kernel_rfl
theorem ik3 : ZfA Tryz.prog 3 = some .i64 := by kernel_rfl
section steps
variable {P : Program} {r : Option Nat} {ops : Array Oper} {n : Nat} {L : Zn} {D : List Deferred} {H : Zc} {R : Z6} {K : Act → World → Prop}
  {i d : Nat} {ty : TypeId} {pos : String} {af : Array Edge}
theorem ZgN {t tn e sz by_ k : Nat} {kq kn : IntKind} {s x : Operand} {zl : List Value} (ho : ops[i]? = some ⟨some d, .call { callee := .builtin .append, args := #[s, x], argTypes := #[t, tn] }, ty, pos, af, none⟩)
    (ht : apT P t = some (e, sz, by_)) (htn : ZfA P tn = some kn) (hz : ZO P e = some zl) (hs : ev L s = some (.slice none 0 0)) (hx : ev L x = some (.int kq k))
    (hk : 0 < k) (hs0 : 0 < sz) (hb : k * by_ ≤ 140737488355328 ∧ k ≤ 9223372036854775807) (hd : Nat.blt d n = true)
    (h : ∀ (b' cap' : Nat) (junk : List Value), k ≤ cap' → cap' ≤ 9223372036854775807 → k * sz + junk.length = cap' * sz → Sy n ((d, .slice (some ⟨b', 0, none⟩) k cap') :: L) D ((b', cel e (Z0A k zl ++ junk)) :: H) R K) : Sy n L D H R (stp P r ops i K) := fun a w ha hD hw => by
  unfold apT at ht
  split at ht
  case h_2 => cases ht
  rename_i e' hu
  split at ht
  case h_2 => cases ht
  rename_i ie hi
  split at ht
  case h_2 => cases ht
  rename_i z hzz
  cases hzs : Nat.beq z.cells.size ie.size with
  | false => rw [hzs] at ht; cases ht
  | true =>
  rw [hzs, cond_true] at ht
  cases ht
  have hzs := Nat.eq_of_beq_eq_true hzs
  have hzl : z.cells.toList = zl := by
    have : ZO P e = some z.cells.toList := by simp [ZO, hi, hzz]
    rw [this] at hz; exact Option.some.inj hz
  have hun : P.underlying tn = some (.int kn) := by
    unfold ZfA at htn
    split at htn
    · rename_i q hq; cases htn; exact hq
    · cases htn
  have hold : (Builtin.firstCells ie.size 0 (.slice none 0 0)).run P w.drew = .ok ([] : List Value).toArray w.drew := by
    simp [Builtin.firstCells, Sem.run_pure]
  have h2 := Lib.run_append_grow_zeros (P := P) w t tn ty e ie z kq kn hu hun hi hzz none 0 0 [] hold k hk hs0 (by omega) (by omega) (by omega) (growslice_fits (by omega) (by rw [Nat.zero_add]; exact hb.1))
  rw [Nat.zero_add] at h2
  have hge := grownCap_ge w k 0 e
  have hcm : grownCap w k 0 e ≤ maxLen := grownCap_le_maxLen w _ 0 e (by simp only [maxLen]; omega)
  have hrep : ∀ q, (Builtin.zeroCells z.cells q).toList = Z0A q zl := fun q => by rw [← hzl]; simp [Builtin.zeroCells, Z0A]
  have e1 : (.cells (([] : List Value).toArray ++ Builtin.zeroCells z.cells k ++ Builtin.zeroCells z.cells (grownCap w k 0 e - k)) e : Obj) = cel e (Z0A k zl ++ (Builtin.zeroCells z.cells (grownCap w k 0 e - k)).toList) := by
    unfold cel; congr 1; apply Array.toList_inj.1; simp [hrep]
  refine Zu ho (Zj _ rfl _) (v := .slice (some ⟨w.heap.size, 0, none⟩) k (grownCap w k 0 e)) (w' := w.drew.alloc (cel e (Z0A k zl ++ (Builtin.zeroCells z.cells (grownCap w k 0 e - k)).toList))) ?_
    (h w.heap.size (grownCap w k 0 e) (Builtin.zeroCells z.cells (grownCap w k 0 e - k)).toList hge (by simp only [maxLen] at hcm; omega) ?_ _ _ (ha.put (by simpa using hd) _) hD (hw.drew.alloc _))
  · simp only [execOp, resolve, invoke, builtin, Sem.run_bind, Sem.run_pure, Result.andThen, List.map_toArray, List.map_cons, List.map_nil, ha.reads _ _ hs, ha.reads _ _ hx]
    rw [e1] at h2
    rw [h2]
  · simp only [Array.length_toList, size_zeroCells, hzs, ← Nat.add_mul]
    congr 1; omega
end steps
theorem Z5B {k : Nat} {v : Value} : (Z0A k [v]).length = k := by simp [Z0A]
def Z9B (pl : List PL) (k : Nat) : List Int := (lls (pl.take k)).flatten
theorem Z5i {pl : List PL} {k : Nat} {x : PL} (h : pl[k]? = some x) : Z9B pl (k + 1) = Z9B pl k ++ x.l := by
  unfold Z9B lls
  rw [List.take_add_one, h, Option.toList_some, List.map_append, List.flatten_append]; simp
theorem Z4C (pl : List PL) : ∀ k, (Z9B pl k).length ≤ (lls pl).flatten.length := fun k => by
  unfold Z9B lls
  have h : pl.map (·.l) = (pl.take k).map (·.l) ++ (pl.drop k).map (·.l) := by rw [← List.map_append, List.take_append_drop]
  rw [h, List.flatten_append, List.length_append]; omega
theorem Zcd (k : Nat) (hk : k ≤ 1000000) (H : Zc) (R : Z6) :
    Fn Tryz.prog 136 [.slice none 0 0, .int .i64 (k : Int)] H R (fun v H' R' => ∃ o : OSl 3 1 [], v = o.fs ∧ H' = o.G ++ H ∧ R' = R) := by
 refine Zi Tryz.func136 rfl Tryz.ntmps136 rfl ?_
 refine sqt 1 rfl (pur 1 rfl (Z0 (sqt 2 rfl (pur 2 rfl ?_))))
 refine Z1 rfl ?_ ?_ <;> intro hc0
 simp only [decide_eq_true_eq] at hc0
 omega
 refine Z2 (Z0 (sqt 8 rfl (pur 2 rfl (sp rfl (PE.capSl Zx rfl) rfl (pur 1 rfl (sp rfl (PE.lenSl Zx rfl) rfl (sp rfl (PE.sub rfl rfl (by omega)) rfl (sp rfl (PE.sub rfl rfl (by omega)) rfl ?_))))))))
 rw [show (k : Int) - (((0 : Nat) : Int) - ((0 : Nat) : Int)) = (k : Int) by omega]
 refine pur 1 rfl (sqt 2 rfl (pur 2 rfl ?_))
 refine Z1 rfl ?_ ?_ <;> intro hc1
 try simp only [cS] at hc1
 refine sqr 10 rfl (pur 2 rfl (sp rfl (PE.capSl Zx rfl) rfl (sp rfl (PE.slHi (h := 0) Z0j rfl rfl (by omega)) rfl (pur 1 rfl ?_))))
 refine ZgN rfl Z2j ik3 zl3 rfl rfl (by omega) (by omega) (by omega) rfl (fun b2 cap2 jk2 hc1 hc2 hc3 => ?_)
 refine pur 1 rfl (sp rfl (PE.lenSl Zx rfl) rfl (sp rfl (PE.slHi (h := 0) Z0j rfl rfl (by omega)) rfl (pur 1 rfl (sqt 2 rfl (pur 2 rfl (Z5 ?_))))))
 exact rtA rfl rfl rfl ⟨⟨.slice (some ⟨b2, 0, none⟩) 0 cap2, [(b2, cel 3 (Z0A k [.int .i64 0] ++ jk2))], by simp, .inr ⟨b2, cap2, Z0A k [.int .i64 0] ++ jk2, rfl, rfl, by rw [List.length_append, Z5B]; simp only [List.length_nil]; omega, Nat.zero_le _, hc2⟩⟩, rfl, rfl, rfl⟩ idH
 refine Z2 (sqt 2 rfl (pur 2 rfl (Z5 ?_)))
 exact rtA rfl rfl rfl ⟨OSl.nil _ _, rfl, rfl, rfl⟩ idH
set_option maxHeartbeats 400000 in
theorem Z38 (pl : List PL) (ap : Option Addr) (cp : Nat) (hpl : pl.length ≤ 1000000) (htl : (lls pl).flatten.length ≤ 1000000) (H : Zc) (R : Z6) [hP : MemRows ap 1 (ZP pl) R] [hI : MemF (Inn pl) R] :
    Fn Tryz.prog 68 [.slice ap pl.length cp] H R (fun v H' R' => ∃ o : OSl 3 1 (Z4 (lls pl).flatten), v = o.fs ∧ H' = o.G ++ H ∧ R' = R) := by
 refine Zi Tryz.func68 rfl Tryz.ntmps68 rfl ?_
 refine sqt 1 rfl (pur 1 rfl (sqt 1 rfl (pur 1 rfl (Z0 (sqt 3 rfl (pur 1 rfl (sp rfl (PE.lenSl Z9D rfl) rfl (pur 1 rfl (Z3 ?_)))))))))
 refine Zd (ι := {k : Nat // k ≤ pl.length}) (fun k => ⟨[(0, .slice ap pl.length cp), (3, .int .i64 ((Z9B pl k.1).length : Nat)), (9, .slice ap pl.length cp), (10, .int .i64 pl.length), (11, .int .i64 k.1)], H, R⟩) (fun k => pl.length - k.1) ⟨0, Nat.zero_le _⟩ ?_ (fun k => ?_)
 exact Zk idH
 obtain ⟨k, hk⟩ := k
 dsimp only at hk ⊢
 have hcl := Z4C pl k
 have hcl2 := Z4C pl (k + 1)
 refine sqt 1 rfl (pur 1 rfl (Z0 ?_))
 refine Z1 rfl ?_ ?_ <;> intro hc0 <;> try simp only [cS] at hc0
 obtain ⟨x, hx⟩ : ∃ x, pl[k]? = some x := ⟨_, List.getElem?_eq_getElem (by omega)⟩
 have hst := congrArg List.length (Z5i hx)
 rw [List.length_append] at hst
 refine Zg (a := ap) (sz := 1) (rows := ZP pl) (ne0 (by rw [Z13]; omega)) (fun ba oa he => ?_)
 subst he
 refine Z2 (Z0 (Z3 (sqt 3 rfl (sp rfl (PE.indexAddr Zfr rfl rfl (by omega) (by omega)) rfl (spL rfl rfl (lf0 Z35 (ZbQ hx) rfl) rfl (pur 1 rfl (sqt 5 rfl (pur 2 rfl (sp rfl (PE.lenSl Zx rfl) rfl (sp rfl (PE.add rfl rfl (by omega)) rfl ?_))))))))))
 rw [show ((Z9B pl k).length : Int) + (x.l.length : Int) = ((Z9B pl (k + 1)).length : Int) by omega]
 refine pur 1 rfl (sqt 2 rfl (pur 2 rfl ?_))
 refine Z1 rfl ?_ ?_ <;> intro hc1
 simp only [decide_eq_true_eq] at hc1
 omega
 refine Z2 (sqr 2 rfl (sp rfl (PE.add rfl rfl (by omega)) rfl (pur 1 rfl ?_)))
 exact Zb ⟨k + 1, by omega⟩ idH
 obtain rfl : k = pl.length := by omega
 refine Z8 (Za (Za (Zm (sqt 3 rfl (pur 1 rfl ?_)))))
 refine cl rfl Ze1 rfl rfl (Zcd (Z9B pl pl.length).length (by omega) _ _) ?_
 rintro _ _ R1 ⟨o0, rfl, rfl, hR1⟩
 obtain rfl := hR1.symm
 clear hR1
 refine pur 1 rfl (Z0 (sqt 3 rfl (pur 1 rfl (sp rfl (PE.lenSl Z9D rfl) rfl (pur 1 rfl (Z3 ?_))))))
 refine Zd (ι := (k : {k : Nat // k ≤ pl.length}) × OSl 3 1 (Z4 (Z9B pl k.1))) (fun y => ⟨[(6, y.2.fs), (25, .slice ap pl.length cp), (26, .int .i64 pl.length), (27, .int .i64 y.1.1)], y.2.G ++ H, R⟩) (fun y => pl.length - y.1.1) ⟨⟨0, Nat.zero_le _⟩, o0⟩ ?_ (fun y => ?_)
 exact Zk idH
 obtain ⟨⟨k, hk⟩, o⟩ := y
 dsimp only at hk o ⊢
 have hcl := Z4C pl k
 have hcl2 := Z4C pl (k + 1)
 refine sqt 1 rfl (pur 1 rfl (Z0 ?_))
 refine Z1 rfl ?_ ?_ <;> intro hc2 <;> try simp only [cS] at hc2
 obtain ⟨x, hx⟩ : ∃ x, pl[k]? = some x := ⟨_, List.getElem?_eq_getElem (by omega)⟩
 have hst := Z5i hx
 have hsl := congrArg List.length hst
 rw [List.length_append] at hsl
 refine Zg (a := ap) (sz := 1) (rows := ZP pl) (ne0 (by rw [Z13]; omega)) (fun ba oa he => ?_)
 subst he
 refine Sy.heap (fun w h => St.inn (x := x) h (List.mem_of_getElem? hx)) ?_
 refine Z2 (Z0 (Z3 (sqt 3 rfl (sp rfl (PE.indexAddr Zfr rfl rfl (by omega) (by omega)) rfl (spL rfl rfl (lf0 Z35 (ZbQ hx) rfl) rfl (pur 1 rfl (sqr 4 rfl (pur 2 rfl ?_))))))))
 refine apO (news := Z4 x.l) o rfl Z2j rfl rfl (Z7F) (irl _) (by simp [Z00, Z4, Value.oneCell']) (by rw [irl, irl]; omega) rfl (fun o33 => ?_)
 refine pur 1 rfl (sqr 2 rfl (sp rfl (PE.add rfl rfl (by omega)) rfl (pur 1 rfl ?_)))
 exact Zb ⟨⟨k + 1, by omega⟩, o33.cast (by rw [hst]; simp [Z4])⟩ (fun w h => h.ftail)
 obtain rfl : k = pl.length := by omega
 refine Z8 (Za (Za (Zm (sqt 2 rfl (pur 2 rfl (Z5 ?_))))))
 exact rtA rfl rfl rfl ⟨o.cast (by unfold Z9B; rw [List.take_length]), rfl, rfl, rfl⟩ idH
theorem Zaz : cal Tryz.prog 68 = true := by kernel_rfl
def ZgZ (h : Hse) (fr to_ : List Int) (spd : Int) (H : Zc) (R : Z6) : Value → Zc → Z6 → Prop := fun v H' R' => H' = H ∧ R' = R ∧ ((h.rcE fr to_ spd ≠ 0 ∧ v = .tuple #[.int .i64 0, .int .i64 (h.rcE fr to_ spd)]) ∨
  (h.rcE fr to_ spd = 0 ∧ (∀ n, ¬ Pl h.gaps (msk to_) spd.toNat (msk fr) 0 n) ∧ v = .tuple #[.int .i64 0, .int .i64 6]) ∨
  (h.rcE fr to_ spd = 0 ∧ ∃ n : Nat, n ≤ 10 ∧ Lst (Pl h.gaps (msk to_) spd.toNat (msk fr) 0) n ∧ v = .tuple #[.int .i64 (n : Int), .int .i64 0]))
theorem Z6S {gs : List Gp} (hg : gs.length ≤ 10) : ∀ {ls : List Nat}, (∀ l ∈ ls, l < 2 ^ gs.length) → ((ls.map Zp).flatten).length = Z9Z gs ls
  | [], _ => rfl
  | l :: ls, h => by
    rw [List.map_cons, List.flatten_cons, List.length_append, Z6S hg (fun x hx => h x (List.mem_cons_of_mem _ hx)), Z4D (h l (by simp)) hg]; rfl
theorem St.norows9 {sz : Nat} {H : Zc} {R : Z6} {w : World} (h : St H R w) : St H (Inn [] :: RowsA none sz (ZP []) :: R) w := St.inn0 (St.norows (sz := sz) h)
set_option maxHeartbeats 400000 in
theorem Zb6 (h : Hse) (ag as_ : Option Addr) (cg cs : Nat) (hlg : h.gaps.length ≤ 9223372036854775807) (hls : h.sights.length ≤ 9223372036854775807) (fr to_ : List Int) (af at_ : Option Addr) (cf ct : Nat) (hlf : fr.length ≤ 1000000) (hlt : to_.length ≤ 1000000) (hfc : fr.length ≤ cf) (htc : to_.length ≤ ct) (spd : Int) (H : Zc) (R : Z6) [hG : MemRows ag 2 (Zf h.gaps) R] [hS : MemRows as_ 3 (Ze h.sights) R] [hF : MemRows af 1 (Z4 fr) R] [hT : MemRows at_ 1 (Z4 to_) R] :
    Fn Tryz.prog 22 [h.v (h.sg ag cg) (h.ss as_ cs), .slice af fr.length cf, .slice at_ to_.length ct, .int .i64 spd] H R (ZgZ h fr to_ spd H R) := by
 refine Zi Tryz.func22 rfl Tryz.ntmps22 rfl ?_
 refine sqt 3 rfl (bx rfl rfl rfl (fun b4 => pur 2 rfl (sqt 10 rfl (spL rfl rfl (lhA (htl h (h.sg ag cg) (h.ss as_ cs)) Z14 rfl rfl rfl) rfl (pur 3 rfl ?_)))))
 refine cl rfl Zf4 rfl rfl (Zbs h ag as_ cg cs hlg hls fr to_ af at_ cf ct hlf hlt hfc htc spd _ _) ?_
 rintro _ _ R1 ⟨rfl, hq⟩
 rcases hq with ⟨h9, rfl, hR1⟩ | ⟨h9, hnp, rfl, hR1⟩ | ⟨h9, ls, pl, a, c, hll, hpk, hpc, hlb, hrun, hlst, rfl, hR1⟩
 all_goals obtain rfl := hR1.symm
 all_goals clear hR1
 refine pur 5 rfl (sqt 6 rfl ?_)
 refine Sy.heap (fun w h => St.norows9 (sz := 1) h) ?_
 refine pur 1 rfl ?_
 refine cl rfl Zaz rfl rfl (Z38 [] none 0 (by decide) (by decide) _ _) ?_
 rintro _ _ R1 ⟨o, rfl, rfl, hR1⟩
 obtain rfl := hR1.symm
 clear hR1
 obtain ⟨ao, co, heo, hfz⟩ := o.freeze
 rw [heo, irl]
 refine Sy.heap (fun w h => hfz h) ?_
 clear hfz heo
 refine sp rfl (PE.lenSl Zx rfl) rfl (pur 3 rfl (Z5 ?_))
 exact rtB rfl rfl rfl rfl ⟨rfl, rfl, .inl ⟨h9, rfl⟩⟩ (fun w h9 => St.sub (h9.del b4))
 refine pur 5 rfl (sqt 6 rfl ?_)
 refine Sy.heap (fun w h => St.norows9 (sz := 1) h) ?_
 refine pur 1 rfl ?_
 refine cl rfl Zaz rfl rfl (Z38 [] none 0 (by decide) (by decide) _ _) ?_
 rintro _ _ R1 ⟨o, rfl, rfl, hR1⟩
 obtain rfl := hR1.symm
 clear hR1
 obtain ⟨ao, co, heo, hfz⟩ := o.freeze
 rw [heo, irl]
 refine Sy.heap (fun w h => hfz h) ?_
 clear hfz heo
 refine sp rfl (PE.lenSl Zx rfl) rfl (pur 3 rfl (Z5 ?_))
 exact rtB rfl rfl rfl rfl ⟨rfl, rfl, .inr (.inl ⟨h9, hnp, rfl⟩)⟩ (fun w h9 => St.sub (h9.del b4))
 refine pur 5 rfl (sqt 6 rfl ?_)
 have hgl := (Zf5 h9).1.ok.gl
 have hlen : (lls pl).flatten.length = Z9Z h.gaps ls := by rw [hll]; exact Z6S hgl hlb
 have hs10 := hlst.1.few
 have hpl : pl.length = ls.length := by have := congrArg List.length hll; rw [Z6j, List.length_map] at this; exact this
 refine pur 1 rfl ?_
 refine cl rfl Zaz rfl rfl (Z38 pl a c (by omega) (by omega) _ _) ?_
 rintro _ _ R1 ⟨o, rfl, rfl, hR1⟩
 obtain rfl := hR1.symm
 clear hR1
 obtain ⟨ao, co, heo, hfz⟩ := o.freeze
 rw [heo, irl, hlen]
 refine Sy.heap (fun w h => hfz h) ?_
 clear hfz heo
 refine sp rfl (PE.lenSl Zx rfl) rfl (pur 3 rfl (Z5 ?_))
 exact rtB rfl rfl rfl rfl ⟨rfl, rfl, .inr (.inr ⟨h9, Z9Z h.gaps ls, by omega, hlst, rfl⟩)⟩ (fun w h9 => St.sub (h9.del b4))
theorem ZdM : cal Tryz.prog 148 = true := by kernel_rfl
theorem ZdJ : cal Tryz.prog 149 = true := by kernel_rfl
theorem ZdE : cal Tryz.prog 173 = true := by kernel_rfl
theorem Zgx : cal Tryz.prog 84 = true := by kernel_rfl
theorem ZfY : cal Tryz.prog 95 = true := by kernel_rfl
theorem Zgg : cal Tryz.prog 96 = true := by kernel_rfl
theorem ZfZ : cal Tryz.prog 97 = true := by kernel_rfl
def Hse.ledE (h : Hse) (fr to_ : List Int) (ls : List (List Int)) : Int := bif decide (h.botE fr to_ ≠ 0) then h.botE fr to_ else bif decide (ZS h.gaps.length ls.flatten ≠ 0) then ZS h.gaps.length ls.flatten else bif !(ls.all fun l => Z9Y h.gaps 0 fr to_ l) then 8 else 0
def Hse.ledR (h : Hse) (fr to_ : List Int) (ls : List (List Int)) : Int := bif decide (h.ledE fr to_ ls = 0) then ls.length else 0
theorem Z9H (pl : List PL) (p : List Int → Bool) : (pl.all fun x => p x.l) = (lls pl).all p := by unfold lls; rw [List.all_map]; rfl
theorem Z61 {h : Hse} {fr to_ : List Int} {ls : List (List Int)} {e : Int} (he : h.ledE fr to_ ls = e) (h0 : e ≠ 0) : h.ledR fr to_ ls = 0 := by unfold Hse.ledR; rw [he, decide_eq_false h0]; rfl
theorem Z9s (xs : List PL) (a : Option Addr) (c g : Nat) (fst cap : List Value) (p : PL → Bool) (hg : cal Tryz.prog g = true) (hl : xs.length ≤ 9223372036854775807) (H : Zc) (R : Z6) [hR : MemRows a 1 (ZP xs) R] (hp : ∀ x, x ∈ xs → FnV Tryz.prog g (fst ++ [.slice x.a x.l.length x.c] ++ cap) H R (.bool (p x))) :
    FnV Tryz.prog 173 [.slice a xs.length c, .func (.func g) fst.toArray cap.toArray] H R (.int .i64 (match xs.findIdx? p with | some k => (k : Int) | none => -1)) := by
 refine Zi Tryz.func173 rfl Tryz.ntmps173 rfl ?_
 refine sqt 1 rfl (pur 1 rfl (Z0 (sqt 3 rfl (pur 1 rfl (sp rfl (PE.lenSl Z9D rfl) rfl (pur 1 rfl (Z3 ?_)))))))
 refine Zd (ι := {k : Nat // k ≤ xs.length ∧ ∀ x ∈ xs.take k, p x = false}) (fun k => ⟨[(0, .slice a xs.length c), (1, .func (.func g) fst.toArray cap.toArray), (7, .int .i64 xs.length), (8, .int .i64 k.1)], H, R⟩) (fun k => xs.length - k.1) ⟨0, by simp⟩ ?_ (fun k => ?_)
 exact Zk idH
 obtain ⟨k, hk, hn⟩ := k
 dsimp only
 refine sqt 1 rfl (pur 1 rfl (Z0 ?_))
 refine Z1 rfl ?_ ?_ <;> intro hc0
 simp only [cS] at hc0
 obtain ⟨x, hx⟩ : ∃ x, xs[k]? = some x := ⟨_, List.getElem?_eq_getElem (by omega)⟩
 have hxm := List.mem_of_getElem? hx
 refine Zg (a := a) (sz := 1) (rows := ZP xs) (by cases xs <;> simp_all [ZP]) (fun b off he => ?_)
 subst he
 refine Z2 (Z0 (Z3 (sqt 2 rfl (pur 2 rfl (sqt 6 rfl (pur 3 rfl (sp rfl (PE.indexAddr Zfr rfl rfl (by omega) (by omega)) rfl (spL rfl rfl (lf0 Z35 (by simp [ZP, hx]; rfl) rfl) rfl ?_))))))))
 refine Z7s rfl rfl (hg) rfl rfl (hp x hxm) ?_
 refine Z1 rfl ?_ ?_ <;> intro hc1
 refine sqt 2 rfl (pur 2 rfl (Z5 ?_))
 first | (exact rtA rfl rfl rfl ⟨by rw [Z0c hx hn hc1]; rfl, rfl, rfl⟩ idH) | (exact rtA rfl rfl rfl ⟨by rw [ZV (by simpa using hn)]; rfl, rfl, rfl⟩ idH)
 refine Z2 (sqr 2 rfl (sp rfl (PE.add rfl rfl (by omega)) rfl (pur 1 rfl ?_)))
 exact Zb ⟨k + 1, by omega, Z1z hx hn hc1⟩ idH
 simp only [cS] at hc0
 obtain rfl : k = xs.length := by omega
 refine Z8 (Za (Za (Zm (sqt 1 rfl (pur 1 rfl (Z5 ?_))))))
 first | (exact rtA rfl rfl rfl ⟨by rw [Z0c hx hn hc1]; rfl, rfl, rfl⟩ idH) | (exact rtA rfl rfl rfl ⟨by rw [ZV (by simpa using hn)]; rfl, rfl, rfl⟩ idH)
theorem Z8F (xs : List PL) (a : Option Addr) (c g : Nat) (fst cap : List Value) (p : PL → Bool) (hg : cal Tryz.prog g = true) (hl : xs.length ≤ 9223372036854775807) (H : Zc) (R : Z6) [hR : MemRows a 1 (ZP xs) R] (hp : ∀ x, x ∈ xs → FnV Tryz.prog g (fst ++ [.slice x.a x.l.length x.c] ++ cap) H R (.bool (p x))) :
    FnV Tryz.prog 148 [.slice a xs.length c, .func (.func g) fst.toArray cap.toArray] H R (.bool (xs.any p)) := by
 refine Zi Tryz.func148 rfl Tryz.ntmps148 rfl ?_
 refine sqt 1 rfl (pur 1 rfl (sqt 5 rfl (pur 2 rfl ?_)))
 refine clV rfl ZdE rfl rfl (Z9s xs a c g fst cap p hg hl _ _ hp) ?_
 refine pur 2 rfl (Z5 ?_)
 exact rtA rfl rfl rfl ⟨by simp only [ZE]; exact Z3s _ _, rfl, rfl⟩ drp
theorem Z9m (x : PL) (g bf : Nat) (fst cap : List Value) (p : Bool) (hg : cal Tryz.prog g = true) (H : Zc) (R : Z6) [hM : Mem1 bf (cel 145 [.func (.func g) fst.toArray cap.toArray]) H] (hp : FnV Tryz.prog g (fst ++ [.slice x.a x.l.length x.c] ++ cap) H R (.bool p)) :
    FnV Tryz.prog 149 [.slice x.a x.l.length x.c, .pointer (some ⟨bf, 0, none⟩)] H R (.bool !p) := by
 refine Zi Tryz.func149 rfl Tryz.ntmps149 rfl ?_
 refine sqt 1 rfl (pur 1 rfl (sqt 5 rfl (spL rfl rfl (lh ZeC rfl rfl) rfl (pur 1 rfl ?_))))
 refine Z7s rfl rfl (hg) rfl rfl (hp) ?_
 refine pur 2 rfl (Z5 ?_)
 exact rtA rfl rfl rfl ⟨rfl, rfl, rfl⟩ drp
theorem Z5M (xs : List PL) (a : Option Addr) (c g : Nat) (fst cap : List Value) (p : PL → Bool) (hg : cal Tryz.prog g = true) (hl : xs.length ≤ 9223372036854775807) (H : Zc) (R : Z6) [hR : MemRows a 1 (ZP xs) R] (hp : ∀ b x, x ∈ xs → FnV Tryz.prog g (fst ++ [.slice x.a x.l.length x.c] ++ cap) ((b, cel 145 [.func (.func g) fst.toArray cap.toArray]) :: H) R (.bool (p x))) :
    FnV Tryz.prog 95 [.slice a xs.length c, .func (.func g) fst.toArray cap.toArray] H R (.bool (xs.all p)) := by
 refine Zi Tryz.func95 rfl Tryz.ntmps95 rfl ?_
 refine sqt 2 rfl (bx rfl rfl rfl (fun b3 => pur 1 rfl (sqt 5 rfl (pur 1 rfl (sp rfl (PE.makeFunc rfl rfl) rfl ?_)))))
 refine clV rfl ZdM rfl rfl (Z8F xs a c 149 [] [_] (fun x => !p x) ZdJ hl _ _ (hp := fun x hx => Z9m x g _ fst cap (p x) hg _ _ (hp := hp _ x hx))) ?_
 refine pur 2 rfl (Z5 ?_)
 exact rtA rfl rfl rfl ⟨by simp only [ZE]; rw [Z1p], rfl, rfl⟩ drp
theorem Zar (h : Hse) (ag as_ : Option Addr) (cg cs : Nat) (hok : h.ok) (fr to_ : List Int) (af at_ : Option Addr) (cf ct b4 b5 b6 : Nat) (hfr : ∀ x ∈ fr, 0 ≤ x ∧ x < 7) (hfl : fr.length ≤ 1000) (hnt : to_.length ≤ 1000000) (x : PL) (pl : List PL) (hxm : x ∈ pl) (hp : ∀ k ∈ x.l, 0 ≤ k) (hpl : x.l.length ≤ 1000000) (H : Zc) (R : Z6) [hG : MemRows ag 2 (Zf h.gaps) R] [hS : MemRows as_ 3 (Ze h.sights) R] [hF : MemRows af 1 (Z4 fr) R] [hT : MemRows at_ 1 (Z4 to_) R] [m4 : Mem1 b4 (cel 25 (htl h (h.sg ag cg) (h.ss as_ cs))) H] [m5 : Mem1 b5 (cel 26 [.slice af fr.length cf]) H] [m6 : Mem1 b6 (cel 26 [.slice at_ to_.length ct]) H] [hI : MemF (Inn pl) R] :
    FnV Tryz.prog 96 [.slice x.a x.l.length x.c, .pointer (some ⟨b4, 0, none⟩), .pointer (some ⟨b5, 0, none⟩), .pointer (some ⟨b6, 0, none⟩)] H R (.bool (Z9Y h.gaps 0 fr to_ x.l)) := by
 refine Zi Tryz.func96 rfl Tryz.ntmps96 rfl ?_
 refine sqt 1 rfl ?_
 refine Sy.heap (fun w h => St.inn (x := x) h hxm) ?_
 refine pur 1 rfl (Z0 ?_)
 refine Zl [0, 1, 0, 0, 0, 31, 63] (.ld 0 (.ld 2 (.ld 3 (.tk 4 (.big 1 (.big 5 (.tk 6 .done))))))) Zz (by kernel_rfl) ?_
 refine ld rfl rfl (lhA (htl h (h.sg ag cg) (h.ss as_ cs)) Z14 rfl rfl rfl) rfl (ld rfl rfl (lh Z35 rfl rfl) rfl (ld rfl rfl (lh Z35 rfl rfl) rfl (Zr 1 rfl ?_)))
 refine cl rfl Z7p rfl rfl (Z7P h ag as_ cg cs _ _) ?_
 rintro _ _ _ ⟨bd, rfl, rfl, rfl⟩
 refine bg (fun w hs => ⟨(lh Z35 rfl rfl) w hs, (lh Z35 rfl rfl) w hs, trivial, trivial⟩) ?_
 refine clV rfl ZfZ rfl rfl (ZbZ (dkA h ag as_ cg cs bd) (Z0f h ag as_ cg cs hok bd) fr to_ x.l af at_ x.a cf ct x.c hfr hfl hnt hp hpl _ _) ?_
 refine bgT (Zr 1 rfl (Z5 ?_))
 exact rtA rfl rfl rfl ⟨rfl, rfl, rfl⟩ (fun w h9 => h9.ftail.ftail)
set_option maxHeartbeats 400000 in
theorem ZcQ (h : Hse) (ag as_ : Option Addr) (cg cs : Nat) (hlg : h.gaps.length ≤ 9223372036854775807) (hls : h.sights.length ≤ 9223372036854775807) (fr to_ : List Int) (af at_ : Option Addr) (cf ct : Nat) (hlf : fr.length ≤ 1000000) (hlt : to_.length ≤ 1000000) (hfc : fr.length ≤ cf) (htc : to_.length ≤ ct) (pl : List PL) (ap : Option Addr) (cp : Nat) (hpl : pl.length ≤ 1000000) (htot : (lls pl).flatten.length ≤ 1000000) (H : Zc) (R : Z6) [hG : MemRows ag 2 (Zf h.gaps) R] [hS : MemRows as_ 3 (Ze h.sights) R] [hF : MemRows af 1 (Z4 fr) R] [hT : MemRows at_ 1 (Z4 to_) R] [hP : MemRows ap 1 (ZP pl) R] [hI : MemF (Inn pl) R] :
    FnV Tryz.prog 36 [h.v (h.sg ag cg) (h.ss as_ cs), .slice af fr.length cf, .slice at_ to_.length ct, .slice ap pl.length cp] H R (.tuple #[.int .i64 (h.ledR fr to_ (lls pl)), .int .i64 (h.ledE fr to_ (lls pl))]) := by
 refine Zi Tryz.func36 rfl Tryz.ntmps36 rfl ?_
 refine sqt 5 rfl (bx rfl rfl rfl (fun b4 => bx rfl rfl rfl (fun b5 => bx rfl rfl rfl (fun b6 => pur 2 rfl (Z0 (sqt 5 rfl (spL rfl rfl (lhA (htl h (h.sg ag cg) (h.ss as_ cs)) Z14 rfl rfl rfl) rfl (spL rfl rfl (lh Z35 rfl rfl) rfl (spL rfl rfl (lh Z35 rfl rfl) rfl ?_)))))))))
 refine clV rfl ZaA rfl rfl (Z7j h ag as_ cg cs hlg hls fr to_ af at_ cf ct (by omega) (by omega) hfc htc _ _) ?_
 refine pur 1 rfl (sqt 2 rfl (pur 2 rfl ?_))
 refine Z1 rfl ?_ ?_ <;> intro hc0
 have hbe : h.botE fr to_ ≠ 0 := of_decide_eq_true hc0
 have e : h.ledE fr to_ (lls pl) = h.botE fr to_ := by unfold Hse.ledE; rw [dT hbe]; rfl
 refine sqt 3 rfl (pur 3 rfl (Z5 ?_))
 exact rtB rfl rfl rfl rfl ⟨by rw [Z61 e (by assumption), e] <;> rfl, rfl, rfl⟩ drp
 have hbe : h.botE fr to_ = 0 := Classical.byContradiction fun e => by rw [decide_eq_true e] at hc0; cases hc0
 have hb := Z4d hbe
 obtain ⟨q1, q2, q3, q4, q5, q6⟩ := Z1E hb
 have hok := hb.ok
 refine Z2 (Z0 (Z0 ?_))
 refine Zl [0, 1, 0, 4, 15, 31] (.tk 0 (.ld 2 (.tk 3 (.big 1 (.big 4 (.tk 5 .done)))))) Zz (by kernel_rfl) ?_
 refine Zr 1 rfl (ld rfl rfl (lhA (htl h (h.sg ag cg) (h.ss as_ cs)) Z14 rfl rfl rfl) rfl (tk rfl (PE.makeFunc rfl rfl) rfl ?_))
 refine cl rfl Zaz rfl rfl (Z38 pl ap cp hpl htot _ _) ?_
 rintro _ _ R1 ⟨o, rfl, rfl, hR1⟩
 obtain rfl := hR1.symm
 clear hR1
 obtain ⟨ac, cc, heo, hcc, hfz⟩ := o.freezeC
 rw [irl] at hcc
 rw [heo, irl]
 refine Sy.heap (fun w h => hfz h) ?_
 clear hfz heo
 refine bg (fun w hs => ⟨(lhA (htl h (h.sg ag cg) (h.ss as_ cs)) Z14 rfl rfl rfl) w hs, trivial⟩) ?_
 refine clV rfl ZcJ rfl rfl (Z4x (lls pl).flatten ac cc 84 [h.v (h.sg ag cg) (h.ss as_ cs)] [] (fun k => inB k 0 ((h.gaps.length : Int) - 1)) Zgx (by omega) hcc _ _ (fun _ z _ => Zgf h (by have := hok.gl; omega) ag cg (h.ss as_ cs) z _ _)) ?_
 refine bgT (Zr 1 rfl (sqt 2 rfl (pur 2 rfl ?_)))
 refine Z1 rfl ?_ ?_ <;> intro hc1
 have hle : ZS h.gaps.length (lls pl).flatten ≠ 0 := of_decide_eq_true hc1
 have e : h.ledE fr to_ (lls pl) = ZS h.gaps.length (lls pl).flatten := by unfold Hse.ledE; rw [hbe, dT hle]; rfl
 refine sqt 3 rfl (pur 3 rfl (Z5 ?_))
 exact rtB rfl rfl rfl rfl ⟨by rw [Z61 e (by assumption), e] <;> rfl, rfl, rfl⟩ (fun w h9 => St.sub (((h9.del b6).del b5).del b4))
 have hle : ZS h.gaps.length (lls pl).flatten = 0 := Classical.byContradiction fun e => by rw [show decide (ZbT (fun k => inB k 0 ((h.gaps.length : Int) - 1)) (lls pl).flatten ≠ 0) = true from decide_eq_true e] at hc1; cases hc1
 have hlx := (Z0Y hle).1
 have hin : ∀ x ∈ pl, (∀ k ∈ x.l, 0 ≤ k) ∧ x.l.length ≤ 1000000 := fun x hx => by
   have hm : x.l ∈ lls pl := List.mem_map.2 ⟨x, hx, rfl⟩
   refine ⟨fun k hk => (hlx k (List.mem_flatten.2 ⟨_, hm, hk⟩)).1, ?_⟩
   have := List.Sublist.length_le (List.sublist_flatten_of_mem hm)
   omega
 refine Z2 (Z0 (sqt 4 rfl (pur 1 rfl (sp rfl (PE.makeFunc rfl rfl) rfl ?_))))
 refine clV rfl ZfY rfl rfl (Z5M pl ap cp 96 [] [_, _, _] (fun x => Z9Y h.gaps 0 fr to_ x.l) Zgg (by omega) _ _ (fun _ x hx => Zar h ag as_ cg cs hok fr to_ af at_ cf ct b4 b5 b6 q1 (by omega) hlt x pl hx (hin x hx).1 (hin x hx).2 _ _)) ?_
 refine pur 1 rfl ?_
 refine Z1 rfl ?_ ?_ <;> intro hc2
 have hc9 : (!(pl.all fun x => Z9Y h.gaps 0 fr to_ x.l)) = true := hc2
 rw [Z9H pl (fun l => Z9Y h.gaps 0 fr to_ l)] at hc9
 have h8 : (8 : Int) ≠ 0 := by decide
 have e : h.ledE fr to_ (lls pl) = 8 := by unfold Hse.ledE; rw [hbe, hle, hc9]; rfl
 refine sqt 2 rfl (pur 2 rfl (Z5 ?_))
 exact rtB rfl rfl rfl rfl ⟨by rw [Z61 e (by assumption), e] <;> rfl, rfl, rfl⟩ (fun w h9 => St.sub (((h9.del b6).del b5).del b4))
 have hc9 : (!(pl.all fun x => Z9Y h.gaps 0 fr to_ x.l)) = false := hc2
 rw [Z9H pl (fun l => Z9Y h.gaps 0 fr to_ l)] at hc9
 have e : h.ledE fr to_ (lls pl) = 0 := by unfold Hse.ledE; rw [hbe, hle, hc9]; rfl
 have er : h.ledR fr to_ (lls pl) = pl.length := by unfold Hse.ledR; rw [e, Z6j]; rfl
 refine Z2 (sqt 4 rfl (pur 1 rfl (sp rfl (PE.lenSl Z9D rfl) rfl (pur 2 rfl (Z5 ?_)))))
 exact rtB rfl rfl rfl rfl ⟨by rw [er, e] <;> rfl, rfl, rfl⟩ (fun w h9 => St.sub (((h9.del b6).del b5).del b4))
theorem Zga : Z0s Tryz.prog 25 = some 3 := by kernel_rfl
theorem ZgL : Z1v Tryz.prog 25 = some [(0, 1), (1, 1), (2, 1)] := by kernel_rfl
theorem Zgi : Z1v Tryz.prog 67 = some [(0, 1), (1, 1), (2, 1)] := by kernel_rfl
theorem ZgW : slE Tryz.prog 22 = some (97, 2) := by kernel_rfl
theorem Zfj : ZO Tryz.prog 25 = some ([.int .i64 0, .slice none 0 0, .slice none 0 0]) := by kernel_rfl
def Z7W : List Gp := [⟨0, 1⟩, ⟨0, 2⟩, ⟨1, 3⟩, ⟨2, 3⟩, ⟨3, 4⟩, ⟨4, 5⟩, ⟨1, 2⟩]
def sixS : List Sgt := [⟨2, 3, true⟩, ⟨1, 1, false⟩, ⟨2, 4, false⟩]
abbrev six (k : Nat) : Hse := ⟨6, Z7W, sixS.take k⟩
theorem Z7Q (l : List Sgt) (k : Nat) : (Ze l).take k = Ze (l.take k) := (List.map_take).symm
theorem Zd6 {k : Nat} (hk : k ≤ 3) : (six k).sights.length = k := by
  show (sixS.take k).length = k
  rw [List.length_take]; show min k 3 = k; omega
set_option maxHeartbeats 400000 in
theorem Z5r (k : Nat) (hk : k ≤ 3) (H : Zc) (R : Z6) :
    Fn Tryz.prog 69 [.int .i64 (k : Int)] H R (fun v H' R' => ∃ (ag as_ : Option Addr) (cg cs : Nat), v = (six k).v ((six k).sg ag cg) ((six k).ss as_ cs) ∧ k ≤ cs ∧ H' = H ∧ R' = RowsA ag 2 (Zf (six k).gaps) :: RowsA as_ 3 (Ze (six k).sights) :: R) := by
 refine Zi Tryz.func69 rfl Tryz.ntmps69 rfl ?_
 refine sqt 1 rfl (alc rfl Zfj rfl (fun b2 => sqt 5 rfl (sp rfl (PE.build (out := [_, _, _]) Zgi Zb7 rfl rfl) rfl (sp rfl (PE.build (out := [_, _, _]) Zgi Zb7 rfl rfl) rfl (sp rfl (PE.build (out := [_, _, _]) Zgi Zb7 rfl rfl) rfl ?_)))))
 refine bsl (out := [_, _, _, _, _, _, _, _, _]) rfl Zfu Zb7 rfl rfl rfl rfl rfl rfl (fun b7 => ?_)
 refine pur 1 rfl (sqt 17 rfl (sp rfl (PE.build (out := [_, _]) ZbO Z5J rfl rfl) rfl (sp rfl (PE.build (out := [_, _]) ZbO Z5J rfl rfl) rfl (sp rfl (PE.build (out := [_, _]) ZbO Z5J rfl rfl) rfl (sp rfl (PE.build (out := [_, _]) ZbO Z5J rfl rfl) rfl (sp rfl (PE.build (out := [_, _]) ZbO Z5J rfl rfl) rfl (sp rfl (PE.build (out := [_, _]) ZbO Z5J rfl rfl) rfl (sp rfl (PE.build (out := [_, _]) ZbO Z5J rfl rfl) rfl ?_))))))))
 refine bsl (out := [_, _, _, _, _, _, _, _, _, _, _, _, _, _]) rfl ZgW Z5J rfl rfl rfl rfl rfl rfl (fun b15 => ?_)
 refine pur 3 rfl (sp rfl (PE.lenSl Z31 rfl) rfl (sp rfl (PE.min rfl rfl) rfl (sp rfl (PE.max rfl rfl) rfl ?_)))
 rw [show max (0 : Int) (min (k : Int) ((3 : Nat) : Int)) = (k : Int) by omega]
 refine sp rfl (PE.slHi (h := k) Zfu rfl rfl (by omega)) rfl (sp rfl (PE.build (out := [_, _, _]) ZgL Zfj rfl rfl) rfl ?_)
 refine ZN (l' := [.int .i64 6, .slice (some ⟨b15, 0, none⟩) 7 7, .slice (some ⟨b7, 0, none⟩) k 3]) rfl rfl rfl Zga rfl rfl rfl rfl (nl rfl) ?_
 refine Z5 ?_
 refine Sy.heap (fun w h9 => St.rows (sz := 3) (rows := Ze sixS) (rest := []) (h9.pull b7) (by simp [Ze, sixS, Z0w])) ?_
 refine Sy.heap (fun w h9 => St.rows (sz := 2) (rows := Zf Z7W) (rest := []) (h9.pull b15) (by simp [Zf, Z7W, grow])) ?_
 refine Sy.heap (fun w h9 => (show St _ (RowsA (some ⟨b7, 0, none⟩) 3 (Ze (sixS.take k)) :: _) w from Z7Q sixS k ▸ St.rowsTake (a := some ⟨b7, 0, none⟩) (sz := 3) (rows := Ze sixS) h9 k)) ?_
 exact Zs (vs := [_]) rfl (.cons (RV.cell rfl (lhA [_, _, _] Z14 rfl rfl rfl)) .nil) rfl ⟨some ⟨b15, 0, none⟩, some ⟨b7, 0, none⟩, 7, 3, by unfold Hse.v Hse.sg Hse.ss htl; rw [Zd6 hk]; rfl, hk, rfl, rfl⟩ (fun w h9 => St.sub (h9.del b2))
theorem Zge : cal Tryz.prog 89 = true := by kernel_rfl
theorem Z4U : Wth Z7W 7 := by
  intro g hg
  simp only [Z7W, List.mem_cons, List.not_mem_nil, or_false] at hg
  rcases hg with rfl | rfl | rfl | rfl | rfl | rfl | rfl <;> decide
theorem six_w : ((six 0).weeksR [0]).1 = [0, 1, 1, 2, 3, 4] ∧ ((six 0).weeksR [0]).2 = 0 := ⟨by kernel_rfl, by kernel_rfl⟩
theorem six_o : ((six 2).orgR).1 = [4] ∧ ((six 2).orgR).2 = 0 := ⟨by kernel_rfl, by kernel_rfl⟩
theorem six_s : ((six 2).surR 1).1 = [4, 5] ∧ ((six 2).surR 1).2 = 0 := ⟨by kernel_rfl, by kernel_rfl⟩
theorem six_c : ((six 3).claR).1 = [0, 1, 2] ∧ ((six 3).claR).2 = 0 := ⟨by kernel_rfl, by kernel_rfl⟩
theorem six_l : (six 0).ledR [0] [3] [[0, 2], [1, 3]] = 2 ∧ (six 0).ledE [0] [3] [[0, 2], [1, 3]] = 0 := ⟨by kernel_rfl, by kernel_rfl⟩
theorem six_b : (six 0).botE [0] [5] = 0 ∧ (six 0).botE [0] [3] = 0 ∧ (six 0).rcE [0] [1] 1 = 0 := ⟨by kernel_rfl, by kernel_rfl, by kernel_rfl⟩
theorem Zfo : plD Z7W 2 1 8 1 0 3 = true := by kernel_rfl
theorem Zei : plD Z7W 2 1 8 1 0 2 = false := by kernel_rfl
theorem ZeV : plD Z7W 8 0 8 1 0 10 = false := by kernel_rfl
theorem ZeH : plD Z7W 8 1 8 1 0 10 = true := by kernel_rfl
theorem ZdD : plD Z7W 32 10 8 1 0 1 = true := by kernel_rfl
theorem Zf2 : plD Z7W 32 10 8 1 0 0 = false := by kernel_rfl
theorem six_few : Lst (Pl (six 0).gaps (msk [1]) (1 : Int).toNat (msk [0]) 0) 3 := Z9n Z4U (by decide) Zfo Zei
theorem ZcA : Lst (Pl (six 0).gaps (msk [5]) 10 (msk [0]) 0) 1 := Z9n Z4U (by decide) ZdD Zf2
theorem Zcf {s : Nat} (h1 : ∃ n, Pl (six 0).gaps (msk [3]) s (msk [0]) 0 n) (h2 : ∀ s', s' < s → ∀ n, ¬ Pl (six 0).gaps (msk [3]) s' (msk [0]) 0 n) : s = 1 := by
  rcases Nat.lt_trichotomy s 1 with h3 | h3 | h3
  · obtain rfl : s = 0 := by omega
    obtain ⟨n, hn⟩ := h1
    have hf := hn.few
    have h4 := Z6b (n := 10) (f := 8) Z4U (by decide) (by omega) hn (by have : (six 0).gaps.length = 7 := rfl; omega)
    have h5 : plD Z7W 8 0 8 1 0 10 = true := h4
    rw [ZeV] at h5
    cases h5
  · exact h3
  · obtain ⟨k, _, hk⟩ := Z4p ZeH
    exact absurd hk (h2 1 h3 k)
theorem Z7D {f : Nat → Int} {V : List (Nat × Int)} (hf : Flw f (msk [0]) (msk [5]) (six 0).gaps) (hs : Shn (six 0).gaps (fun _ => true) f (msk [0]) (msk [5]) V) : (Z1Q (Z1O V) (six 0).gaps).length = 1 := by
  have hc := (hs.cut (Z8U (Z4d six_b.1)) hf).1
  have hl : (Z1Q (Z1O V) (six 0).gaps).length ≤ 7 := by
    unfold Z1Q
    rw [List.length_map]
    exact Nat.le_trans (List.length_filter_le _ _) (by decide)
  exact (Cut.plan (sp := 10) Z4U (by decide) hc (by omega)).unique ZcA
theorem ZaN (xs ys : List Int) (a a2 : Option Addr) (c c2 : Nat) (hl : xs.length ≤ 9223372036854775807) (hl2 : ys.length ≤ 9223372036854775807) (H : Zc) (R : Z6) [hR : MemRows a 1 (Z4 xs) R] [hR2 : MemRows a2 1 (Z4 ys) R] :
    FnV Tryz.prog 89 [.slice a xs.length c, .slice a2 ys.length c2] H R (.bool (decide (xs = ys))) := by
 refine Zi Tryz.func89 rfl Tryz.ntmps89 rfl ?_
 refine sqt 1 rfl (pur 1 rfl (Z0 (sqt 5 rfl (pur 1 rfl (sp rfl (PE.lenSl Zx rfl) rfl (pur 1 rfl (sp rfl (PE.lenSl Zx rfl) rfl (pur 1 rfl ?_))))))))
 refine Z1 rfl ?_ ?_ <;> intro hc0
 have hne : xs ≠ ys := fun e => by subst e; simp at hc0
 refine sqt 1 rfl (pur 1 rfl (Z5 ?_))
 exact rtA rfl rfl rfl ⟨by first | (simp only [ZE]; rw [dT heq]; done) | (simp only [ZE]; rw [dF hne]), rfl, rfl⟩ idH
 have hle : xs.length = ys.length := by simp only [cS] at hc0; omega
 refine Z2 (Z0 (sqt 3 rfl (pur 1 rfl (sp rfl (PE.lenSl Zx rfl) rfl (pur 1 rfl (Z3 ?_))))))
 refine Zd (ι := {k : Nat // k ≤ xs.length ∧ xs.take k = ys.take k}) (fun k => ⟨[(0, .slice a xs.length c), (1, .slice a2 ys.length c2), (12, .int .i64 xs.length), (13, .int .i64 k.1)], H, R⟩) (fun k => xs.length - k.1) ⟨0, by simp⟩ ?_ (fun k => ?_)
 exact Zk idH
 obtain ⟨k, hk, hn⟩ := k
 dsimp only
 refine sqt 1 rfl (pur 1 rfl (Z0 ?_))
 refine Z1 rfl ?_ ?_ <;> intro hc1
 simp only [cS] at hc1
 obtain ⟨x, hx⟩ : ∃ x, xs[k]? = some x := ⟨_, List.getElem?_eq_getElem (by omega)⟩
 obtain ⟨z, hz⟩ : ∃ z, ys[k]? = some z := ⟨_, List.getElem?_eq_getElem (by omega)⟩
 refine Zg (a := a) (sz := 1) (rows := Z4 xs) (by intro h0; simp [Z4] at h0; simp [h0] at hx) (fun b off he => ?_)
 subst he
 refine Zg (a := a2) (sz := 1) (rows := Z4 ys) (by intro h0; simp [Z4] at h0; simp [h0] at hz) (fun b2 off2 he => ?_)
 subst he
 refine Z2 (Z0 (Z3 (sqt 2 rfl (pur 2 rfl (Z0 ?_)))))
 refine Zl [0, 0, 3, 7, 0, 0, 48, 112, 255] (tks 0 3 (.ld 3 (tks 4 3 (.ld 7 (.tk 8 .done))))) Zz (by kernel_rfl) ?_
 refine Zr 2 rfl (tk rfl (PE.indexAddr Z0a rfl rfl (by omega) (by omega)) rfl (ld rfl rfl (lf0 sc3 (by simp [Z4, hx]; rfl) rfl) rfl (Zr 2 rfl (tk rfl (PE.indexAddr Z0a rfl rfl (by omega) (by omega)) rfl (ld rfl rfl (lf0 sc3 (by simp [Z4, hz]; rfl) rfl) rfl (Zr 1 rfl ?_))))))
 refine Z1 rfl ?_ ?_ <;> intro hc2
 have hne : xs ≠ ys := fun e => by subst e; rw [hx] at hz; cases hz; simp at hc2
 refine sqt 1 rfl (pur 1 rfl (Z5 ?_))
 exact rtA rfl rfl rfl ⟨by first | (simp only [ZE]; rw [dT heq]; done) | (simp only [ZE]; rw [dF hne]), rfl, rfl⟩ idH
 have hxz : x = z := by simpa using hc2
 refine Z2 (sqr 2 rfl (sp rfl (PE.add rfl rfl (by omega)) rfl (pur 1 rfl ?_)))
 exact Zb ⟨k + 1, by omega, by rw [List.take_add_one, List.take_add_one, hn, hx, hz, hxz]⟩ idH
 simp only [cS] at hc1
 obtain rfl : k = xs.length := by omega
 have heq : xs = ys := by
   rw [List.take_length] at hn
   exact hn.trans (by rw [hle]; exact List.take_length)
 refine Z8 (Za (Za (Zm (sqt 1 rfl (pur 1 rfl (Z5 ?_))))))
 exact rtA rfl rfl rfl ⟨by first | (simp only [ZE]; rw [dT heq]; done) | (simp only [ZE]; rw [dF hne]), rfl, rfl⟩ idH
theorem Z0p (xs ys : List Int) (a a2 : Option Addr) (c c2 : Nat) (hl : xs.length ≤ 9223372036854775807) (hl2 : ys.length ≤ 9223372036854775807) (H : Zc) (R : Z6) [hR : MemRows a 1 (Z4 xs) R] [hR2 : MemRows a2 1 (Z4 ys) R] :
    FnV Tryz.prog 26 [.slice a xs.length c, .slice a2 ys.length c2] H R (.bool (decide (xs = ys))) := by
 refine Zi Tryz.func26 rfl Tryz.ntmps26 rfl ?_
 refine sqt 1 rfl (pur 1 rfl (sqt 4 rfl (pur 2 rfl ?_)))
 refine clV rfl Zge rfl rfl (ZaN xs ys a a2 c c2 hl hl2 _ _) ?_
 refine pur 1 rfl (Z5 ?_)
 exact rtA rfl rfl rfl ⟨rfl, rfl, rfl⟩ drp
theorem Zg1 : cal Tryz.prog 22 = true := by kernel_rfl
theorem ZfW : cal Tryz.prog 24 = true := by kernel_rfl
theorem Z4q : cal Tryz.prog 26 = true := by kernel_rfl
theorem Zg8 : cal Tryz.prog 33 = true := by kernel_rfl
theorem ZfG : cal Tryz.prog 36 = true := by kernel_rfl
theorem Zgh : cal Tryz.prog 41 = true := by kernel_rfl
theorem Zez : cal Tryz.prog 49 = true := by kernel_rfl
theorem ZeD : cal Tryz.prog 51 = true := by kernel_rfl
theorem Zfd : cal Tryz.prog 53 = true := by kernel_rfl
theorem Z5C : cal Tryz.prog 69 = true := by kernel_rfl
set_option maxHeartbeats 1000000 in
theorem Z8B (H : Zc) (R : Z6) :
    FnV Tryz.prog 11 [] H R (.bool true) := by
 refine Zi Tryz.func11 rfl Tryz.ntmps11 rfl ?_
 refine sqt 1 rfl (pur 1 rfl (sqt 8 rfl ?_))
 refine cl rfl Z5C rfl rfl (Z5r 0 (by decide) _ _) ?_
 rintro _ _ R1 ⟨ag18, as18, cg18, cs18, rfl, _, rfl, hR1⟩
 obtain rfl := hR1.symm
 clear hR1
 refine bsl (out := [_]) rfl Z0j zl3 rfl rfl rfl rfl rfl rfl (fun b19 => ?_)
 refine Sy.heap (fun w h9 => St.rows (sz := 1) (rows := Z4 [0]) (rest := []) (h9.pull b19) (by simp)) ?_
 refine cl rfl Zgh rfl rfl (Zcu (six 0) ag18 as18 cg18 cs18 (by decide) (by decide) [0] (some ⟨b19, 0, none⟩) 1 (by decide) (by decide) _ _) ?_
 rintro _ _ R1 ⟨a1, c1, _, rfl, rfl, hR1⟩
 obtain rfl := hR1.symm
 clear hR1
 rw [six_w.1, six_w.2]
 refine pur 5 rfl (sqt 7 rfl ?_)
 refine cl rfl Z5C rfl rfl (Z5r 2 (by decide) _ _) ?_
 rintro _ _ R1 ⟨ag24, as24, cg24, cs24, rfl, _, rfl, hR1⟩
 obtain rfl := hR1.symm
 clear hR1
 refine cl rfl Zez rfl rfl (Z5q (six 2) ag24 as24 cg24 cs24 (by decide) (by decide) _ _) ?_
 rintro _ _ R1 ⟨a2, c2, _, rfl, rfl, hR1⟩
 obtain rfl := hR1.symm
 clear hR1
 rw [six_o.1, six_o.2]
 refine pur 5 rfl (sqt 7 rfl ?_)
 refine cl rfl Z5C rfl rfl (Z5r 2 (by decide) _ _) ?_
 rintro _ _ R1 ⟨ag29, as29, cg29, cs29, rfl, _, rfl, hR1⟩
 obtain rfl := hR1.symm
 clear hR1
 refine cl rfl ZeD rfl rfl (Z7h (six 2) ag29 as29 cg29 cs29 (by decide) (by decide) 1 _ _) ?_
 rintro _ _ R1 ⟨a3, c3, _, rfl, rfl, hR1⟩
 obtain rfl := hR1.symm
 clear hR1
 rw [six_s.1, six_s.2]
 refine pur 5 rfl (sqt 7 rfl ?_)
 refine cl rfl Z5C rfl rfl (Z5r 3 (by decide) _ _) ?_
 rintro _ _ R1 ⟨ag34, as34, cg34, cs34, rfl, _, rfl, hR1⟩
 obtain rfl := hR1.symm
 clear hR1
 refine cl rfl Zfd rfl rfl (Z9u (six 3) ag34 as34 cg34 cs34 (by decide) (by decide) _ _) ?_
 rintro _ _ R1 ⟨a4, c4, _, rfl, rfl, hR1⟩
 obtain rfl := hR1.symm
 clear hR1
 rw [six_c.1, six_c.2]
 refine pur 5 rfl (sqt 9 rfl ?_)
 refine cl rfl Z5C rfl rfl (Z5r 0 (by decide) _ _) ?_
 rintro _ _ R1 ⟨ag39, as39, cg39, cs39, rfl, _, rfl, hR1⟩
 obtain rfl := hR1.symm
 clear hR1
 refine bsl (out := [_]) rfl Z0j zl3 rfl rfl rfl rfl rfl rfl (fun b40 => ?_)
 refine bsl (out := [_]) rfl Z0j zl3 rfl rfl rfl rfl rfl rfl (fun b41 => ?_)
 refine Sy.heap (fun w h9 => St.rows (sz := 1) (rows := Z4 [0]) (rest := []) (h9.pull b40) (by simp)) ?_
 refine Sy.heap (fun w h9 => St.rows (sz := 1) (rows := Z4 [1]) (rest := []) (h9.pull b41) (by simp)) ?_
 refine cl rfl Zg1 rfl rfl (Zb6 (six 0) ag39 as39 cg39 cs39 (by decide) (by decide) [0] [1] (some ⟨b40, 0, none⟩) (some ⟨b41, 0, none⟩) 1 1 (by decide) (by decide) (by decide) (by decide) 1 _ _) ?_
 rintro _ _ R1 ⟨rfl, hR1, hq⟩
 obtain rfl := hR1.symm
 clear hR1
 rcases hq with ⟨h9, _⟩ | ⟨_, hn, _⟩ | ⟨_, n, _, hn, rfl⟩
 · exact absurd six_b.2.2 h9
 · exact absurd six_few.1 (hn 3)
 obtain rfl := hn.unique six_few
 refine pur 5 rfl (sqt 12 rfl ?_)
 refine cl rfl Z5C rfl rfl (Z5r 0 (by decide) _ _) ?_
 rintro _ _ R1 ⟨ag46, as46, cg46, cs46, rfl, _, rfl, hR1⟩
 obtain rfl := hR1.symm
 clear hR1
 refine bsl (out := [_]) rfl Z0j zl3 rfl rfl rfl rfl rfl rfl (fun b47 => ?_)
 refine bsl (out := [_]) rfl Z0j zl3 rfl rfl rfl rfl rfl rfl (fun b48 => ?_)
 refine bsl (out := [_, _]) rfl Z0j zl3 rfl rfl rfl rfl rfl rfl (fun b49 => ?_)
 refine bsl (out := [_, _]) rfl Z0j zl3 rfl rfl rfl rfl rfl rfl (fun b50 => ?_)
 refine bsl (out := [_, _]) rfl Zfy Zae rfl rfl rfl rfl rfl rfl (fun b51 => ?_)
 refine Sy.heap (fun w h9 => St.rows (sz := 1) (rows := Z4 [0]) (rest := []) (h9.pull b47) (by simp)) ?_
 refine Sy.heap (fun w h9 => St.rows (sz := 1) (rows := Z4 [3]) (rest := []) (h9.pull b48) (by simp)) ?_
 refine Sy.heap (fun w h9 => St.rows (sz := 1) (rows := Z4 [0, 2]) (rest := []) (h9.pull b49) (by simp)) ?_
 refine Sy.heap (fun w h9 => St.rows (sz := 1) (rows := Z4 [1, 3]) (rest := []) (h9.pull b50) (by simp)) ?_
 refine Sy.heap (fun w h9 => St.rows (sz := 1) (rows := ZP [⟨some ⟨b49, 0, none⟩, 2, [0, 2]⟩, ⟨some ⟨b50, 0, none⟩, 2, [1, 3]⟩]) (rest := []) (h9.pull b51) (by simp [ZP, Z7w])) ?_
 refine Sy.heap (fun w h9 => St.inn0 h9) ?_
 refine Sy.heap (fun w h9 => (show St _ (Inn [⟨some ⟨b49, 0, none⟩, 2, [0, 2]⟩] :: _) w from St.innSnoc (l := []) ⟨some ⟨b49, 0, none⟩, 2, [0, 2]⟩ h9)) ?_
 refine Sy.heap (fun w h9 => (show St _ (Inn [⟨some ⟨b49, 0, none⟩, 2, [0, 2]⟩, ⟨some ⟨b50, 0, none⟩, 2, [1, 3]⟩] :: _) w from St.innSnoc (l := [⟨some ⟨b49, 0, none⟩, 2, [0, 2]⟩]) ⟨some ⟨b50, 0, none⟩, 2, [1, 3]⟩ h9)) ?_
 refine cl rfl ZfG rfl rfl (ZcQ (six 0) ag46 as46 cg46 cs46 (by decide) (by decide) [0] [3] (some ⟨b47, 0, none⟩) (some ⟨b48, 0, none⟩) 1 1 (by decide) (by decide) (by decide) (by decide) [⟨some ⟨b49, 0, none⟩, 2, [0, 2]⟩, ⟨some ⟨b50, 0, none⟩, 2, [1, 3]⟩] (some ⟨b51, 0, none⟩) 2 (by show 2 ≤ 1000000; decide) (by show 4 ≤ 1000000; decide) _ _) ?_
 rintro _ _ _ ⟨rfl, rfl, rfl⟩
 rw [show lls [⟨some ⟨b49, 0, none⟩, 2, [0, 2]⟩, ⟨some ⟨b50, 0, none⟩, 2, [1, 3]⟩] = [[0, 2], [1, 3]] from rfl, six_l.1, six_l.2]
 refine pur 5 rfl (sqt 9 rfl ?_)
 refine cl rfl Z5C rfl rfl (Z5r 0 (by decide) _ _) ?_
 rintro _ _ R1 ⟨ag56, as56, cg56, cs56, rfl, _, rfl, hR1⟩
 obtain rfl := hR1.symm
 clear hR1
 refine bsl (out := [_]) rfl Z0j zl3 rfl rfl rfl rfl rfl rfl (fun b57 => ?_)
 refine bsl (out := [_]) rfl Z0j zl3 rfl rfl rfl rfl rfl rfl (fun b58 => ?_)
 refine Sy.heap (fun w h9 => St.rows (sz := 1) (rows := Z4 [0]) (rest := []) (h9.pull b57) (by simp)) ?_
 refine Sy.heap (fun w h9 => St.rows (sz := 1) (rows := Z4 [5]) (rest := []) (h9.pull b58) (by simp)) ?_
 refine cl rfl Zg8 rfl rfl (ZfQ (six 0) ag56 as56 cg56 cs56 (by decide) (by decide) [0] [5] (some ⟨b57, 0, none⟩) (some ⟨b58, 0, none⟩) 1 1 (by decide) (by decide) (by decide) (by decide) _ _) ?_
 rintro _ _ R1 ⟨rfl, hq⟩
 rcases hq with ⟨h9, _⟩ | ⟨_, f, V, a5, c5, hf, hs, _, rfl, hR1⟩
 · exact absurd six_b.1 h9
 obtain rfl := hR1.symm
 clear hR1
 rw [Z7D hf hs]
 refine pur 5 rfl (sqt 9 rfl ?_)
 refine cl rfl Z5C rfl rfl (Z5r 0 (by decide) _ _) ?_
 rintro _ _ R1 ⟨ag63, as63, cg63, cs63, rfl, _, rfl, hR1⟩
 obtain rfl := hR1.symm
 clear hR1
 refine bsl (out := [_]) rfl Z0j zl3 rfl rfl rfl rfl rfl rfl (fun b64 => ?_)
 refine bsl (out := [_]) rfl Z0j zl3 rfl rfl rfl rfl rfl rfl (fun b65 => ?_)
 refine Sy.heap (fun w h9 => St.rows (sz := 1) (rows := Z4 [0]) (rest := []) (h9.pull b64) (by simp)) ?_
 refine Sy.heap (fun w h9 => St.rows (sz := 1) (rows := Z4 [3]) (rest := []) (h9.pull b65) (by simp)) ?_
 refine cl rfl ZfW rfl rfl (Zc9 (six 0) ag63 as63 cg63 cs63 (by decide) (by decide) [0] [3] (some ⟨b64, 0, none⟩) (some ⟨b65, 0, none⟩) 1 1 (by decide) (by decide) (by decide) (by decide) _ _) ?_
 rintro _ _ R1 ⟨rfl, hR1, hq⟩
 obtain rfl := hR1.symm
 clear hR1
 rcases hq with ⟨h9, _⟩ | ⟨_, n, _, hn1, hn2, rfl⟩
 · exact absurd six_b.2.1 h9
 obtain rfl := Zcf hn1 hn2
 refine pur 5 rfl (sqt 68 rfl (pur 3 rfl ?_))
 refine Zo 71 rfl ?_ ?_ <;> intro g71
 refine pur 4 rfl ?_
 refine Zo 75 rfl ?_ ?_ <;> intro g75
 refine pur 4 rfl ?_
 refine Zo 79 rfl ?_ ?_ <;> intro g79
 refine pur 4 rfl ?_
 refine Zo 83 rfl ?_ ?_ <;> intro g83
 refine pur 4 rfl ?_
 refine Zo 87 rfl ?_ ?_ <;> intro g87
 refine pur 4 rfl ?_
 refine Zo 91 rfl ?_ ?_ <;> intro g91
 refine pur 4 rfl ?_
 refine Zo 95 rfl ?_ ?_ <;> intro g95
 refine pur 4 rfl ?_
 refine Zo 99 rfl ?_ ?_ <;> intro g99
 refine pur 1 rfl ?_
 refine Zfx (out := [_, _, _, _, _, _]) rfl rfl rfl rfl Z0j zl3 rfl rfl rfl rfl rfl rfl (fun b101 => ?_)
 refine Sy.heap (fun w h9 => St.rows (sz := 1) (rows := Z4 [0, 1, 1, 2, 3, 4]) (rest := []) (h9.pull b101) (by simp)) ?_
 refine Z2t rfl rfl rfl rfl Z4q rfl rfl (Z0p [0, 1, 1, 2, 3, 4] [0, 1, 1, 2, 3, 4] a1 (some ⟨b101, 0, none⟩) c1 6 (by decide) (by decide) _ _) ?_
 refine pur 2 rfl ?_
 refine Zo 104 rfl ?_ ?_ <;> intro g104
 refine pur 1 rfl ?_
 refine Zfx (out := [_]) rfl rfl rfl rfl Z0j zl3 rfl rfl rfl rfl rfl rfl (fun b106 => ?_)
 refine Sy.heap (fun w h9 => St.rows (sz := 1) (rows := Z4 [4]) (rest := []) (h9.pull b106) (by simp)) ?_
 refine Z2t rfl rfl rfl rfl Z4q rfl rfl (Z0p [4] [4] a2 (some ⟨b106, 0, none⟩) c2 1 (by decide) (by decide) _ _) ?_
 refine pur 2 rfl ?_
 refine Zo 109 rfl ?_ ?_ <;> intro g109
 refine pur 1 rfl ?_
 refine Zfx (out := [_, _]) rfl rfl rfl rfl Z0j zl3 rfl rfl rfl rfl rfl rfl (fun b111 => ?_)
 refine Sy.heap (fun w h9 => St.rows (sz := 1) (rows := Z4 [4, 5]) (rest := []) (h9.pull b111) (by simp)) ?_
 refine Z2t rfl rfl rfl rfl Z4q rfl rfl (Z0p [4, 5] [4, 5] a3 (some ⟨b111, 0, none⟩) c3 2 (by decide) (by decide) _ _) ?_
 refine pur 2 rfl ?_
 refine Zo 114 rfl ?_ ?_ <;> intro g114
 refine pur 1 rfl ?_
 refine Zfx (out := [_, _, _]) rfl rfl rfl rfl Z0j zl3 rfl rfl rfl rfl rfl rfl (fun b116 => ?_)
 refine Sy.heap (fun w h9 => St.rows (sz := 1) (rows := Z4 [0, 1, 2]) (rest := []) (h9.pull b116) (by simp)) ?_
 refine Z2t rfl rfl rfl rfl Z4q rfl rfl (Z0p [0, 1, 2] [0, 1, 2] a4 (some ⟨b116, 0, none⟩) c4 3 (by decide) (by decide) _ _) ?_
 refine pur 2 rfl ?_
 refine Zo 119 rfl ?_ ?_ <;> intro g119
 refine pur 4 rfl ?_
 refine Zo 123 rfl ?_ ?_ <;> intro g123
 refine pur 4 rfl ?_
 refine Zo 127 rfl ?_ ?_ <;> intro g127
 refine pur 1 rfl ?_
 refine spG rfl rfl rfl rfl (PE.lenSl Zx rfl) rfl ?_
 refine pur 3 rfl ?_
 refine Zo 132 rfl ?_ ?_ <;> intro g132
 refine pur 4 rfl (Z5 ?_)
 exact rtA rfl rfl rfl ⟨rfl, rfl, rfl⟩ (fun w h9 => St.sub h9)
 exact absurd g132 (by decide)
 exact absurd g127 (by decide)
 exact absurd g123 (by decide)
 exact absurd g119 (by decide)
 exact absurd g114 (by decide)
 exact absurd g109 (by decide)
 exact absurd g104 (by decide)
 exact absurd g99 (by decide)
 exact absurd g95 (by decide)
 exact absurd g91 (by decide)
 exact absurd g87 (by decide)
 exact absurd g83 (by decide)
 exact absurd g79 (by decide)
 exact absurd g75 (by decide)
 exact absurd g71 (by decide)
theorem ZgD : apT Tryz.prog 22 = some (97, 2, 16) := by kernel_rfl
theorem ZfI : cal Tryz.prog 70 = true := by kernel_rfl
theorem Zgw : cal Tryz.prog 71 = true := by kernel_rfl
theorem Z8V (xs : List Gp) (a : Option Addr) (c : Nat) (hl : xs.length ≤ 1000000) (H : Zc) (R : Z6) [hR : MemRows a 2 (Zf xs) R] :
    Fn Tryz.prog 70 [.slice a xs.length c] H R (fun v H' R' => ∃ o : OSl 97 2 (Zf xs), v = o.fs ∧ o.here ∧ H' = o.G ++ H ∧ R' = R) := by
 refine Zi Tryz.func70 rfl Tryz.ntmps70 rfl ?_
 refine sqt 1 rfl (pur 1 rfl (sqt 6 rfl (pur 1 rfl (sp rfl (PE.lenSl Z2w rfl) rfl ?_))))
 refine mkO rfl ZgD Z5J rfl rfl ⟨by omega, by omega⟩ rfl (fun o ho => ?_)
 refine pur 1 rfl ?_
 refine ZfE (news := Zf xs) o rfl ZgD rfl rfl (Z7F) (by simp [Zf]) (by simp [Z00, Zf, grow, Value.oneCell']) ⟨by simp [Zf]; omega, by simp [Zf]; omega⟩ rfl ho (fun o2 ho2 => ?_)
 refine pur 1 rfl (Z5 ?_)
 exact rtA rfl rfl rfl ⟨o2.cast (by simp), rfl, ho2, rfl, rfl⟩ idH
theorem Z8d (xs : List Sgt) (a : Option Addr) (c : Nat) (hl : xs.length ≤ 1000000) (H : Zc) (R : Z6) [hR : MemRows a 3 (Ze xs) R] :
    Fn Tryz.prog 71 [.slice a xs.length c] H R (fun v H' R' => ∃ o : OSl 67 3 (Ze xs), v = o.fs ∧ o.here ∧ H' = o.G ++ H ∧ R' = R) := by
 refine Zi Tryz.func71 rfl Tryz.ntmps71 rfl ?_
 refine sqt 1 rfl (pur 1 rfl (sqt 6 rfl (pur 1 rfl (sp rfl (PE.lenSl Z31 rfl) rfl ?_))))
 refine mkO rfl ZfF Zb7 rfl rfl ⟨by omega, by omega⟩ rfl (fun o ho => ?_)
 refine pur 1 rfl ?_
 refine ZfE (news := Ze xs) o rfl ZfF rfl rfl (Z7F) (by simp [Ze]) (by simp [Z00, Ze, Z0w, Value.oneCell', Value.oneCell']) ⟨by simp [Ze]; omega, by simp [Ze]; omega⟩ rfl ho (fun o2 ho2 => ?_)
 refine pur 1 rfl (Z5 ?_)
 exact rtA rfl rfl rfl ⟨o2.cast (by simp), rfl, ho2, rfl, rfl⟩ idH
theorem ZfS (h : Hse) (ag as_ : Option Addr) (cg cs : Nat) (hlg : h.gaps.length ≤ 1000000) (hls : h.sights.length ≤ 1000000) (H : Zc) (R : Z6) [hG : MemRows ag 2 (Zf h.gaps) R] [hS : MemRows as_ 3 (Ze h.sights) R] :
    Fn Tryz.prog 12 [h.v (h.sg ag cg) (h.ss as_ cs)] H R (fun v H' R' => ∃ (og : OSl 97 2 (Zf h.gaps)) (os : OSl 67 3 (Ze h.sights)), v = h.v og.fs os.fs ∧ H' = os.G ++ (og.G ++ H) ∧ R' = R) := by
 refine Zi Tryz.func12 rfl Tryz.ntmps12 rfl ?_
 refine sqt 2 rfl (bx rfl rfl rfl (fun b1 => alc rfl Zfj rfl (fun b2 => Z0 ?_)))
 refine Zl [0, 1, 0, 4, 12, 0, 32, 124, 255, 511] (.tk 0 (.ld 1 (.tk 2 (.ld 3 (.tk 5 (.ld 6 (.big 4 (.big 7 (.tk 8 (.big 9 .done)))))))))) Zz (by kernel_rfl) ?_
 refine tk rfl (PE.fA Z1t rfl) rfl (ld rfl rfl (lh sc3 rfl rfl) rfl (tk rfl (PE.fA Z0e rfl) rfl (ld rfl rfl (lh Z58 rfl rfl) rfl (tk rfl (PE.fA Z04 rfl) rfl (ld rfl rfl (lh Z3X rfl rfl) rfl ?_)))))
 refine cl rfl ZfI rfl rfl (Z8V h.gaps ag cg hlg _ _) ?_
 rintro _ _ R1 ⟨og, rfl, hog, rfl, hR1⟩
 obtain rfl := hR1.symm
 clear hR1
 refine bg (fun w hs => ⟨(lh Z3X rfl rfl) w hs, trivial, (lh sc3 rfl rfl) w hs, trivial⟩) ?_
 refine cl rfl Zgw rfl rfl (Z8d h.sights as_ cs hls _ _) ?_
 rintro _ _ R1 ⟨os, rfl, hos, rfl, hR1⟩
 obtain rfl := hR1.symm
 clear hR1
 refine bg (fun w hs => ⟨trivial, (lh sc3 rfl rfl) w hs, trivial⟩) ?_
 refine tk rfl (PE.build (out := htl h og.fs os.fs) ZgL Zfj rfl (by simp only [Z5G, og.cells.1, os.cells.1, List.getElem?_cons_zero, List.getElem?_cons_succ]; rfl)) rfl ?_
 refine ZN (l' := htl h og.fs os.fs) rfl rfl rfl Zga rfl rfl (by show (htl _ og.fs os.fs).all (·.oneCell') = true; simp only [htl, List.all_cons, List.all_nil, og.cells.2, os.cells.2, Bool.and_true]; rfl) rfl (Nat.le_refl _) ?_
 refine bgT (Z5 ?_)
 exact Zs (vs := [_]) rfl (.cons (RV.cell rfl (lhA [_, _, _] Z14 rfl rfl rfl)) .nil) rfl ⟨og, os, rfl, rfl, rfl⟩ (fun w h9 => ((h9.del b2).del b1))
theorem Z7z {p q : Nat → Bool} {k : Nat} (h : ∀ j < k, p j = q j) : Z15 p k = Z15 q k := by
  unfold Z15
  rw [List.filter_congr fun j hj => h j (List.mem_range.1 hj)]
structure MadeW (h : Hse) (nb ng : Int) : Prop where
  bins : 2 ≤ h.bins ∧ h.bins ≤ nb
  gl : (h.gaps.length : Int) ≤ ng
  gaps : ∀ g ∈ h.gaps, (0 ≤ g.a ∧ g.a < h.bins) ∧ (0 ≤ g.b ∧ g.b < h.bins) ∧ g.a ≠ g.b
  none : h.sights = []
theorem MadeW.ok {h : Hse} {nb ng : Int} (hm : MadeW h nb ng) (h1 : nb ≤ 7) (h2 : ng ≤ 10) : h.ok := ⟨by have := hm.bins; omega, by have := hm.gl; omega, by rw [hm.none]; exact Nat.zero_le _, hm.gaps, by rw [hm.none]; simp⟩
def ini (f : Nat → Int) (n k : Nat) : List Int := (List.range n).map fun j => bif decide (j < k) then f j else 0
theorem ZcR (f : Nat → Int) (n k : Nat) : (ini f n k).length = n := by simp [ini]
theorem ZdS {f : Nat → Int} {n k j : Nat} (hj : j < n) : na (ini f n k) j = bif decide (j < k) then f j else 0 := by
  unfold na ini
  rw [List.getD_eq_getElem?_getD, List.getElem?_map, List.getElem?_range hj]; rfl
def in0 (fr : List Int) (j : Nat) : Int := bif ZH fr j then 0 else 100
theorem Z9E {l : List Int} (h : ∀ x ∈ l, 0 ≤ x) (j : Nat) : ZH l (j : Int) = (msk l).testBit j := by rw [Bool.eq_iff_iff, hasI_iff, Zw h]
theorem FolI.start {gs : List Gp} {cl : Nat → Nat} {fr : List Int} (h : ∀ x ∈ fr, 0 ≤ x) (n : Nat) : FolI gs cl (msk fr) n 0 (Z3V gs (cl 0) (lvp gs cl (msk fr) 0) 0) (ini (in0 fr) n n) := ⟨ZcR _ _ _, fun k hk => by
  rw [ZdS hk, decide_eq_true hk, cond_true]
  unfold in0
  rw [Z9E h]
  show _ = bif (msk fr).testBit k then fol gs cl (msk fr) 0 k else bif (msk fr).testBit k then _ else 100
  cases hb : (msk fr).testBit k with
  | false => rfl
  | true =>
    rw [cond_true, cond_true]
    exact (Z8I (t := 0) (Nat.le_refl _) hb (fun i hi => absurd hi (Nat.not_lt_zero _))).symm⟩
theorem FnV.lendO {P : Program} {f : FuncId} {v : Value} {e sz : Nat} {rows : List (List Value)} (o : OSl e sz rows) (mk : Value → List Value) {T : Zc} {R : Z6}
    (h : ∀ (a : Option Addr) (c : Nat) (B : World → Prop), FnV P f (mk (.slice a rows.length c)) T (RowsA a sz rows :: B :: R) v) : FnV P f (mk o.fs) (o.G ++ T) R v := fun w hw => by
  obtain ⟨fs, G, hl, his⟩ := o
  rcases his with ⟨rfl, rfl, rfl⟩ | ⟨b, cap, junk, rfl, rfl, h1, h2, h3⟩
  · have h3 : St T (RowsA none sz [] :: (fun _ => True) :: R) w := St.also (St.also hw (f := fun _ => True) (fun _ _ => trivial)) (fun w' _ i row hi => by simp at hi)
    refine CallsIn.mono (h none 0 _ w h3) ?_
    rintro e' w' ⟨u, H', R', ⟨rfl, rfl, rfl⟩, he, hs'⟩
    exact ⟨_, _, R, ⟨rfl, rfl, rfl⟩, he, hs'.ftail.ftail⟩
  · exact FnV.lend (H := (b, cel e (rows.flatten ++ junk)) :: T) (b := b) (e := e) (sz := sz) (rows := rows) (junk := junk) hl (fun B => h _ cap B) w hw
theorem Tru.nil (h : Hse) (l : List Int) : Tru h l [] := ⟨(fun s hs => by cases hs), rfl⟩
theorem ZeA (a b : List Sgt) : Ze (a ++ b) = Ze a ++ Ze b := List.map_append
def Hse.add (h : Hse) (s : Sgt) : Hse := ⟨h.bins, h.gaps, h.sights ++ [s]⟩
theorem Zam {xs : List Int} {junk : List Value} {k : Nat} (h : k < xs.length) (v : Int) : spl (Zq xs ++ junk) (0 + ((k : Nat) : Int).toNat * 1) [.int .i64 v] = Zq (xs.set k v) ++ junk := by
  rw [show 0 + ((k : Nat) : Int).toNat * 1 = k by omega]
  obtain ⟨A, y, B, rfl, rfl⟩ := ZbR h
  have h1 := Zbk (p := Zq A) (q := [.int .i64 y]) (s := Zq B ++ junk) (vs := [.int .i64 v]) rfl
  rw [show (Zq A).length = A.length by simp [Zq]] at h1
  rw [show Zq (A ++ y :: B) ++ junk = Zq A ++ ([.int .i64 y] ++ (Zq B ++ junk)) by simp [Zq], h1]
  simp [Zq]
def ZgG (g : Nat) (cap : List Value) (p : Int → Bool) (l : List Int) (R0 : Z6) : Prop := cal Tryz.prog g = true ∧ ∀ x ∈ l, ∀ (H : Zc) (R : Z6), (∀ f ∈ R0, f ∈ R) → FnV Tryz.prog g ([] ++ [.int .i64 x] ++ cap) H R (.bool (p x))
structure DelI (l : List Int) (p : Int → Bool) (i j : Nat) (c : List Int) : Prop where
  len : c.length = l.length
  le : i < j ∧ j ≤ l.length
  pre : c.take i = (l.take j).filter (fun x => !p x)
  suf : ∀ q, j ≤ q → c[q]? = l[q]?
theorem Z1M {l : List Int} {j : Nat} {x : Int} (h : l[j]? = some x) : l.take (j + 1) = l.take j ++ [x] := by rw [List.take_add_one, h]; rfl
theorem DelI.start {l : List Int} {p : Int → Bool} {k : Nat} (h : l.findIdx? p = some k) : DelI l p k (k + 1) l := by
  obtain ⟨h1, h2, h3⟩ := List.findIdx?_eq_some_iff_getElem.1 h
  refine ⟨rfl, ⟨by omega, by omega⟩, ?_, fun _ _ => rfl⟩
  rw [Z1M (List.getElem?_eq_getElem h1), List.filter_append, List.filter_cons, h2]
  have : (l.take k).filter (fun x => !p x) = l.take k := List.filter_eq_self.2 fun x hx => by
    obtain ⟨q, hq, rfl⟩ := List.mem_iff_getElem.1 hx
    rw [List.length_take] at hq
    rw [List.getElem_take]
    have := h3 q (by omega)
    simpa using this
  rw [this]; simp
theorem DelI.skip {l : List Int} {p : Int → Bool} {i j : Nat} {c : List Int} (h : DelI l p i j c) {x : Int} (hx : l[j]? = some x) (hp : p x = true) : DelI l p i (j + 1) c := by
  have hj := (List.getElem?_eq_some_iff.1 hx).1
  refine ⟨h.len, ⟨by have := h.le; omega, by omega⟩, ?_, fun q hq => h.suf q (by omega)⟩
  rw [h.pre, Z1M hx, List.filter_append, List.filter_cons, hp]; simp
theorem DelI.keep {l : List Int} {p : Int → Bool} {i j : Nat} {c : List Int} (h : DelI l p i j c) {x : Int} (hx : l[j]? = some x) (hp : p x = false) : DelI l p (i + 1) (j + 1) (c.set i x) := by
  have hj := (List.getElem?_eq_some_iff.1 hx).1
  have hl := h.le
  have hn := h.len
  refine ⟨by rw [List.length_set]; exact hn, ⟨by omega, by omega⟩, ?_, fun q hq => by rw [List.getElem?_set_ne (by omega)]; exact h.suf q (by omega)⟩
  rw [Z1M hx, List.filter_append, List.filter_cons, hp, ← h.pre, Z1M (l := c.set i x) (x := x) (by rw [List.getElem?_set_self (by omega)]), List.take_set_of_le (Nat.le_refl _)]; rfl
theorem DelI.done {l : List Int} {p : Int → Bool} {i : Nat} {c : List Int} (h : DelI l p i l.length c) : c.take i = l.filter (fun x => !p x) ∧ i = (l.filter (fun x => !p x)).length := by
  have h1 := h.pre
  rw [List.take_length] at h1
  refine ⟨h1, ?_⟩
  rw [← h1, List.length_take, h.len]
  have := h.le; omega
theorem Z1W {l : List Int} {p : Int → Bool} (h : l.findIdx? p = none) : l.filter (fun x => !p x) = l := List.filter_eq_self.2 fun x hx => by
  have := List.findIdx?_eq_none_iff.1 h x hx
  simp [this]
theorem Z9T {c : List Int} {junk : List Value} {i n : Nat} (hi : i ≤ c.length) (hn : n = c.length - i) : spl (Zq c ++ junk) (0 + i * 1) (Z0A n [Value.int .i64 0]) = Zq (c.take i) ++ (Z0A n [Value.int .i64 0] ++ junk) := by
  subst hn
  rw [Nat.zero_add, Nat.mul_one]
  unfold spl
  have e1 : (Zq c ++ junk).take i = Zq (c.take i) := by
    rw [List.take_append_of_le_length (by rw [Zh]; exact hi)]
    unfold Zq; rw [List.map_take]
  have e2 : i + (Z0A (c.length - i) [Value.int .i64 0]).length = (Zq c).length := by rw [Z5B, Zh]; omega
  rw [e1, e2, List.drop_left]; simp
set_option maxHeartbeats 400000 in
theorem Z5f (l : List Int) (o : OSl 3 1 (Z4 l)) (hl : l.length ≤ 1000000) (g : Nat) (cap : List Value) (p : Int → Bool) (R0 : Z6) (hask : ZgG g cap p l R0) (H : Zc) (R : Z6) [sR : SubF R0 R] :
    Fn Tryz.prog 118 [o.fs, .func (.func g) #[] cap.toArray] (o.G ++ H) R (fun v H' R' => ∃ a c, (l.filter (fun x => !p x)).length ≤ c ∧ v = .slice a (l.filter (fun x => !p x)).length c ∧ H' = H ∧ R' = RowsA a 1 (Z4 (l.filter (fun x => !p x))) :: R) := by
 refine Zi Tryz.func118 rfl Tryz.ntmps118 rfl ?_
 refine sqt 1 rfl (pur 1 rfl (sqt 4 rfl (pur 2 rfl ?_)))
 refine cl rfl Zbz rfl rfl (FnV.lendO o (fun v => [v, .func (.func g) #[] cap.toArray]) (fun a5 c5 B9 => by rw [irl]; exact Z5o l a5 c5 g [] cap p hask.1 (by omega) _ _ (fun x hx => hask.2 x hx _ _ (fun f hf => by simp [sR.sub f hf])))) ?_
 rintro _ _ R1 ⟨rfl, rfl, hR1⟩
 obtain rfl := hR1.symm
 clear hR1
 rcases hfi : l.findIdx? p with _ | k
 all_goals dsimp only
 refine pur 1 rfl (Z0 (sqt 2 rfl (pur 2 rfl ?_)))
 refine Z1 rfl ?_ ?_ <;> intro hc0
 refine sqt 2 rfl (pur 2 rfl (Z5 ?_))
 obtain ⟨ac, cc, he, hcc, hz⟩ := o.freezeC
 rw [irl] at hcc
 rw [he, irl]
 refine Sy.heap (fun w h9 => hz h9) ?_
 exact rtA rfl rfl rfl ⟨ac, cc, by rw [Z1W hfi]; exact hcc, by rw [Z1W hfi]; rfl, rfl, by rw [Z1W hfi]⟩ drp
 exact absurd hc0 (by simp)
 refine pur 1 rfl (Z0 (sqt 2 rfl (pur 2 rfl ?_)))
 refine Z1 rfl ?_ ?_ <;> intro hc0
 exact absurd hc0 (by simp <;> omega)
 have hst := DelI.start hfi
 have hstl := hst.le
 have hlp : 0 < l.length := by have := hst.le; omega
 obtain ⟨b, cp, junk, hfs, hG, hj, hcap, hmx⟩ := o.is.resolve_left (fun h9 => by have := congrArg List.length h9.1; rw [irl] at this; simp only [List.length_nil] at this; omega)
 rw [irl] at hfs hj hcap
 rw [show (Z4 l).flatten = Zq l from Z0W l] at hG
 rw [hfs, hG]
 refine Sy.heap (H' := (b, cel 3 (Zq (l) ++ junk)) :: H) (fun w h9 => h9) ?_
 refine Z2 (Z0 (sqt 3 rfl (pur 1 rfl (sp rfl (PE.add rfl rfl (by omega)) rfl (pur 1 rfl (Z3 ?_))))))
 refine Zd (ι := {y : Nat × Nat × List Int // DelI l p y.1 y.2.1 y.2.2}) (fun y => ⟨[(0, .slice (some ⟨b, 0, none⟩) l.length cp), (1, .func (.func g) #[] cap.toArray), (5, .int .i64 (y.1.1 : Int)), (6, .int .i64 (y.1.2.1 : Int))], (b, cel 3 (Zq (y.1.2.2) ++ junk)) :: H, R⟩) (fun y => l.length - y.1.2.1) ⟨(k, k + 1, l), hst⟩ ?_ (fun y => ?_)
 exact Zk idH
 clear hst
 obtain ⟨⟨i, j, c⟩, hd⟩ := y
 dsimp only at hd ⊢
 have hle := hd.le
 have hcl := hd.len
 refine Z0 (sqt 4 rfl (pur 2 rfl (sp rfl (PE.lenSl Zx rfl) rfl (pur 1 rfl ?_))))
 refine Z1 rfl ?_ ?_ <;> intro hc1 <;> try simp only [cS] at hc1
 obtain ⟨x, hx⟩ : ∃ x, l[j]? = some x := ⟨_, List.getElem?_eq_getElem (by omega)⟩
 have hcx : c[j]? = some x := by rw [hd.suf j (Nat.le_refl _)]; exact hx
 refine Z2 (Z0 (Z3 (sqt 5 rfl (pur 2 rfl (sp rfl (PE.indexAddr Z0a rfl rfl (by omega) (by omega)) rfl ?_)))))
 refine spL rfl rfl (lh (v := .int .i64 x) sc3 rfl (by rw [List.getElem?_append_left (by rw [Zh]; show 0 + ((j : Nat) : Int).toNat * 1 < c.length; omega), show 0 + ((j : Nat) : Int).toNat * 1 = j by omega]; exact Z4t hcx)) rfl ?_
 refine pur 1 rfl (sqt 4 rfl (pur 2 rfl ?_))
 refine Z7s rfl rfl (hask.1) rfl rfl (hask.2 x (List.mem_of_getElem? hx) _ _ sR.sub) ?_
 refine pur 1 rfl ?_
 refine Z1 rfl ?_ ?_ <;> intro hc2 <;> try simp only [cS] at hc2
 refine sqt 5 rfl (pur 3 rfl (sp rfl (PE.indexAddr Z0a rfl rfl (by omega) (by omega)) rfl ?_))
 refine ZN (l' := Zq (c.set i x) ++ junk) rfl rfl rfl cn3 rfl rfl rfl (Zam (by omega) _) (by rw [List.length_append, Zh]; show 0 + ((i : Nat) : Int).toNat * 1 + 1 ≤ _; omega) ?_
 refine sqr 3 rfl (pur 1 rfl (sp rfl (PE.add rfl rfl (by omega)) rfl (pur 1 rfl (sqr 3 rfl (pur 1 rfl (sp rfl (PE.add rfl rfl (by omega)) rfl (pur 1 rfl ?_)))))))
 exact Zb ⟨(i + 1, j + 1, c.set i x), hd.keep hx (by simpa using hc2)⟩ idH
 refine Z2 (sqr 3 rfl (pur 1 rfl (sp rfl (PE.add rfl rfl (by omega)) rfl (pur 1 rfl ?_))))
 exact Zb ⟨(i, j + 1, c), hd.skip hx (by simpa using hc2)⟩ idH
 obtain rfl : j = l.length := by omega
 obtain ⟨hdt, hdi⟩ := hd.done
 refine Z8 (Za (Za (Zm (sqt 4 rfl (pur 2 rfl (sp rfl (PE.slLo Z0j rfl rfl (by omega) (by omega)) rfl ?_))))))
 refine ZgP rfl rfl Z0j zl3 rfl rfl rfl (by rw [List.length_append, Zh]; omega) ?_
 rw [Z9T (by omega) (by omega), hdt]
 obtain ⟨jk, hjk⟩ : ∃ jk, jk = Z0A (l.length - i) [Value.int .i64 0] ++ junk := ⟨_, rfl⟩
 rw [← hjk]
 refine sqt 4 rfl (pur 2 rfl (sp rfl (PE.slHi Z0j rfl rfl (by omega)) rfl (pur 1 rfl (Z5 ?_))))
 refine Sy.heap (fun w h9 => St.rows (sz := 1) (rows := Z4 (l.filter (fun x => !p x))) (rest := jk) (by rw [show (Z4 (l.filter (fun x => !p x))).flatten = Zq (l.filter (fun x => !p x)) from Z0W _]; exact h9) (fun r hr => by obtain ⟨x, _, rfl⟩ := List.mem_map.1 hr; rfl)) ?_
 exact rtA rfl rfl rfl ⟨_, cp, by omega, by rw [hdi]; rfl, rfl, rfl⟩ drp
theorem ZbP : cal Tryz.prog 117 = true := by kernel_rfl
theorem Zee : cal Tryz.prog 118 = true := by kernel_rfl
theorem Zet : cal Tryz.prog 120 = true := by kernel_rfl
theorem Zeu : cal Tryz.prog 121 = true := by kernel_rfl
theorem ZdH : cal Tryz.prog 122 = true := by kernel_rfl
theorem Zgz : Z0s Tryz.prog 103 = some 1 := by kernel_rfl
theorem ZgE : Z0s Tryz.prog 67 = some 3 := by kernel_rfl
theorem ZeF : Z2s Tryz.prog 103 = true := by kernel_rfl
theorem ZfH : ZO Tryz.prog 103 = some ([.nilFunc]) := by kernel_rfl
def Hse.byP (h : Hse) (s : Sgt) (k : Int) : Bool := !Z1s h.gaps (msk [k]) [s]
def Hse.byL (h : Hse) (s : Sgt) : List Int := (h.clr h.sights (-1) 0).filter fun x => !h.byP s x
def Hse.aptB (h : Hse) : List Int → List Int → Bool
  | _, [] => true
  | met, i :: l => match h.sights[i.toNat]? with
    | some s => s.seen && !(h.byL s).any (ZH met) && h.aptB (met ++ h.byL s) l
    | none => false
def Hse.aptH (h : Hse) (m : Nat) (l : List Int) : Bool := decide (l.length = m) && h.aptB [] l
def Hse.aptK (h : Hse) : Nat → List Int
  | 0 => []
  | k + 1 => match ZW (h.aptH k) h.sights.length with
    | some x => x
    | none => h.aptK k
def Hse.aptR (h : Hse) : List Int × Int := bif decide (h.check ≠ 0) then ([], h.check) else bif !h.agr h.sights then ([], 7) else (h.aptK (h.sights.length + 1), 0)
theorem Z4h {h : Hse} {met l : List Int} {k : Nat} {i : Int} {s : Sgt} (hi : l[k]? = some i) (hs : h.sights[i.toNat]? = some s) (hf : s.seen = false ∨ (h.byL s).any (ZH met) = true) : h.aptB met (l.drop k) = false := by
  rw [List.drop_eq_getElem_cons (List.getElem?_eq_some_iff.1 hi).1, (List.getElem?_eq_some_iff.1 hi).2]
  unfold Hse.aptB
  rw [hs]
  dsimp only
  rcases hf with h1 | h1 <;> rw [h1]
  · rfl
  · cases s.seen <;> rfl
theorem Zdu {h : Hse} {met l : List Int} {k : Nat} {i : Int} {s : Sgt} (hi : l[k]? = some i) (hs : h.sights[i.toNat]? = some s) (h1 : s.seen = true) (h2 : (h.byL s).any (ZH met) = false) : h.aptB met (l.drop k) = h.aptB (met ++ h.byL s) (l.drop (k + 1)) := by
  rw [List.drop_eq_getElem_cons (List.getElem?_eq_some_iff.1 hi).1, (List.getElem?_eq_some_iff.1 hi).2, Hse.aptB, hs]
  dsimp only
  rw [h1, h2]; rfl
theorem ZcT (h : Hse) (met l : List Int) : h.aptB met (l.drop l.length) = true := by rw [List.drop_length]; rfl
theorem ZcV (h : Hse) (s : Sgt) : (h.byL s).length ≤ h.bins.toNat := Nat.le_trans (List.length_filter_le _ _) (Z2J _ _ _ _)
theorem Z3U {has : List Int → Bool} {n : Nat} {x : List Int} (hx : ZW has n = some x) : x.length ≤ n := by
  obtain ⟨⟨y, rfl, h1, h2, _⟩, _⟩ := Z1Z hx
  rw [List.length_map]; exact Z4y h1 h2
theorem Z6W (h : Hse) : ∀ k, (h.aptK k).length ≤ h.sights.length
  | 0 => Nat.zero_le _
  | k + 1 => by
    unfold Hse.aptK
    cases hs : ZW (h.aptH k) h.sights.length with
    | none => exact Z6W h k
    | some x => exact Z3U hs
theorem Zdt (h : Hse) (ag as_ : Option Addr) (cg cs : Nat) (hok : h.ok) (bd bx bs : Nat) (s : Sgt) (hs : SOk h [s]) (k : Int) (hk : 0 ≤ k ∧ k < 7) (H : Zc) (R : Z6) [hG : MemRows ag 2 (Zf h.gaps) R] [hS : MemRows as_ 3 (Ze h.sights) R] [mD : MemRows (some ⟨bd, 0, none⟩) 4 [(dkA h ag as_ cg cs bd).row] R] [mX : MemRows (some ⟨bx, 0, none⟩) 1 [[.pointer (some ⟨bd, 0, none⟩)]] R] [mS : MemRows (some ⟨bs, 0, none⟩) 3 [Z0w s] R] :
    FnV Tryz.prog 120 [.int .i64 k, .pointer (some ⟨bx, 0, none⟩), .pointer (some ⟨bs, 0, none⟩)] H R (.bool (h.byP s k)) := by
 refine Zi Tryz.func120 rfl Tryz.ntmps120 rfl ?_
 refine sqt 1 rfl (pur 1 rfl (sqt 8 rfl (spL rfl rfl (lfB (sz := 1) Z2F rfl) rfl (pur 1 rfl ?_))))
 refine bsl (out := [_]) rfl Z0j zl3 rfl rfl rfl rfl rfl rfl (fun b7 => ?_)
 refine spL rfl rfl (ZgO (sz := 3) (row := Z0w s) (Z0w s) Zaf (rest := []) (by simp) rfl) rfl ?_
 refine bsl (out := [_, _, _]) rfl Zfu Zb7 rfl rfl rfl rfl rfl rfl (fun b9 => ?_)
 refine Sy.heap (fun w h9 => St.rows (sz := 1) (rows := Z4 [k]) (rest := []) (h9.pull b7) (by simp)) ?_
 refine Sy.heap (fun w h9 => St.rows (sz := 3) (rows := Ze [s]) (rest := []) (h9.pull b9) (by simp [Ze, Z0w])) ?_
 refine clV rfl Z6I rfl rfl (Z1H (dkA h ag as_ cg cs bd) (Z0f h ag as_ cg cs hok bd) rfl [k] (some ⟨b7, 0, none⟩) 1 (by simp) (fun x hx => by rw [List.mem_singleton.1 hx]; exact hk) [s] (some ⟨b9, 0, none⟩) 1 (by simp) hs _ _) ?_
 refine pur 2 rfl (Z5 ?_)
 exact rtA rfl rfl rfl ⟨rfl, rfl, rfl⟩ (fun w h9 => h9.ftail.ftail)
set_option maxHeartbeats 400000 in
theorem ZgJ (h : Hse) (ag as_ : Option Addr) (cg cs : Nat) (hok : h.ok) (bd bx b1 bf : Nat) (aF : Option Addr) (cF : Nat) (i : Nat) (s : Sgt) (hs : h.sights[i]? = some s) (H : Zc) (R : Z6) [hG : MemRows ag 2 (Zf h.gaps) R] [hS : MemRows as_ 3 (Ze h.sights) R] [mD : MemRows (some ⟨bd, 0, none⟩) 4 [(dkA h ag as_ cg cs bd).row] R] [mX : MemRows (some ⟨bx, 0, none⟩) 1 [[.pointer (some ⟨bd, 0, none⟩)]] R] [mB : MemRows (some ⟨b1, 0, none⟩) 3 [htl h (h.sg ag cg) (h.ss as_ cs)] R] [mF : MemRows (some ⟨bf, 0, none⟩) 1 [[.slice aF (h.clr h.sights (-1) 0).length cF]] R] [hFr : MemRows aF 1 (Z4 (h.clr h.sights (-1) 0)) R] :
    Fn Tryz.prog 117 [.int .i64 (i : Int), .pointer (some ⟨b1, 0, none⟩), .pointer (some ⟨bf, 0, none⟩), .pointer (some ⟨bx, 0, none⟩)] H R (fun v H' R' => ∃ a c, (h.byL s).length ≤ c ∧ v = .slice a (h.byL s).length c ∧ H' = H ∧ R' = RowsA a 1 (Z4 (h.byL s)) :: R) := by
 refine Zi Tryz.func117 rfl Tryz.ntmps117 rfl ?_
 refine sqt 1 rfl ?_
 have hil := (List.getElem?_eq_some_iff.1 hs).1
 have hsl := hok.sl
 have hcl := Z2J h h.sights (-1) 0
 have hbn := hok.bins
 refine Zg (a := as_) (sz := 3) (rows := Ze h.sights) (ne0 (by rw [Z0x]; omega)) (fun bas bao he => ?_)
 subst he
 refine pur 1 rfl (sqt 7 rfl (sp rfl (PE.fA Z04 rfl) rfl (spL rfl rfl (lfB (sz := 3) Z3X rfl) rfl (pur 1 rfl (sp rfl (PE.indexAddr ZcI rfl rfl (by omega) (by omega)) rfl (spL rfl rfl (lfA Zaf (row := Z0w s) (Z1w hs) rfl) rfl (alc rfl Zb7 rfl (fun b6 => ?_))))))))
 refine ZN (l' := Z0w s) rfl rfl rfl ZgE rfl rfl rfl rfl (nl rfl) ?_
 refine sqt 5 rfl ?_
 refine Sy.heap (fun w h9 => St.rows (sz := 3) (rows := [Z0w s]) (rest := []) (h9.pull b6) (by simp [Z0w])) ?_
 refine spL rfl rfl (lfB (sz := 1) Z35 rfl) rfl ?_
 refine cl rfl Z6Z rfl rfl (Z18 (h.clr h.sights (-1) 0) aF cF (by omega) _ _) ?_
 rintro _ _ R1 ⟨o, rfl, rfl, hR1, _⟩
 obtain rfl := hR1.symm
 clear hR1
 refine sp rfl (PE.makeFunc rfl rfl) rfl ?_
 have hso : SOk h [s] := fun x hx => by rw [List.mem_singleton.1 hx]; exact hok.sights s (List.mem_of_getElem? hs)
 have hask : ZgG 120 [.pointer (some ⟨bx, 0, none⟩), .pointer (some ⟨b6, 0, none⟩)] (h.byP s) (h.clr h.sights (-1) 0) [RowsA (some ⟨bd, 0, none⟩) 4 [(dkA h ag (some ⟨bas, bao, none⟩) cg cs bd).row], RowsA (some ⟨bx, 0, none⟩) 1 [[.pointer (some ⟨bd, 0, none⟩)]], RowsA (some ⟨b6, 0, none⟩) 3 [Z0w s], RowsA ag 2 (Zf h.gaps), RowsA (some ⟨bas, bao, none⟩) 3 (Ze h.sights)] := ⟨Zet, fun x hx H R hf => by
   haveI : MemRows (some ⟨bd, 0, none⟩) 4 [(dkA h ag (some ⟨bas, bao, none⟩) cg cs bd).row] R := ⟨hf _ (by simp)⟩
   haveI : MemRows (some ⟨bx, 0, none⟩) 1 [[.pointer (some ⟨bd, 0, none⟩)]] R := ⟨hf _ (by simp)⟩
   haveI : MemRows (some ⟨b6, 0, none⟩) 3 [Z0w s] R := ⟨hf _ (by simp)⟩
   haveI : MemRows ag 2 (Zf h.gaps) R := ⟨hf _ (by simp)⟩
   haveI : MemRows (some ⟨bas, bao, none⟩) 3 (Ze h.sights) R := ⟨hf _ (by simp)⟩
   exact Zdt h ag (some ⟨bas, bao, none⟩) cg cs hok bd bx b6 s hso x (by have := Z42 x hx; omega) _ _⟩
 refine cl rfl Zee rfl rfl (Z5f (h.clr h.sights (-1) 0) o (by omega) 120 [.pointer (some ⟨bx, 0, none⟩), .pointer (some ⟨b6, 0, none⟩)] (h.byP s) _ hask _ _) ?_
 rintro _ _ R1 ⟨a9, c9, hc9, rfl, rfl, hR1⟩
 obtain rfl := hR1.symm
 clear hR1
 refine pur 1 rfl (Z5 ?_)
 exact rtA rfl rfl rfl ⟨a9, c9, hc9, rfl, rfl, rfl⟩ (fun w h9 => h9.facts (fun g hg => by simp only [List.mem_cons] at hg ⊢; rcases hg with h8 | h8 <;> simp [h8, Hse.byL]))
theorem Zdr (met : List Int) (o : OSl 3 1 (Z4 met)) (hl : met.length ≤ 1000000) (k : Int) (bm : Nat) (T : Zc) (R : Z6) [hM : Mem1 bm (cel 26 [o.fs]) T] :
    FnV Tryz.prog 122 [.int .i64 k, .pointer (some ⟨bm, 0, none⟩)] (o.G ++ T) R (.bool (ZH met k)) := by
 refine Zi Tryz.func122 rfl Tryz.ntmps122 rfl ?_
 refine sqt 1 rfl (pur 1 rfl (sqt 4 rfl (spL rfl rfl (lh (v := o.fs) Z35 rfl rfl) rfl (pur 1 rfl ?_))))
 refine clV rfl Z7B rfl rfl (FnV.lendO o (fun v => [v, .int .i64 k]) (fun a5 c5 B9 => by rw [irl]; exact ZK met a5 c5 k (by omega) _ _)) ?_
 refine pur 1 rfl (Z5 ?_)
 exact rtA rfl rfl rfl ⟨rfl, rfl, rfl⟩ drp
set_option maxHeartbeats 600000 in
theorem Zeo (h : Hse) (ag as_ : Option Addr) (cg cs : Nat) (hok : h.ok) (bd bx b1 bf bg7 bm9 : Nat) (aF : Option Addr) (cF m : Nat) (l : List Int) (al : Option Addr) (cl : Nat) (hln : l.length ≤ h.sights.length) (hlx : ∀ x ∈ l, 0 ≤ x ∧ x < (h.sights.length : Int)) (H : Zc) (R : Z6) [hG : MemRows ag 2 (Zf h.gaps) R] [hS : MemRows as_ 3 (Ze h.sights) R] [mD : MemRows (some ⟨bd, 0, none⟩) 4 [(dkA h ag as_ cg cs bd).row] R] [mX : MemRows (some ⟨bx, 0, none⟩) 1 [[.pointer (some ⟨bd, 0, none⟩)]] R] [mB : MemRows (some ⟨b1, 0, none⟩) 3 [htl h (h.sg ag cg) (h.ss as_ cs)] R] [mF : MemRows (some ⟨bf, 0, none⟩) 1 [[.slice aF (h.clr h.sights (-1) 0).length cF]] R] [mG : MemRows (some ⟨bg7, 0, none⟩) 1 [[.func (.func 117) #[] #[.pointer (some ⟨b1, 0, none⟩), .pointer (some ⟨bf, 0, none⟩), .pointer (some ⟨bx, 0, none⟩)]]] R] [mM : MemRows (some ⟨bm9, 0, none⟩) 1 [[.int .i64 (m : Int)]] R] [hFr : MemRows aF 1 (Z4 (h.clr h.sights (-1) 0)) R] [hL : MemRows al 1 (Z4 l) R] :
    FnV Tryz.prog 121 [.slice al l.length cl, .pointer (some ⟨bm9, 0, none⟩), .pointer (some ⟨b1, 0, none⟩), .pointer (some ⟨bg7, 0, none⟩)] H R (.bool (h.aptH m l)) := by
 refine Zi Tryz.func121 rfl Tryz.ntmps121 rfl ?_
 refine sqt 1 rfl ?_
 have hsl := hok.sl
 have hbn := hok.bins
 refine pur 1 rfl (Z0 (sqt 4 rfl (pur 1 rfl (sp rfl (PE.lenSl Zx rfl) rfl (spL rfl rfl (lfB (sz := 1) sc3 rfl) rfl (pur 1 rfl ?_))))))
 refine Z1 rfl ?_ ?_ <;> intro hc0 <;> try simp only [cS] at hc0
 refine sqt 1 rfl (pur 1 rfl (Z5 ?_))
 exact rtA rfl rfl rfl ⟨by simp only [ZE]; unfold Hse.aptH; rw [dF (show ¬ l.length = m by omega)]; rfl, rfl, rfl⟩ drp
 have hlm : l.length = m := by omega
 refine Z2 (sqt 1 rfl (alc rfl Zae rfl (fun b6 => Z0 (sqt 3 rfl (pur 1 rfl (sp rfl (PE.lenSl Zx rfl) rfl (pur 1 rfl (Z3 ?_))))))))
 refine Zd (ι := (y : {y : Nat × List Int // y.1 ≤ l.length ∧ y.2.length ≤ 7 * y.1 ∧ h.aptB y.2 (l.drop y.1) = h.aptB [] l}) × OSl 3 1 (Z4 y.1.2)) (fun y => ⟨[(1, .pointer (some ⟨bm9, 0, none⟩)), (2, .pointer (some ⟨b1, 0, none⟩)), (3, .pointer (some ⟨bg7, 0, none⟩)), (6, .pointer (some ⟨b6, 0, none⟩)), (13, .slice al l.length cl), (14, .int .i64 l.length), (15, .int .i64 y.1.1.1)], y.2.G ++ ((b6, cel 26 [y.2.fs]) :: H), R⟩) (fun y => l.length - y.1.1.1) ⟨⟨(0, []), Nat.zero_le _, Nat.zero_le _, rfl⟩, OSl.nil _ _⟩ ?_ (fun y => ?_)
 exact Zk idH
 obtain ⟨⟨⟨k, met⟩, hk, hml, hap⟩, o⟩ := y
 dsimp only at hk hml hap o ⊢
 refine sqt 1 rfl (pur 1 rfl (Z0 ?_))
 refine Z1 rfl ?_ ?_ <;> intro hc1 <;> try simp only [cS] at hc1
 obtain ⟨z, hz⟩ : ∃ z, l[k]? = some z := ⟨_, List.getElem?_eq_getElem (by omega)⟩
 have hzr := hlx z (List.mem_of_getElem? hz)
 obtain ⟨zn, rfl⟩ : ∃ n : Nat, z = n := ⟨z.toNat, by omega⟩
 obtain ⟨s, hs⟩ : ∃ s, h.sights[zn]? = some s := ⟨_, List.getElem?_eq_getElem (by omega)⟩
 have hs2 : h.sights[((zn : Nat) : Int).toNat]? = some s := by rw [Int.toNat_natCast]; exact hs
 have hby := ZcV h s
 refine Zg (a := al) (sz := 1) (rows := Z4 l) (ne0 (by rw [irl]; omega)) (fun bl blo hebl => ?_)
 subst hebl
 refine Zg (a := as_) (sz := 3) (rows := Ze h.sights) (ne0 (by rw [Z0x]; omega)) (fun bas bao he => ?_)
 subst he
 refine Z2 (Z0 (Z3 (sqt 3 rfl (sp rfl (PE.indexAddr Z0a rfl rfl (by omega) (by omega)) rfl (spL rfl rfl (lf0 sc3 (ZB hz) rfl) rfl (pur 1 rfl (Z0 (sqt 14 rfl (sp rfl (PE.fA Z04 rfl) rfl (spL rfl rfl (lfB (sz := 3) Z3X rfl) rfl (pur 1 rfl (sp rfl (PE.indexAddr ZcI rfl rfl (by omega) (by omega)) rfl (sp rfl (PE.fA Z8h rfl) rfl (spL rfl rfl (lf (j := 2) sc4 (Z1w hs) rfl) rfl (pur 2 rfl ?_)))))))))))))))
 refine Zo 26 rfl ?_ ?_ <;> intro g26
 have hsf : s.seen = false := by simpa using g26
 refine pur 6 rfl ?_
 refine ZC rfl ?_
 refine sqt 1 rfl (pur 1 rfl (Z5 ?_))
 first
   | exact rtA rfl rfl rfl ⟨by simp only [ZE]; unfold Hse.aptH; rw [← hap, Z4h hz hs2 (.inl hsf), Bool.and_false], rfl, rfl⟩ (fun w h9 => (St.drop (G := o.G) h9).del b6)
   | exact rtA rfl rfl rfl ⟨by simp only [ZE]; unfold Hse.aptH; rw [← hap, Z4h hz hs2 (.inr hc2), Bool.and_false], rfl, rfl⟩ (fun w h9 => ((St.drop (G := o.G) h9).del b6).ftail)
   | exact rtA rfl rfl rfl ⟨by simp only [ZE]; unfold Hse.aptH; rw [← hap, dT hlm]; rfl, rfl, rfl⟩ (fun w h9 => (St.drop (G := o.G) h9).del b6)
 have hst : s.seen = true := by simpa using g26
 refine Z0I rfl rfl rfl rfl rfl (lfB (sz := 1) ZeF rfl) rfl (pur 1 rfl ?_)
 refine ZgK rfl rfl rfl rfl rfl (ZbP) rfl rfl (ZgJ h ag (some ⟨bas, bao, none⟩) cg cs hok bd bx b1 bf aF cF zn s hs _ _) ?_
 rintro _ _ R1 ⟨a29, c29, hc29, rfl, rfl, hR1⟩
 obtain rfl := hR1.symm
 clear hR1
 refine spG rfl rfl rfl rfl (PE.makeFunc rfl rfl) rfl ?_
 refine Z2t rfl rfl rfl rfl Zaa rfl rfl (Z29 (h.byL s) a29 c29 122 [] [.pointer (some ⟨b6, 0, none⟩)] (ZH met) ZdH (by omega) _ _ (fun x hx => Zdr met o (by omega) x b6 ((b6, cel 26 [o.fs]) :: H) _)) ?_
 refine pur 1 rfl ?_
 refine Z1 rfl ?_ ?_ <;> intro hc2 <;> try simp only [cS] at hc2
 refine sqt 1 rfl (pur 1 rfl (Z5 ?_))
 first
   | exact rtA rfl rfl rfl ⟨by simp only [ZE]; unfold Hse.aptH; rw [← hap, Z4h hz hs2 (.inl hsf), Bool.and_false], rfl, rfl⟩ (fun w h9 => (St.drop (G := o.G) h9).del b6)
   | exact rtA rfl rfl rfl ⟨by simp only [ZE]; unfold Hse.aptH; rw [← hap, Z4h hz hs2 (.inr hc2), Bool.and_false], rfl, rfl⟩ (fun w h9 => ((St.drop (G := o.G) h9).del b6).ftail)
   | exact rtA rfl rfl rfl ⟨by simp only [ZE]; unfold Hse.aptH; rw [← hap, dT hlm]; rfl, rfl, rfl⟩ (fun w h9 => (St.drop (G := o.G) h9).del b6)
 have hay := Zdu hz hs2 hst hc2
 rw [hay] at hap
 refine Z2 ?_
 refine Zl [0, 0, 0, 6, 15, 31] (.ld 0 (.ld 1 (.tk 2 (.big 3 (.big 4 (.big 5 .done)))))) Zz (by kernel_rfl) ?_
 refine ld rfl rfl (lh (v := o.fs) Z35 rfl rfl) rfl (ld rfl rfl (lfB (sz := 1) ZeF rfl) rfl (Zr 1 rfl ?_))
 refine clF rfl rfl (ZbP) rfl rfl (ZgJ h ag (some ⟨bas, bao, none⟩) cg cs hok bd bx b1 bf aF cF zn s hs _ _) ?_
 rintro _ _ R1 ⟨a36, c36, hc36, rfl, rfl, hR1⟩
 obtain rfl := hR1.symm
 clear hR1
 refine bg (fun w hs => ⟨trivial, (lh (v := o.fs) Z35 rfl rfl) w hs, trivial⟩) ?_
 refine apO (news := Z4 (h.byL s)) o rfl Z2j rfl rfl (Z7F) (irl _) (by simp [Z00, Z4, Value.oneCell']) (by rw [irl, irl]; omega) rfl (fun o37 => ?_)
 refine bgT ?_
 refine ZN (l' := [o37.fs]) rfl rfl rfl Zcq rfl (by rw [o37.cells.1]; first | done | rfl) (by rw [o37.cells.1]; simp [o37.cells.2]) (by rw [o37.cells.1]; first | done | rfl) (by rw [o37.cells.1]; first | done | exact Nat.le_of_ble_eq_true rfl) ?_
 refine bgT (sqr 2 rfl (sp rfl (PE.add rfl rfl (by omega)) rfl (pur 1 rfl ?_)))
 exact Zb ⟨⟨(k + 1, met ++ h.byL s), by dsimp only; omega, by rw [List.length_append]; dsimp only; omega, hap⟩, o37.cast (by simp [Z4])⟩ (fun w h9 => St.sub h9)
 obtain rfl : k = l.length := by omega
 rw [ZcT] at hap
 refine Z8 (Za (Za (Zm (sqt 1 rfl (pur 1 rfl (Z5 ?_))))))
 first
   | exact rtA rfl rfl rfl ⟨by simp only [ZE]; unfold Hse.aptH; rw [← hap, Z4h hz hs2 (.inl hsf), Bool.and_false], rfl, rfl⟩ (fun w h9 => (St.drop (G := o.G) h9).del b6)
   | exact rtA rfl rfl rfl ⟨by simp only [ZE]; unfold Hse.aptH; rw [← hap, Z4h hz hs2 (.inr hc2), Bool.and_false], rfl, rfl⟩ (fun w h9 => ((St.drop (G := o.G) h9).del b6).ftail)
   | exact rtA rfl rfl rfl ⟨by simp only [ZE]; unfold Hse.aptH; rw [← hap, dT hlm]; rfl, rfl, rfl⟩ (fun w h9 => (St.drop (G := o.G) h9).del b6)
set_option maxHeartbeats 600000 in
theorem Zci (h : Hse) (ag as_ : Option Addr) (cg cs : Nat) (hlg : h.gaps.length ≤ 9223372036854775807) (hls : h.sights.length ≤ 9223372036854775807) (H : Zc) (R : Z6) [hG : MemRows ag 2 (Zf h.gaps) R] [hS : MemRows as_ 3 (Ze h.sights) R] :
    Fn Tryz.prog 50 [h.v (h.sg ag cg) (h.ss as_ cs)] H R (fun v H' R' => ∃ a c', h.aptR.1.length ≤ c' ∧ v = .tuple #[.slice a h.aptR.1.length c', .int .i64 h.aptR.2] ∧ H' = H ∧ R' = RowsA a 1 (Z4 h.aptR.1) :: R) := by
 refine Zi Tryz.func50 rfl Tryz.ntmps50 rfl ?_
 refine sqt 3 rfl (bx rfl rfl rfl (fun b1 => pur 2 rfl (sqt 8 rfl (spL rfl rfl (lhA (htl h (h.sg ag cg) (h.ss as_ cs)) Z14 rfl rfl rfl) rfl ?_))))
 refine cl rfl Z6R rfl rfl (Z3g h ag as_ cg cs hlg hls _ _) ?_
 rintro _ _ _ ⟨rfl, ho⟩
 rcases ho with ⟨hck, rfl, rfl⟩ | ⟨hck, hag, rfl, rfl⟩ | ⟨hck, hag, bd, rfl, rfl⟩
 refine pur 3 rfl (alc rfl Z6r rfl (fun b4 => ?_))
 refine sto rfl rfl rfl Z5K rfl rfl rfl rfl ?_
 refine pur 1 rfl (Z0 (sqt 2 rfl (pur 2 rfl ?_)))
 refine Z1 rfl ?_ ?_ <;> intro hc0
 have e : h.aptR = ([], h.check) := by unfold Hse.aptR; rw [dT hck]; rfl
 refine sqt 3 rfl (pur 3 rfl (Z5 ?_))
 rw [show h.check = (h.aptR).2 from by rw [e]]
 exact rtB rfl rfl rfl rfl ⟨none, 0, by rw [e] <;> exact Nat.le_refl _, by rw [e] <;> rfl, rfl, by rw [e] <;> rfl⟩ (fun w h9 => St.norows ((h9.del b4).del b1))
 exact absurd hc0 (by simp [hck])
 refine pur 3 rfl (alc rfl Z6r rfl (fun b4 => ?_))
 refine sto rfl rfl rfl Z5K rfl rfl rfl rfl ?_
 refine pur 1 rfl (Z0 (sqt 2 rfl (pur 2 rfl ?_)))
 refine Z1 rfl ?_ ?_ <;> intro hc0
 have e : h.aptR = ([], 7) := by unfold Hse.aptR; rw [dF (by simp [hck]), hag]; rfl
 refine sqt 3 rfl (pur 3 rfl (Z5 ?_))
 exact rtB rfl rfl rfl rfl ⟨none, 0, by rw [e] <;> exact Nat.le_refl _, by rw [e] <;> rfl, rfl, by rw [e] <;> rfl⟩ (fun w h9 => St.norows ((h9.del b4).del b1))
 exact absurd hc0 (by simp)
 ·
  refine pur 3 rfl (alc rfl Z6r rfl (fun b4 => ?_))
  refine sto rfl rfl rfl Z5K rfl rfl rfl rfl ?_
  refine pur 1 rfl (Z0 (sqt 2 rfl (pur 2 rfl ?_)))
  refine Z1 rfl ?_ ?_ <;> intro hc0
  exact absurd hc0 (by simp)
  ·
   have hok := hse_ok.1 hck
   have hbn := hok.bins
   have hsl := hok.sl
   have e : h.aptR = (h.aptK (h.sights.length + 1), 0) := by unfold Hse.aptR; rw [dF (by simp [hck]), hag]; rfl
   refine Sy.heap (fun w h9 => h9.perm (by first | exact .refl _ | exact List.Perm.swap _ _ _)) ?_
   refine Z2 (sqt 6 rfl (spL rfl rfl (lh Z2F rfl rfl) rfl (sp rfl (PE.fA Z04 rfl) rfl (spL rfl rfl (lh Z3X rfl rfl) rfl ?_))))
   refine cl rfl Z6t rfl rfl (Z4P (dkA h ag as_ cg cs bd) (Z0f h ag as_ cg cs hok bd) rfl h.sights as_ cs hls hok.sights (-1) 0 (by decide) _ _) ?_
   rintro _ _ R1 ⟨aF, cF, rfl, rfl, hR1⟩
   obtain rfl := hR1.symm
   clear hR1
   rw [show (dkA h ag as_ cg cs bd).h = h from rfl]
   have hcl := Z2J h h.sights (-1) 0
   refine alc rfl Zae rfl (fun b6 => ?_)
   refine ZN (l' := [.slice aF (h.clr h.sights (-1) 0).length cF]) rfl rfl rfl Zcq rfl rfl rfl rfl (nl rfl) ?_
   refine sqt 3 rfl (sp rfl (PE.makeFunc rfl rfl) rfl (alc rfl ZfH rfl (fun b7 => ?_)))
   refine ZN (l' := [.func (.func 117) #[] #[.pointer (some ⟨b1, 0, none⟩), .pointer (some ⟨b6, 0, none⟩), .pointer (some ⟨b4, 0, none⟩)]]) rfl rfl rfl Zgz rfl rfl rfl rfl (nl rfl) ?_
   refine sqt 1 rfl ?_
   refine Sy.heap (fun w h9 => St.rows (sz := 3) (rows := [htl h (h.sg ag cg) (h.ss as_ cs)]) (rest := []) (h9.pull b1) (by simp [htl])) ?_
   refine Sy.heap (fun w h9 => St.rows (sz := 1) (rows := [[.pointer (some ⟨bd, 0, none⟩)]]) (rest := []) (h9.pull b4) (by simp)) ?_
   refine Sy.heap (fun w h9 => St.rows (sz := 1) (rows := [[.slice aF (h.clr h.sights (-1) 0).length cF]]) (rest := []) (h9.pull b6) (by simp)) ?_
   refine Sy.heap (fun w h9 => St.rows (sz := 1) (rows := [[.func (.func 117) #[] #[.pointer (some ⟨b1, 0, none⟩), .pointer (some ⟨b6, 0, none⟩), .pointer (some ⟨b4, 0, none⟩)]]]) (rest := []) (h9.pull b7) (by simp)) ?_
   refine Sy.heap (R' := RowsA none 1 (Z4 []) :: RowsA (some ⟨b7, 0, none⟩) 1 [[.func (.func 117) #[] #[.pointer (some ⟨b1, 0, none⟩), .pointer (some ⟨b6, 0, none⟩), .pointer (some ⟨b4, 0, none⟩)]]] :: RowsA (some ⟨b6, 0, none⟩) 1 [[.slice aF (h.clr h.sights (-1) 0).length cF]] :: RowsA aF 1 (Z4 (h.clr h.sights (-1) 0)) :: RowsA (some ⟨b4, 0, none⟩) 1 [[.pointer (some ⟨bd, 0, none⟩)]] :: RowsA (some ⟨b1, 0, none⟩) 3 [htl h (h.sg ag cg) (h.ss as_ cs)] :: RowsA (some ⟨bd, 0, none⟩) 4 [(dkA h ag as_ cg cs bd).row] :: R) (fun w h9 => St.norows (h9.facts (fun g hg => by simp only [List.mem_cons] at hg ⊢; rcases hg with h8 | h8 | h8 | h8 | h8 | h8 | h8 <;> simp [h8]))) ?_
   refine pur 1 rfl (Z0 (sqt 5 rfl (sp rfl (PE.fA Z04 rfl) rfl (spL rfl rfl (lfB (sz := 3) Z3X rfl) rfl (sp rfl (PE.lenSl Z31 rfl) rfl (sp rfl (PE.add rfl rfl (by omega)) rfl (pur 1 rfl (Z3 ?_))))))))
   refine Zd (ι := {y : Nat × Option Addr × Nat // y.1 ≤ h.sights.length + 1 ∧ (h.aptK y.1).length ≤ y.2.2}) (fun y => ⟨[(1, .pointer (some ⟨b1, 0, none⟩)), (7, .pointer (some ⟨b7, 0, none⟩)), (8, .slice y.1.2.1 (h.aptK y.1.1).length y.1.2.2), (28, .int .i64 ((h.sights.length : Int) + 1)), (29, .int .i64 y.1.1)], H, RowsA y.1.2.1 1 (Z4 (h.aptK y.1.1)) :: RowsA (some ⟨b7, 0, none⟩) 1 [[.func (.func 117) #[] #[.pointer (some ⟨b1, 0, none⟩), .pointer (some ⟨b6, 0, none⟩), .pointer (some ⟨b4, 0, none⟩)]]] :: RowsA (some ⟨b6, 0, none⟩) 1 [[.slice aF (h.clr h.sights (-1) 0).length cF]] :: RowsA aF 1 (Z4 (h.clr h.sights (-1) 0)) :: RowsA (some ⟨b4, 0, none⟩) 1 [[.pointer (some ⟨bd, 0, none⟩)]] :: RowsA (some ⟨b1, 0, none⟩) 3 [htl h (h.sg ag cg) (h.ss as_ cs)] :: RowsA (some ⟨bd, 0, none⟩) 4 [(dkA h ag as_ cg cs bd).row] :: R⟩) (fun y => h.sights.length + 1 - y.1.1) ⟨(0, none, 0), Nat.zero_le _, Nat.le_refl _⟩ ?_ (fun y => ?_)
   exact Zk idH
   obtain ⟨⟨k, aB, cB⟩, hk, hcB⟩ := y
   dsimp only at hk hcB ⊢
   refine sqt 1 rfl (pur 1 rfl (Z0 ?_))
   refine Z1 rfl ?_ ?_ <;> intro hc1 <;> try simp only [cS] at hc1
   refine Z2 (Z0 (Z3 (sqt 3 rfl (pur 1 rfl (alc rfl zl3 rfl (fun b9 => ?_))))))
   refine ZN (l' := [.int .i64 (k : Int)]) rfl rfl rfl cn3 rfl rfl rfl rfl (nl rfl) ?_
   refine sqt 10 rfl ?_
   refine Sy.heap (fun w h9 => St.rows (sz := 1) (rows := [[.int .i64 (k : Int)]]) (rest := []) (h9.pull b9) (by simp)) ?_
   have hask : ZdB 121 [.pointer (some ⟨b9, 0, none⟩), .pointer (some ⟨b1, 0, none⟩), .pointer (some ⟨b7, 0, none⟩)] (h.aptH k) h.sights.length [RowsA (some ⟨b9, 0, none⟩) 1 [[.int .i64 (k : Int)]], RowsA (some ⟨b7, 0, none⟩) 1 [[.func (.func 117) #[] #[.pointer (some ⟨b1, 0, none⟩), .pointer (some ⟨b6, 0, none⟩), .pointer (some ⟨b4, 0, none⟩)]]], RowsA (some ⟨b6, 0, none⟩) 1 [[.slice aF (h.clr h.sights (-1) 0).length cF]], RowsA aF 1 (Z4 (h.clr h.sights (-1) 0)), RowsA (some ⟨b4, 0, none⟩) 1 [[.pointer (some ⟨bd, 0, none⟩)]], RowsA (some ⟨b1, 0, none⟩) 3 [htl h (h.sg ag cg) (h.ss as_ cs)], RowsA (some ⟨bd, 0, none⟩) 4 [(dkA h ag as_ cg cs bd).row], RowsA ag 2 (Zf h.gaps), RowsA as_ 3 (Ze h.sights)] := ⟨Zeu, fun l a c H R hf hr hx hl => by
     haveI : MemRows (some ⟨b9, 0, none⟩) 1 [[.int .i64 (k : Int)]] R := ⟨hf _ (by simp)⟩
     haveI : MemRows (some ⟨b7, 0, none⟩) 1 [[.func (.func 117) #[] #[.pointer (some ⟨b1, 0, none⟩), .pointer (some ⟨b6, 0, none⟩), .pointer (some ⟨b4, 0, none⟩)]]] R := ⟨hf _ (by simp)⟩
     haveI : MemRows (some ⟨b6, 0, none⟩) 1 [[.slice aF (h.clr h.sights (-1) 0).length cF]] R := ⟨hf _ (by simp)⟩
     haveI : MemRows aF 1 (Z4 (h.clr h.sights (-1) 0)) R := ⟨hf _ (by simp)⟩
     haveI : MemRows (some ⟨b4, 0, none⟩) 1 [[.pointer (some ⟨bd, 0, none⟩)]] R := ⟨hf _ (by simp)⟩
     haveI : MemRows (some ⟨b1, 0, none⟩) 3 [htl h (h.sg ag cg) (h.ss as_ cs)] R := ⟨hf _ (by simp)⟩
     haveI : MemRows (some ⟨bd, 0, none⟩) 4 [(dkA h ag as_ cg cs bd).row] R := ⟨hf _ (by simp)⟩
     haveI : MemRows ag 2 (Zf h.gaps) R := ⟨hf _ (by simp)⟩
     haveI : MemRows as_ 3 (Ze h.sights) R := ⟨hf _ (by simp)⟩
     haveI : MemRows a 1 (Z4 l) R := ⟨hr⟩
     exact Zeo h ag as_ cg cs hok bd b4 b1 b6 b7 b9 aF cF k l a c hl hx _ _⟩
   refine sp rfl (PE.fA Z04 rfl) rfl (spL rfl rfl (lfB (sz := 3) Z3X rfl) rfl (sp rfl (PE.lenSl Z31 rfl) rfl (sp rfl (PE.makeFunc rfl rfl) rfl ?_)))
   refine cl rfl Z8l rfl rfl (Z2K 121 [.pointer (some ⟨b9, 0, none⟩), .pointer (some ⟨b1, 0, none⟩), .pointer (some ⟨b7, 0, none⟩)] (h.aptH k) h.sights.length [RowsA (some ⟨b9, 0, none⟩) 1 [[.int .i64 (k : Int)]], RowsA (some ⟨b7, 0, none⟩) 1 [[.func (.func 117) #[] #[.pointer (some ⟨b1, 0, none⟩), .pointer (some ⟨b6, 0, none⟩), .pointer (some ⟨b4, 0, none⟩)]]], RowsA (some ⟨b6, 0, none⟩) 1 [[.slice aF (h.clr h.sights (-1) 0).length cF]], RowsA aF 1 (Z4 (h.clr h.sights (-1) 0)), RowsA (some ⟨b4, 0, none⟩) 1 [[.pointer (some ⟨bd, 0, none⟩)]], RowsA (some ⟨b1, 0, none⟩) 3 [htl h (h.sg ag cg) (h.ss as_ cs)], RowsA (some ⟨bd, 0, none⟩) 4 [(dkA h ag as_ cg cs bd).row], RowsA ag 2 (Zf h.gaps), RowsA as_ 3 (Ze h.sights)] hask (by omega) _ _) ?_
   rintro _ _ _ ⟨rfl, ho⟩
   rcases ho with ⟨hsh, rfl, rfl⟩ | ⟨x, a, c, hsh, hxc, rfl, rfl⟩
   refine pur 5 rfl (sqt 1 rfl (pur 1 rfl ?_))
   refine Z1 rfl ?_ ?_ <;> intro hc2
   exact absurd hc2 (by simp)
   have hak : h.aptK (k + 1) = h.aptK k := by rw [Hse.aptK, hsh]
   refine Z2 (sqr 2 rfl (sp rfl (PE.add rfl rfl (by omega)) rfl (pur 1 rfl ?_)))
   exact Z7 ⟨(k + 1, aB, cB), by dsimp only; omega, by dsimp only; rw [hak]; exact hcB⟩ (by dsimp only; omega) (by dsimp only; rw [hak]; exact (by repeat' first | exact Sub.nil | apply Sub.cons | rfl | (simp [lk]; omega))) (fun w h9 => by dsimp only; rw [hak]; exact h9.ftail)
   refine pur 5 rfl (sqt 1 rfl (pur 1 rfl ?_))
   refine Z1 rfl ?_ ?_ <;> intro hc2
   have hak : h.aptK (k + 1) = x := by rw [Hse.aptK, hsh]
   refine sqr 2 rfl (pur 2 rfl (sqr 2 rfl (sp rfl (PE.add rfl rfl (by omega)) rfl (pur 1 rfl ?_))))
   exact Z7 ⟨(k + 1, a, c), by dsimp only; omega, by dsimp only; rw [hak]; exact hxc⟩ (by dsimp only; omega) (by dsimp only; rw [hak]; exact (by repeat' first | exact Sub.nil | apply Sub.cons | rfl | (simp [lk]; omega))) (fun w h9 => by dsimp only; rw [hak]; exact h9.facts (fun g hg => by simp only [List.mem_cons] at hg ⊢; rcases hg with h8 | h8 <;> simp [h8]))
   exact absurd hc2 (by simp)
   obtain rfl : k = h.sights.length + 1 := by omega
   refine Z8 (Za (Za (Zm (sqt 3 rfl (pur 3 rfl (Z5 ?_))))))
   exact rtB rfl rfl rfl rfl ⟨aB, cB, by rw [e]; exact hcB, by rw [e] <;> rfl, rfl, rfl⟩ (fun w h9 => h9.facts (fun g hg => by rw [e] at hg; simp only [List.mem_cons] at hg ⊢; rcases hg with h8 | h8 <;> simp [h8]))
end Go.Proofs.YthbjpnmclokinaaGreat
namespace Go.Proofs.YthbjpnmclokinaaGreat
set_option linter.unusedSimpArgs false
set_option linter.unusedVariables false
structure Bij (n : Nat) (R : Nat → Nat → Prop) : Prop where
  lt : ∀ u u', R u u' → u < n ∧ u' < n
  to : ∀ u, u < n → ∃ u', R u u'
  fr : ∀ u', u' < n → ∃ u, R u u'
  f : ∀ u u' v', R u u' → R u v' → u' = v'
  i : ∀ u v u', R u u' → R v u' → u = v
theorem Bij.symm {n : Nat} {R : Nat → Nat → Prop} (h : Bij n R) : Bij n fun u' u => R u u' := ⟨fun u u' h1 => (h.lt u' u h1).symm, h.fr, h.to, fun u u' v' h1 h2 => h.i u' v' u h1 h2, fun u v u' h1 h2 => h.f u' u v h1 h2⟩
structure Img (n : Nat) (R : Nat → Nat → Prop) (m m' : Nat) : Prop where
  lt : m < 2 ^ n
  lt' : m' < 2 ^ n
  bit : ∀ u u', R u u' → m.testBit u = m'.testBit u'
theorem Img.symm {n : Nat} {R : Nat → Nat → Prop} {m m' : Nat} (h : Img n R m m') : Img n (fun u' u => R u u') m' m := ⟨h.lt', h.lt, fun u u' h1 => (h.bit u' u h1).symm⟩
theorem Img.ex {n : Nat} {R : Nat → Nat → Prop} (hb : Bij n R) {m : Nat} (hm : m < 2 ^ n) : ∃ m', Img n R m m' := by
  classical
  obtain ⟨t, h1, h2⟩ := Z6g (fun u' => decide (∃ u, R u u' ∧ m.testBit u = true)) n
  refine ⟨t, hm, h1, fun u u' h => ?_⟩
  rw [h2 u', decide_eq_true (hb.lt u u' h).2, Bool.true_and, Bool.eq_iff_iff, decide_eq_true_eq]
  exact ⟨fun h3 => ⟨u, h, h3⟩, fun ⟨v, h3, h4⟩ => by rw [hb.i u v u' h h3]; exact h4⟩
theorem Img.unique {n : Nat} {R : Nat → Nat → Prop} (hb : Bij n R) {m a b : Nat} (h1 : Img n R m a) (h2 : Img n R m b) : a = b := ZM fun k => by
  rcases Nat.lt_or_ge k n with hk | hk
  · obtain ⟨u, hu⟩ := hb.fr k hk
    rw [← h1.bit u k hu, ← h2.bit u k hu]
  · rw [Z3w h1.lt' hk, Z3w h2.lt' hk]
theorem Img.zero {n : Nat} {R : Nat → Nat → Prop} : Img n R 0 0 := ⟨Nat.two_pow_pos _, Nat.two_pow_pos _, fun u u' _ => by rw [Nat.zero_testBit, Nat.zero_testBit]⟩
theorem Img.or {n : Nat} {R : Nat → Nat → Prop} {a a' b b' : Nat} (h1 : Img n R a a') (h2 : Img n R b b') : Img n R (a ||| b) (a' ||| b') := ⟨Za8 h1.lt h2.lt, Za8 h1.lt' h2.lt', fun u u' h => by rw [Nat.testBit_or, Nat.testBit_or, h1.bit u u' h, h2.bit u u' h]⟩
theorem Img.and {n : Nat} {R : Nat → Nat → Prop} (hb : Bij n R) {a a' b b' : Nat} (h1 : Img n R a a') (h2 : Img n R b b') (h : a &&& b = 0) : a' &&& b' = 0 := and_zero.2 fun k hk => by
  obtain ⟨u, hu⟩ := hb.fr k (Z02 h1.lt' hk)
  rw [← h2.bit u k hu]
  exact and_zero.1 h u (by rw [h1.bit u k hu]; exact hk)
theorem Img.cnt {n : Nat} {R : Nat → Nat → Prop} (hb : Bij n R) {m m' : Nat} (h : Img n R m m') : cnt n m = cnt n m' := by
  classical
  have hex : ∃ f : Nat → Nat, ∀ u, u < n → R u (f u) := ⟨fun u => if h : u < n then Classical.choose (hb.to u h) else 0, fun u hu => by
    dsimp only; rw [dif_pos hu]; exact Classical.choose_spec (hb.to u hu)⟩
  obtain ⟨f, hf⟩ := hex
  have hp : ((List.range n).map f).Perm (List.range n) := by
    refine (List.perm_ext_iff_of_nodup ?_ List.nodup_range).2 fun x => ?_
    · rw [List.nodup_iff_pairwise_ne, List.pairwise_map]
      refine List.pairwise_lt_range.imp_of_mem fun {a b} ha hb9 hab e => ?_
      have h1 := hf a (List.mem_range.1 ha)
      have h2 := hf b (List.mem_range.1 hb9)
      rw [← e] at h2
      have := hb.i a b _ h1 h2
      omega
    · rw [List.mem_range, List.mem_map]
      constructor
      · rintro ⟨u, hu, rfl⟩; exact (hb.lt _ _ (hf u (List.mem_range.1 hu))).2
      · intro hx
        obtain ⟨u, hu⟩ := hb.fr x hx
        have hul := (hb.lt u x hu).1
        exact ⟨u, List.mem_range.2 hul, hb.f u _ _ (hf u hul) hu⟩
  show (List.range n).countP (fun k => m.testBit k) = (List.range n).countP (fun k => m'.testBit k)
  have e1 := hp.countP_eq (fun k => m'.testBit k)
  rw [List.countP_map] at e1
  rw [← e1]
  exact List.countP_congr fun k hk => by rw [h.bit k (f k) (hf k (List.mem_range.1 hk))]; rfl
structure Sim (n : Nat) (gs gs' : List Gp) (R Q : Nat → Nat → Prop) : Prop where
  bin : Bij n R
  gap : Bij gs.length Q
  len : gs'.length = gs.length
  gp : ∀ i i' g g', Q i i' → gs[i]? = some g → gs'[i']? = some g' → R g.a.toNat g'.b.toNat ∧ R g.b.toNat g'.a.toNat
theorem Sim.symm {n : Nat} {gs gs' : List Gp} {R Q : Nat → Nat → Prop} (h : Sim n gs gs' R Q) : Sim n gs' gs (fun u' u => R u u') (fun i' i => Q i i') := ⟨h.bin.symm, by rw [h.len]; exact h.gap.symm, h.len.symm, fun i i' g g' h1 h2 h3 => by
  have := h.gp i' i g' g h1 h3 h2
  exact ⟨this.2, this.1⟩⟩
theorem Sim.wth {n : Nat} {gs gs' : List Gp} {R Q : Nat → Nat → Prop} (h : Sim n gs gs' R Q) : Wth gs n := fun g hg => by
  obtain ⟨i, hi⟩ := List.getElem?_of_mem hg
  have hl := (List.getElem?_eq_some_iff.1 hi).1
  obtain ⟨i', hq⟩ := h.gap.to i hl
  have hl' : i' < gs'.length := by rw [h.len]; exact (h.gap.lt i i' hq).2
  have h1 := h.gp i i' g gs'[i'] hq hi (List.getElem?_eq_getElem hl')
  exact ⟨(h.bin.lt _ _ h1.1).1, (h.bin.lt _ _ h1.2).1⟩
theorem Sim.adj {n : Nat} {gs gs' : List Gp} {R Q : Nat → Nat → Prop} (h : Sim n gs gs' R Q) {c c' u v u' v' : Nat} (hc : Img gs.length Q c c') (hu : R u u') (hv : R v v') (ha : Adj gs c u v) : Adj gs' c' u' v' := by
  obtain ⟨i, g, h1, h2, h3⟩ := ha
  have hl := (List.getElem?_eq_some_iff.1 h1).1
  obtain ⟨i', hq⟩ := h.gap.to i hl
  have hl' : i' < gs'.length := by rw [h.len]; exact (h.gap.lt i i' hq).2
  have h4 : gs'[i']? = some gs'[i'] := List.getElem?_eq_getElem hl'
  have h5 := h.gp i i' g _ hq h1 h4
  refine ⟨i', _, h4, by rw [← hc.bit i i' hq]; exact h2, ?_⟩
  rcases h3 with ⟨h6, h7⟩ | ⟨h6, h7⟩
  · right
    rw [h6] at h5; rw [h7] at h5
    exact ⟨(h.bin.f u _ _ h5.1 hu), (h.bin.f v _ _ h5.2 hv)⟩
  · left
    rw [h6] at h5; rw [h7] at h5
    exact ⟨(h.bin.f u _ _ h5.2 hu), (h.bin.f v _ _ h5.1 hv)⟩
theorem Sim.spr {n : Nat} {gs gs' : List Gp} {R Q : Nat → Nat → Prop} (h : Sim n gs gs' R Q) {c c' m m' : Nat} (hc : Img gs.length Q c c') (hm : Img n R m m') : Img n R (spr gs c m) (spr gs' c' m') := by
  refine ⟨Z2q h.wth hm.lt, Z2q h.symm.wth hm.lt', fun u u' hu => ?_⟩
  rw [Bool.eq_iff_iff, spr_test, spr_test]
  constructor
  · rintro (h1 | ⟨w, h1, h2⟩)
    · exact .inl (by rw [← hm.bit u u' hu]; exact h1)
    · obtain ⟨w', hw⟩ := h.bin.to w (h2.lt h.wth).1
      exact .inr ⟨w', by rw [← hm.bit w w' hw]; exact h1, h.adj hc hw hu h2⟩
  · rintro (h1 | ⟨w', h1, h2⟩)
    · exact .inl (by rw [hm.bit u u' hu]; exact h1)
    · obtain ⟨w, hw⟩ := h.bin.fr w' (h2.lt h.symm.wth).1
      exact .inr ⟨w, by rw [hm.bit w w' hw]; exact h1, h.symm.adj (by rw [h.len]; exact hc.symm) hw hu h2⟩
theorem Sim.lv {n : Nat} {gs gs' : List Gp} {R Q : Nat → Nat → Prop} (h : Sim n gs gs' R Q) {c c' m m' : Nat} (hc : Img gs.length Q c c') (hm : Img n R m m') : ∀ t, Img n R (lv gs c m t) (lv gs' c' m' t)
  | 0 => hm
  | t + 1 => h.spr hc (h.lv hc hm t)
theorem Sim.wk {n : Nat} {gs gs' : List Gp} {R Q : Nat → Nat → Prop} (h : Sim n gs gs' R Q) {c c' m m' u u' : Nat} (hc : Img gs.length Q c c') (hm : Img n R m m') (hu : R u u') : wk gs c m u = wk gs' c' m' u' := by
  unfold Go.Proofs.YthbjpnmclokinaaGreat.wk
  rw [show (fun t => (Go.Proofs.YthbjpnmclokinaaGreat.lv gs c m t).testBit u) = fun t => (Go.Proofs.YthbjpnmclokinaaGreat.lv gs' c' m' t).testBit u' from funext fun t => (h.lv hc hm t).bit u u' hu]
theorem Sim.shut {n : Nat} {gs gs' : List Gp} {R Q : Nat → Nat → Prop} (h : Sim n gs gs' R Q) {c c' S S' K K' : Nat} (hc : Img gs.length Q c c') (hS : Img n R S S') (hK : Img n R K K') (hs : Shut gs c S K) : Shut gs' c' S' K' := fun t v' hv => by
  obtain ⟨v, hr⟩ := h.bin.fr v' (Z02 (h.lv hc hS t).lt' hv)
  rw [← hK.bit v v' hr]
  exact hs t v (by rw [(h.lv hc hS t).bit v v' hr]; exact hv)
theorem Sim.cutLe {n : Nat} {gs gs' : List Gp} {R Q : Nat → Nat → Prop} (h : Sim n gs gs' R Q) {S S' K K' m m' : Nat} (hS : Img n R S S') (hK : Img n R K K') (h1 : Cut gs S K m) (h2 : Cut gs' S' K' m') : m' ≤ m := by
  obtain ⟨C, h3, h4, h5⟩ := h1.1
  obtain ⟨C', h6⟩ := Img.ex h.gap h3
  have h7 := h2.2 _ ⟨C', by rw [h.len]; exact h6.lt', h.shut h6 hS hK h4, rfl⟩
  rw [h.len, ← h6.cnt h.gap, h5] at h7; exact h7
theorem Sim.cut {n : Nat} {gs gs' : List Gp} {R Q : Nat → Nat → Prop} (h : Sim n gs gs' R Q) {S S' K K' m m' : Nat} (hS : Img n R S S') (hK : Img n R K K') (h1 : Cut gs S K m) (h2 : Cut gs' S' K' m') : m = m' := Nat.le_antisymm (h.symm.cutLe hS.symm hK.symm h2 h1) (h.cutLe hS hK h1 h2)
theorem Sim.pl {n : Nat} {gs gs' : List Gp} {R Q : Nat → Nat → Prop} (h : Sim n gs gs' R Q) {K K' sp m c k : Nat} (hK : Img n R K K') (hp : Pl gs K sp m c k) : ∀ {m' c' : Nat}, Img n R m m' → Img gs.length Q c c' → Pl gs' K' sp m' c' k := by
  induction hp with
  | @stay m c l hl hc hs he hk =>
    intro m' c' hm hc9
    obtain ⟨l', h1⟩ := Img.ex h.gap hl
    have h2 := h.spr (hc9.or h1) hm
    rw [he] at h2
    have e := h1.cnt h.gap
    rw [e]
    rw [← h.len]
    exact .stay (by rw [h.len]; exact h1.lt') (h1.and h.gap hc9 hc) (by rw [h.len, ← e]; exact hs) (h2.unique h.bin hm) (hm.and h.bin hK hk)
  | @go m c l k hl hc hs hne hk hp ih =>
    intro m' c' hm hc9
    obtain ⟨l', h1⟩ := Img.ex h.gap hl
    have h2 := h.spr (hc9.or h1) hm
    have e := h1.cnt h.gap
    rw [e]
    rw [← h.len]
    refine .go (by rw [h.len]; exact h1.lt') (h1.and h.gap hc9 hc) (by rw [h.len, ← e]; exact hs) (fun e2 => hne ?_) (h2.and h.bin hK hk) (ih h2 (hc9.or h1))
    rw [e2] at h2
    exact h2.symm.unique h.bin.symm hm.symm
theorem Sim.plan {n : Nat} {gs gs' : List Gp} {R Q : Nat → Nat → Prop} (h : Sim n gs gs' R Q) {S S' K K' sp k : Nat} (hS : Img n R S S') (hK : Img n R K K') : Pl gs K sp S 0 k ↔ Pl gs' K' sp S' 0 k :=
  ⟨fun hp => h.pl hK hp hS Img.zero, fun hp => h.symm.pl hK.symm hp hS.symm Img.zero⟩
theorem Img.map {n : Nat} {R : Nat → Nat → Prop} (hb : Bij n R) {l l' : List Int} (hl : ∀ x ∈ l, 0 ≤ x ∧ x < n) (h1 : ∀ x ∈ l, ∃ y ∈ l', R x.toNat y.toNat) (h2 : ∀ y ∈ l', 0 ≤ y ∧ ∃ x ∈ l, R x.toNat y.toNat) : Img n R (msk l) (msk l') := by
  refine ⟨Z0V hl, Z0V fun y hy => ?_, fun u u' hu => ?_⟩
  · obtain ⟨h3, x, hx, h4⟩ := h2 y hy
    have := (hb.lt _ _ h4).2
    omega
  · rw [Bool.eq_iff_iff, Zw (fun x hx => (hl x hx).1), Zw (fun y hy => (h2 y hy).1)]
    constructor
    · intro h
      obtain ⟨y, hy, h3⟩ := h1 _ h
      rw [Int.toNat_natCast] at h3
      have := hb.f u _ _ hu h3
      have h5 := (h2 y hy).1
      rw [show (u' : Int) = y by omega]; exact hy
    · intro h
      obtain ⟨_, x, hx, h3⟩ := h2 _ h
      rw [Int.toNat_natCast] at h3
      have := hb.i u _ _ hu h3
      have h5 := (hl x hx).1
      rw [show (u : Int) = x by omega]; exact hx
open Go
structure Ord (p : List Nat) (n : Nat) : Prop where
  len : p.length = n
  nd : p.Nodup
  lt : ∀ i ∈ p, i < n
theorem Ord.nil : Ord [] 0 := ⟨rfl, List.nodup_nil, by simp⟩
theorem Ord.ins {p : List Nat} {n j : Nat} (h : Ord p n) (hj : j ≤ n) : Ord (p.take j ++ n :: p.drop j) (n + 1) := by
  have hp : (p.take j ++ n :: p.drop j).Perm (n :: p) := by
    have h1 := List.perm_middle (a := n) (l₁ := p.take j) (l₂ := p.drop j)
    rwa [List.take_append_drop] at h1
  refine ⟨by rw [hp.length_eq]; simp [h.len], hp.nodup_iff.2 (List.nodup_cons.2 ⟨fun h1 => Nat.lt_irrefl _ (h.lt n h1), h.nd⟩), fun i hi => ?_⟩
  rcases List.mem_cons.1 (hp.mem_iff.1 hi) with rfl | h1
  · omega
  · have := h.lt i h1; omega
theorem Ord.bij {p : List Nat} {n : Nat} (h : Ord p n) : Bij n fun u u' => p[u]? = some u' := by
  have hl := h.len
  refine ⟨fun u u' h1 => ⟨by have := (List.getElem?_eq_some_iff.1 h1).1; omega, h.lt u' (List.mem_of_getElem? h1)⟩, fun u hu => ⟨_, List.getElem?_eq_getElem (by omega)⟩, fun u' hu => ?_, fun u u' v' h1 h2 => by rw [h1] at h2; exact Option.some.inj h2, fun u v u' h1 h2 => ?_⟩
  · have hm : u' ∈ p := Classical.byContradiction fun hn => by
      have h1 := List.Nodup.length_le_of_subset (l₁ := u' :: p) (l₂ := List.range n) (List.nodup_cons.2 ⟨hn, h.nd⟩) (fun x hx => by
        rcases List.mem_cons.1 hx with rfl | hx
        · exact List.mem_range.2 hu
        · exact List.mem_range.2 (h.lt x hx))
      rw [List.length_cons, List.length_range] at h1; omega
    exact List.getElem?_of_mem hm
  · obtain ⟨a1, a2⟩ := List.getElem?_eq_some_iff.1 h1
    obtain ⟨b1, b2⟩ := List.getElem?_eq_some_iff.1 h2
    have hp := List.nodup_iff_pairwise_ne.1 h.nd
    rcases Nat.lt_trichotomy u v with h3 | h3 | h3
    · exact absurd (a2.trans b2.symm) (List.pairwise_iff_getElem.1 hp u v a1 b1 h3)
    · exact h3
    · exact absurd (b2.trans a2.symm) (List.pairwise_iff_getElem.1 hp v u b1 a1 h3)
def inl (p : List Nat) : List Int := p.map fun (j : Nat) => (j : Int)
theorem Zco {p : List Nat} {u u' : Nat} (h : p[u]? = some u') : na (inl p) u = u' := Z5W (by unfold inl; rw [List.getElem?_map, h]; rfl)
def imG (p : List Nat) (g : Gp) : Gp := ⟨na (inl p) g.b.toNat, na (inl p) g.a.toNat⟩
def imS (p : List Nat) (x : Sgt) : Sgt := ⟨x.week, na (inl p) x.bin.toNat, x.seen⟩
def rnm (p : List Nat) (l : List Int) : List Int := l.map fun k => na (inl p) k.toNat
structure RnG (p s : List Nat) (gs : List Gp) (i : Nat) (G : List Gp) : Prop where
  len : G.length = gs.length
  at_ : ∀ j, j < i → ∀ g k, gs[j]? = some g → s[j]? = some k → G[k]? = some (imG p g)
theorem RnG.step {p s : List Nat} {gs G : List Gp} {i k : Nat} {g : Gp} (h : RnG p s gs i G) (hs : Ord s gs.length) (hg : gs[i]? = some g) (hk : s[i]? = some k) : RnG p s gs (i + 1) (G.set k (imG p g)) := by
  have hb := hs.bij
  have hkl := (hb.lt i k hk).2
  refine ⟨by rw [List.length_set]; exact h.len, fun j hj g' k' h1 h2 => ?_⟩
  by_cases e : j = i
  · subst e
    rw [hg] at h1; rw [hk] at h2
    obtain rfl := Option.some.inj h1
    obtain rfl := Option.some.inj h2
    exact List.getElem?_set_self (by rw [h.len]; exact hkl)
  · have hne : k ≠ k' := fun e2 => by subst e2; exact e (hb.i j i k h2 hk)
    rw [List.getElem?_set_ne hne]
    exact h.at_ j (by omega) g' k' h1 h2
structure RnS (p s : List Nat) (ss : List Sgt) (i : Nat) (S : List Sgt) : Prop where
  len : S.length = ss.length
  at_ : ∀ j, j < i → ∀ x k, ss[j]? = some x → s[j]? = some k → S[k]? = some (imS p x)
theorem RnS.step {p s : List Nat} {ss S : List Sgt} {i k : Nat} {x : Sgt} (h : RnS p s ss i S) (hs : Ord s ss.length) (hg : ss[i]? = some x) (hk : s[i]? = some k) : RnS p s ss (i + 1) (S.set k (imS p x)) := by
  have hb := hs.bij
  have hkl := (hb.lt i k hk).2
  refine ⟨by rw [List.length_set]; exact h.len, fun j hj g' k' h1 h2 => ?_⟩
  by_cases e : j = i
  · subst e
    rw [hg] at h1; rw [hk] at h2
    obtain rfl := Option.some.inj h1
    obtain rfl := Option.some.inj h2
    exact List.getElem?_set_self (by rw [h.len]; exact hkl)
  · have hne : k ≠ k' := fun e2 => by subst e2; exact e (hb.i j i k h2 hk)
    rw [List.getElem?_set_ne hne]
    exact h.at_ j (by omega) g' k' h1 h2
structure Rnm (q t : Hse) (p s r : List Nat) : Prop where
  bins : t.bins = q.bins
  op : Ord p q.bins.toNat
  os : Ord s q.gaps.length
  or : Ord r q.sights.length
  gs : RnG p s q.gaps q.gaps.length t.gaps
  ss : RnS p r q.sights q.sights.length t.sights
theorem Rnm.p {q t : Hse} {p s r : List Nat} (h : Rnm q t p s r) {u : Nat} (hu : u < q.bins.toNat) : ∃ u', p[u]? = some u' ∧ u' < q.bins.toNat ∧ na (inl p) u = u' := by
  obtain ⟨u', h1⟩ := h.op.bij.to u hu
  exact ⟨u', h1, (h.op.bij.lt u u' h1).2, Zco h1⟩
theorem Rnm.gap {q t : Hse} {p s r : List Nat} (h : Rnm q t p s r) {g' : Gp} (hg : g' ∈ t.gaps) : ∃ g ∈ q.gaps, g' = imG p g := by
  obtain ⟨k, hk⟩ := List.getElem?_of_mem hg
  have hkl := (List.getElem?_eq_some_iff.1 hk).1
  rw [h.gs.len] at hkl
  obtain ⟨i, hi⟩ := h.os.bij.fr k hkl
  have hil := (h.os.bij.lt i k hi).1
  have h1 := h.gs.at_ i hil _ k (List.getElem?_eq_getElem hil) hi
  rw [hk] at h1
  exact ⟨_, List.getElem_mem hil, Option.some.inj h1⟩
theorem Rnm.sgt {q t : Hse} {p s r : List Nat} (h : Rnm q t p s r) {x' : Sgt} (hx : x' ∈ t.sights) : ∃ x ∈ q.sights, x' = imS p x := by
  obtain ⟨k, hk⟩ := List.getElem?_of_mem hx
  have hkl := (List.getElem?_eq_some_iff.1 hk).1
  rw [h.ss.len] at hkl
  obtain ⟨i, hi⟩ := h.or.bij.fr k hkl
  have hil := (h.or.bij.lt i k hi).1
  have h1 := h.ss.at_ i hil _ k (List.getElem?_eq_getElem hil) hi
  rw [hk] at h1
  exact ⟨_, List.getElem_mem hil, Option.some.inj h1⟩
theorem Rnm.sgt2 {q t : Hse} {p s r : List Nat} (h : Rnm q t p s r) {x : Sgt} (hx : x ∈ q.sights) : imS p x ∈ t.sights := by
  obtain ⟨i, hi⟩ := List.getElem?_of_mem hx
  have hil := (List.getElem?_eq_some_iff.1 hi).1
  obtain ⟨k, hk⟩ := h.or.bij.to i hil
  exact List.mem_of_getElem? (h.ss.at_ i hil x k hi hk)
theorem Rnm.ok {q t : Hse} {p s r : List Nat} (h : Rnm q t p s r) (hq : q.ok) : t.ok := by
  have hb := hq.bins
  refine ⟨by rw [h.bins]; exact hb, by rw [h.gs.len]; exact hq.gl, by rw [h.ss.len]; exact hq.sl, fun g' hg => ?_, fun x' hx => ?_⟩
  · obtain ⟨g, h1, rfl⟩ := h.gap hg
    have h2 := hq.gaps g h1
    obtain ⟨a', a1, a2, a3⟩ := h.p (u := g.a.toNat) (by omega)
    obtain ⟨b', b1, b2, b3⟩ := h.p (u := g.b.toNat) (by omega)
    have hne : a' ≠ b' := fun e => by
      subst e
      have := h.op.bij.i _ _ _ a1 b1
      omega
    unfold imG
    rw [a3, b3, h.bins]
    exact ⟨by dsimp only; omega, by dsimp only; omega, by dsimp only; omega⟩
  · obtain ⟨x, h1, rfl⟩ := h.sgt hx
    have h2 := hq.sights x h1
    obtain ⟨a', a1, a2, a3⟩ := h.p (u := x.bin.toNat) (by omega)
    unfold imS
    rw [a3, h.bins]
    exact ⟨h2.1, by dsimp only; omega, by dsimp only; omega⟩
theorem Rnm.sim {q t : Hse} {p s r : List Nat} (h : Rnm q t p s r) (hq : q.ok) : Sim q.bins.toNat q.gaps t.gaps (fun u u' => p[u]? = some u') (fun i i' => s[i]? = some i') := ⟨h.op.bij, h.os.bij, h.gs.len, fun i i' g g' h1 h2 h3 => by
  have h4 := h.gs.at_ i (List.getElem?_eq_some_iff.1 h2).1 g i' h2 h1
  rw [h3] at h4
  obtain rfl := Option.some.inj h4
  have h5 := hq.gaps g (List.mem_of_getElem? h2)
  have hb := hq.bins
  obtain ⟨a', a1, a2, a3⟩ := h.p (u := g.a.toNat) (by omega)
  obtain ⟨b', b1, b2, b3⟩ := h.p (u := g.b.toNat) (by omega)
  unfold imG
  rw [a3, b3]
  exact ⟨a1, b1⟩⟩
theorem Rnm.inr {q t : Hse} {p s r : List Nat} (h : Rnm q t p s r) {l : List Int} (hl : ∀ x ∈ l, 0 ≤ x ∧ x < q.bins) : ∀ y ∈ rnm p l, 0 ≤ y ∧ y < t.bins := fun y hy => by
  obtain ⟨x, hx, rfl⟩ := List.mem_map.1 hy
  have := hl x hx
  obtain ⟨a', a1, a2, a3⟩ := h.p (u := x.toNat) (by omega)
  rw [a3, h.bins]; omega
theorem Rnm.eqv {q t : Hse} {p s r : List Nat} (h : Rnm q t p s r) {x y : Int} (hx : 0 ≤ x ∧ x < q.bins) (hy : 0 ≤ y ∧ y < q.bins) (e : na (inl p) x.toNat = na (inl p) y.toNat) : x = y := by
  obtain ⟨a', a1, a2, a3⟩ := h.p (u := x.toNat) (by omega)
  obtain ⟨b', b1, b2, b3⟩ := h.p (u := y.toNat) (by omega)
  rw [a3, b3] at e
  obtain rfl : a' = b' := by omega
  have := h.op.bij.i _ _ _ a1 b1
  omega
theorem Rnm.ls {q t : Hse} {p s r : List Nat} (h : Rnm q t p s r) {l : List Int} (hl : ∀ x ∈ l, 0 ≤ x ∧ x < q.bins) (hn : l.Nodup) : ZS t.bins (rnm p l) = 0 := Z3i (h.inr hl) (by
  unfold rnm
  rw [List.nodup_iff_pairwise_ne, List.pairwise_map]
  exact (List.nodup_iff_pairwise_ne.1 hn).imp_of_mem fun {a b} ha hb hab e => hab (h.eqv (hl a ha) (hl b hb) e))
theorem Rnm.apart {q t : Hse} {p s r : List Nat} (h : Rnm q t p s r) {l k : List Int} (hl : ∀ x ∈ l, 0 ≤ x ∧ x < q.bins) (hk : ∀ x ∈ k, 0 ≤ x ∧ x < q.bins) (ha : ∀ x ∈ l, x ∉ k) : ∀ x ∈ rnm p l, x ∉ rnm p k := fun x h1 h2 => by
  obtain ⟨y, hy, rfl⟩ := List.mem_map.1 h1
  obtain ⟨z, hz, e⟩ := List.mem_map.1 h2
  have := h.eqv (hk z hz) (hl y hy) e
  subst this
  exact ha z hy hz
theorem Rnm.ex {q t : Hse} {p s r : List Nat} (h : Rnm q t p s r) (hq : q.ok) {m m' : Nat} (hm : Img q.bins.toNat (fun u u' => p[u]? = some u') m m') : Z1s q.gaps m q.sights = Z1s t.gaps m' t.sights := by
  have hb := hq.bins
  have key : ∀ x ∈ q.sights, exS q.gaps m x = exS t.gaps m' (imS p x) := fun x hx => by
    have h1 := hq.sights x hx
    obtain ⟨a', a1, a2, a3⟩ := h.p (u := x.bin.toNat) (by omega)
    unfold exS imS
    rw [(h.sim hq).wk Img.zero hm a1, a3, Int.toNat_natCast]
  unfold Z1s
  rw [Bool.eq_iff_iff, List.all_eq_true, List.all_eq_true]
  constructor
  · intro h1 x' hx
    obtain ⟨x, h2, rfl⟩ := h.sgt hx
    rw [← key x h2]; exact h1 x h2
  · intro h1 x hx
    rw [key x hx]; exact h1 _ (h.sgt2 hx)
theorem Rnm.agr {q t : Hse} {p s r : List Nat} (h : Rnm q t p s r) (hq : q.ok) (ha : q.agr q.sights = true) : t.agr t.sights = true := by
  obtain ⟨m, h1, h2⟩ := (Z0m hq hq.sights).1 ha
  obtain ⟨m', h3⟩ := Img.ex h.op.bij h1
  have hok := h.ok hq
  exact (Z0m hok hok.sights).2 ⟨m', by rw [h.bins]; exact h3.lt', by rw [← h.ex hq h3]; exact h2⟩
theorem Z6e {α : Type} {l : List α} {k : Nat} {x : α} (h : l[k]? = some x) : l.take (k + 1) = l.take k ++ [x] := by rw [List.take_add_one, h]; rfl
end Go.Proofs.YthbjpnmclokinaaGreat
namespace Go.Proofs.YthbjpnmclokinaaGreat
set_option linter.unusedSimpArgs false
set_option linter.unusedVariables false
def nxt (gs : List Gp) (cl now : List Int) : Nat → List Int
  | 0 => now
  | i + 1 => match gs[i]? with
    | some g => bif ZH cl i then nxt gs cl now i else
      (fun o => bif ZH now g.b && !ZH o g.a then o ++ [g.a] else o) (bif ZH now g.a && !ZH (nxt gs cl now i) g.b then nxt gs cl now i ++ [g.b] else nxt gs cl now i)
    | none => nxt gs cl now i
structure Lm (l : List Int) (m : Nat) : Prop where
  rg : ∀ x ∈ l, 0 ≤ x ∧ x < 7
  nd : l.Nodup
  ms : msk l = m
theorem Zdc (l : List Int) (x : Int) : msk (l ++ [x]) = msk l ||| 2 ^ x.toNat := by
  unfold msk
  rw [List.foldl_append]; rfl
theorem Lm.has {l : List Int} {m : Nat} (h : Lm l m) {x : Int} (hx : 0 ≤ x) : ZH l x = m.testBit x.toNat := by
  rw [← h.ms, Bool.eq_iff_iff, hasI_iff, Zw (fun k hk => (h.rg k hk).1), show ((x.toNat : Nat) : Int) = x by omega]
theorem Lm.add {l : List Int} {m : Nat} (h : Lm l m) {x : Int} (hx : 0 ≤ x ∧ x < 7) (hn : ZH l x = false) : Lm (l ++ [x]) (m ||| 2 ^ x.toNat) := by
  refine ⟨fun y hy => ?_, ?_, by rw [Zdc, h.ms]⟩
  · rcases List.mem_append.1 hy with h1 | h1
    · exact h.rg y h1
    · rw [List.mem_singleton.1 h1]; exact hx
  · refine List.nodup_append.2 ⟨h.nd, by simp, fun a ha b hb e => ?_⟩
    rw [List.mem_singleton] at hb
    subst hb; subst e
    rw [hasI_iff.2 ha] at hn; cases hn
theorem ZdF {m v : Nat} (h : m.testBit v = true) : m ||| 2 ^ v = m := ZM fun k => by
  rw [Nat.testBit_or, Nat.testBit_two_pow]
  by_cases e : v = k
  · subst e; rw [h]; rfl
  · rw [decide_eq_false e, Bool.or_false]
theorem Lm.way {l : List Int} {m : Nat} (h : Lm l m) {x : Int} (hx : 0 ≤ x ∧ x < 7) (p : Bool) : Lm (bif p && !ZH l x then l ++ [x] else l) (m ||| (bif p then 2 ^ x.toNat else 0)) := by
  cases p with
  | false => rw [Bool.false_and, cond_false, cond_false, Nat.or_zero]; exact h
  | true =>
    rw [Bool.true_and, cond_true]
    cases hb : ZH l x with
    | false => rw [Bool.not_false, cond_true]; exact h.add hx hb
    | true =>
      rw [Bool.not_true, cond_false]
      rw [h.has hx.1] at hb
      rw [ZdF hb]; exact h
theorem ZbA {gs : List Gp} {cl now : List Int} {c m : Nat} (hg : ∀ g ∈ gs, (0 ≤ g.a ∧ g.a < 7) ∧ 0 ≤ g.b ∧ g.b < 7) (hc : ∀ i : Nat, ZH cl (i : Int) = c.testBit i) (hn : Lm now m) : ∀ i, Lm (nxt gs cl now i) (Z3V gs c m i)
  | 0 => hn
  | i + 1 => by
    have ih := ZbA hg hc hn i
    unfold nxt Z3V
    cases hgi : gs[i]? with
    | none => exact ih
    | some g =>
      dsimp only
      rw [hc i]
      cases c.testBit i with
      | true => exact ih
      | false =>
        have h1 := hg g (List.mem_of_getElem? hgi)
        rw [cond_false, cond_false]
        have h2 := ih.way h1.2 (ZH now g.a)
        have h3 := h2.way h1.1 (ZH now g.b)
        unfold gpo
        rw [← Nat.or_assoc]
        rw [hn.has h1.1.1, hn.has h1.2.1] at h3
        rw [hn.has h1.1.1, hn.has h1.2.1]
        exact h3
def Z7n (gs : List Gp) (cl now : List Int) : List Int := nxt gs cl now gs.length
theorem ZcN {gs : List Gp} {cl now : List Int} {c m : Nat} (hg : ∀ g ∈ gs, (0 ≤ g.a ∧ g.a < 7) ∧ 0 ≤ g.b ∧ g.b < 7) (hc : ∀ i : Nat, ZH cl (i : Int) = c.testBit i) (hn : Lm now m) : Lm (Z7n gs cl now) (spr gs c m) := by
  have := ZbA hg hc hn gs.length
  rw [Z75] at this; exact this
theorem Lm.len {l : List Int} {m : Nat} (h : Lm l m) : l.length = cnt 7 m := by
  rw [← Z2O, show l.length = (l.map Int.toNat).length from (List.length_map _).symm]
  refine List.Perm.length_eq ((List.perm_ext_iff_of_nodup ?_ (List.nodup_range.sublist List.filter_sublist)).2 fun x => ?_)
  · rw [List.nodup_iff_pairwise_ne, List.pairwise_map]
    exact (List.nodup_iff_pairwise_ne.1 h.nd).imp_of_mem fun {a b} ha hb hab e => by
      have := h.rg a ha; have := h.rg b hb; omega
  · rw [List.mem_filter, List.mem_range, List.mem_map, ← h.ms, Zw (fun k hk => (h.rg k hk).1)]
    constructor
    · rintro ⟨y, hy, rfl⟩
      have := h.rg y hy
      exact ⟨by omega, by rw [show ((y.toNat : Nat) : Int) = y by omega]; exact hy⟩
    · rintro ⟨_, hx⟩; exact ⟨_, hx, Int.toNat_natCast x⟩
theorem Lm.few {l : List Int} {m : Nat} (h : Lm l m) : l.length ≤ 7 := by rw [h.len]; exact Z2l _ _
theorem Lm.lt {l : List Int} {m : Nat} (h : Lm l m) : m < 2 ^ 7 := by rw [← h.ms]; exact Z0V h.rg
theorem Lm.of {n : Int} {l : List Int} (hn : n ≤ 7) (h : ZS n l = 0) : Lm l (msk l) := by
  unfold ZS at h
  cases h1 : l.all fun k => inB k 0 (n - 1) with
  | false => rw [h1] at h; cases h
  | true =>
    rw [h1] at h
    cases h2 : (List.range l.length).any (Z5x l) with
    | true => rw [h2] at h; cases h
    | false =>
      refine ⟨fun x hx => ?_, ?_, rfl⟩
      · have := List.all_eq_true.1 h1 x hx
        simp only [inB, Bool.and_eq_true, decide_eq_true_eq] at this; omega
      · rw [List.nodup_iff_pairwise_ne, List.pairwise_iff_getElem]
        intro i j hi hj hij e
        have h3 := List.any_eq_false.1 h2 j (List.mem_range.2 hj)
        apply h3
        unfold Z5x
        rw [hasI_iff, show na l j = l[j] from by unfold na; rw [List.getD_eq_getElem?_getD, List.getElem?_eq_getElem hj]; rfl, ← e]
        exact List.mem_of_getElem? (by rw [List.getElem?_take, if_pos hij, List.getElem?_eq_getElem hi])
def fw (gs : List Gp) (c m w k : Nat) : Int := match (List.range w).find? fun t => (lv gs c m t).testBit k with
  | some t => (t : Int)
  | none => -1
theorem Zce (gs : List Gp) (c m k : Nat) : fw gs c m 0 k = -1 := rfl
theorem Z1K (gs : List Gp) (c m w k : Nat) : (∃ t : Nat, t < w ∧ fw gs c m w k = t ∧ (lv gs c m t).testBit k = true ∧ ∀ i : Nat, i < t → (lv gs c m i).testBit k = false) ∨ (fw gs c m w k = -1 ∧ ∀ i : Nat, i < w → (lv gs c m i).testBit k = false) := by
  unfold fw
  rcases hf : (List.range w).find? fun t => (lv gs c m t).testBit k with _ | t
  · refine .inr ⟨rfl, fun i hi => ?_⟩
    have := List.find?_eq_none.1 hf i (List.mem_range.2 hi)
    simpa using this
  · obtain ⟨h1, lp, lq, h2, h3⟩ := List.find?_eq_some_iff_append.1 hf
    have hm : t ∈ List.range w := by rw [h2]; simp
    refine .inl ⟨t, List.mem_range.1 hm, rfl, h1, fun i hi => ?_⟩
    have hi7 : i ∈ List.range w := List.mem_range.2 (by have := List.mem_range.1 hm; omega)
    have hp := List.pairwise_lt_range (n := w)
    rw [h2] at hi7 hp
    rw [List.pairwise_append] at hp
    rcases List.mem_append.1 hi7 with h4 | h4
    · have := h3 i h4; simpa using this
    · rcases List.mem_cons.1 h4 with rfl | h4
      · omega
      · have := (List.pairwise_cons.1 hp.2.1).1 i h4; omega
theorem ZcW {gs : List Gp} {c m w k : Nat} : fw gs c m (w + 1) k = bif decide (0 ≤ fw gs c m w k) then fw gs c m w k else bif (lv gs c m w).testBit k then (w : Int) else -1 := by
  rcases Z1K gs c m w k with ⟨t, h1, h2, h3, h4⟩ | ⟨h1, h2⟩
  · rw [h2, decide_eq_true (by omega), cond_true]
    rcases Z1K gs c m (w + 1) k with ⟨t', g1, g2, g3, g4⟩ | ⟨g1, g2⟩
    · rw [g2]
      rcases Nat.lt_trichotomy t t' with h | h | h
      · rw [g4 t h] at h3; cases h3
      · rw [h]
      · rw [h4 t' h] at g3; cases g3
    · rw [g2 t (by omega)] at h3; cases h3
  · rw [h1, decide_eq_false (by decide), cond_false]
    rcases Z1K gs c m (w + 1) k with ⟨t', g1, g2, g3, g4⟩ | ⟨g1, g2⟩
    · have : t' = w := by
        rcases Nat.lt_or_ge t' w with h | h
        · rw [h2 t' h] at g3; cases g3
        · omega
      subst this
      rw [g2, g3]; rfl
    · rw [g1, g2 w (by omega)]; rfl
def wkC (gs : List Gp) (c m k : Nat) : Int := bif decide (far ≤ wk gs c m k) then -1 else wk gs c m k
theorem Zgb {gs : List Gp} {c m n k : Nat} (hn7 : n ≤ 7) (hn1 : 1 ≤ n) (hw : Wth gs n) (hm : m < 2 ^ n) : fw gs c m n k = wkC gs c m k := by
  unfold wkC
  rcases Z1e gs c m k with ⟨t, h1, h2, h3, h4⟩ | ⟨h1, h2⟩
  · rw [h2, decide_eq_false (by unfold far; omega), cond_false]
    rcases Z1K gs c m n k with ⟨t', g1, g2, g3, g4⟩ | ⟨g1, g2⟩
    · rw [g2]
      rcases Nat.lt_trichotomy t t' with h | h | h
      · rw [g4 t h] at h3; cases h3
      · rw [h]
      · rw [h4 t' h] at g3; cases g3
    · rcases Nat.lt_or_ge t n with h | h
      · rw [g2 t h] at h3; cases h3
      · rw [Z6a hw hm (t := n - 1) (by omega) (by omega), g2 (n - 1) (by omega)] at h3; cases h3
  · rw [h1, decide_eq_true (Int.le_refl _), cond_true]
    rcases Z1K gs c m n k with ⟨t', g1, g2, g3, g4⟩ | ⟨g1, g2⟩
    · rw [h2 t' (by omega)] at g3; cases g3
    · exact g1
def wkL (gs : List Gp) (c m n : Nat) : List Int := (List.range n).map (wkC gs c m)
theorem Z1j (gs : List Gp) (c m n : Nat) : (wkL gs c m n).length = n := by simp [wkL]
theorem Z5e {gs : List Gp} {c m n k : Nat} (hk : k < n) : na (wkL gs c m n) k = wkC gs c m k := by
  unfold na wkL; rw [List.getD_eq_getElem?_getD, List.getElem?_map, List.getElem?_range hk]; rfl
structure RwI (gs : List Gp) (c m n w : Nat) (met : List Int) (o : List Int) : Prop where
  len : o.length = n
  at_ : ∀ k < n, na o k = bif decide (0 ≤ fw gs c m w k) then fw gs c m w k else bif ZH met (k : Int) then (w : Int) else -1
theorem RwI.put {gs : List Gp} {c m n w : Nat} {met o : List Int} {x : Int} (h : RwI gs c m n w met o) (hx : 0 ≤ x ∧ x.toNat < n) (hn : na o x.toNat < 0) : RwI gs c m n w (met ++ [x]) (o.set x.toNat (w : Int)) := by
  have hl := h.len
  refine ⟨by rw [List.length_set]; exact hl, fun k hk => ?_⟩
  have h1 := h.at_ k hk
  by_cases e : x.toNat = k
  · subst e
    have e1 : na (o.set x.toNat (w : Int)) x.toNat = (w : Int) := by unfold na; rw [List.getD_eq_getElem?_getD, List.getElem?_set_self (by omega)]; rfl
    rw [e1]
    have h2 : ¬ 0 ≤ fw gs c m w x.toNat := fun h9 => by rw [decide_eq_true h9, cond_true] at h1; omega
    rw [decide_eq_false h2, cond_false, show ((x.toNat : Nat) : Int) = x by omega, hasI_iff.2 (List.mem_append_right _ (by simp))]; rfl
  · have e1 : na (o.set x.toNat (w : Int)) k = na o k := by unfold na; simp only [List.getD_eq_getElem?_getD, List.getElem?_set_ne e]
    have e2 : ZH (met ++ [x]) (k : Int) = ZH met (k : Int) := by
      rw [Bool.eq_iff_iff, hasI_iff, hasI_iff, List.mem_append, List.mem_singleton]
      exact ⟨fun h9 => h9.resolve_right (fun e9 => by omega), .inl⟩
    rw [e1, e2]; exact h1
theorem RwI.skip {gs : List Gp} {c m n w : Nat} {met o : List Int} {x : Int} (h : RwI gs c m n w met o) (hx : 0 ≤ x ∧ x.toNat < n) (hn : 0 ≤ na o x.toNat) : RwI gs c m n w (met ++ [x]) o := by
  refine ⟨h.len, fun k hk => ?_⟩
  have h1 := h.at_ k hk
  by_cases e : x.toNat = k
  · subst e
    rw [h1]
    rw [h1] at hn
    by_cases h2 : 0 ≤ fw gs c m w x.toNat
    · rw [decide_eq_true h2]; rfl
    · rw [decide_eq_false h2, cond_false] at hn ⊢
      rw [cond_false, hasI_iff.2 (show ((x.toNat : Nat) : Int) ∈ met ++ [x] from List.mem_append_right _ (by simp; omega))]
      cases h3 : ZH met ((x.toNat : Nat) : Int) with
      | true => rfl
      | false => rw [h3] at hn; exact absurd hn (show ¬ (0 : Int) ≤ -1 by decide)
  · have e2 : ZH (met ++ [x]) (k : Int) = ZH met (k : Int) := by
      rw [Bool.eq_iff_iff, hasI_iff, hasI_iff, List.mem_append, List.mem_singleton]
      exact ⟨fun h9 => h9.resolve_right (fun e9 => by omega), .inl⟩
    rw [e2]; exact h1
theorem RwI.week {gs : List Gp} {c m n w : Nat} {now o : List Int} (h : RwI gs c m n w now o) (hn : Lm now (lv gs c m w)) : RwI gs c m n (w + 1) [] o := ⟨h.len, fun k hk => by
  rw [h.at_ k hk, ZcW, hn.has (by omega), Int.toNat_natCast]
  cases h1 : decide (0 ≤ fw gs c m w k) with
  | true => rw [cond_true, h1]; rfl
  | false =>
    rw [cond_false]
    cases (lv gs c m w).testBit k with
    | true => rw [cond_true, decide_eq_true (show (0 : Int) ≤ (w : Int) by omega)]; rfl
    | false => rfl⟩
theorem RwI.done {gs : List Gp} {c m n : Nat} {o : List Int} (h : RwI gs c m n n [] o) (hn7 : n ≤ 7) (hn1 : 1 ≤ n) (hw : Wth gs n) (hm : m < 2 ^ n) : o = wkL gs c m n := by
  apply List.ext_getElem?
  intro k
  rcases Nat.lt_or_ge k n with hk | hk
  · have h1 := h.at_ k hk
    have h2 : o[k]? = some (na o k) := by unfold na; rw [List.getD_eq_getElem?_getD, List.getElem?_eq_getElem (by rw [h.len]; exact hk)]; rfl
    rw [h2, h1]
    unfold wkL
    rw [List.getElem?_map, List.getElem?_range hk]
    show some _ = some (wkC gs c m k)
    rw [← Zgb hn7 hn1 hw hm]
    by_cases h3 : 0 ≤ fw gs c m n k
    · rw [decide_eq_true h3]; rfl
    · rw [decide_eq_false h3]
      rcases Z1K gs c m n k with ⟨t, _, h4, _⟩ | ⟨h4, _⟩
      · omega
      · rw [h4]; rfl
  · rw [List.getElem?_eq_none (by rw [h.len]; exact hk), List.getElem?_eq_none (by rw [Z1j]; exact hk)]
open Go
theorem Zfh : Z47 Tryz.prog 110 = some 2 := by kernel_rfl
theorem Z57 : Z47 Tryz.prog 35 = some 3 := by kernel_rfl
theorem ZdP : cal Tryz.prog 11 = true := by kernel_rfl
theorem Z9A : cal Tryz.prog 72 = true := by kernel_rfl
theorem Z5d : cal Tryz.prog 73 = true := by kernel_rfl
theorem ZfR : cal Tryz.prog 76 = true := by kernel_rfl
theorem ZeY : Z0s Tryz.prog 110 = some 2 := by kernel_rfl
theorem ZgH : elN Tryz.prog 32 = some 2 := by kernel_rfl
theorem Zdw : elN Tryz.prog 33 = some 3 := by kernel_rfl
theorem Z19 : Z1U Tryz.prog 110 0 = some 0 := by kernel_rfl
theorem Z1A : Z1U Tryz.prog 110 1 = some 1 := by kernel_rfl
theorem Z52 : Z1U Tryz.prog 111 0 = some 0 := by kernel_rfl
theorem Z26 : Z1U Tryz.prog 111 1 = some 1 := by kernel_rfl
theorem Z0n : Z1U Tryz.prog 35 0 = some 0 := by kernel_rfl
theorem Z3G : Z1U Tryz.prog 35 1 = some 1 := by kernel_rfl
theorem Z0D : Z1U Tryz.prog 35 2 = some 2 := by kernel_rfl
theorem ZcD : Z5R Tryz.prog 32 = true := by kernel_rfl
theorem Z5L : Z5R Tryz.prog 33 = true := by kernel_rfl
theorem Zdv : Z2s Tryz.prog 32 = true := by kernel_rfl
theorem Z5X : Z2s Tryz.prog 33 = true := by kernel_rfl
theorem Zc7 : ZO Tryz.prog 110 = some ([.int .i64 0, .int .i64 0]) := by kernel_rfl
theorem Ze3 {n lo hi : Int} (h : decide (n < lo) = true) : true = !(inB n lo hi) := by
  have := of_decide_eq_true h
  unfold inB; rw [decide_eq_false (show ¬ lo ≤ n by omega)]; rfl
theorem Zf8 {n lo hi : Int} (h : decide (n < lo) = false) : decide (hi < n) = !(inB n lo hi) := by
  have := of_decide_eq_false h
  unfold inB; rw [decide_eq_true (show lo ≤ n by omega), Bool.true_and, ← decide_not]; exact decide_eq_decide.2 (by omega)
theorem Zbd {l : List Int} {v : Int} (h : ∀ x ∈ l, x ≠ v) : ZH l v = false := by
  cases hb : ZH l v with
  | false => rfl
  | true => exact absurd rfl (h v (hasI_iff.1 hb))
theorem Z7O {l : List Int} {k : Nat} {x v : Int} (hx : l[k]? = some x) (h : ∀ y ∈ l.take k, y ≠ v) (hn : x ≠ v) : ∀ y ∈ l.take (k + 1), y ≠ v := fun y hy => by
  rw [List.take_add_one, hx] at hy
  rcases List.mem_append.1 hy with h1 | h1
  · exact h y h1
  · rw [List.mem_singleton.1 h1]; exact hn
def fil (v : Int) (B k : Nat) : List Int := List.replicate k v ++ List.replicate (B - k) 0
theorem Z8e {v : Int} {B k : Nat} (h : k ≤ B) : (fil v B k).length = B := by unfold fil; rw [List.length_append, List.length_replicate, List.length_replicate]; omega
theorem Zck {v : Int} {B k : Nat} (h : k < B) : (fil v B k).set k v = fil v B (k + 1) := by
  unfold fil
  rw [List.set_append_right _ _ (by rw [List.length_replicate]; exact Nat.le_refl _), List.length_replicate, Nat.sub_self, show B - k = (B - (k + 1)) + 1 by omega, List.replicate_succ, List.set_cons_zero, List.replicate_succ', List.append_assoc]; rfl
theorem Zb5 (v : Int) (B : Nat) : fil v B 0 = List.replicate B 0 := by unfold fil; rfl
theorem ZcM (v : Int) (B : Nat) : fil v B B = List.replicate B v := by unfold fil; rw [Nat.sub_self]; exact List.append_nil _
theorem Lm.ltn {l : List Int} {m n : Nat} (h : Lm l m) (hm : m < 2 ^ n) : ∀ x ∈ l, 0 ≤ x ∧ x.toNat < n := fun x hx => by
  have h1 := h.rg x hx
  refine ⟨h1.1, ?_⟩
  rcases Nat.lt_or_ge x.toNat n with h2 | h2
  · exact h2
  · have h3 := (Zw (fun k hk => (h.rg k hk).1) x.toNat).2 (by rw [show ((x.toNat : Nat) : Int) = x by omega]; exact hx)
    rw [h.ms] at h3
    rw [Nat.testBit_lt_two_pow (Nat.lt_of_lt_of_le hm (Nat.pow_le_pow_right (by decide) h2))] at h3; cases h3
theorem RwI.start (gs : List Gp) (c m B : Nat) : RwI gs c m B 0 [] (List.replicate B (-1)) := ⟨List.length_replicate, fun k hk => by
  rw [Zce]
  unfold na
  rw [List.getD_eq_getElem?_getD, List.getElem?_replicate, if_pos hk]; rfl⟩
theorem Z5U (gs : List Gp) (cl now : List Int) : ∀ i, (nxt gs cl now i).length ≤ now.length + 2 * i
  | 0 => Nat.le_refl _
  | i + 1 => by
    have ih := Z5U gs cl now i
    unfold nxt
    cases gs[i]? with
    | none => dsimp only; omega
    | some g =>
      dsimp only
      cases ZH cl i with
      | true => rw [cond_true]; omega
      | false =>
        rw [cond_false]
        cases ZH now g.a && !ZH (nxt gs cl now i) g.b with
        | true =>
          dsimp only [cond_true]
          cases ZH now g.b && !ZH (nxt gs cl now i ++ [g.b]) g.a with
          | true => simp only [cond_true, List.length_append, List.length_singleton]; omega
          | false => simp only [cond_false, List.length_append, List.length_singleton]; omega
        | false =>
          dsimp only [cond_false]
          cases ZH now g.b && !ZH (nxt gs cl now i) g.a with
          | true => simp only [cond_true, List.length_append, List.length_singleton]; omega
          | false => simp only [cond_false]; omega
def nx1 (gs : List Gp) (cl now : List Int) (i : Nat) (g : Gp) : List Int := bif ZH now g.a && !ZH (nxt gs cl now i) g.b then nxt gs cl now i ++ [g.b] else nxt gs cl now i
theorem Zbe {gs : List Gp} {cl now : List Int} {i : Nat} {g : Gp} (hg : gs[i]? = some g) (hc : ZH cl i = true) : nxt gs cl now (i + 1) = nxt gs cl now i := by
  conv => lhs; unfold nxt
  rw [hg]; dsimp only; rw [hc]; rfl
theorem ZaG {gs : List Gp} {cl now : List Int} {i : Nat} {g : Gp} (hg : gs[i]? = some g) (hc : ZH cl i = false) : nxt gs cl now (i + 1) = bif ZH now g.b && !ZH (nx1 gs cl now i g) g.a then nx1 gs cl now i g ++ [g.a] else nx1 gs cl now i g := by
  conv => lhs; unfold nxt
  rw [hg]; dsimp only; rw [hc]; rfl
theorem ck2 {h : Hse} (h1 : (!(inB h.bins 1 7)) = true ∨ 10 < h.gaps.length ∨ 8 < h.sights.length) : h.check = 2 := by
  unfold Hse.check
  have : (!(inB h.bins 1 7) || decide (10 < h.gaps.length) || decide (8 < h.sights.length)) = true := by
    rcases h1 with h1 | h1 | h1
    · rw [h1]; rfl
    · rw [decide_eq_true h1]; simp
    · rw [decide_eq_true h1]; simp
  rw [this]; rfl
def Z3k (h : Hse) (k : Nat) : Bool := (h.gaps.take k).any fun g => !(inB g.a 0 (h.bins - 1)) || !(inB g.b 0 (h.bins - 1))
def Z0T (h : Hse) (k : Nat) : Bool := (h.gaps.take k).any fun g => decide (g.a = g.b)
def Zdy (h : Hse) (k : Nat) : Bool := (h.sights.take k).any fun s => !(inB s.bin 0 (h.bins - 1))
theorem Z37 {α : Type} {l : List α} {k : Nat} {x : α} {p : α → Bool} (hx : l[k]? = some x) : (l.take (k + 1)).any p = ((l.take k).any p || p x) := by rw [List.take_add_one, hx, List.any_append]; simp
theorem Zdm {h : Hse} (h1 : inB h.bins 1 7 = true) (h2 : h.gaps.length ≤ 10) (h3 : h.sights.length ≤ 8) (h4 : (h.sights.all fun s => inB s.week 0 9) = true) : h.check = bif Z3k h h.gaps.length || Zdy h h.sights.length then 1 else bif Z0T h h.gaps.length then 5 else 0 := by
  unfold Hse.check Z3k Zdy Z0T
  rw [h1, decide_eq_false (show ¬ 10 < h.gaps.length by omega), decide_eq_false (show ¬ 8 < h.sights.length by omega), h4, List.take_length, List.take_length]
  have e1 : (!(h.gaps.all fun g => inB g.a 0 (h.bins - 1) && inB g.b 0 (h.bins - 1))) = h.gaps.any fun g => !(inB g.a 0 (h.bins - 1)) || !(inB g.b 0 (h.bins - 1)) := by
    rw [List.not_all_eq_any_not]
    congr 1; funext g; rw [Bool.not_and]
  have e2 : (!(h.sights.all fun s => inB s.bin 0 (h.bins - 1))) = h.sights.any fun s => !(inB s.bin 0 (h.bins - 1)) := List.not_all_eq_any_not
  have e3 : (!(h.gaps.all fun g => !decide (g = ⟨g.b, g.a⟩))) = h.gaps.any fun g => decide (g.a = g.b) := by
    rw [List.not_all_eq_any_not]
    congr 1; funext g
    rw [Bool.not_not]
    cases g with
    | mk a b => exact decide_eq_decide.2 ⟨fun e => by injection e, fun e => by dsimp only at e; subst e; rfl⟩
  rw [e1, e2, e3]; rfl
theorem ck3 {h : Hse} (h1 : inB h.bins 1 7 = true) (h2 : h.gaps.length ≤ 10) (h3 : h.sights.length ≤ 8) {s : Sgt} (hs : s ∈ h.sights) (h4 : (!(inB s.week 0 9)) = true) : h.check = 3 := by
  have e : (h.sights.all fun s => inB s.week 0 9) = false := List.all_eq_false.2 ⟨s, hs, by rw [Bool.not_eq_true'] at h4; rw [h4]; decide⟩
  unfold Hse.check
  rw [h1, decide_eq_false (show ¬ 10 < h.gaps.length by omega), decide_eq_false (show ¬ 8 < h.sights.length by omega), e]; rfl
theorem Zd7 {l : List Sgt} {p : Sgt → Bool} (h : ∀ x ∈ l.take l.length, p x = true) : l.all p = true := List.all_eq_true.2 fun x hx => h x (by rw [List.take_length]; exact hx)
theorem Z5k (n lo hi : Int) (H : Zc) (R : Z6) :
    FnV Tryz.prog 72 [.int .i64 n, .int .i64 lo, .int .i64 hi] H R (.bool (!(inB n lo hi))) := by
 refine Zi Tryz.func72 rfl Tryz.ntmps72 rfl ?_
 refine sqt 1 rfl (pur 1 rfl (sqt 9 rfl (pur 4 rfl ?_)))
 refine Zo 10 rfl ?_ ?_ <;> intro g10
 refine pur 5 rfl (Z5 ?_)
 exact rtA rfl rfl rfl ⟨by first | exact congrArg Value.bool (Ze3 g10) | exact congrArg Value.bool (Zf8 g10), rfl, rfl⟩ drp
 refine pur 5 rfl (Z5 ?_)
 exact rtA rfl rfl rfl ⟨by first | exact congrArg Value.bool (Ze3 g10) | exact congrArg Value.bool (Zf8 g10), rfl, rfl⟩ drp
theorem Z2T (l : List Int) (a : Option Addr) (c : Nat) (v : Int) (hl : l.length ≤ 9223372036854775807) (H : Zc) (R : Z6) [hL : MemRows a 1 (Z4 l) R] :
    FnV Tryz.prog 73 [.slice a l.length c, .int .i64 v] H R (.bool (ZH l v)) := by
 refine Zi Tryz.func73 rfl Tryz.ntmps73 rfl ?_
 refine sqt 1 rfl (pur 1 rfl (Z0 (sqt 1 rfl (pur 1 rfl (Z3 ?_)))))
 refine Zd (ι := {k : Nat // k ≤ l.length ∧ ∀ x ∈ l.take k, x ≠ v}) (fun k => ⟨[(0, .slice a l.length c), (1, .int .i64 v), (5, .int .i64 (k.1 : Int))], H, R⟩) (fun k => l.length - k.1) ⟨0, Nat.zero_le _, by simp⟩ ?_ (fun k => ?_)
 exact Zk idH
 obtain ⟨k, hk, hn⟩ := k
 dsimp only at hk hn ⊢
 refine Z0 (sqt 4 rfl (pur 2 rfl (sp rfl (PE.lenSl Zx rfl) rfl (pur 1 rfl ?_))))
 refine Z1 rfl ?_ ?_ <;> intro hc0 <;> try simp only [cS] at hc0
 obtain ⟨x, hx⟩ : ∃ x, l[k]? = some x := ⟨_, List.getElem?_eq_getElem (by omega)⟩
 refine Zg (a := a) (sz := 1) (rows := Z4 l) (ne0 (by rw [irl]; omega)) (fun ba oa he => ?_)
 subst he
 refine Z2 (Z0 (Z3 (sqt 6 rfl (pur 2 rfl (sp rfl (PE.indexAddr Z0a rfl rfl (by omega) (by omega)) rfl (spL rfl rfl (lf0 sc3 (ZB hx) rfl) rfl (pur 2 rfl ?_)))))))
 refine Z1 rfl ?_ ?_ <;> intro hc1 <;> try simp only [cS] at hc1
 have hh : ZH l v = true := hasI_iff.2 (by rw [← hc1]; exact List.mem_of_getElem? hx)
 refine sqt 1 rfl (pur 1 rfl (Z5 ?_))
 exact rtA rfl rfl rfl ⟨by simp only [ZE]; rw [hh], rfl, rfl⟩ drp
 refine Z2 (sqr 3 rfl (pur 1 rfl (sp rfl (PE.add rfl rfl (by omega)) rfl (pur 1 rfl ?_))))
 exact Zb ⟨k + 1, by omega, Z7O hx hn hc1⟩ idH
 obtain rfl : k = l.length := by omega
 rw [List.take_length] at hn
 have hh : ZH l v = false := Zbd hn
 refine Z8 (Za (Za (Zm (sqt 1 rfl (pur 1 rfl (Z5 ?_))))))
 exact rtA rfl rfl rfl ⟨by simp only [ZE]; rw [hh], rfl, rfl⟩ drp
set_option maxHeartbeats 400000 in
theorem Zbb (h : Hse) (ag as_ : Option Addr) (cg cs : Nat) (hlg : h.gaps.length ≤ 9223372036854775807) (hls : h.sights.length ≤ 9223372036854775807) (H : Zc) (R : Z6) [hG : MemRows ag 2 (Zf h.gaps) R] [hS : MemRows as_ 3 (Ze h.sights) R] :
    FnV Tryz.prog 16 [h.v (h.sg ag cg) (h.ss as_ cs)] H R (.int .i64 h.check) := by
 refine Zi Tryz.func16 rfl Tryz.ntmps16 rfl ?_
 refine sqt 2 rfl (bx rfl rfl rfl (fun b1 => pur 1 rfl (Z0 (sqt 15 rfl (sp rfl (PE.fA Z0n rfl) rfl (spL rfl rfl (lh (v := .int .i64 h.bins) sc3 rfl rfl) rfl ?_))))))
 refine clV rfl Z9A rfl rfl (Z5k _ _ _ _ _) ?_
 refine pur 1 rfl ?_
 refine Zo 11 rfl ?_ ?_ <;> intro g11
 refine pur 11 rfl ?_
 refine ZC rfl ?_
 refine sqt 1 rfl (pur 1 rfl (Z5 ?_))
 exact rtA rfl rfl rfl ⟨congrArg (Value.int .i64) ((ck2 (.inl g11)).symm), rfl, rfl⟩ (fun w h9 => h9.del b1)
 refine spG rfl rfl rfl rfl (PE.fA Z3G rfl) rfl ?_
 refine Z0I rfl rfl rfl rfl rfl (lh Zdv rfl rfl) rfl ?_
 refine spG rfl rfl rfl rfl (PE.lenSl ZcD rfl) rfl ?_
 refine pur 3 rfl ?_
 refine Zo 17 rfl ?_ ?_ <;> intro g17
 refine pur 5 rfl ?_
 refine ZC rfl ?_
 refine sqt 1 rfl (pur 1 rfl (Z5 ?_))
 exact rtA rfl rfl rfl ⟨congrArg (Value.int .i64) ((ck2 (.inr (.inl (by have := of_decide_eq_true g17; omega)))).symm), rfl, rfl⟩ (fun w h9 => h9.del b1)
 refine spG rfl rfl rfl rfl (PE.fA Z0D rfl) rfl ?_
 refine Z0I rfl rfl rfl rfl rfl (lh Z5X rfl rfl) rfl ?_
 refine spG rfl rfl rfl rfl (PE.lenSl Z5L rfl) rfl ?_
 refine pur 2 rfl ?_
 refine Z1 rfl ?_ ?_ <;> intro hc0
 refine sqt 1 rfl (pur 1 rfl (Z5 ?_))
 exact rtA rfl rfl rfl ⟨congrArg (Value.int .i64) ((ck2 (.inr (.inr (by have := of_decide_eq_true hc0; omega)))).symm), rfl, rfl⟩ (fun w h9 => h9.del b1)
 try simp only [cS] at hc0
 have hb7 : inB h.bins 1 7 = true := by rw [← Bool.not_eq_false']; exact g11
 have hgl9 : h.gaps.length ≤ 10 := by first | omega | (simp only [decide_eq_false_iff_not] at g17; omega)
 have hsl9 : h.sights.length ≤ 8 := by omega
 have hbb : 1 ≤ h.bins ∧ h.bins ≤ 7 := by simpa [inB] using hb7
 refine Z2 (sqt 2 rfl (pur 2 rfl (Z0 (sqt 1 rfl (pur 1 rfl (Z3 ?_))))))
 refine Zd (ι := {k : Nat // k ≤ h.gaps.length}) (fun k => ⟨[(1, .pointer (some ⟨b1, 0, none⟩)), (3, .bool (Z3k h k.1)), (4, .bool (Z0T h k.1)), (5, .int .i64 (k.1 : Int))], (b1, cel 35 (htl h (h.sg ag cg) (h.ss as_ cs))) :: H, R⟩) (fun k => h.gaps.length - k.1) ⟨0, Nat.zero_le _⟩ ?_ (fun k => ?_)
 exact Zk idH
 obtain ⟨k, hk⟩ := k
 dsimp only at hk ⊢
 refine Z0 (sqt 5 rfl (pur 1 rfl (sp rfl (PE.fA Z3G rfl) rfl (spL rfl rfl (lh Zdv rfl rfl) rfl (sp rfl (PE.lenSl ZcD rfl) rfl (pur 1 rfl ?_))))))
 refine Z1 rfl ?_ ?_ <;> intro hc1 <;> try simp only [cS] at hc1
 obtain ⟨g, hg⟩ : ∃ g, h.gaps[k]? = some g := ⟨_, List.getElem?_eq_getElem (by omega)⟩
 have e1 : Z3k h (k + 1) = (Z3k h k || (!(inB g.a 0 (h.bins - 1)) || !(inB g.b 0 (h.bins - 1)))) := Z37 hg
 have e2 : Z0T h (k + 1) = (Z0T h k || decide (g.a = g.b)) := Z37 hg
 refine Zg (a := ag) (sz := 2) (rows := Zf h.gaps) (ne0 (by rw [Z0J]; omega)) (fun ba oa he => ?_)
 subst he
 refine Z2 (Z0 (Z3 (sqt 7 rfl (sp rfl (PE.fA Z3G rfl) rfl (spL rfl rfl (lh Zdv rfl rfl) rfl (pur 1 rfl (sp rfl (PE.indexAddr ZgH rfl rfl (by omega) (by omega)) rfl (spL rfl rfl (lfA Zfh (row := grow g) (Z1r hg) rfl) rfl (alc rfl Zc7 rfl (fun b6 => ?_))))))))))
 refine ZN (l' := grow g) rfl rfl rfl ZeY rfl rfl rfl rfl (nl rfl) ?_
 refine sqt 18 rfl (pur 2 rfl ?_)
 refine Zo 36 rfl ?_ ?_ <;> intro g36
 refine pur 16 rfl (sqr 9 rfl (pur 2 rfl ?_))
 refine Zo 53 rfl ?_ ?_ <;> intro g53
 refine pur 7 rfl (sqr 3 rfl (pur 1 rfl (sp rfl (PE.add rfl rfl (by omega)) rfl (pur 1 rfl ?_))))
 first
   | exact absurd g44 (by decide)
   | (have f1 : Z3k h (k + 1) = true := by rw [e1, g36]; rfl
      first
        | (have f2 : Z0T h (k + 1) = true := by rw [e2, g53]; rfl
           exact Z7 ⟨k + 1, by omega⟩ (by dsimp only; omega) (by rw [f1, f2]; exact (by repeat' first | exact Sub.nil | apply Sub.cons | rfl | (simp [lk]; omega))) (fun w h => h.del b6))
        | (have f2 : Z0T h (k + 1) = decide (g.a = g.b) := by rw [e2, g53]; rfl
           exact Z7 ⟨k + 1, by omega⟩ (by dsimp only; omega) (by rw [f1, f2]; exact (by repeat' first | exact Sub.nil | apply Sub.cons | rfl | (simp [lk]; omega))) (fun w h => h.del b6)))
   | (have f1 : Z3k h (k + 1) = true := by rw [e1, g36, g44]; rfl
      first
        | (have f2 : Z0T h (k + 1) = true := by rw [e2, g53]; rfl
           exact Z7 ⟨k + 1, by omega⟩ (by dsimp only; omega) (by rw [f1, f2]; exact (by repeat' first | exact Sub.nil | apply Sub.cons | rfl | (simp [lk]; omega))) (fun w h => h.del b6))
        | (have f2 : Z0T h (k + 1) = decide (g.a = g.b) := by rw [e2, g53]; rfl
           exact Z7 ⟨k + 1, by omega⟩ (by dsimp only; omega) (by rw [f1, f2]; exact (by repeat' first | exact Sub.nil | apply Sub.cons | rfl | (simp [lk]; omega))) (fun w h => h.del b6)))
   | (have f1 : Z3k h (k + 1) = !(inB g.b 0 (h.bins - 1)) := by rw [e1, g36, g44]; rfl
      first
        | (have f2 : Z0T h (k + 1) = true := by rw [e2, g53]; rfl
           exact Z7 ⟨k + 1, by omega⟩ (by dsimp only; omega) (by rw [f1, f2]; exact (by repeat' first | exact Sub.nil | apply Sub.cons | rfl | (simp [lk]; omega))) (fun w h => h.del b6))
        | (have f2 : Z0T h (k + 1) = decide (g.a = g.b) := by rw [e2, g53]; rfl
           exact Z7 ⟨k + 1, by omega⟩ (by dsimp only; omega) (by rw [f1, f2]; exact (by repeat' first | exact Sub.nil | apply Sub.cons | rfl | (simp [lk]; omega))) (fun w h => h.del b6)))
 refine spG rfl rfl rfl rfl (PE.fA Z19 rfl) rfl ?_
 refine Z0I rfl rfl rfl rfl rfl (lh sc3 rfl rfl) rfl ?_
 refine spG rfl rfl rfl rfl (PE.fA Z1A rfl) rfl ?_
 refine Z0I rfl rfl rfl rfl rfl (lh sc3 rfl rfl) rfl (pur 3 rfl (sqr 3 rfl (pur 1 rfl (sp rfl (PE.add rfl rfl (by omega)) rfl (pur 1 rfl ?_)))))
 first
   | exact absurd g44 (by decide)
   | (have f1 : Z3k h (k + 1) = true := by rw [e1, g36]; rfl
      first
        | (have f2 : Z0T h (k + 1) = true := by rw [e2, g53]; rfl
           exact Z7 ⟨k + 1, by omega⟩ (by dsimp only; omega) (by rw [f1, f2]; exact (by repeat' first | exact Sub.nil | apply Sub.cons | rfl | (simp [lk]; omega))) (fun w h => h.del b6))
        | (have f2 : Z0T h (k + 1) = decide (g.a = g.b) := by rw [e2, g53]; rfl
           exact Z7 ⟨k + 1, by omega⟩ (by dsimp only; omega) (by rw [f1, f2]; exact (by repeat' first | exact Sub.nil | apply Sub.cons | rfl | (simp [lk]; omega))) (fun w h => h.del b6)))
   | (have f1 : Z3k h (k + 1) = true := by rw [e1, g36, g44]; rfl
      first
        | (have f2 : Z0T h (k + 1) = true := by rw [e2, g53]; rfl
           exact Z7 ⟨k + 1, by omega⟩ (by dsimp only; omega) (by rw [f1, f2]; exact (by repeat' first | exact Sub.nil | apply Sub.cons | rfl | (simp [lk]; omega))) (fun w h => h.del b6))
        | (have f2 : Z0T h (k + 1) = decide (g.a = g.b) := by rw [e2, g53]; rfl
           exact Z7 ⟨k + 1, by omega⟩ (by dsimp only; omega) (by rw [f1, f2]; exact (by repeat' first | exact Sub.nil | apply Sub.cons | rfl | (simp [lk]; omega))) (fun w h => h.del b6)))
   | (have f1 : Z3k h (k + 1) = !(inB g.b 0 (h.bins - 1)) := by rw [e1, g36, g44]; rfl
      first
        | (have f2 : Z0T h (k + 1) = true := by rw [e2, g53]; rfl
           exact Z7 ⟨k + 1, by omega⟩ (by dsimp only; omega) (by rw [f1, f2]; exact (by repeat' first | exact Sub.nil | apply Sub.cons | rfl | (simp [lk]; omega))) (fun w h => h.del b6))
        | (have f2 : Z0T h (k + 1) = decide (g.a = g.b) := by rw [e2, g53]; rfl
           exact Z7 ⟨k + 1, by omega⟩ (by dsimp only; omega) (by rw [f1, f2]; exact (by repeat' first | exact Sub.nil | apply Sub.cons | rfl | (simp [lk]; omega))) (fun w h => h.del b6)))
 refine spG rfl rfl rfl rfl (PE.fA Z19 rfl) rfl ?_
 refine Z0I rfl rfl rfl rfl rfl (lh sc3 rfl rfl) rfl ?_
 refine spG rfl rfl rfl rfl (PE.fA Z0n rfl) rfl ?_
 refine Z0I rfl rfl rfl rfl rfl (lh (v := .int .i64 h.bins) sc3 rfl rfl) rfl ?_
 refine spG rfl rfl rfl rfl (PE.sub rfl rfl (by omega)) rfl ?_
 refine Z2t rfl rfl rfl rfl Z9A rfl rfl (Z5k _ _ _ _ _) ?_
 refine pur 2 rfl ?_
 refine Zo 44 rfl ?_ ?_ <;> intro g44
 refine pur 8 rfl (sqr 9 rfl (pur 2 rfl ?_))
 refine Zo 53 rfl ?_ ?_ <;> intro g53
 refine pur 7 rfl (sqr 3 rfl (pur 1 rfl (sp rfl (PE.add rfl rfl (by omega)) rfl (pur 1 rfl ?_))))
 first
   | exact absurd g44 (by decide)
   | (have f1 : Z3k h (k + 1) = true := by rw [e1, g36]; rfl
      first
        | (have f2 : Z0T h (k + 1) = true := by rw [e2, g53]; rfl
           exact Z7 ⟨k + 1, by omega⟩ (by dsimp only; omega) (by rw [f1, f2]; exact (by repeat' first | exact Sub.nil | apply Sub.cons | rfl | (simp [lk]; omega))) (fun w h => h.del b6))
        | (have f2 : Z0T h (k + 1) = decide (g.a = g.b) := by rw [e2, g53]; rfl
           exact Z7 ⟨k + 1, by omega⟩ (by dsimp only; omega) (by rw [f1, f2]; exact (by repeat' first | exact Sub.nil | apply Sub.cons | rfl | (simp [lk]; omega))) (fun w h => h.del b6)))
   | (have f1 : Z3k h (k + 1) = true := by rw [e1, g36, g44]; rfl
      first
        | (have f2 : Z0T h (k + 1) = true := by rw [e2, g53]; rfl
           exact Z7 ⟨k + 1, by omega⟩ (by dsimp only; omega) (by rw [f1, f2]; exact (by repeat' first | exact Sub.nil | apply Sub.cons | rfl | (simp [lk]; omega))) (fun w h => h.del b6))
        | (have f2 : Z0T h (k + 1) = decide (g.a = g.b) := by rw [e2, g53]; rfl
           exact Z7 ⟨k + 1, by omega⟩ (by dsimp only; omega) (by rw [f1, f2]; exact (by repeat' first | exact Sub.nil | apply Sub.cons | rfl | (simp [lk]; omega))) (fun w h => h.del b6)))
   | (have f1 : Z3k h (k + 1) = !(inB g.b 0 (h.bins - 1)) := by rw [e1, g36, g44]; rfl
      first
        | (have f2 : Z0T h (k + 1) = true := by rw [e2, g53]; rfl
           exact Z7 ⟨k + 1, by omega⟩ (by dsimp only; omega) (by rw [f1, f2]; exact (by repeat' first | exact Sub.nil | apply Sub.cons | rfl | (simp [lk]; omega))) (fun w h => h.del b6))
        | (have f2 : Z0T h (k + 1) = decide (g.a = g.b) := by rw [e2, g53]; rfl
           exact Z7 ⟨k + 1, by omega⟩ (by dsimp only; omega) (by rw [f1, f2]; exact (by repeat' first | exact Sub.nil | apply Sub.cons | rfl | (simp [lk]; omega))) (fun w h => h.del b6)))
 refine spG rfl rfl rfl rfl (PE.fA Z19 rfl) rfl ?_
 refine Z0I rfl rfl rfl rfl rfl (lh sc3 rfl rfl) rfl ?_
 refine spG rfl rfl rfl rfl (PE.fA Z1A rfl) rfl ?_
 refine Z0I rfl rfl rfl rfl rfl (lh sc3 rfl rfl) rfl (pur 3 rfl (sqr 3 rfl (pur 1 rfl (sp rfl (PE.add rfl rfl (by omega)) rfl (pur 1 rfl ?_)))))
 first
   | exact absurd g44 (by decide)
   | (have f1 : Z3k h (k + 1) = true := by rw [e1, g36]; rfl
      first
        | (have f2 : Z0T h (k + 1) = true := by rw [e2, g53]; rfl
           exact Z7 ⟨k + 1, by omega⟩ (by dsimp only; omega) (by rw [f1, f2]; exact (by repeat' first | exact Sub.nil | apply Sub.cons | rfl | (simp [lk]; omega))) (fun w h => h.del b6))
        | (have f2 : Z0T h (k + 1) = decide (g.a = g.b) := by rw [e2, g53]; rfl
           exact Z7 ⟨k + 1, by omega⟩ (by dsimp only; omega) (by rw [f1, f2]; exact (by repeat' first | exact Sub.nil | apply Sub.cons | rfl | (simp [lk]; omega))) (fun w h => h.del b6)))
   | (have f1 : Z3k h (k + 1) = true := by rw [e1, g36, g44]; rfl
      first
        | (have f2 : Z0T h (k + 1) = true := by rw [e2, g53]; rfl
           exact Z7 ⟨k + 1, by omega⟩ (by dsimp only; omega) (by rw [f1, f2]; exact (by repeat' first | exact Sub.nil | apply Sub.cons | rfl | (simp [lk]; omega))) (fun w h => h.del b6))
        | (have f2 : Z0T h (k + 1) = decide (g.a = g.b) := by rw [e2, g53]; rfl
           exact Z7 ⟨k + 1, by omega⟩ (by dsimp only; omega) (by rw [f1, f2]; exact (by repeat' first | exact Sub.nil | apply Sub.cons | rfl | (simp [lk]; omega))) (fun w h => h.del b6)))
   | (have f1 : Z3k h (k + 1) = !(inB g.b 0 (h.bins - 1)) := by rw [e1, g36, g44]; rfl
      first
        | (have f2 : Z0T h (k + 1) = true := by rw [e2, g53]; rfl
           exact Z7 ⟨k + 1, by omega⟩ (by dsimp only; omega) (by rw [f1, f2]; exact (by repeat' first | exact Sub.nil | apply Sub.cons | rfl | (simp [lk]; omega))) (fun w h => h.del b6))
        | (have f2 : Z0T h (k + 1) = decide (g.a = g.b) := by rw [e2, g53]; rfl
           exact Z7 ⟨k + 1, by omega⟩ (by dsimp only; omega) (by rw [f1, f2]; exact (by repeat' first | exact Sub.nil | apply Sub.cons | rfl | (simp [lk]; omega))) (fun w h => h.del b6)))
 refine spG rfl rfl rfl rfl (PE.fA Z1A rfl) rfl ?_
 refine Z0I rfl rfl rfl rfl rfl (lh sc3 rfl rfl) rfl ?_
 refine spG rfl rfl rfl rfl (PE.fA Z0n rfl) rfl ?_
 refine Z0I rfl rfl rfl rfl rfl (lh (v := .int .i64 h.bins) sc3 rfl rfl) rfl ?_
 refine spG rfl rfl rfl rfl (PE.sub rfl rfl (by omega)) rfl ?_
 refine Z2t rfl rfl rfl rfl Z9A rfl rfl (Z5k _ _ _ _ _) ?_
 refine pur 2 rfl (sqr 9 rfl (pur 2 rfl ?_))
 refine Zo 53 rfl ?_ ?_ <;> intro g53
 refine pur 7 rfl (sqr 3 rfl (pur 1 rfl (sp rfl (PE.add rfl rfl (by omega)) rfl (pur 1 rfl ?_))))
 first
   | exact absurd g44 (by decide)
   | (have f1 : Z3k h (k + 1) = true := by rw [e1, g36]; rfl
      first
        | (have f2 : Z0T h (k + 1) = true := by rw [e2, g53]; rfl
           exact Z7 ⟨k + 1, by omega⟩ (by dsimp only; omega) (by rw [f1, f2]; exact (by repeat' first | exact Sub.nil | apply Sub.cons | rfl | (simp [lk]; omega))) (fun w h => h.del b6))
        | (have f2 : Z0T h (k + 1) = decide (g.a = g.b) := by rw [e2, g53]; rfl
           exact Z7 ⟨k + 1, by omega⟩ (by dsimp only; omega) (by rw [f1, f2]; exact (by repeat' first | exact Sub.nil | apply Sub.cons | rfl | (simp [lk]; omega))) (fun w h => h.del b6)))
   | (have f1 : Z3k h (k + 1) = true := by rw [e1, g36, g44]; rfl
      first
        | (have f2 : Z0T h (k + 1) = true := by rw [e2, g53]; rfl
           exact Z7 ⟨k + 1, by omega⟩ (by dsimp only; omega) (by rw [f1, f2]; exact (by repeat' first | exact Sub.nil | apply Sub.cons | rfl | (simp [lk]; omega))) (fun w h => h.del b6))
        | (have f2 : Z0T h (k + 1) = decide (g.a = g.b) := by rw [e2, g53]; rfl
           exact Z7 ⟨k + 1, by omega⟩ (by dsimp only; omega) (by rw [f1, f2]; exact (by repeat' first | exact Sub.nil | apply Sub.cons | rfl | (simp [lk]; omega))) (fun w h => h.del b6)))
   | (have f1 : Z3k h (k + 1) = !(inB g.b 0 (h.bins - 1)) := by rw [e1, g36, g44]; rfl
      first
        | (have f2 : Z0T h (k + 1) = true := by rw [e2, g53]; rfl
           exact Z7 ⟨k + 1, by omega⟩ (by dsimp only; omega) (by rw [f1, f2]; exact (by repeat' first | exact Sub.nil | apply Sub.cons | rfl | (simp [lk]; omega))) (fun w h => h.del b6))
        | (have f2 : Z0T h (k + 1) = decide (g.a = g.b) := by rw [e2, g53]; rfl
           exact Z7 ⟨k + 1, by omega⟩ (by dsimp only; omega) (by rw [f1, f2]; exact (by repeat' first | exact Sub.nil | apply Sub.cons | rfl | (simp [lk]; omega))) (fun w h => h.del b6)))
 refine spG rfl rfl rfl rfl (PE.fA Z19 rfl) rfl ?_
 refine Z0I rfl rfl rfl rfl rfl (lh sc3 rfl rfl) rfl ?_
 refine spG rfl rfl rfl rfl (PE.fA Z1A rfl) rfl ?_
 refine Z0I rfl rfl rfl rfl rfl (lh sc3 rfl rfl) rfl (pur 3 rfl (sqr 3 rfl (pur 1 rfl (sp rfl (PE.add rfl rfl (by omega)) rfl (pur 1 rfl ?_)))))
 first
   | exact absurd g44 (by decide)
   | (have f1 : Z3k h (k + 1) = true := by rw [e1, g36]; rfl
      first
        | (have f2 : Z0T h (k + 1) = true := by rw [e2, g53]; rfl
           exact Z7 ⟨k + 1, by omega⟩ (by dsimp only; omega) (by rw [f1, f2]; exact (by repeat' first | exact Sub.nil | apply Sub.cons | rfl | (simp [lk]; omega))) (fun w h => h.del b6))
        | (have f2 : Z0T h (k + 1) = decide (g.a = g.b) := by rw [e2, g53]; rfl
           exact Z7 ⟨k + 1, by omega⟩ (by dsimp only; omega) (by rw [f1, f2]; exact (by repeat' first | exact Sub.nil | apply Sub.cons | rfl | (simp [lk]; omega))) (fun w h => h.del b6)))
   | (have f1 : Z3k h (k + 1) = true := by rw [e1, g36, g44]; rfl
      first
        | (have f2 : Z0T h (k + 1) = true := by rw [e2, g53]; rfl
           exact Z7 ⟨k + 1, by omega⟩ (by dsimp only; omega) (by rw [f1, f2]; exact (by repeat' first | exact Sub.nil | apply Sub.cons | rfl | (simp [lk]; omega))) (fun w h => h.del b6))
        | (have f2 : Z0T h (k + 1) = decide (g.a = g.b) := by rw [e2, g53]; rfl
           exact Z7 ⟨k + 1, by omega⟩ (by dsimp only; omega) (by rw [f1, f2]; exact (by repeat' first | exact Sub.nil | apply Sub.cons | rfl | (simp [lk]; omega))) (fun w h => h.del b6)))
   | (have f1 : Z3k h (k + 1) = !(inB g.b 0 (h.bins - 1)) := by rw [e1, g36, g44]; rfl
      first
        | (have f2 : Z0T h (k + 1) = true := by rw [e2, g53]; rfl
           exact Z7 ⟨k + 1, by omega⟩ (by dsimp only; omega) (by rw [f1, f2]; exact (by repeat' first | exact Sub.nil | apply Sub.cons | rfl | (simp [lk]; omega))) (fun w h => h.del b6))
        | (have f2 : Z0T h (k + 1) = decide (g.a = g.b) := by rw [e2, g53]; rfl
           exact Z7 ⟨k + 1, by omega⟩ (by dsimp only; omega) (by rw [f1, f2]; exact (by repeat' first | exact Sub.nil | apply Sub.cons | rfl | (simp [lk]; omega))) (fun w h => h.del b6)))
 obtain rfl : k = h.gaps.length := by omega
 refine Z8 (Za (Za (Zm (Z0 (sqt 1 rfl (pur 1 rfl (Z3 ?_)))))))
 refine Zd (ι := {k : Nat // k ≤ h.sights.length ∧ ∀ x ∈ h.sights.take k, inB x.week 0 9 = true}) (fun k => ⟨[(1, .pointer (some ⟨b1, 0, none⟩)), (3, .bool (Z3k h h.gaps.length || Zdy h k.1)), (4, .bool (Z0T h h.gaps.length)), (7, .int .i64 (k.1 : Int))], (b1, cel 35 (htl h (h.sg ag cg) (h.ss as_ cs))) :: H, R⟩) (fun k => h.sights.length - k.1) ⟨0, Nat.zero_le _, by simp⟩ ?_ (fun k => ?_)
 exact Zfl (by rw [show Zdy h 0 = false from rfl, Bool.or_false]; exact (by repeat' first | exact Sub.nil | apply Sub.cons | rfl | (simp [lk]; omega))) idH
 obtain ⟨k, hk, hwk⟩ := k
 dsimp only at hk hwk ⊢
 refine Z0 (sqt 5 rfl (pur 1 rfl (sp rfl (PE.fA Z0D rfl) rfl (spL rfl rfl (lh Z5X rfl rfl) rfl (sp rfl (PE.lenSl Z5L rfl) rfl (pur 1 rfl ?_))))))
 refine Z1 rfl ?_ ?_ <;> intro hc2 <;> try simp only [cS] at hc2
 obtain ⟨x, hx⟩ : ∃ x, h.sights[k]? = some x := ⟨_, List.getElem?_eq_getElem (by omega)⟩
 have e3 : Zdy h (k + 1) = (Zdy h k || !(inB x.bin 0 (h.bins - 1))) := Z37 hx
 refine Zg (a := as_) (sz := 3) (rows := Ze h.sights) (ne0 (by rw [Z0x]; omega)) (fun bs os he => ?_)
 subst he
 refine Z2 (Z0 (Z3 (Z0 (sqt 7 rfl (sp rfl (PE.fA Z0D rfl) rfl (spL rfl rfl (lh Z5X rfl rfl) rfl (pur 1 rfl (sp rfl (PE.indexAddr Zdw rfl rfl (by omega) (by omega)) rfl (sp rfl (PE.fA Z52 rfl) rfl (spL rfl rfl (lf (j := 0) sc3 (Z1w hx) rfl) rfl ?_))))))))))
 refine clV rfl Z9A rfl rfl (Z5k _ _ _ _ _) ?_
 refine Z1 rfl ?_ ?_ <;> intro hc3
 refine sqt 1 rfl (pur 1 rfl (Z5 ?_))
 exact rtA rfl rfl rfl ⟨congrArg (Value.int .i64) ((ck3 hb7 (by omega) (by omega) (List.mem_of_getElem? hx) hc3).symm), rfl, rfl⟩ (fun w h9 => h9.del b1)
 refine Z2 ?_
 refine Zl [0, 1, 3, 7, 3, 31, 63, 127, 3, 259, 771, 2047, 4095, 8191] (tks 0 3 (.ld 3 (tks 4 3 (.ld 7 (.tk 8 (.ld 9 (.tk 10 (.big 11 (.tk 12 (.tk 13 .done)))))))))) Zz (by kernel_rfl) ?_
 refine Zr 2 rfl ?_
 refine Zo 75 rfl ?_ ?_ <;> intro g75
 refine Zr 1 rfl ?_
 refine ldN rfl rfl rfl rfl rfl rfl rfl rfl ?_
 refine Zr 3 rfl ?_
 refine ldN rfl rfl rfl rfl rfl rfl rfl rfl ?_
 refine Zr 1 rfl ?_
 refine ldN rfl rfl rfl rfl rfl rfl rfl rfl ?_
 refine Zr 1 rfl ?_
 refine spN rfl rfl rfl rfl rfl rfl rfl rfl ?_
 refine bgT (Zr 2 rfl (sqr 3 rfl (pur 1 rfl (sp rfl (PE.add rfl rfl (by omega)) rfl (pur 1 rfl ?_)))))
 exact Z7 ⟨k + 1, by omega, fun y hy => by
   rw [List.take_add_one, hx] at hy
   rcases List.mem_append.1 hy with h1 | h1
   · exact hwk y h1
   · rw [List.mem_singleton.1 h1, ← Bool.not_eq_false']; exact hc3⟩ (by dsimp only; omega) (by simp only [e3, ← Bool.or_assoc]; first | (rw [g75, Bool.true_or]; exact (by repeat' first | exact Sub.nil | apply Sub.cons | rfl | (simp [lk]; omega))) | (rw [g75, Bool.false_or]; exact (by repeat' first | exact Sub.nil | apply Sub.cons | rfl | (simp [lk]; omega)))) idH
 refine tkG rfl rfl rfl rfl (PE.fA Z0D rfl) rfl ?_
 refine ldG rfl rfl rfl rfl rfl (lh Z5X rfl rfl) rfl (Zr 1 rfl ?_)
 refine tkG rfl rfl rfl rfl (PE.indexAddr Zdw rfl rfl (by omega) (by omega)) rfl ?_
 refine tkG rfl rfl rfl rfl (PE.fA Z26 rfl) rfl ?_
 refine ldG rfl rfl rfl rfl rfl (lf (j := 1) sc3 (Z1w hx) rfl) rfl ?_
 refine tkG rfl rfl rfl rfl (PE.fA Z0n rfl) rfl ?_
 refine ldG rfl rfl rfl rfl rfl (lh (v := .int .i64 h.bins) sc3 rfl rfl) rfl ?_
 refine tkG rfl rfl rfl rfl (PE.sub rfl rfl (by omega)) rfl ?_
 refine Z2t rfl rfl rfl rfl Z9A rfl rfl (Z5k _ _ _ _ _) ?_
 refine bgT (Zr 2 rfl (sqr 3 rfl (pur 1 rfl (sp rfl (PE.add rfl rfl (by omega)) rfl (pur 1 rfl ?_)))))
 exact Z7 ⟨k + 1, by omega, fun y hy => by
   rw [List.take_add_one, hx] at hy
   rcases List.mem_append.1 hy with h1 | h1
   · exact hwk y h1
   · rw [List.mem_singleton.1 h1, ← Bool.not_eq_false']; exact hc3⟩ (by dsimp only; omega) (by simp only [e3, ← Bool.or_assoc]; first | (rw [g75, Bool.true_or]; exact (by repeat' first | exact Sub.nil | apply Sub.cons | rfl | (simp [lk]; omega))) | (rw [g75, Bool.false_or]; exact (by repeat' first | exact Sub.nil | apply Sub.cons | rfl | (simp [lk]; omega)))) idH
 obtain rfl : k = h.sights.length := by omega
 have hcr := Zdm hb7 (by omega) (by omega) (Zd7 hwk)
 refine Z8 (Za (Za (Zm (Z0 (sqt 1 rfl (pur 1 rfl ?_))))))
 refine Z1 rfl ?_ ?_ <;> intro hc4
 refine sqt 1 rfl (pur 1 rfl (Z5 ?_))
 exact rtA rfl rfl rfl ⟨congrArg (Value.int .i64) (by rw [hcr, hc4]; rfl), rfl, rfl⟩ (fun w h9 => h9.del b1)
 refine Z2 (Z0 (sqt 1 rfl (pur 1 rfl ?_)))
 refine Z1 rfl ?_ ?_ <;> intro hc5
 refine sqt 1 rfl (pur 1 rfl (Z5 ?_))
 exact rtA rfl rfl rfl ⟨congrArg (Value.int .i64) (by rw [hcr, hc4, hc5]; rfl), rfl, rfl⟩ (fun w h9 => h9.del b1)
 refine Z2 (sqt 1 rfl (pur 1 rfl (Z5 ?_)))
 exact rtA rfl rfl rfl ⟨congrArg (Value.int .i64) (by rw [hcr, hc4, hc5]; rfl), rfl, rfl⟩ (fun w h9 => h9.del b1)
set_option maxHeartbeats 600000 in
theorem ZcP (h : Hse) (ag as_ : Option Addr) (cg cs : Nat) (hgl : h.gaps.length ≤ 10) (now cz : List Int) (an ac : Option Addr) (cn cc : Nat) (hnl : now.length ≤ 1000000) (hcl : cz.length ≤ 1000000) (H : Zc) (R : Z6) [hG : MemRows ag 2 (Zf h.gaps) R] [hN : MemRows an 1 (Z4 now) R] [hC : MemRows ac 1 (Z4 cz) R] :
    Fn Tryz.prog 76 [h.v (h.sg ag cg) (h.ss as_ cs), .slice an now.length cn, .slice ac cz.length cc] H R (fun v H' R' => ∃ a c, v = .slice a (Z7n h.gaps cz now).length c ∧ (Z7n h.gaps cz now).length ≤ c ∧ H' = H ∧ R' = RowsA a 1 (Z4 (Z7n h.gaps cz now)) :: R) := by
 refine Zi Tryz.func76 rfl Tryz.ntmps76 rfl ?_
 refine sqt 2 rfl (bx rfl rfl rfl (fun b3 => pur 1 rfl (sqt 4 rfl ?_)))
 refine Zfv rfl Z0j rfl (fun o10 ho10 => ?_)
 refine pur 1 rfl ?_
 refine apO (news := Z4 now) o10 rfl Z2j rfl rfl (Z7F) (irl _) (by simp [Z00, Z4, Value.oneCell']) (by rw [irl]; simp only [List.length_nil]; omega) rfl (fun o12 => ?_)
 refine pur 1 rfl (Z0 (sqt 1 rfl (pur 1 rfl (Z3 ?_))))
 refine Zd (ι := (i : {i : Nat // i ≤ h.gaps.length}) × OSl 3 1 (Z4 (nxt h.gaps cz now (i.1)))) (fun y => ⟨[(1, .slice an now.length cn), (2, .slice ac cz.length cc), (3, .pointer (some ⟨b3, 0, none⟩)), (7, y.2.fs), (8, .int .i64 (y.1.1 : Int))], y.2.G ++ ((b3, cel 35 (htl h (h.sg ag cg) (h.ss as_ cs))) :: H), R⟩) (fun y => h.gaps.length - y.1.1) ⟨⟨0, Nat.zero_le _⟩, o12.cast (by simp [nxt, Z4])⟩ ?_ (fun y => ?_)
 exact Zk idH
 obtain ⟨⟨i, hi⟩, o⟩ := y
 dsimp only at hi o ⊢
 have hnx := Z5U h.gaps cz now i
 have hnx2 := Z5U h.gaps cz now (i + 1)
 refine Z0 (sqt 5 rfl (pur 1 rfl (sp rfl (PE.fA Z3G rfl) rfl (spL rfl rfl (lh Zdv rfl rfl) rfl (sp rfl (PE.lenSl ZcD rfl) rfl (pur 1 rfl ?_))))))
 refine Z1 rfl ?_ ?_ <;> intro hc0 <;> try simp only [cS] at hc0
 obtain ⟨g, hg⟩ : ∃ g, h.gaps[i]? = some g := ⟨_, List.getElem?_eq_getElem (by omega)⟩
 refine Zg (a := ag) (sz := 2) (rows := Zf h.gaps) (ne0 (by rw [Z0J]; omega)) (fun ba oa he => ?_)
 subst he
 refine Z2 (Z0 (Z3 (sqt 7 rfl (sp rfl (PE.fA Z3G rfl) rfl (spL rfl rfl (lh Zdv rfl rfl) rfl (pur 1 rfl (sp rfl (PE.indexAddr ZgH rfl rfl (by omega) (by omega)) rfl (spL rfl rfl (lfA Zfh (row := grow g) (Z1r hg) rfl) rfl (alc rfl Zc7 rfl (fun b9 => ?_))))))))))
 refine ZN (l' := grow g) rfl rfl rfl ZeY rfl rfl rfl rfl (nl rfl) ?_
 refine Z0 (sqt 3 rfl (pur 2 rfl ?_))
 refine clV rfl Z5d rfl rfl (Z2T cz ac cc (i : Int) (by omega) _ _) ?_
 refine Z1 rfl ?_ ?_ <;> intro hc1 <;> try simp only [cS] at hc1
 refine Z8 (Za (Zm (sqr 3 rfl (pur 1 rfl (sp rfl (PE.add rfl rfl (by omega)) rfl (pur 1 rfl ?_))))))
 exact Zb ⟨⟨i + 1, by omega⟩, o.cast (by rw [Zbe hg hc1])⟩ (fun w h9 => h9.del b9)
 have hop := ZaG (now := now) hg hc1
 have hx1 : (nx1 h.gaps cz now i g).length ≤ now.length + 2 * i + 1 := by unfold nx1; cases ZH now g.a && !ZH (nxt h.gaps cz now i) g.b <;> simp <;> omega
 refine Sy.heap (H' := o.G ++ ((b9, cel 110 (grow g)) :: _)) (fun w h9 => h9.perm (Zt [_] _ _)) ?_
 refine Z2 (Z0 (sqt 11 rfl (pur 1 rfl (sp rfl (PE.fA Z19 rfl) rfl (spL rfl rfl (lh sc3 rfl rfl) rfl ?_)))))
 refine clV rfl Z5d rfl rfl (Z2T now an cn g.a (by omega) _ _) ?_
 refine pur 1 rfl ?_
 refine Zo 32 rfl ?_ ?_ <;> intro g32
 refine pur 1 rfl ?_
 refine spG rfl rfl rfl rfl (PE.fA Z1A rfl) rfl ?_
 refine Z0I rfl rfl rfl rfl rfl (lh sc3 rfl rfl) rfl ?_
 refine Z2t rfl rfl rfl rfl Z5d rfl rfl (FnV.lendO o (fun v => [v, .int .i64 g.b]) (fun a5 c5 _ => by rw [irl]; exact Z2T (nxt h.gaps cz now (i)) a5 c5 g.b (by omega) _ _)) ?_
 refine pur 2 rfl ?_
 refine Z23 (ι := OSl 3 1 (Z4 (nx1 h.gaps cz now i g))) (fun o => ⟨[(1, .slice an now.length cn), (2, .slice ac cz.length cc), (3, .pointer (some ⟨b3, 0, none⟩)), (7, o.fs), (8, .int .i64 (i : Int)), (9, .pointer (some ⟨b9, 0, none⟩))], o.G ++ ((b9, cel 110 (grow g)) :: (b3, cel 35 (htl h (h.sg (some ⟨ba, oa, none⟩) cg) (h.ss as_ cs))) :: H), R⟩) ?_ ?_
 refine Z1 rfl ?_ ?_ <;> intro hc2
 refine sqr 6 rfl (pur 1 rfl (sp rfl (PE.fA Z1A rfl) rfl (spL rfl rfl (lh sc3 rfl rfl) rfl ?_)))
 refine bsl (out := [_]) rfl Z0j zl3 rfl rfl rfl rfl rfl rfl (fun b42 => ?_)
 refine apO (o) rfl Z2j rfl rfl (Z0l (row := [.int .i64 g.b]) rfl) rfl rfl ((by rw [irl]; simp only [List.length_singleton]; omega)) rfl (fun o43 => ?_)
 refine pur 1 rfl ?_
 first | exact ZF (o43.cast (by unfold nx1; simp [Z4, *])) (fun w h9 => h9.del b42) | exact ZF (o.cast (by unfold nx1; simp [Z4, *])) idH
 refine Z2 ?_
 first | exact ZF (o43.cast (by unfold nx1; simp [Z4, *])) (fun w h9 => h9.del b42) | exact ZF (o.cast (by unfold nx1; simp [Z4, *])) idH
 clear hnx2
 intro o
 dsimp only
 refine sqt 11 rfl (pur 1 rfl (sp rfl (PE.fA Z1A rfl) rfl (spL rfl rfl (lh sc3 rfl rfl) rfl ?_)))
 refine clV rfl Z5d rfl rfl (Z2T now an cn g.b (by omega) _ _) ?_
 refine pur 1 rfl ?_
 refine Zo 48 rfl ?_ ?_ <;> intro g48
 refine pur 1 rfl ?_
 refine spG rfl rfl rfl rfl (PE.fA Z19 rfl) rfl ?_
 refine Z0I rfl rfl rfl rfl rfl (lh sc3 rfl rfl) rfl ?_
 refine Z2t rfl rfl rfl rfl Z5d rfl rfl (FnV.lendO o (fun v => [v, .int .i64 g.a]) (fun a5 c5 _ => by rw [irl]; exact Z2T (nx1 h.gaps cz now i g) a5 c5 g.a (by omega) _ _)) ?_
 refine pur 2 rfl ?_
 refine Z1 rfl ?_ ?_ <;> intro hc3
 refine sqr 6 rfl (pur 1 rfl (sp rfl (PE.fA Z19 rfl) rfl (spL rfl rfl (lh sc3 rfl rfl) rfl ?_)))
 refine bsl (out := [_]) rfl Z0j zl3 rfl rfl rfl rfl rfl rfl (fun b58 => ?_)
 refine apO (o) rfl Z2j rfl rfl (Z0l (row := [.int .i64 g.a]) rfl) rfl rfl ((by rw [irl]; simp only [List.length_singleton]; omega)) rfl (fun o59 => ?_)
 refine pur 1 rfl (sqr 3 rfl (pur 1 rfl (sp rfl (PE.add rfl rfl (by omega)) rfl (pur 1 rfl ?_))))
 first | exact Z9 ⟨⟨i + 1, by omega⟩, o59.cast (by rw [hop]; simp [Z4, *])⟩ (by dsimp only; omega) (fun w h9 => ((h9.del b58).del b9)) | exact Z9 ⟨⟨i + 1, by omega⟩, o.cast (by rw [hop]; simp [Z4, *])⟩ (by dsimp only; omega) (fun w h9 => h9.del b9)
 refine Z2 (sqr 3 rfl (pur 1 rfl (sp rfl (PE.add rfl rfl (by omega)) rfl (pur 1 rfl ?_))))
 first | exact Z9 ⟨⟨i + 1, by omega⟩, o59.cast (by rw [hop]; simp [Z4, *])⟩ (by dsimp only; omega) (fun w h9 => ((h9.del b58).del b9)) | exact Z9 ⟨⟨i + 1, by omega⟩, o.cast (by rw [hop]; simp [Z4, *])⟩ (by dsimp only; omega) (fun w h9 => h9.del b9)
 refine pur 6 rfl ?_
 refine Zv rfl ?_
 refine Z2 (sqr 3 rfl (pur 1 rfl (sp rfl (PE.add rfl rfl (by omega)) rfl (pur 1 rfl ?_))))
 first | exact Z9 ⟨⟨i + 1, by omega⟩, o59.cast (by rw [hop]; simp [Z4, *])⟩ (by dsimp only; omega) (fun w h9 => ((h9.del b58).del b9)) | exact Z9 ⟨⟨i + 1, by omega⟩, o.cast (by rw [hop]; simp [Z4, *])⟩ (by dsimp only; omega) (fun w h9 => h9.del b9)
 refine pur 6 rfl ?_
 refine Z23 (ι := OSl 3 1 (Z4 (nx1 h.gaps cz now i g))) (fun o => ⟨[(1, .slice an now.length cn), (2, .slice ac cz.length cc), (3, .pointer (some ⟨b3, 0, none⟩)), (7, o.fs), (8, .int .i64 (i : Int)), (9, .pointer (some ⟨b9, 0, none⟩))], o.G ++ ((b9, cel 110 (grow g)) :: (b3, cel 35 (htl h (h.sg (some ⟨ba, oa, none⟩) cg) (h.ss as_ cs))) :: H), R⟩) ?_ ?_
 refine Zv rfl ?_
 refine Z2 ?_
 first | exact ZF (o43.cast (by unfold nx1; simp [Z4, *])) (fun w h9 => h9.del b42) | exact ZF (o.cast (by unfold nx1; simp [Z4, *])) idH
 clear hnx2
 intro o
 dsimp only
 refine sqt 11 rfl (pur 1 rfl (sp rfl (PE.fA Z1A rfl) rfl (spL rfl rfl (lh sc3 rfl rfl) rfl ?_)))
 refine clV rfl Z5d rfl rfl (Z2T now an cn g.b (by omega) _ _) ?_
 refine pur 1 rfl ?_
 refine Zo 48 rfl ?_ ?_ <;> intro g48
 refine pur 1 rfl ?_
 refine spG rfl rfl rfl rfl (PE.fA Z19 rfl) rfl ?_
 refine Z0I rfl rfl rfl rfl rfl (lh sc3 rfl rfl) rfl ?_
 refine Z2t rfl rfl rfl rfl Z5d rfl rfl (FnV.lendO o (fun v => [v, .int .i64 g.a]) (fun a5 c5 _ => by rw [irl]; exact Z2T (nx1 h.gaps cz now i g) a5 c5 g.a (by omega) _ _)) ?_
 refine pur 2 rfl ?_
 refine Z1 rfl ?_ ?_ <;> intro hc3
 refine sqr 6 rfl (pur 1 rfl (sp rfl (PE.fA Z19 rfl) rfl (spL rfl rfl (lh sc3 rfl rfl) rfl ?_)))
 refine bsl (out := [_]) rfl Z0j zl3 rfl rfl rfl rfl rfl rfl (fun b58 => ?_)
 refine apO (o) rfl Z2j rfl rfl (Z0l (row := [.int .i64 g.a]) rfl) rfl rfl ((by rw [irl]; simp only [List.length_singleton]; omega)) rfl (fun o59 => ?_)
 refine pur 1 rfl (sqr 3 rfl (pur 1 rfl (sp rfl (PE.add rfl rfl (by omega)) rfl (pur 1 rfl ?_))))
 first | exact Z9 ⟨⟨i + 1, by omega⟩, o59.cast (by rw [hop]; simp [Z4, *])⟩ (by dsimp only; omega) (fun w h9 => ((h9.del b58).del b9)) | exact Z9 ⟨⟨i + 1, by omega⟩, o.cast (by rw [hop]; simp [Z4, *])⟩ (by dsimp only; omega) (fun w h9 => h9.del b9)
 refine Z2 (sqr 3 rfl (pur 1 rfl (sp rfl (PE.add rfl rfl (by omega)) rfl (pur 1 rfl ?_))))
 first | exact Z9 ⟨⟨i + 1, by omega⟩, o59.cast (by rw [hop]; simp [Z4, *])⟩ (by dsimp only; omega) (fun w h9 => ((h9.del b58).del b9)) | exact Z9 ⟨⟨i + 1, by omega⟩, o.cast (by rw [hop]; simp [Z4, *])⟩ (by dsimp only; omega) (fun w h9 => h9.del b9)
 refine pur 6 rfl ?_
 refine Zv rfl ?_
 refine Z2 (sqr 3 rfl (pur 1 rfl (sp rfl (PE.add rfl rfl (by omega)) rfl (pur 1 rfl ?_))))
 first | exact Z9 ⟨⟨i + 1, by omega⟩, o59.cast (by rw [hop]; simp [Z4, *])⟩ (by dsimp only; omega) (fun w h9 => ((h9.del b58).del b9)) | exact Z9 ⟨⟨i + 1, by omega⟩, o.cast (by rw [hop]; simp [Z4, *])⟩ (by dsimp only; omega) (fun w h9 => h9.del b9)
 obtain rfl : i = h.gaps.length := by omega
 obtain ⟨an9, cn9, he, hcn9, hzz⟩ := (o.cast (show _ = Z4 (Z7n h.gaps cz now) from rfl)).freezeC
 rw [irl] at hcn9
 rw [show o.fs = _ from he, irl]
 refine Sy.heap (H' := _) (fun w h9 => hzz h9) ?_
 clear he hzz
 refine Z8 (Za (Za (Zm (sqt 2 rfl (pur 2 rfl (Z5 ?_))))))
 exact rtA rfl rfl rfl ⟨an9, cn9, rfl, hcn9, rfl, rfl⟩ (fun w h9 => h9.del b3)
set_option maxHeartbeats 600000 in
theorem Z2p (h : Hse) (ag as_ : Option Addr) (cg cs : Nat) (hok : h.ok) (fr cz : List Int) (af acl : Option Addr) (cf ccz : Nat) (hfr : ZS h.bins fr = 0) (hcl : ∀ x ∈ cz, 0 ≤ x) (hcll : cz.length ≤ 1000000) (H : Zc) (R : Z6) [hG : MemRows ag 2 (Zf h.gaps) R] [hF : MemRows af 1 (Z4 fr) R] [hC : MemRows acl 1 (Z4 cz) R] :
    Fn Tryz.prog 38 [h.v (h.sg ag cg) (h.ss as_ cs), .slice af fr.length cf, .slice acl cz.length ccz] H R (fun v H' R' => ∃ (a : Option Addr) (c : Nat), v = .slice a h.bins.toNat c ∧ H' = H ∧ R' = RowsA a 1 (Z4 (wkL h.gaps (msk cz) (msk fr) h.bins.toNat)) :: R) := by
 refine Zi Tryz.func38 rfl Tryz.ntmps38 rfl ?_
 refine sqt 2 rfl ?_
 have hbn := hok.bins
 have hgl := hok.gl
 obtain ⟨B, hB⟩ : ∃ B : Nat, h.bins = B := ⟨h.bins.toNat, by omega⟩
 rw [show h.bins.toNat = B by omega]
 have hlm := Lm.of (show h.bins ≤ 7 by omega) hfr
 have hfr9 := (Z0Y hfr).1
 have hmB : msk fr < 2 ^ B := Z0V fun x hx => by have := hfr9 x hx; omega
 have hwB : Wth h.gaps B := fun g hg => by have := hok.gaps g hg; omega
 have hg7 : ∀ g ∈ h.gaps, (0 ≤ g.a ∧ g.a < 7) ∧ 0 ≤ g.b ∧ g.b < 7 := fun g hg => by have := hok.gaps g hg; omega
 have hcb : ∀ i : Nat, ZH cz (i : Int) = (msk cz).testBit i := fun i => Z9E hcl i
 refine bx rfl rfl rfl (fun b3 => pur 1 rfl (sqt 4 rfl (sp rfl (PE.fA Z0n rfl) rfl (spL rfl rfl (lh (v := .int .i64 h.bins) sc3 rfl rfl) rfl ?_))))
 rw [hB]
 refine mkS rfl Z2j zl3 rfl rfl (Nat.le_refl _) ⟨by omega, by omega⟩ rfl (fun b14 => ?_)
 rw [Zdd, ← Zb5 (-1)]
 refine pur 1 rfl (sqt 2 rfl (pur 2 rfl (Z0 (sqt 1 rfl (pur 1 rfl (Z3 ?_))))))
 refine Zd (ι := {k : Nat // k ≤ B}) (fun x => ⟨[(2, .slice acl cz.length ccz), (3, .pointer (some ⟨b3, 0, none⟩)), (7, .slice (some ⟨b14, 0, none⟩) B B), (8, .slice af fr.length cf), (9, .int .i64 (x.1 : Int))], (b14, cel 3 (Zq (fil (-1) B x.1))) :: (b3, cel 35 (htl h (h.sg ag cg) (h.ss as_ cs))) :: H, R⟩) (fun x => B - x.1) ⟨0, by omega⟩ ?_ (fun x => ?_)
 exact Zk idH
 obtain ⟨k, hk⟩ := x
 dsimp only at hk ⊢
 refine Z0 (sqt 4 rfl (pur 1 rfl (sp rfl (PE.fA Z0n rfl) rfl (spL rfl rfl (lh (v := .int .i64 h.bins) sc3 rfl rfl) rfl ?_))))
 rw [hB]
 refine pur 1 rfl ?_
 refine Z1 rfl ?_ ?_ <;> intro hc0 <;> try simp only [cS] at hc0
 refine Z2 (Z0 (Z3 (sqr 4 rfl (pur 2 rfl (sp rfl (PE.indexAddr Z0a rfl rfl (by omega) (by omega)) rfl ?_)))))
 refine ZN (l' := Zq ((fil (-1) B k).set k (-1))) rfl rfl rfl cn3 rfl rfl rfl (Z0E (by rw [Z8e hk]; omega) (by show 0 + ((k : Nat) : Int).toNat * 1 = k; omega)) (by rw [Zh, Z8e hk]; show 0 + ((k : Nat) : Int).toNat * 1 + 1 ≤ _; omega) ?_
 refine sqr 3 rfl (pur 1 rfl (sp rfl (PE.add rfl rfl (by omega)) rfl (pur 1 rfl ?_)))
 rw [Zck (by omega)]
 exact Zb ⟨k + 1, by omega⟩ idH
 obtain rfl : k = B := by omega
 rw [ZcM]
 have hst := RwI.start h.gaps (msk cz) (msk fr) k
 have hfl7 := hlm.few
 refine Z8 (Za (Za (Zm (Z0 (sqt 1 rfl (pur 1 rfl (Z3 ?_)))))))
 refine Sy.heap (fun w h9 => h9.also (f := RowsA af 1 (Z4 fr)) (fun w' hg => hg _ hF.mem)) ?_
 refine Zd (ι := {x : (Nat × List Int) × (List Int × Option Addr × Nat) // x.1.1 ≤ k ∧ Lm x.2.1 (lv h.gaps (msk cz) (msk fr) x.1.1) ∧ RwI h.gaps (msk cz) (msk fr) k (x.1.1) ([]) x.1.2}) (fun x => ⟨[(2, .slice acl cz.length ccz), (3, .pointer (some ⟨b3, 0, none⟩)), (7, .slice (some ⟨b14, 0, none⟩) k k), (8, .slice x.1.2.2.1 x.1.2.1.length x.1.2.2.2), (10, .int .i64 (x.1.1.1 : Int))], (b14, cel 3 (Zq (x.1.1.2))) :: (b3, cel 35 (htl h (h.sg ag cg) (h.ss as_ cs))) :: H, RowsA x.1.2.2.1 1 (Z4 x.1.2.1) :: R⟩) (fun x => k - x.1.1.1) ⟨((0, List.replicate k (-1)), (fr, af, cf)), Nat.zero_le _, hlm, hst⟩ ?_ (fun x => ?_)
 exact Zk idH
 obtain ⟨⟨⟨w, o⟩, ⟨now, an, cn⟩⟩, hw, hnl, hrw⟩ := x
 dsimp only at hw hnl hrw ⊢
 have hn7 := hnl.few
 have hnB := hnl.ltn (Z9U hwB hmB w)
 refine Z0 (sqt 4 rfl (pur 1 rfl (sp rfl (PE.fA Z0n rfl) rfl (spL rfl rfl (lh (v := .int .i64 h.bins) sc3 rfl rfl) rfl ?_))))
 rw [hB]
 refine pur 1 rfl ?_
 refine Z1 rfl ?_ ?_ <;> intro hc1 <;> try simp only [cS] at hc1
 refine Z2 (Z0 (Z3 (Z0 (sqt 1 rfl (pur 1 rfl (Z3 ?_))))))
 refine Zd (ι := {x : Nat × List Int // x.1 ≤ now.length ∧ RwI h.gaps (msk cz) (msk fr) k (w) (now.take x.1) x.2}) (fun x => ⟨[(2, .slice acl cz.length ccz), (3, .pointer (some ⟨b3, 0, none⟩)), (7, .slice (some ⟨b14, 0, none⟩) k k), (8, .slice an now.length cn), (10, .int .i64 (w : Int)), (11, .int .i64 (x.1.1 : Int))], (b14, cel 3 (Zq (x.1.2))) :: (b3, cel 35 (htl h (h.sg ag cg) (h.ss as_ cs))) :: H, RowsA an 1 (Z4 now) :: R⟩) (fun x => now.length - x.1.1) ⟨(0, o), Nat.zero_le _, hrw⟩ ?_ (fun x => ?_)
 exact Zk idH
 obtain ⟨⟨i, o⟩, hi, hrw⟩ := x
 dsimp only at hi hrw ⊢
 have hol := hrw.len
 refine Z0 (sqt 4 rfl (pur 2 rfl (sp rfl (PE.lenSl Zx rfl) rfl (pur 1 rfl ?_))))
 refine Z1 rfl ?_ ?_ <;> intro hc2 <;> try simp only [cS] at hc2
 obtain ⟨x, hx⟩ : ∃ x, now[i]? = some x := ⟨_, List.getElem?_eq_getElem (by omega)⟩
 have hxB := hnB x (List.mem_of_getElem? hx)
 obtain ⟨u, rfl⟩ : ∃ u : Nat, x = u := ⟨x.toNat, by omega⟩
 have htk : now.take (i + 1) = now.take i ++ [(u : Int)] := Z6e hx
 refine Zg (a := an) (sz := 1) (rows := Z4 now) (ne0 (by rw [irl]; omega)) (fun ba oa he => ?_)
 subst he
 refine Z2 (Z0 (Z3 (sqt 8 rfl (pur 3 rfl (sp rfl (PE.indexAddr Z0a rfl rfl (by omega) (by omega)) rfl (spL rfl rfl (lf0 sc3 (ZB hx) rfl) rfl (sp rfl (PE.indexAddr Z0a rfl rfl (by omega) (by omega)) rfl (spL rfl rfl (lh sc3 rfl (Z0h (w := o) (k := u) (by omega) (by show 0 + ((u : Nat) : Int).toNat * 1 = u; omega))) rfl (pur 1 rfl ?_)))))))))
 refine Z1 rfl ?_ ?_ <;> intro hc3 <;> try simp only [cS] at hc3
 have hr9 := hrw.put hxB (by rw [Int.toNat_natCast]; exact hc3)
 rw [Int.toNat_natCast, ← htk] at hr9
 refine sqr 8 rfl (pur 3 rfl (sp rfl (PE.indexAddr Z0a rfl rfl (by omega) (by omega)) rfl (spL rfl rfl (lf0 sc3 (ZB hx) rfl) rfl (pur 1 rfl (sp rfl (PE.indexAddr Z0a rfl rfl (by omega) (by omega)) rfl ?_)))))
 refine ZN (l' := Zq (o.set u (w : Int))) rfl rfl rfl cn3 rfl rfl rfl (Z0E (by omega) (by show 0 + ((u : Nat) : Int).toNat * 1 = u; omega)) (by rw [Zh, hol]; show 0 + ((u : Nat) : Int).toNat * 1 + 1 ≤ _; omega) ?_
 refine sqr 3 rfl (pur 1 rfl (sp rfl (PE.add rfl rfl (by omega)) rfl (pur 1 rfl ?_)))
 exact Zb ⟨(i + 1, o.set u (w : Int)), by dsimp only; omega, hr9⟩ idH
 have hr9 := hrw.skip hxB (by rw [Int.toNat_natCast]; omega)
 rw [← htk] at hr9
 refine Z2 (sqr 3 rfl (pur 1 rfl (sp rfl (PE.add rfl rfl (by omega)) rfl (pur 1 rfl ?_))))
 exact Zb ⟨(i + 1, o), by dsimp only; omega, hr9⟩ idH
 obtain rfl : i = now.length := by omega
 rw [List.take_length] at hrw
 have hrw2 := hrw.week hnl
 refine Z8 (Za (Za (Zm (sqr 5 rfl (spL rfl rfl (lhA (htl h (h.sg ag cg) (h.ss as_ cs)) Z57 rfl rfl rfl) rfl (pur 2 rfl ?_))))))
 refine cl rfl ZfR rfl rfl (ZcP h ag as_ cg cs hgl now cz an acl cn ccz (by omega) hcll _ _) ?_
 rintro _ _ R1 ⟨a9, c9, rfl, hc9, rfl, hR1⟩
 obtain rfl := hR1.symm
 clear hR1
 refine pur 1 rfl (sqr 3 rfl (pur 1 rfl (sp rfl (PE.add rfl rfl (by omega)) rfl (pur 1 rfl ?_))))
 exact Zb ⟨((w + 1, o), (Z7n h.gaps cz now, a9, c9)), by dsimp only; omega, ZcN hg7 hcb hnl, hrw2⟩ (fun w h9 => h9.facts (fun g hg => by simp only [List.mem_cons] at hg ⊢; rcases hg with h8 | h8 <;> simp [h8]))
 obtain rfl : w = k := by omega
 obtain rfl := hrw.done (by omega) (by omega) hwB hmB
 refine Sy.heap (fun w9 h9 => St.rows (sz := 1) (rows := Z4 (wkL h.gaps (msk cz) (msk fr) w)) (rest := []) (by rw [List.append_nil, show (Z4 (wkL h.gaps (msk cz) (msk fr) w)).flatten = Zq (wkL h.gaps (msk cz) (msk fr) w) from Z0W _]; exact h9) (fun r hr => by obtain ⟨x, _, rfl⟩ := List.mem_map.1 hr; rfl)) ?_
 refine Z8 (Za (Za (Zm (sqt 2 rfl (pur 2 rfl (Z5 ?_))))))
 exact rtA rfl rfl rfl ⟨_, w, rfl, rfl, rfl⟩ (fun w9 h9 => (h9.del b3).facts (fun g hg => by simp only [List.mem_cons] at hg ⊢; rcases hg with h8 | h8 <;> simp [h8]))
end Go.Proofs.YthbjpnmclokinaaGreat
