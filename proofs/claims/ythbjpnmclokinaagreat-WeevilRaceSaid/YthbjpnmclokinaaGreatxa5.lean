/- Walks of the functions of the program, and the laws that join them: what the last theorem of this claim needs, in order. -/
import Derived.Test.YthbjpnmclokinaaGreatxa4
namespace Go.Proofs.YthbjpnmclokinaaGreat
set_option linter.unusedSimpArgs false
set_option linter.unusedVariables false
open Go
theorem ZcO : cal Tryz.prog 21 = true := by kernel_rfl
def ZeD (h : Hse) (fr to_ : List Int) (H : Z9) (R : Z5) : Value → Z9 → Z5 → Prop := fun v H' R' => H' = H ∧ R' = R ∧ ((h.botE fr to_ ≠ 0 ∧ v = .tuple #[.int .i64 0, .int .i64 (h.botE fr to_)]) ∨
  (h.botE fr to_ = 0 ∧ ∃ s : Nat, s ≤ 10 ∧ (∃ n, Pl h.gaps (msk to_) s (msk fr) 0 n) ∧ (∀ s', s' < s → ∀ n, ¬ Pl h.gaps (msk to_) s' (msk fr) 0 n) ∧ v = .tuple #[.int .i64 (s : Int), .int .i64 0]))
theorem Z4I {h : Hse} {fr to_ : List Int} {s : Nat} (hb : h.botE fr to_ = 0) (hs : s ≤ 10) : h.rcE fr to_ (s : Int) = 0 := by
  have : inB (s : Int) 0 10 = true := by simp [inB]; omega
  unfold Hse.rcE; rw [hb, this]; rfl
theorem Z2W {h : Hse} {fr to_ : List Int} (hb : h.Bot fr to_) : Two h.gaps (msk fr) (msk to_) := by
  obtain ⟨q1, q2, q3, q4, q5, q6⟩ := Z0r hb
  have hok := hb.ok
  exact ⟨fun g hg => by have := hok.gaps g hg; have := hok.bins; omega, fun i g hg => by have := hok.gaps g (List.mem_of_getElem? hg); omega, ZZ fun x hx => q1 x hx, ZZ fun x hx => q2 x hx, fun v hv => by
    cases hk : (msk to_).testBit v with
    | false => rfl
    | true => exact absurd ((Zr (fun k hk => (q2 k hk).1) v).1 hk) (hb.no _ ((Zr (fun k hk => (q1 k hk).1) v).1 hv))⟩
theorem Z9n {h : Hse} {fr to_ : List Int} (hb : h.Bot fr to_) : ∃ n, Pl h.gaps (msk to_) 10 (msk fr) 0 n := by
  have ht := Z2W hb
  have hp := Nat.two_pow_pos h.gaps.length
  exact ⟨_, Pl.once ht.w ht.s (show 2 ^ h.gaps.length - 1 < 2 ^ h.gaps.length by omega) (Z9i ht) (Nat.le_trans (Z3s _ _) hb.ok.gl)⟩
set_option maxHeartbeats 400000 in
theorem Zbi (h : Hse) (ag as_ : Option Addr) (cg cs : Nat) (hlg : h.gaps.length ≤ 9223372036854775807) (hls : h.sights.length ≤ 9223372036854775807) (fr to_ : List Int) (af at_ : Option Addr) (cf ct : Nat) (hlf : fr.length ≤ 1000000) (hlt : to_.length ≤ 1000000) (hfc : fr.length ≤ cf) (htc : to_.length ≤ ct) (H : Z9) (R : Z5) [hG : MemRows ag 2 (Zl h.gaps) R] [hS : MemRows as_ 3 (Zq h.sights) R] [hF : MemRows af 1 (Z4 fr) R] [hT : MemRows at_ 1 (Z4 to_) R] :
    Fn Tryz.prog 24 [h.v (h.sg ag cg) (h.ss as_ cs), .slice af fr.length cf, .slice at_ to_.length ct] H R (ZeD h fr to_ H R) := by
 refine Zf Tryz.func24 rfl Tryz.ntmps24 rfl ?_
 refine sqt 3 rfl (bx rfl rfl rfl (fun b3 => pur 2 rfl (Z0 (sqt 5 rfl (spL rfl rfl (lhA (htl h (h.sg ag cg) (h.ss as_ cs)) Z0N rfl rfl rfl) rfl (pur 2 rfl ?_))))))
 refine clV rfl Z8J rfl rfl (Z5y h ag as_ cg cs hlg hls fr to_ af at_ cf ct (by omega) (by omega) hfc htc _ _) ?_
 refine pur 1 rfl (sqt 2 rfl (pur 2 rfl ?_))
 refine Z1 rfl ?_ ?_ <;> intro hc0
 have hbe : h.botE fr to_ ≠ 0 := of_decide_eq_true hc0
 refine sqt 3 rfl (pur 3 rfl (Z6 ?_))
 exact rtB rfl rfl rfl rfl ⟨rfl, rfl, .inl ⟨hbe, rfl⟩⟩ (fun w h9 => h9.del b3)
 ·
  have hbe : h.botE fr to_ = 0 := Classical.byContradiction fun e => by rw [decide_eq_true e] at hc0; cases hc0
  have hb := Z18 hbe
  obtain ⟨n0, hn0⟩ := Z9n hb
  refine Z2 (sqt 1 rfl (pur 1 rfl (Z3 ?_)))
  refine Zd (ι := {s : Nat // s ≤ 10 ∧ ∀ s', s' < s → ∀ n, ¬ Pl h.gaps (msk to_) s' (msk fr) 0 n}) (fun s => ⟨[(1, .slice af fr.length cf), (2, .slice at_ to_.length ct), (3, .pointer (some ⟨b3, 0, none⟩)), (9, .int .i64 (s.1 : Int))], (b3, cel 25 (htl h (h.sg ag cg) (h.ss as_ cs))) :: H, R⟩) (fun s => 11 - s.1) ⟨0, by omega, fun s' h9 => absurd h9 (Nat.not_lt_zero _)⟩ ?_ (fun s => ?_)
  exact Zj idH
  ·
   obtain ⟨s, hs, hno⟩ := s
   dsimp only at hs hno ⊢
   have hrz := Z4I hbe hs
   refine Z0 (Z3 (sqt 10 rfl (spL rfl rfl (lhA (htl h (h.sg ag cg) (h.ss as_ cs)) Z0N rfl rfl rfl) rfl (pur 3 rfl ?_))))
   refine cl rfl ZcO rfl rfl (Z9A h ag as_ cg cs hlg hls fr to_ af at_ cf ct hlf hlt hfc htc (s : Int) _ _) ?_
   rintro _ _ R1 ⟨rfl, hq⟩
   rcases hq with ⟨h9, _⟩ | ⟨_, hnp, rfl, hR1⟩ | ⟨_, ls, pl, a, c, _, _, _, _, _, hls2, rfl, hR1⟩
   · exact absurd hrz h9
   all_goals obtain rfl := hR1.symm
   all_goals clear hR1
   all_goals rw [Int.toNat_natCast] at *
   refine pur 5 rfl (sqt 2 rfl (pur 2 rfl ?_))
   refine Z1 rfl ?_ ?_ <;> intro hc1
   exact absurd hc1 (by decide)
   have hs10 : s ≠ 10 := fun e => hnp n0 (by rw [e]; exact hn0)
   refine Z2 (sqr 3 rfl (pur 1 rfl (sp rfl (PE.add rfl rfl (by omega)) rfl (pur 1 rfl ?_))))
   exact Z7 ⟨s + 1, by omega, fun s' h9 => (Nat.lt_succ_iff_lt_or_eq.1 h9).elim (hno s') (fun e => by subst e; exact hnp)⟩ idH
   refine pur 5 rfl (sqt 2 rfl (pur 2 rfl ?_))
   refine Z1 rfl ?_ ?_ <;> intro hc1
   refine sqt 3 rfl (pur 3 rfl (Z6 ?_))
   exact rtB rfl rfl rfl rfl ⟨rfl, rfl, .inr ⟨hbe, s, hs, ⟨_, hls2.1⟩, hno, rfl⟩⟩ (fun w h9 => St.sub (h9.del b3))
   exact absurd hc1 (by decide)
theorem Zc2 : cal Tryz.prog 136 = true := by kernel_rfl
theorem ik3 : Z6w Tryz.prog 3 = some .i64 := by kernel_rfl
section steps
variable {P : Program} {r : Option Nat} {ops : Array Oper} {n : Nat} {L : Zi} {D : List Deferred} {H : Z9} {R : Z5} {K : Act → World → Prop}
  {i d : Nat} {ty : TypeId} {pos : String} {af : Array Edge}
theorem ZeL {t tn e sz by_ k : Nat} {kq kn : IntKind} {s x : Operand} {zl : List Value} (ho : ops[i]? = some ⟨some d, .call { callee := .builtin .append, args := #[s, x], argTypes := #[t, tn] }, ty, pos, af, none⟩)
    (ht : apT P t = some (e, sz, by_)) (htn : Z6w P tn = some kn) (hz : ZJ P e = some zl) (hs : ev L s = some (.slice none 0 0)) (hx : ev L x = some (.int kq k))
    (hk : 0 < k) (hs0 : 0 < sz) (hb : k * by_ ≤ 140737488355328 ∧ k ≤ 9223372036854775807) (hd : Nat.blt d n = true)
    (h : ∀ (b' cap' : Nat) (junk : List Value), k ≤ cap' → cap' ≤ 9223372036854775807 → k * sz + junk.length = cap' * sz → Sy n ((d, .slice (some ⟨b', 0, none⟩) k cap') :: L) D ((b', cel e (Z14 k zl ++ junk)) :: H) R K) : Sy n L D H R (stp P r ops i K) := fun a w ha hD hw => by
  unfold apT at ht
  split at ht
  case h_2 => cases ht
  rename_i e' hu
  split at ht
  case h_2 => cases ht
  rename_i ie hi
  split at ht
  case h_2 => cases ht
  rename_i z hzz
  cases hzs : Nat.beq z.cells.size ie.size with
  | false => rw [hzs] at ht; cases ht
  | true =>
  rw [hzs, cond_true] at ht
  cases ht
  have hzs := Nat.eq_of_beq_eq_true hzs
  have hzl : z.cells.toList = zl := by
    have : ZJ P e = some z.cells.toList := by simp [ZJ, hi, hzz]
    rw [this] at hz; exact Option.some.inj hz
  have hun : P.underlying tn = some (.int kn) := by
    unfold Z6w at htn
    split at htn
    · rename_i q hq; cases htn; exact hq
    · cases htn
  have hold : (Builtin.firstCells ie.size 0 (.slice none 0 0)).run P w.drew = .ok ([] : List Value).toArray w.drew := by
    simp [Builtin.firstCells, Sem.run_pure]
  have h2 := Lib.run_append_grow_zeros (P := P) w t tn ty e ie z kq kn hu hun hi hzz none 0 0 [] hold k hk hs0 (by omega) (by omega) (by omega) (growslice_fits (by omega) (by rw [Nat.zero_add]; exact hb.1))
  rw [Nat.zero_add] at h2
  have hge := grownCap_ge w k 0 e
  have hcm : grownCap w k 0 e ≤ maxLen := grownCap_le_maxLen w _ 0 e (by simp only [maxLen]; omega)
  have hrep : ∀ q, (Builtin.zeroCells z.cells q).toList = Z14 q zl := fun q => by rw [← hzl]; simp [Builtin.zeroCells, Z14]
  have e1 : (.cells (([] : List Value).toArray ++ Builtin.zeroCells z.cells k ++ Builtin.zeroCells z.cells (grownCap w k 0 e - k)) e : Obj) = cel e (Z14 k zl ++ (Builtin.zeroCells z.cells (grownCap w k 0 e - k)).toList) := by
    unfold cel; congr 1; apply Array.toList_inj.1; simp [hrep]
  refine Zn ho (Zc _ rfl _) (v := .slice (some ⟨w.heap.size, 0, none⟩) k (grownCap w k 0 e)) (w' := w.drew.alloc (cel e (Z14 k zl ++ (Builtin.zeroCells z.cells (grownCap w k 0 e - k)).toList))) ?_
    (h w.heap.size (grownCap w k 0 e) (Builtin.zeroCells z.cells (grownCap w k 0 e - k)).toList hge (by simp only [maxLen] at hcm; omega) ?_ _ _ (ha.put (by simpa using hd) _) hD (hw.drew.alloc _))
  · simp only [execOp, resolve, invoke, builtin, Sem.run_bind, Sem.run_pure, Result.andThen, List.map_toArray, List.map_cons, List.map_nil, ha.reads _ _ hs, ha.reads _ _ hx]
    rw [e1] at h2
    rw [h2]
  · simp only [Array.length_toList, size_zeroCells, hzs, ← Nat.add_mul]
    congr 1; omega
end steps
theorem Z1b {k : Nat} {v : Value} : (Z14 k [v]).length = k := by simp [Z14]
def Z3d (pl : List PL) (k : Nat) : List Int := (lls (pl.take k)).flatten
theorem Z2G {pl : List PL} {k : Nat} {x : PL} (h : pl[k]? = some x) : Z3d pl (k + 1) = Z3d pl k ++ x.l := by
  unfold Z3d lls
  rw [List.take_add_one, h, Option.toList_some, List.map_append, List.flatten_append]; simp
theorem Z26 (pl : List PL) : ∀ k, (Z3d pl k).length ≤ (lls pl).flatten.length := fun k => by
  unfold Z3d lls
  have h : pl.map (·.l) = (pl.take k).map (·.l) ++ (pl.drop k).map (·.l) := by rw [← List.map_append, List.take_append_drop]
  rw [h, List.flatten_append, List.length_append]; omega
theorem Zbd (k : Nat) (hk : k ≤ 1000000) (H : Z9) (R : Z5) :
    Fn Tryz.prog 136 [.slice none 0 0, .int .i64 (k : Int)] H R (fun v H' R' => ∃ o : OSl 3 1 [], v = o.fs ∧ H' = o.G ++ H ∧ R' = R) := by
 refine Zf Tryz.func136 rfl Tryz.ntmps136 rfl ?_
 refine sqt 1 rfl (pur 1 rfl (Z0 (sqt 2 rfl (pur 2 rfl ?_))))
 refine Z1 rfl ?_ ?_ <;> intro hc0
 simp only [decide_eq_true_eq] at hc0
 omega
 refine Z2 (Z0 (sqt 8 rfl (pur 2 rfl (sp rfl (PE.capSl Zy rfl) rfl (pur 1 rfl (sp rfl (PE.lenSl Zy rfl) rfl (sp rfl (PE.sub rfl rfl (by omega)) rfl (sp rfl (PE.sub rfl rfl (by omega)) rfl ?_))))))))
 rw [show (k : Int) - (((0 : Nat) : Int) - ((0 : Nat) : Int)) = (k : Int) by omega]
 refine pur 1 rfl (sqt 2 rfl (pur 2 rfl ?_))
 refine Z1 rfl ?_ ?_ <;> intro hc1
 try simp only [cS] at hc1
 refine sqr 10 rfl (pur 2 rfl (sp rfl (PE.capSl Zy rfl) rfl (sp rfl (PE.slHi (h := 0) Z02 rfl rfl (by omega)) rfl (pur 1 rfl ?_))))
 refine ZeL rfl Z2t ik3 zl3 rfl rfl (by omega) (by omega) (by omega) rfl (fun b2 cap2 jk2 hc1 hc2 hc3 => ?_)
 refine pur 1 rfl (sp rfl (PE.lenSl Zy rfl) rfl (sp rfl (PE.slHi (h := 0) Z02 rfl rfl (by omega)) rfl (pur 1 rfl (sqt 2 rfl (pur 2 rfl (Z6 ?_))))))
 exact rtA rfl rfl rfl ⟨⟨.slice (some ⟨b2, 0, none⟩) 0 cap2, [(b2, cel 3 (Z14 k [.int .i64 0] ++ jk2))], by simp, .inr ⟨b2, cap2, Z14 k [.int .i64 0] ++ jk2, rfl, rfl, by rw [List.length_append, Z1b]; simp only [List.length_nil]; omega, Nat.zero_le _, hc2⟩⟩, rfl, rfl, rfl⟩ idH
 refine Z2 (sqt 2 rfl (pur 2 rfl (Z6 ?_)))
 exact rtA rfl rfl rfl ⟨OSl.nil _ _, rfl, rfl, rfl⟩ idH
set_option maxHeartbeats 400000 in
theorem Z11 (pl : List PL) (ap : Option Addr) (cp : Nat) (hpl : pl.length ≤ 1000000) (htl : (lls pl).flatten.length ≤ 1000000) (H : Z9) (R : Z5) [hP : MemRows ap 1 (Zw pl) R] [hI : MemF (Inn pl) R] :
    Fn Tryz.prog 68 [.slice ap pl.length cp] H R (fun v H' R' => ∃ o : OSl 3 1 (Z4 (lls pl).flatten), v = o.fs ∧ H' = o.G ++ H ∧ R' = R) := by
 refine Zf Tryz.func68 rfl Tryz.ntmps68 rfl ?_
 refine sqt 1 rfl (pur 1 rfl (sqt 1 rfl (pur 1 rfl (Z0 (sqt 3 rfl (pur 1 rfl (sp rfl (PE.lenSl Z3O rfl) rfl (pur 1 rfl (Z3 ?_)))))))))
 refine Zd (ι := {k : Nat // k ≤ pl.length}) (fun k => ⟨[(0, .slice ap pl.length cp), (3, .int .i64 ((Z3d pl k.1).length : Nat)), (9, .slice ap pl.length cp), (10, .int .i64 pl.length), (11, .int .i64 k.1)], H, R⟩) (fun k => pl.length - k.1) ⟨0, Nat.zero_le _⟩ ?_ (fun k => ?_)
 exact Zj idH
 obtain ⟨k, hk⟩ := k
 dsimp only at hk ⊢
 have hcl := Z26 pl k
 have hcl2 := Z26 pl (k + 1)
 refine sqt 1 rfl (pur 1 rfl (Z0 ?_))
 refine Z1 rfl ?_ ?_ <;> intro hc0 <;> try simp only [cS] at hc0
 obtain ⟨x, hx⟩ : ∃ x, pl[k]? = some x := ⟨_, List.getElem?_eq_getElem (by omega)⟩
 have hst := congrArg List.length (Z2G hx)
 rw [List.length_append] at hst
 refine Zo (a := ap) (sz := 1) (rows := Zw pl) (ne0 (by rw [Zt]; omega)) (fun ba oa he => ?_)
 subst he
 refine Z2 (Z0 (Z3 (sqt 3 rfl (sp rfl (PE.indexAddr Zbk rfl rfl (by omega) (by omega)) rfl (spL rfl rfl (lf0 Z2p (Z4l hx) rfl) rfl (pur 1 rfl (sqt 5 rfl (pur 2 rfl (sp rfl (PE.lenSl Zy rfl) rfl (sp rfl (PE.add rfl rfl (by omega)) rfl ?_))))))))))
 rw [show ((Z3d pl k).length : Int) + (x.l.length : Int) = ((Z3d pl (k + 1)).length : Int) by omega]
 refine pur 1 rfl (sqt 2 rfl (pur 2 rfl ?_))
 refine Z1 rfl ?_ ?_ <;> intro hc1
 simp only [decide_eq_true_eq] at hc1
 omega
 refine Z2 (sqr 2 rfl (sp rfl (PE.add rfl rfl (by omega)) rfl (pur 1 rfl ?_)))
 exact Z7 ⟨k + 1, by omega⟩ idH
 obtain rfl : k = pl.length := by omega
 refine Z8 (Za (Za (Zk (sqt 3 rfl (pur 1 rfl ?_)))))
 refine cl rfl Zc2 rfl rfl (Zbd (Z3d pl pl.length).length (by omega) _ _) ?_
 rintro _ _ R1 ⟨o0, rfl, rfl, hR1⟩
 obtain rfl := hR1.symm
 clear hR1
 refine pur 1 rfl (Z0 (sqt 3 rfl (pur 1 rfl (sp rfl (PE.lenSl Z3O rfl) rfl (pur 1 rfl (Z3 ?_))))))
 refine Zd (ι := (k : {k : Nat // k ≤ pl.length}) × OSl 3 1 (Z4 (Z3d pl k.1))) (fun y => ⟨[(6, y.2.fs), (25, .slice ap pl.length cp), (26, .int .i64 pl.length), (27, .int .i64 y.1.1)], y.2.G ++ H, R⟩) (fun y => pl.length - y.1.1) ⟨⟨0, Nat.zero_le _⟩, o0⟩ ?_ (fun y => ?_)
 exact Zj idH
 obtain ⟨⟨k, hk⟩, o⟩ := y
 dsimp only at hk o ⊢
 have hcl := Z26 pl k
 have hcl2 := Z26 pl (k + 1)
 refine sqt 1 rfl (pur 1 rfl (Z0 ?_))
 refine Z1 rfl ?_ ?_ <;> intro hc2 <;> try simp only [cS] at hc2
 obtain ⟨x, hx⟩ : ∃ x, pl[k]? = some x := ⟨_, List.getElem?_eq_getElem (by omega)⟩
 have hst := Z2G hx
 have hsl := congrArg List.length hst
 rw [List.length_append] at hsl
 refine Zo (a := ap) (sz := 1) (rows := Zw pl) (ne0 (by rw [Zt]; omega)) (fun ba oa he => ?_)
 subst he
 refine Sy.heap (fun w h => St.inn (x := x) h (List.mem_of_getElem? hx)) ?_
 refine Z2 (Z0 (Z3 (sqt 3 rfl (sp rfl (PE.indexAddr Zbk rfl rfl (by omega) (by omega)) rfl (spL rfl rfl (lf0 Z2p (Z4l hx) rfl) rfl (pur 1 rfl (sqr 4 rfl (pur 2 rfl ?_))))))))
 refine apO (news := Z4 x.l) o rfl Z2t rfl rfl (Z9k) (irl _) (by simp [Z09, Z4, Value.oneCell']) (by rw [irl, irl]; omega) rfl (fun o33 => ?_)
 refine pur 1 rfl (sqr 2 rfl (sp rfl (PE.add rfl rfl (by omega)) rfl (pur 1 rfl ?_)))
 exact Z7 ⟨⟨k + 1, by omega⟩, o33.cast (by rw [hst]; simp [Z4])⟩ (fun w h => h.ftail)
 obtain rfl : k = pl.length := by omega
 refine Z8 (Za (Za (Zk (sqt 2 rfl (pur 2 rfl (Z6 ?_))))))
 exact rtA rfl rfl rfl ⟨o.cast (by unfold Z3d; rw [List.take_length]), rfl, rfl, rfl⟩ idH
theorem Z4U : cal Tryz.prog 68 = true := by kernel_rfl
def ZeE (h : Hse) (fr to_ : List Int) (spd : Int) (H : Z9) (R : Z5) : Value → Z9 → Z5 → Prop := fun v H' R' => H' = H ∧ R' = R ∧ ((h.rcE fr to_ spd ≠ 0 ∧ v = .tuple #[.int .i64 0, .int .i64 (h.rcE fr to_ spd)]) ∨
  (h.rcE fr to_ spd = 0 ∧ (∀ n, ¬ Pl h.gaps (msk to_) spd.toNat (msk fr) 0 n) ∧ v = .tuple #[.int .i64 0, .int .i64 6]) ∨
  (h.rcE fr to_ spd = 0 ∧ ∃ n : Nat, n ≤ 10 ∧ Lst (Pl h.gaps (msk to_) spd.toNat (msk fr) 0) n ∧ v = .tuple #[.int .i64 (n : Int), .int .i64 0]))
theorem Z5g {gs : List Gp} (hg : gs.length ≤ 10) : ∀ {ls : List Nat}, (∀ l ∈ ls, l < 2 ^ gs.length) → ((ls.map Z1I).flatten).length = Z5V gs ls
  | [], _ => rfl
  | l :: ls, h => by
    rw [List.map_cons, List.flatten_cons, List.length_append, Z5g hg (fun x hx => h x (List.mem_cons_of_mem _ hx)), Z5l (h l (by simp)) hg]; rfl
theorem St.norows9 {sz : Nat} {H : Z9} {R : Z5} {w : World} (h : St H R w) : St H (Inn [] :: RowsA none sz (Zw []) :: R) w := St.inn0 (St.norows (sz := sz) h)
set_option maxHeartbeats 400000 in
theorem Z5P (h : Hse) (ag as_ : Option Addr) (cg cs : Nat) (hlg : h.gaps.length ≤ 9223372036854775807) (hls : h.sights.length ≤ 9223372036854775807) (fr to_ : List Int) (af at_ : Option Addr) (cf ct : Nat) (hlf : fr.length ≤ 1000000) (hlt : to_.length ≤ 1000000) (hfc : fr.length ≤ cf) (htc : to_.length ≤ ct) (spd : Int) (H : Z9) (R : Z5) [hG : MemRows ag 2 (Zl h.gaps) R] [hS : MemRows as_ 3 (Zq h.sights) R] [hF : MemRows af 1 (Z4 fr) R] [hT : MemRows at_ 1 (Z4 to_) R] :
    Fn Tryz.prog 22 [h.v (h.sg ag cg) (h.ss as_ cs), .slice af fr.length cf, .slice at_ to_.length ct, .int .i64 spd] H R (ZeE h fr to_ spd H R) := by
 refine Zf Tryz.func22 rfl Tryz.ntmps22 rfl ?_
 refine sqt 3 rfl (bx rfl rfl rfl (fun b4 => pur 2 rfl (sqt 10 rfl (spL rfl rfl (lhA (htl h (h.sg ag cg) (h.ss as_ cs)) Z0N rfl rfl rfl) rfl (pur 3 rfl ?_)))))
 refine cl rfl ZcO rfl rfl (Z9A h ag as_ cg cs hlg hls fr to_ af at_ cf ct hlf hlt hfc htc spd _ _) ?_
 rintro _ _ R1 ⟨rfl, hq⟩
 rcases hq with ⟨h9, rfl, hR1⟩ | ⟨h9, hnp, rfl, hR1⟩ | ⟨h9, ls, pl, a, c, hll, hpk, hpc, hlb, hrun, hlst, rfl, hR1⟩
 all_goals obtain rfl := hR1.symm
 all_goals clear hR1
 refine pur 5 rfl (sqt 6 rfl ?_)
 refine Sy.heap (fun w h => St.norows9 (sz := 1) h) ?_
 refine pur 1 rfl ?_
 refine cl rfl Z4U rfl rfl (Z11 [] none 0 (by decide) (by decide) _ _) ?_
 rintro _ _ R1 ⟨o, rfl, rfl, hR1⟩
 obtain rfl := hR1.symm
 clear hR1
 obtain ⟨ao, co, heo, hfz⟩ := o.freeze
 rw [heo, irl]
 refine Sy.heap (fun w h => hfz h) ?_
 clear hfz heo
 refine sp rfl (PE.lenSl Zy rfl) rfl (pur 3 rfl (Z6 ?_))
 exact rtB rfl rfl rfl rfl ⟨rfl, rfl, .inl ⟨h9, rfl⟩⟩ (fun w h9 => St.sub (h9.del b4))
 refine pur 5 rfl (sqt 6 rfl ?_)
 refine Sy.heap (fun w h => St.norows9 (sz := 1) h) ?_
 refine pur 1 rfl ?_
 refine cl rfl Z4U rfl rfl (Z11 [] none 0 (by decide) (by decide) _ _) ?_
 rintro _ _ R1 ⟨o, rfl, rfl, hR1⟩
 obtain rfl := hR1.symm
 clear hR1
 obtain ⟨ao, co, heo, hfz⟩ := o.freeze
 rw [heo, irl]
 refine Sy.heap (fun w h => hfz h) ?_
 clear hfz heo
 refine sp rfl (PE.lenSl Zy rfl) rfl (pur 3 rfl (Z6 ?_))
 exact rtB rfl rfl rfl rfl ⟨rfl, rfl, .inr (.inl ⟨h9, hnp, rfl⟩)⟩ (fun w h9 => St.sub (h9.del b4))
 refine pur 5 rfl (sqt 6 rfl ?_)
 have hgl := (Zb7 h9).1.ok.gl
 have hlen : (lls pl).flatten.length = Z5V h.gaps ls := by rw [hll]; exact Z5g hgl hlb
 have hs10 := hlst.1.few
 have hpl : pl.length = ls.length := by have := congrArg List.length hll; rw [Z27, List.length_map] at this; exact this
 refine pur 1 rfl ?_
 refine cl rfl Z4U rfl rfl (Z11 pl a c (by omega) (by omega) _ _) ?_
 rintro _ _ R1 ⟨o, rfl, rfl, hR1⟩
 obtain rfl := hR1.symm
 clear hR1
 obtain ⟨ao, co, heo, hfz⟩ := o.freeze
 rw [heo, irl, hlen]
 refine Sy.heap (fun w h => hfz h) ?_
 clear hfz heo
 refine sp rfl (PE.lenSl Zy rfl) rfl (pur 3 rfl (Z6 ?_))
 exact rtB rfl rfl rfl rfl ⟨rfl, rfl, .inr (.inr ⟨h9, Z5V h.gaps ls, by omega, hlst, rfl⟩)⟩ (fun w h9 => St.sub (h9.del b4))
theorem ZbQ : cal Tryz.prog 148 = true := by kernel_rfl
theorem Zct : cal Tryz.prog 149 = true := by kernel_rfl
theorem ZbR : cal Tryz.prog 173 = true := by kernel_rfl
theorem Zas : cal Tryz.prog 84 = true := by kernel_rfl
theorem Zek : cal Tryz.prog 95 = true := by kernel_rfl
theorem Zdz : cal Tryz.prog 96 = true := by kernel_rfl
theorem Zeh : cal Tryz.prog 97 = true := by kernel_rfl
def Hse.ledE (h : Hse) (fr to_ : List Int) (ls : List (List Int)) : Int := bif decide (h.botE fr to_ ≠ 0) then h.botE fr to_ else bif decide (ZL h.gaps.length ls.flatten ≠ 0) then ZL h.gaps.length ls.flatten else bif !(ls.all fun l => Z8w h.gaps 0 fr to_ l) then 8 else 0
def Hse.ledR (h : Hse) (fr to_ : List Int) (ls : List (List Int)) : Int := bif decide (h.ledE fr to_ ls = 0) then ls.length else 0
theorem Z8q (pl : List PL) (p : List Int → Bool) : (pl.all fun x => p x.l) = (lls pl).all p := by unfold lls; rw [List.all_map]; rfl
theorem Z4W {h : Hse} {fr to_ : List Int} {ls : List (List Int)} {e : Int} (he : h.ledE fr to_ ls = e) (h0 : e ≠ 0) : h.ledR fr to_ ls = 0 := by unfold Hse.ledR; rw [he, decide_eq_false h0]; rfl
theorem Z7Z (xs : List PL) (a : Option Addr) (c g : Nat) (fst cap : List Value) (p : PL → Bool) (hg : cal Tryz.prog g = true) (hl : xs.length ≤ 9223372036854775807) (H : Z9) (R : Z5) [hR : MemRows a 1 (Zw xs) R] (hp : ∀ x, x ∈ xs → FnV Tryz.prog g (fst ++ [.slice x.a x.l.length x.c] ++ cap) H R (.bool (p x))) :
    FnV Tryz.prog 173 [.slice a xs.length c, .func (.func g) fst.toArray cap.toArray] H R (.int .i64 (match xs.findIdx? p with | some k => (k : Int) | none => -1)) := by
 refine Zf Tryz.func173 rfl Tryz.ntmps173 rfl ?_
 refine sqt 1 rfl (pur 1 rfl (Z0 (sqt 3 rfl (pur 1 rfl (sp rfl (PE.lenSl Z3O rfl) rfl (pur 1 rfl (Z3 ?_)))))))
 refine Zd (ι := {k : Nat // k ≤ xs.length ∧ ∀ x ∈ xs.take k, p x = false}) (fun k => ⟨[(0, .slice a xs.length c), (1, .func (.func g) fst.toArray cap.toArray), (7, .int .i64 xs.length), (8, .int .i64 k.1)], H, R⟩) (fun k => xs.length - k.1) ⟨0, by simp⟩ ?_ (fun k => ?_)
 exact Zj idH
 obtain ⟨k, hk, hn⟩ := k
 dsimp only
 refine sqt 1 rfl (pur 1 rfl (Z0 ?_))
 refine Z1 rfl ?_ ?_ <;> intro hc0
 simp only [cS] at hc0
 obtain ⟨x, hx⟩ : ∃ x, xs[k]? = some x := ⟨_, List.getElem?_eq_getElem (by omega)⟩
 have hxm := List.mem_of_getElem? hx
 refine Zo (a := a) (sz := 1) (rows := Zw xs) (by cases xs <;> simp_all [Zw]) (fun b off he => ?_)
 subst he
 refine Z2 (Z0 (Z3 (sqt 2 rfl (pur 2 rfl (sqt 6 rfl (pur 3 rfl (sp rfl (PE.indexAddr Zbk rfl rfl (by omega) (by omega)) rfl (spL rfl rfl (lf0 Z2p (by simp [Zw, hx]; rfl) rfl) rfl ?_))))))))
 refine Z6t rfl rfl (hg) rfl rfl (hp x hxm) ?_
 refine Z1 rfl ?_ ?_ <;> intro hc1
 refine sqt 2 rfl (pur 2 rfl (Z6 ?_))
 first | (exact rtA rfl rfl rfl ⟨by rw [Z07 hx hn hc1]; rfl, rfl, rfl⟩ idH) | (exact rtA rfl rfl rfl ⟨by rw [ZQ (by simpa using hn)]; rfl, rfl, rfl⟩ idH)
 refine Z2 (sqr 2 rfl (sp rfl (PE.add rfl rfl (by omega)) rfl (pur 1 rfl ?_)))
 exact Z7 ⟨k + 1, by omega, Z1g hx hn hc1⟩ idH
 simp only [cS] at hc0
 obtain rfl : k = xs.length := by omega
 refine Z8 (Za (Za (Zk (sqt 1 rfl (pur 1 rfl (Z6 ?_))))))
 first | (exact rtA rfl rfl rfl ⟨by rw [Z07 hx hn hc1]; rfl, rfl, rfl⟩ idH) | (exact rtA rfl rfl rfl ⟨by rw [ZQ (by simpa using hn)]; rfl, rfl, rfl⟩ idH)
theorem Z8o (xs : List PL) (a : Option Addr) (c g : Nat) (fst cap : List Value) (p : PL → Bool) (hg : cal Tryz.prog g = true) (hl : xs.length ≤ 9223372036854775807) (H : Z9) (R : Z5) [hR : MemRows a 1 (Zw xs) R] (hp : ∀ x, x ∈ xs → FnV Tryz.prog g (fst ++ [.slice x.a x.l.length x.c] ++ cap) H R (.bool (p x))) :
    FnV Tryz.prog 148 [.slice a xs.length c, .func (.func g) fst.toArray cap.toArray] H R (.bool (xs.any p)) := by
 refine Zf Tryz.func148 rfl Tryz.ntmps148 rfl ?_
 refine sqt 1 rfl (pur 1 rfl (sqt 5 rfl (pur 2 rfl ?_)))
 refine clV rfl ZbR rfl rfl (Z7Z xs a c g fst cap p hg hl _ _ hp) ?_
 refine pur 2 rfl (Z6 ?_)
 exact rtA rfl rfl rfl ⟨by simp only [Z08]; exact Z34 _ _, rfl, rfl⟩ drp
theorem Z77 (x : PL) (g bf : Nat) (fst cap : List Value) (p : Bool) (hg : cal Tryz.prog g = true) (H : Z9) (R : Z5) [hM : Mem1 bf (cel 145 [.func (.func g) fst.toArray cap.toArray]) H] (hp : FnV Tryz.prog g (fst ++ [.slice x.a x.l.length x.c] ++ cap) H R (.bool p)) :
    FnV Tryz.prog 149 [.slice x.a x.l.length x.c, .pointer (some ⟨bf, 0, none⟩)] H R (.bool !p) := by
 refine Zf Tryz.func149 rfl Tryz.ntmps149 rfl ?_
 refine sqt 1 rfl (pur 1 rfl (sqt 5 rfl (spL rfl rfl (lh Zd9 rfl rfl) rfl (pur 1 rfl ?_))))
 refine Z6t rfl rfl (hg) rfl rfl (hp) ?_
 refine pur 2 rfl (Z6 ?_)
 exact rtA rfl rfl rfl ⟨rfl, rfl, rfl⟩ drp
theorem Z54 (xs : List PL) (a : Option Addr) (c g : Nat) (fst cap : List Value) (p : PL → Bool) (hg : cal Tryz.prog g = true) (hl : xs.length ≤ 9223372036854775807) (H : Z9) (R : Z5) [hR : MemRows a 1 (Zw xs) R] (hp : ∀ b x, x ∈ xs → FnV Tryz.prog g (fst ++ [.slice x.a x.l.length x.c] ++ cap) ((b, cel 145 [.func (.func g) fst.toArray cap.toArray]) :: H) R (.bool (p x))) :
    FnV Tryz.prog 95 [.slice a xs.length c, .func (.func g) fst.toArray cap.toArray] H R (.bool (xs.all p)) := by
 refine Zf Tryz.func95 rfl Tryz.ntmps95 rfl ?_
 refine sqt 2 rfl (bx rfl rfl rfl (fun b3 => pur 1 rfl (sqt 5 rfl (pur 1 rfl (sp rfl (PE.makeFunc rfl rfl) rfl ?_)))))
 refine clV rfl ZbQ rfl rfl (Z8o xs a c 149 [] [_] (fun x => !p x) Zct hl _ _ (hp := fun x hx => Z77 x g _ fst cap (p x) hg _ _ (hp := hp _ x hx))) ?_
 refine pur 2 rfl (Z6 ?_)
 exact rtA rfl rfl rfl ⟨by simp only [Z08]; rw [Z0R], rfl, rfl⟩ drp
theorem Z8y (h : Hse) (ag as_ : Option Addr) (cg cs : Nat) (hok : h.ok) (fr to_ : List Int) (af at_ : Option Addr) (cf ct b4 b5 b6 : Nat) (hfr : ∀ x ∈ fr, 0 ≤ x ∧ x < 7) (hfl : fr.length ≤ 1000) (hnt : to_.length ≤ 1000000) (x : PL) (pl : List PL) (hxm : x ∈ pl) (hp : ∀ k ∈ x.l, 0 ≤ k) (hpl : x.l.length ≤ 1000000) (H : Z9) (R : Z5) [hG : MemRows ag 2 (Zl h.gaps) R] [hS : MemRows as_ 3 (Zq h.sights) R] [hF : MemRows af 1 (Z4 fr) R] [hT : MemRows at_ 1 (Z4 to_) R] [m4 : Mem1 b4 (cel 25 (htl h (h.sg ag cg) (h.ss as_ cs))) H] [m5 : Mem1 b5 (cel 26 [.slice af fr.length cf]) H] [m6 : Mem1 b6 (cel 26 [.slice at_ to_.length ct]) H] [hI : MemF (Inn pl) R] :
    FnV Tryz.prog 96 [.slice x.a x.l.length x.c, .pointer (some ⟨b4, 0, none⟩), .pointer (some ⟨b5, 0, none⟩), .pointer (some ⟨b6, 0, none⟩)] H R (.bool (Z8w h.gaps 0 fr to_ x.l)) := by
 refine Zf Tryz.func96 rfl Tryz.ntmps96 rfl ?_
 refine sqt 1 rfl ?_
 refine Sy.heap (fun w h => St.inn (x := x) h hxm) ?_
 refine pur 1 rfl (Z0 ?_)
 refine Ze [0, 1, 0, 0, 0, 31, 63] (.ld 0 (.ld 2 (.ld 3 (.tk 4 (.big 1 (.big 5 (.tk 6 .done))))))) Zu (by kernel_rfl) ?_
 refine ld rfl rfl (lhA (htl h (h.sg ag cg) (h.ss as_ cs)) Z0N rfl rfl rfl) rfl (ld rfl rfl (lh Z2p rfl rfl) rfl (ld rfl rfl (lh Z2p rfl rfl) rfl (Zp 1 rfl ?_)))
 refine cl rfl Z6b rfl rfl (Z6o h ag as_ cg cs _ _) ?_
 rintro _ _ _ ⟨bd, rfl, rfl, rfl⟩
 refine bg (fun w hs => ⟨(lh Z2p rfl rfl) w hs, (lh Z2p rfl rfl) w hs, trivial, trivial⟩) ?_
 refine clV rfl Zeh rfl rfl (Zbn (dkA h ag as_ cg cs bd) (Z0o h ag as_ cg cs hok bd) fr to_ x.l af at_ x.a cf ct x.c hfr hfl hnt hp hpl _ _) ?_
 refine bgT (Zp 1 rfl (Z6 ?_))
 exact rtA rfl rfl rfl ⟨rfl, rfl, rfl⟩ (fun w h9 => h9.ftail.ftail)
set_option maxHeartbeats 400000 in
theorem Zb5 (h : Hse) (ag as_ : Option Addr) (cg cs : Nat) (hlg : h.gaps.length ≤ 9223372036854775807) (hls : h.sights.length ≤ 9223372036854775807) (fr to_ : List Int) (af at_ : Option Addr) (cf ct : Nat) (hlf : fr.length ≤ 1000000) (hlt : to_.length ≤ 1000000) (hfc : fr.length ≤ cf) (htc : to_.length ≤ ct) (pl : List PL) (ap : Option Addr) (cp : Nat) (hpl : pl.length ≤ 1000000) (htot : (lls pl).flatten.length ≤ 1000000) (H : Z9) (R : Z5) [hG : MemRows ag 2 (Zl h.gaps) R] [hS : MemRows as_ 3 (Zq h.sights) R] [hF : MemRows af 1 (Z4 fr) R] [hT : MemRows at_ 1 (Z4 to_) R] [hP : MemRows ap 1 (Zw pl) R] [hI : MemF (Inn pl) R] :
    FnV Tryz.prog 36 [h.v (h.sg ag cg) (h.ss as_ cs), .slice af fr.length cf, .slice at_ to_.length ct, .slice ap pl.length cp] H R (.tuple #[.int .i64 (h.ledR fr to_ (lls pl)), .int .i64 (h.ledE fr to_ (lls pl))]) := by
 refine Zf Tryz.func36 rfl Tryz.ntmps36 rfl ?_
 refine sqt 5 rfl (bx rfl rfl rfl (fun b4 => bx rfl rfl rfl (fun b5 => bx rfl rfl rfl (fun b6 => pur 2 rfl (Z0 (sqt 5 rfl (spL rfl rfl (lhA (htl h (h.sg ag cg) (h.ss as_ cs)) Z0N rfl rfl rfl) rfl (spL rfl rfl (lh Z2p rfl rfl) rfl (spL rfl rfl (lh Z2p rfl rfl) rfl ?_)))))))))
 refine clV rfl Z8J rfl rfl (Z5y h ag as_ cg cs hlg hls fr to_ af at_ cf ct (by omega) (by omega) hfc htc _ _) ?_
 refine pur 1 rfl (sqt 2 rfl (pur 2 rfl ?_))
 refine Z1 rfl ?_ ?_ <;> intro hc0
 have hbe : h.botE fr to_ ≠ 0 := of_decide_eq_true hc0
 have e : h.ledE fr to_ (lls pl) = h.botE fr to_ := by unfold Hse.ledE; rw [dT hbe]; rfl
 refine sqt 3 rfl (pur 3 rfl (Z6 ?_))
 exact rtB rfl rfl rfl rfl ⟨by rw [Z4W e (by assumption), e] <;> rfl, rfl, rfl⟩ drp
 have hbe : h.botE fr to_ = 0 := Classical.byContradiction fun e => by rw [decide_eq_true e] at hc0; cases hc0
 have hb := Z18 hbe
 obtain ⟨q1, q2, q3, q4, q5, q6⟩ := Z0r hb
 have hok := hb.ok
 refine Z2 (Z0 (Z0 ?_))
 refine Ze [0, 1, 0, 4, 15, 31] (.tk 0 (.ld 2 (.tk 3 (.big 1 (.big 4 (.tk 5 .done)))))) Zu (by kernel_rfl) ?_
 refine Zp 1 rfl (ld rfl rfl (lhA (htl h (h.sg ag cg) (h.ss as_ cs)) Z0N rfl rfl rfl) rfl (tk rfl (PE.makeFunc rfl rfl) rfl ?_))
 refine cl rfl Z4U rfl rfl (Z11 pl ap cp hpl htot _ _) ?_
 rintro _ _ R1 ⟨o, rfl, rfl, hR1⟩
 obtain rfl := hR1.symm
 clear hR1
 obtain ⟨ac, cc, heo, hcc, hfz⟩ := o.freezeC
 rw [irl] at hcc
 rw [heo, irl]
 refine Sy.heap (fun w h => hfz h) ?_
 clear hfz heo
 refine bg (fun w hs => ⟨(lhA (htl h (h.sg ag cg) (h.ss as_ cs)) Z0N rfl rfl rfl) w hs, trivial⟩) ?_
 refine clV rfl Z93 rfl rfl (Z2A (lls pl).flatten ac cc 84 [h.v (h.sg ag cg) (h.ss as_ cs)] [] (fun k => inB k 0 ((h.gaps.length : Int) - 1)) Zas (by omega) hcc _ _ (fun _ z _ => ZaX h (by have := hok.gl; omega) ag cg (h.ss as_ cs) z _ _)) ?_
 refine bgT (Zp 1 rfl (sqt 2 rfl (pur 2 rfl ?_)))
 refine Z1 rfl ?_ ?_ <;> intro hc1
 have hle : ZL h.gaps.length (lls pl).flatten ≠ 0 := of_decide_eq_true hc1
 have e : h.ledE fr to_ (lls pl) = ZL h.gaps.length (lls pl).flatten := by unfold Hse.ledE; rw [hbe, dT hle]; rfl
 refine sqt 3 rfl (pur 3 rfl (Z6 ?_))
 exact rtB rfl rfl rfl rfl ⟨by rw [Z4W e (by assumption), e] <;> rfl, rfl, rfl⟩ (fun w h9 => St.sub (((h9.del b6).del b5).del b4))
 have hle : ZL h.gaps.length (lls pl).flatten = 0 := Classical.byContradiction fun e => by rw [show decide (Za1 (fun k => inB k 0 ((h.gaps.length : Int) - 1)) (lls pl).flatten ≠ 0) = true from decide_eq_true e] at hc1; cases hc1
 have hlx := (Z05 hle).1
 have hin : ∀ x ∈ pl, (∀ k ∈ x.l, 0 ≤ k) ∧ x.l.length ≤ 1000000 := fun x hx => by
   have hm : x.l ∈ lls pl := List.mem_map.2 ⟨x, hx, rfl⟩
   refine ⟨fun k hk => (hlx k (List.mem_flatten.2 ⟨_, hm, hk⟩)).1, ?_⟩
   have := List.Sublist.length_le (List.sublist_flatten_of_mem hm)
   omega
 refine Z2 (Z0 (sqt 4 rfl (pur 1 rfl (sp rfl (PE.makeFunc rfl rfl) rfl ?_))))
 refine clV rfl Zek rfl rfl (Z54 pl ap cp 96 [] [_, _, _] (fun x => Z8w h.gaps 0 fr to_ x.l) Zdz (by omega) _ _ (fun _ x hx => Z8y h ag as_ cg cs hok fr to_ af at_ cf ct b4 b5 b6 q1 (by omega) hlt x pl hx (hin x hx).1 (hin x hx).2 _ _)) ?_
 refine pur 1 rfl ?_
 refine Z1 rfl ?_ ?_ <;> intro hc2
 have hc9 : (!(pl.all fun x => Z8w h.gaps 0 fr to_ x.l)) = true := hc2
 rw [Z8q pl (fun l => Z8w h.gaps 0 fr to_ l)] at hc9
 have h8 : (8 : Int) ≠ 0 := by decide
 have e : h.ledE fr to_ (lls pl) = 8 := by unfold Hse.ledE; rw [hbe, hle, hc9]; rfl
 refine sqt 2 rfl (pur 2 rfl (Z6 ?_))
 exact rtB rfl rfl rfl rfl ⟨by rw [Z4W e (by assumption), e] <;> rfl, rfl, rfl⟩ (fun w h9 => St.sub (((h9.del b6).del b5).del b4))
 have hc9 : (!(pl.all fun x => Z8w h.gaps 0 fr to_ x.l)) = false := hc2
 rw [Z8q pl (fun l => Z8w h.gaps 0 fr to_ l)] at hc9
 have e : h.ledE fr to_ (lls pl) = 0 := by unfold Hse.ledE; rw [hbe, hle, hc9]; rfl
 have er : h.ledR fr to_ (lls pl) = pl.length := by unfold Hse.ledR; rw [e, Z27]; rfl
 refine Z2 (sqt 4 rfl (pur 1 rfl (sp rfl (PE.lenSl Z3O rfl) rfl (pur 2 rfl (Z6 ?_)))))
 exact rtB rfl rfl rfl rfl ⟨by rw [er, e] <;> rfl, rfl, rfl⟩ (fun w h9 => St.sub (((h9.del b6).del b5).del b4))
theorem Zdu : Z0M Tryz.prog 25 = some 3 := by kernel_rfl
theorem ZeB : Z1j Tryz.prog 25 = some [(0, 1), (1, 1), (2, 1)] := by kernel_rfl
theorem ZdJ : Z1j Tryz.prog 67 = some [(0, 1), (1, 1), (2, 1)] := by kernel_rfl
theorem Zdw : slE Tryz.prog 22 = some (97, 2) := by kernel_rfl
theorem Zbq : ZJ Tryz.prog 25 = some ([.int .i64 0, .slice none 0 0, .slice none 0 0]) := by kernel_rfl
def Z6u : List Gp := [⟨0, 1⟩, ⟨0, 2⟩, ⟨1, 3⟩, ⟨2, 3⟩, ⟨3, 4⟩, ⟨4, 5⟩, ⟨1, 2⟩]
def sixS : List Sgt := [⟨2, 3, true⟩, ⟨1, 1, false⟩, ⟨2, 4, false⟩]
abbrev six (k : Nat) : Hse := ⟨6, Z6u, sixS.take k⟩
theorem Z66 (l : List Sgt) (k : Nat) : (Zq l).take k = Zq (l.take k) := (List.map_take).symm
theorem Zad {k : Nat} (hk : k ≤ 3) : (six k).sights.length = k := by
  show (sixS.take k).length = k
  rw [List.length_take]; show min k 3 = k; omega
set_option maxHeartbeats 400000 in
theorem Z4r (k : Nat) (hk : k ≤ 3) (H : Z9) (R : Z5) :
    Fn Tryz.prog 69 [.int .i64 (k : Int)] H R (fun v H' R' => ∃ (ag as_ : Option Addr) (cg cs : Nat), v = (six k).v ((six k).sg ag cg) ((six k).ss as_ cs) ∧ k ≤ cs ∧ H' = H ∧ R' = RowsA ag 2 (Zl (six k).gaps) :: RowsA as_ 3 (Zq (six k).sights) :: R) := by
 refine Zf Tryz.func69 rfl Tryz.ntmps69 rfl ?_
 refine sqt 1 rfl (alc rfl Zbq rfl (fun b2 => sqt 5 rfl (sp rfl (PE.build (out := [_, _, _]) ZdJ ZbJ rfl rfl) rfl (sp rfl (PE.build (out := [_, _, _]) ZdJ ZbJ rfl rfl) rfl (sp rfl (PE.build (out := [_, _, _]) ZdJ ZbJ rfl rfl) rfl ?_)))))
 refine bsl (out := [_, _, _, _, _, _, _, _, _]) rfl ZdR ZbJ rfl rfl rfl rfl rfl rfl (fun b7 => ?_)
 refine pur 1 rfl (sqt 17 rfl (sp rfl (PE.build (out := [_, _]) Z8r Z3i rfl rfl) rfl (sp rfl (PE.build (out := [_, _]) Z8r Z3i rfl rfl) rfl (sp rfl (PE.build (out := [_, _]) Z8r Z3i rfl rfl) rfl (sp rfl (PE.build (out := [_, _]) Z8r Z3i rfl rfl) rfl (sp rfl (PE.build (out := [_, _]) Z8r Z3i rfl rfl) rfl (sp rfl (PE.build (out := [_, _]) Z8r Z3i rfl rfl) rfl (sp rfl (PE.build (out := [_, _]) Z8r Z3i rfl rfl) rfl ?_))))))))
 refine bsl (out := [_, _, _, _, _, _, _, _, _, _, _, _, _, _]) rfl Zdw Z3i rfl rfl rfl rfl rfl rfl (fun b15 => ?_)
 refine pur 3 rfl (sp rfl (PE.lenSl Z8Z rfl) rfl (sp rfl (PE.min rfl rfl) rfl (sp rfl (PE.max rfl rfl) rfl ?_)))
 rw [show max (0 : Int) (min (k : Int) ((3 : Nat) : Int)) = (k : Int) by omega]
 refine sp rfl (PE.slHi (h := k) ZdR rfl rfl (by omega)) rfl (sp rfl (PE.build (out := [_, _, _]) ZeB Zbq rfl rfl) rfl ?_)
 refine ZN (l' := [.int .i64 6, .slice (some ⟨b15, 0, none⟩) 7 7, .slice (some ⟨b7, 0, none⟩) k 3]) rfl rfl rfl Zdu rfl rfl rfl rfl (nl rfl) ?_
 refine Z6 ?_
 refine Sy.heap (fun w h9 => St.rows (sz := 3) (rows := Zq sixS) (rest := []) (h9.pull b7) (by simp [Zq, sixS, Z49])) ?_
 refine Sy.heap (fun w h9 => St.rows (sz := 2) (rows := Zl Z6u) (rest := []) (h9.pull b15) (by simp [Zl, Z6u, Z1E])) ?_
 refine Sy.heap (fun w h9 => (show St _ (RowsA (some ⟨b7, 0, none⟩) 3 (Zq (sixS.take k)) :: _) w from Z66 sixS k ▸ St.rowsTake (a := some ⟨b7, 0, none⟩) (sz := 3) (rows := Zq sixS) h9 k)) ?_
 exact Zm (vs := [_]) rfl (.cons (RV.cell rfl (lhA [_, _, _] Z0N rfl rfl rfl)) .nil) rfl ⟨some ⟨b15, 0, none⟩, some ⟨b7, 0, none⟩, 7, 3, by unfold Hse.v Hse.sg Hse.ss htl; rw [Zad hk]; rfl, hk, rfl, rfl⟩ (fun w h9 => St.sub (h9.del b2))
theorem Ze3 : cal Tryz.prog 89 = true := by kernel_rfl
theorem Z3R : Wth Z6u 7 := by
  intro g hg
  simp only [Z6u, List.mem_cons, List.not_mem_nil, or_false] at hg
  rcases hg with rfl | rfl | rfl | rfl | rfl | rfl | rfl <;> decide
theorem six_w : ((six 0).weeksR [0]).1 = [0, 1, 1, 2, 3, 4] ∧ ((six 0).weeksR [0]).2 = 0 := ⟨by kernel_rfl, by kernel_rfl⟩
theorem six_o : ((six 2).orgR).1 = [4] ∧ ((six 2).orgR).2 = 0 := ⟨by kernel_rfl, by kernel_rfl⟩
theorem six_s : ((six 2).surR 1).1 = [4, 5] ∧ ((six 2).surR 1).2 = 0 := ⟨by kernel_rfl, by kernel_rfl⟩
theorem six_c : ((six 3).claR).1 = [0, 1, 2] ∧ ((six 3).claR).2 = 0 := ⟨by kernel_rfl, by kernel_rfl⟩
theorem six_l : (six 0).ledR [0] [3] [[0, 2], [1, 3]] = 2 ∧ (six 0).ledE [0] [3] [[0, 2], [1, 3]] = 0 := ⟨by kernel_rfl, by kernel_rfl⟩
theorem six_b : (six 0).botE [0] [5] = 0 ∧ (six 0).botE [0] [3] = 0 ∧ (six 0).rcE [0] [1] 1 = 0 := ⟨by kernel_rfl, by kernel_rfl, by kernel_rfl⟩
theorem Zcy : plD Z6u 2 1 8 1 0 3 = true := by kernel_rfl
theorem ZbF : plD Z6u 2 1 8 1 0 2 = false := by kernel_rfl
theorem Zbz : plD Z6u 8 0 8 1 0 10 = false := by kernel_rfl
theorem ZcZ : plD Z6u 8 1 8 1 0 10 = true := by kernel_rfl
theorem Zcb : plD Z6u 32 10 8 1 0 1 = true := by kernel_rfl
theorem Zdc : plD Z6u 32 10 8 1 0 0 = false := by kernel_rfl
theorem six_few : Lst (Pl (six 0).gaps (msk [1]) (1 : Int).toNat (msk [0]) 0) 3 := Z7G Z3R (by decide) Zcy ZbF
theorem ZaK : Lst (Pl (six 0).gaps (msk [5]) 10 (msk [0]) 0) 1 := Z7G Z3R (by decide) Zcb Zdc
theorem Zb4 {s : Nat} (h1 : ∃ n, Pl (six 0).gaps (msk [3]) s (msk [0]) 0 n) (h2 : ∀ s', s' < s → ∀ n, ¬ Pl (six 0).gaps (msk [3]) s' (msk [0]) 0 n) : s = 1 := by
  rcases Nat.lt_trichotomy s 1 with h3 | h3 | h3
  · obtain rfl : s = 0 := by omega
    obtain ⟨n, hn⟩ := h1
    have hf := hn.few
    have h4 := Z50 (n := 10) (f := 8) Z3R (by decide) (by omega) hn (by have : (six 0).gaps.length = 7 := rfl; omega)
    have h5 : plD Z6u 8 0 8 1 0 10 = true := h4
    rw [Zbz] at h5
    cases h5
  · exact h3
  · obtain ⟨k, _, hk⟩ := Z3J ZcZ
    exact absurd hk (h2 1 h3 k)
theorem Z6i {f : Nat → Int} {V : List (Nat × Int)} (hf : Flw f (msk [0]) (msk [5]) (six 0).gaps) (hs : Shn (six 0).gaps (fun _ => true) f (msk [0]) (msk [5]) V) : (Z1w (Z1x V) (six 0).gaps).length = 1 := by
  have hc := (hs.cut (Z2W (Z18 six_b.1)) hf).1
  have hl : (Z1w (Z1x V) (six 0).gaps).length ≤ 7 := by
    unfold Z1w
    rw [List.length_map]
    exact Nat.le_trans (List.length_filter_le _ _) (by decide)
  exact (Cut.plan (sp := 10) Z3R (by decide) hc (by omega)).unique ZaK
theorem Z9v (xs ys : List Int) (a a2 : Option Addr) (c c2 : Nat) (hl : xs.length ≤ 9223372036854775807) (hl2 : ys.length ≤ 9223372036854775807) (H : Z9) (R : Z5) [hR : MemRows a 1 (Z4 xs) R] [hR2 : MemRows a2 1 (Z4 ys) R] :
    FnV Tryz.prog 89 [.slice a xs.length c, .slice a2 ys.length c2] H R (.bool (decide (xs = ys))) := by
 refine Zf Tryz.func89 rfl Tryz.ntmps89 rfl ?_
 refine sqt 1 rfl (pur 1 rfl (Z0 (sqt 5 rfl (pur 1 rfl (sp rfl (PE.lenSl Zy rfl) rfl (pur 1 rfl (sp rfl (PE.lenSl Zy rfl) rfl (pur 1 rfl ?_))))))))
 refine Z1 rfl ?_ ?_ <;> intro hc0
 have hne : xs ≠ ys := fun e => by subst e; simp at hc0
 refine sqt 1 rfl (pur 1 rfl (Z6 ?_))
 exact rtA rfl rfl rfl ⟨by first | (simp only [Z08]; rw [dT heq]; done) | (simp only [Z08]; rw [dF hne]), rfl, rfl⟩ idH
 have hle : xs.length = ys.length := by simp only [cS] at hc0; omega
 refine Z2 (Z0 (sqt 3 rfl (pur 1 rfl (sp rfl (PE.lenSl Zy rfl) rfl (pur 1 rfl (Z3 ?_))))))
 refine Zd (ι := {k : Nat // k ≤ xs.length ∧ xs.take k = ys.take k}) (fun k => ⟨[(0, .slice a xs.length c), (1, .slice a2 ys.length c2), (12, .int .i64 xs.length), (13, .int .i64 k.1)], H, R⟩) (fun k => xs.length - k.1) ⟨0, by simp⟩ ?_ (fun k => ?_)
 exact Zj idH
 obtain ⟨k, hk, hn⟩ := k
 dsimp only
 refine sqt 1 rfl (pur 1 rfl (Z0 ?_))
 refine Z1 rfl ?_ ?_ <;> intro hc1
 simp only [cS] at hc1
 obtain ⟨x, hx⟩ : ∃ x, xs[k]? = some x := ⟨_, List.getElem?_eq_getElem (by omega)⟩
 obtain ⟨z, hz⟩ : ∃ z, ys[k]? = some z := ⟨_, List.getElem?_eq_getElem (by omega)⟩
 refine Zo (a := a) (sz := 1) (rows := Z4 xs) (by intro h0; simp [Z4] at h0; simp [h0] at hx) (fun b off he => ?_)
 subst he
 refine Zo (a := a2) (sz := 1) (rows := Z4 ys) (by intro h0; simp [Z4] at h0; simp [h0] at hz) (fun b2 off2 he => ?_)
 subst he
 refine Z2 (Z0 (Z3 (sqt 2 rfl (pur 2 rfl (Z0 ?_)))))
 refine Ze [0, 0, 3, 7, 0, 0, 48, 112, 255] (tks 0 3 (.ld 3 (tks 4 3 (.ld 7 (.tk 8 .done))))) Zu (by kernel_rfl) ?_
 refine Zp 2 rfl (tk rfl (PE.indexAddr Z1l rfl rfl (by omega) (by omega)) rfl (ld rfl rfl (lf0 sc3 (by simp [Z4, hx]; rfl) rfl) rfl (Zp 2 rfl (tk rfl (PE.indexAddr Z1l rfl rfl (by omega) (by omega)) rfl (ld rfl rfl (lf0 sc3 (by simp [Z4, hz]; rfl) rfl) rfl (Zp 1 rfl ?_))))))
 refine Z1 rfl ?_ ?_ <;> intro hc2
 have hne : xs ≠ ys := fun e => by subst e; rw [hx] at hz; cases hz; simp at hc2
 refine sqt 1 rfl (pur 1 rfl (Z6 ?_))
 exact rtA rfl rfl rfl ⟨by first | (simp only [Z08]; rw [dT heq]; done) | (simp only [Z08]; rw [dF hne]), rfl, rfl⟩ idH
 have hxz : x = z := by simpa using hc2
 refine Z2 (sqr 2 rfl (sp rfl (PE.add rfl rfl (by omega)) rfl (pur 1 rfl ?_)))
 exact Z7 ⟨k + 1, by omega, by rw [List.take_add_one, List.take_add_one, hn, hx, hz, hxz]⟩ idH
 simp only [cS] at hc1
 obtain rfl : k = xs.length := by omega
 have heq : xs = ys := by
   rw [List.take_length] at hn
   exact hn.trans (by rw [hle]; exact List.take_length)
 refine Z8 (Za (Za (Zk (sqt 1 rfl (pur 1 rfl (Z6 ?_))))))
 exact rtA rfl rfl rfl ⟨by first | (simp only [Z08]; rw [dT heq]; done) | (simp only [Z08]; rw [dF hne]), rfl, rfl⟩ idH
theorem Z2y (xs ys : List Int) (a a2 : Option Addr) (c c2 : Nat) (hl : xs.length ≤ 9223372036854775807) (hl2 : ys.length ≤ 9223372036854775807) (H : Z9) (R : Z5) [hR : MemRows a 1 (Z4 xs) R] [hR2 : MemRows a2 1 (Z4 ys) R] :
    FnV Tryz.prog 26 [.slice a xs.length c, .slice a2 ys.length c2] H R (.bool (decide (xs = ys))) := by
 refine Zf Tryz.func26 rfl Tryz.ntmps26 rfl ?_
 refine sqt 1 rfl (pur 1 rfl (sqt 4 rfl (pur 2 rfl ?_)))
 refine clV rfl Ze3 rfl rfl (Z9v xs ys a a2 c c2 hl hl2 _ _) ?_
 refine pur 1 rfl (Z6 ?_)
 exact rtA rfl rfl rfl ⟨rfl, rfl, rfl⟩ drp
theorem ZcX : cal Tryz.prog 22 = true := by kernel_rfl
theorem ZdT : cal Tryz.prog 24 = true := by kernel_rfl
theorem Z9d : cal Tryz.prog 26 = true := by kernel_rfl
theorem Ze8 : cal Tryz.prog 33 = true := by kernel_rfl
theorem ZdK : cal Tryz.prog 36 = true := by kernel_rfl
theorem Zeo : cal Tryz.prog 41 = true := by kernel_rfl
theorem Zea : cal Tryz.prog 49 = true := by kernel_rfl
theorem ZdF : cal Tryz.prog 51 = true := by kernel_rfl
theorem ZdL : cal Tryz.prog 53 = true := by kernel_rfl
theorem Z4i : cal Tryz.prog 69 = true := by kernel_rfl
set_option maxHeartbeats 1000000 in
theorem Z6F (H : Z9) (R : Z5) :
    FnV Tryz.prog 11 [] H R (.bool true) := by
 refine Zf Tryz.func11 rfl Tryz.ntmps11 rfl ?_
 refine sqt 1 rfl (pur 1 rfl (sqt 8 rfl ?_))
 refine cl rfl Z4i rfl rfl (Z4r 0 (by decide) _ _) ?_
 rintro _ _ R1 ⟨ag18, as18, cg18, cs18, rfl, _, rfl, hR1⟩
 obtain rfl := hR1.symm
 clear hR1
 refine bsl (out := [_]) rfl Z02 zl3 rfl rfl rfl rfl rfl rfl (fun b19 => ?_)
 refine Sy.heap (fun w h9 => St.rows (sz := 1) (rows := Z4 [0]) (rest := []) (h9.pull b19) (by simp)) ?_
 refine cl rfl Zeo rfl rfl (ZaO (six 0) ag18 as18 cg18 cs18 (by decide) (by decide) [0] (some ⟨b19, 0, none⟩) 1 (by decide) (by decide) _ _) ?_
 rintro _ _ R1 ⟨a1, c1, _, rfl, rfl, hR1⟩
 obtain rfl := hR1.symm
 clear hR1
 rw [six_w.1, six_w.2]
 refine pur 5 rfl (sqt 7 rfl ?_)
 refine cl rfl Z4i rfl rfl (Z4r 2 (by decide) _ _) ?_
 rintro _ _ R1 ⟨ag24, as24, cg24, cs24, rfl, _, rfl, hR1⟩
 obtain rfl := hR1.symm
 clear hR1
 refine cl rfl Zea rfl rfl (Z7e (six 2) ag24 as24 cg24 cs24 (by decide) (by decide) _ _) ?_
 rintro _ _ R1 ⟨a2, c2, _, rfl, rfl, hR1⟩
 obtain rfl := hR1.symm
 clear hR1
 rw [six_o.1, six_o.2]
 refine pur 5 rfl (sqt 7 rfl ?_)
 refine cl rfl Z4i rfl rfl (Z4r 2 (by decide) _ _) ?_
 rintro _ _ R1 ⟨ag29, as29, cg29, cs29, rfl, _, rfl, hR1⟩
 obtain rfl := hR1.symm
 clear hR1
 refine cl rfl ZdF rfl rfl (Z9b (six 2) ag29 as29 cg29 cs29 (by decide) (by decide) 1 _ _) ?_
 rintro _ _ R1 ⟨a3, c3, _, rfl, rfl, hR1⟩
 obtain rfl := hR1.symm
 clear hR1
 rw [six_s.1, six_s.2]
 refine pur 5 rfl (sqt 7 rfl ?_)
 refine cl rfl Z4i rfl rfl (Z4r 3 (by decide) _ _) ?_
 rintro _ _ R1 ⟨ag34, as34, cg34, cs34, rfl, _, rfl, hR1⟩
 obtain rfl := hR1.symm
 clear hR1
 refine cl rfl ZdL rfl rfl (Zaw (six 3) ag34 as34 cg34 cs34 (by decide) (by decide) _ _) ?_
 rintro _ _ R1 ⟨a4, c4, _, rfl, rfl, hR1⟩
 obtain rfl := hR1.symm
 clear hR1
 rw [six_c.1, six_c.2]
 refine pur 5 rfl (sqt 9 rfl ?_)
 refine cl rfl Z4i rfl rfl (Z4r 0 (by decide) _ _) ?_
 rintro _ _ R1 ⟨ag39, as39, cg39, cs39, rfl, _, rfl, hR1⟩
 obtain rfl := hR1.symm
 clear hR1
 refine bsl (out := [_]) rfl Z02 zl3 rfl rfl rfl rfl rfl rfl (fun b40 => ?_)
 refine bsl (out := [_]) rfl Z02 zl3 rfl rfl rfl rfl rfl rfl (fun b41 => ?_)
 refine Sy.heap (fun w h9 => St.rows (sz := 1) (rows := Z4 [0]) (rest := []) (h9.pull b40) (by simp)) ?_
 refine Sy.heap (fun w h9 => St.rows (sz := 1) (rows := Z4 [1]) (rest := []) (h9.pull b41) (by simp)) ?_
 refine cl rfl ZcX rfl rfl (Z5P (six 0) ag39 as39 cg39 cs39 (by decide) (by decide) [0] [1] (some ⟨b40, 0, none⟩) (some ⟨b41, 0, none⟩) 1 1 (by decide) (by decide) (by decide) (by decide) 1 _ _) ?_
 rintro _ _ R1 ⟨rfl, hR1, hq⟩
 obtain rfl := hR1.symm
 clear hR1
 rcases hq with ⟨h9, _⟩ | ⟨_, hn, _⟩ | ⟨_, n, _, hn, rfl⟩
 · exact absurd six_b.2.2 h9
 · exact absurd six_few.1 (hn 3)
 obtain rfl := hn.unique six_few
 refine pur 5 rfl (sqt 12 rfl ?_)
 refine cl rfl Z4i rfl rfl (Z4r 0 (by decide) _ _) ?_
 rintro _ _ R1 ⟨ag46, as46, cg46, cs46, rfl, _, rfl, hR1⟩
 obtain rfl := hR1.symm
 clear hR1
 refine bsl (out := [_]) rfl Z02 zl3 rfl rfl rfl rfl rfl rfl (fun b47 => ?_)
 refine bsl (out := [_]) rfl Z02 zl3 rfl rfl rfl rfl rfl rfl (fun b48 => ?_)
 refine bsl (out := [_, _]) rfl Z02 zl3 rfl rfl rfl rfl rfl rfl (fun b49 => ?_)
 refine bsl (out := [_, _]) rfl Z02 zl3 rfl rfl rfl rfl rfl rfl (fun b50 => ?_)
 refine bsl (out := [_, _]) rfl Zbt Z9h rfl rfl rfl rfl rfl rfl (fun b51 => ?_)
 refine Sy.heap (fun w h9 => St.rows (sz := 1) (rows := Z4 [0]) (rest := []) (h9.pull b47) (by simp)) ?_
 refine Sy.heap (fun w h9 => St.rows (sz := 1) (rows := Z4 [3]) (rest := []) (h9.pull b48) (by simp)) ?_
 refine Sy.heap (fun w h9 => St.rows (sz := 1) (rows := Z4 [0, 2]) (rest := []) (h9.pull b49) (by simp)) ?_
 refine Sy.heap (fun w h9 => St.rows (sz := 1) (rows := Z4 [1, 3]) (rest := []) (h9.pull b50) (by simp)) ?_
 refine Sy.heap (fun w h9 => St.rows (sz := 1) (rows := Zw [⟨some ⟨b49, 0, none⟩, 2, [0, 2]⟩, ⟨some ⟨b50, 0, none⟩, 2, [1, 3]⟩]) (rest := []) (h9.pull b51) (by simp [Zw, Z4A])) ?_
 refine Sy.heap (fun w h9 => St.inn0 h9) ?_
 refine Sy.heap (fun w h9 => (show St _ (Inn [⟨some ⟨b49, 0, none⟩, 2, [0, 2]⟩] :: _) w from St.innSnoc (l := []) ⟨some ⟨b49, 0, none⟩, 2, [0, 2]⟩ h9)) ?_
 refine Sy.heap (fun w h9 => (show St _ (Inn [⟨some ⟨b49, 0, none⟩, 2, [0, 2]⟩, ⟨some ⟨b50, 0, none⟩, 2, [1, 3]⟩] :: _) w from St.innSnoc (l := [⟨some ⟨b49, 0, none⟩, 2, [0, 2]⟩]) ⟨some ⟨b50, 0, none⟩, 2, [1, 3]⟩ h9)) ?_
 refine cl rfl ZdK rfl rfl (Zb5 (six 0) ag46 as46 cg46 cs46 (by decide) (by decide) [0] [3] (some ⟨b47, 0, none⟩) (some ⟨b48, 0, none⟩) 1 1 (by decide) (by decide) (by decide) (by decide) [⟨some ⟨b49, 0, none⟩, 2, [0, 2]⟩, ⟨some ⟨b50, 0, none⟩, 2, [1, 3]⟩] (some ⟨b51, 0, none⟩) 2 (by show 2 ≤ 1000000; decide) (by show 4 ≤ 1000000; decide) _ _) ?_
 rintro _ _ _ ⟨rfl, rfl, rfl⟩
 rw [show lls [⟨some ⟨b49, 0, none⟩, 2, [0, 2]⟩, ⟨some ⟨b50, 0, none⟩, 2, [1, 3]⟩] = [[0, 2], [1, 3]] from rfl, six_l.1, six_l.2]
 refine pur 5 rfl (sqt 9 rfl ?_)
 refine cl rfl Z4i rfl rfl (Z4r 0 (by decide) _ _) ?_
 rintro _ _ R1 ⟨ag56, as56, cg56, cs56, rfl, _, rfl, hR1⟩
 obtain rfl := hR1.symm
 clear hR1
 refine bsl (out := [_]) rfl Z02 zl3 rfl rfl rfl rfl rfl rfl (fun b57 => ?_)
 refine bsl (out := [_]) rfl Z02 zl3 rfl rfl rfl rfl rfl rfl (fun b58 => ?_)
 refine Sy.heap (fun w h9 => St.rows (sz := 1) (rows := Z4 [0]) (rest := []) (h9.pull b57) (by simp)) ?_
 refine Sy.heap (fun w h9 => St.rows (sz := 1) (rows := Z4 [5]) (rest := []) (h9.pull b58) (by simp)) ?_
 refine cl rfl Ze8 rfl rfl (Ze4 (six 0) ag56 as56 cg56 cs56 (by decide) (by decide) [0] [5] (some ⟨b57, 0, none⟩) (some ⟨b58, 0, none⟩) 1 1 (by decide) (by decide) (by decide) (by decide) _ _) ?_
 rintro _ _ R1 ⟨rfl, hq⟩
 rcases hq with ⟨h9, _⟩ | ⟨_, f, V, a5, c5, hf, hs, _, rfl, hR1⟩
 · exact absurd six_b.1 h9
 obtain rfl := hR1.symm
 clear hR1
 rw [Z6i hf hs]
 refine pur 5 rfl (sqt 9 rfl ?_)
 refine cl rfl Z4i rfl rfl (Z4r 0 (by decide) _ _) ?_
 rintro _ _ R1 ⟨ag63, as63, cg63, cs63, rfl, _, rfl, hR1⟩
 obtain rfl := hR1.symm
 clear hR1
 refine bsl (out := [_]) rfl Z02 zl3 rfl rfl rfl rfl rfl rfl (fun b64 => ?_)
 refine bsl (out := [_]) rfl Z02 zl3 rfl rfl rfl rfl rfl rfl (fun b65 => ?_)
 refine Sy.heap (fun w h9 => St.rows (sz := 1) (rows := Z4 [0]) (rest := []) (h9.pull b64) (by simp)) ?_
 refine Sy.heap (fun w h9 => St.rows (sz := 1) (rows := Z4 [3]) (rest := []) (h9.pull b65) (by simp)) ?_
 refine cl rfl ZdT rfl rfl (Zbi (six 0) ag63 as63 cg63 cs63 (by decide) (by decide) [0] [3] (some ⟨b64, 0, none⟩) (some ⟨b65, 0, none⟩) 1 1 (by decide) (by decide) (by decide) (by decide) _ _) ?_
 rintro _ _ R1 ⟨rfl, hR1, hq⟩
 obtain rfl := hR1.symm
 clear hR1
 rcases hq with ⟨h9, _⟩ | ⟨_, n, _, hn1, hn2, rfl⟩
 · exact absurd six_b.2.1 h9
 obtain rfl := Zb4 hn1 hn2
 refine pur 5 rfl (sqt 68 rfl (pur 3 rfl ?_))
 refine Zv 71 rfl ?_ ?_ <;> intro g71
 refine pur 4 rfl ?_
 refine Zv 75 rfl ?_ ?_ <;> intro g75
 refine pur 4 rfl ?_
 refine Zv 79 rfl ?_ ?_ <;> intro g79
 refine pur 4 rfl ?_
 refine Zv 83 rfl ?_ ?_ <;> intro g83
 refine pur 4 rfl ?_
 refine Zv 87 rfl ?_ ?_ <;> intro g87
 refine pur 4 rfl ?_
 refine Zv 91 rfl ?_ ?_ <;> intro g91
 refine pur 4 rfl ?_
 refine Zv 95 rfl ?_ ?_ <;> intro g95
 refine pur 4 rfl ?_
 refine Zv 99 rfl ?_ ?_ <;> intro g99
 refine pur 1 rfl ?_
 refine Zdq (out := [_, _, _, _, _, _]) rfl rfl rfl rfl Z02 zl3 rfl rfl rfl rfl rfl rfl (fun b101 => ?_)
 refine Sy.heap (fun w h9 => St.rows (sz := 1) (rows := Z4 [0, 1, 1, 2, 3, 4]) (rest := []) (h9.pull b101) (by simp)) ?_
 refine Z8t rfl rfl rfl rfl Z9d rfl rfl (Z2y [0, 1, 1, 2, 3, 4] [0, 1, 1, 2, 3, 4] a1 (some ⟨b101, 0, none⟩) c1 6 (by decide) (by decide) _ _) ?_
 refine pur 2 rfl ?_
 refine Zv 104 rfl ?_ ?_ <;> intro g104
 refine pur 1 rfl ?_
 refine Zdq (out := [_]) rfl rfl rfl rfl Z02 zl3 rfl rfl rfl rfl rfl rfl (fun b106 => ?_)
 refine Sy.heap (fun w h9 => St.rows (sz := 1) (rows := Z4 [4]) (rest := []) (h9.pull b106) (by simp)) ?_
 refine Z8t rfl rfl rfl rfl Z9d rfl rfl (Z2y [4] [4] a2 (some ⟨b106, 0, none⟩) c2 1 (by decide) (by decide) _ _) ?_
 refine pur 2 rfl ?_
 refine Zv 109 rfl ?_ ?_ <;> intro g109
 refine pur 1 rfl ?_
 refine Zdq (out := [_, _]) rfl rfl rfl rfl Z02 zl3 rfl rfl rfl rfl rfl rfl (fun b111 => ?_)
 refine Sy.heap (fun w h9 => St.rows (sz := 1) (rows := Z4 [4, 5]) (rest := []) (h9.pull b111) (by simp)) ?_
 refine Z8t rfl rfl rfl rfl Z9d rfl rfl (Z2y [4, 5] [4, 5] a3 (some ⟨b111, 0, none⟩) c3 2 (by decide) (by decide) _ _) ?_
 refine pur 2 rfl ?_
 refine Zv 114 rfl ?_ ?_ <;> intro g114
 refine pur 1 rfl ?_
 refine Zdq (out := [_, _, _]) rfl rfl rfl rfl Z02 zl3 rfl rfl rfl rfl rfl rfl (fun b116 => ?_)
 refine Sy.heap (fun w h9 => St.rows (sz := 1) (rows := Z4 [0, 1, 2]) (rest := []) (h9.pull b116) (by simp)) ?_
 refine Z8t rfl rfl rfl rfl Z9d rfl rfl (Z2y [0, 1, 2] [0, 1, 2] a4 (some ⟨b116, 0, none⟩) c4 3 (by decide) (by decide) _ _) ?_
 refine pur 2 rfl ?_
 refine Zv 119 rfl ?_ ?_ <;> intro g119
 refine pur 4 rfl ?_
 refine Zv 123 rfl ?_ ?_ <;> intro g123
 refine pur 4 rfl ?_
 refine Zv 127 rfl ?_ ?_ <;> intro g127
 refine pur 1 rfl ?_
 refine spG rfl rfl rfl rfl (PE.lenSl Zy rfl) rfl ?_
 refine pur 3 rfl ?_
 refine Zv 132 rfl ?_ ?_ <;> intro g132
 refine pur 4 rfl (Z6 ?_)
 exact rtA rfl rfl rfl ⟨rfl, rfl, rfl⟩ (fun w h9 => St.sub h9)
 exact absurd g132 (by decide)
 exact absurd g127 (by decide)
 exact absurd g123 (by decide)
 exact absurd g119 (by decide)
 exact absurd g114 (by decide)
 exact absurd g109 (by decide)
 exact absurd g104 (by decide)
 exact absurd g99 (by decide)
 exact absurd g95 (by decide)
 exact absurd g91 (by decide)
 exact absurd g87 (by decide)
 exact absurd g83 (by decide)
 exact absurd g79 (by decide)
 exact absurd g75 (by decide)
 exact absurd g71 (by decide)
theorem Zew : apT Tryz.prog 22 = some (97, 2, 16) := by kernel_rfl
theorem ZcL : cal Tryz.prog 135 = true := by kernel_rfl
theorem Z2S : cal Tryz.prog 67 = true := by kernel_rfl
theorem Zac : Z0M Tryz.prog 163 = some 1 := by kernel_rfl
theorem ZeF : elN Tryz.prog 86 = some 1 := by kernel_rfl
theorem Z3B : Z2g Tryz.prog 165 0 = some 0 := by kernel_rfl
theorem Z1G : Z2g Tryz.prog 165 1 = some 1 := by kernel_rfl
theorem ZY : Z2g Tryz.prog 165 2 = some 2 := by kernel_rfl
theorem ZcQ : Z6w Tryz.prog 163 = some .u32 := by kernel_rfl
theorem Z8B : Z5f Tryz.prog 86 = true := by kernel_rfl
theorem Zet : Z1j Tryz.prog 165 = some [(0, 1), (1, 1), (2, 1)] := by kernel_rfl
theorem Z2I : Z2n Tryz.prog 163 = true := by kernel_rfl
theorem sc5 : Z2n Tryz.prog 5 = true := by kernel_rfl
theorem Zdr : Z2n Tryz.prog 86 = true := by kernel_rfl
theorem Z8F : (Tryz.prog.underlying 163).isSome = true := by kernel_rfl
theorem us3 : (Tryz.prog.underlying 3).isSome = true := by kernel_rfl
theorem us5 : (Tryz.prog.underlying 5).isSome = true := by kernel_rfl
theorem Zec : ZJ Tryz.prog 165 = some ([.slice none 0 0, .int .i64 0, .int .u32 0]) := by kernel_rfl
def Z72 (x : Int) : List Value := [.int .u8 x]
def Z29 (l : List Int) : List (List Value) := l.map Z72
theorem Z89 (g : List Int) (ag : Option Addr) (cg : Nat) (hgl : g.length ≤ 9223372036854775807) (H : Z9) (R : Z5) :
    Fn Tryz.prog 55 [.slice ag g.length cg] H R (fun v H' R' => ∃ bk, ∃ mx : Int, (0 ≤ mx ∧ mx ≤ 4294967295) ∧ v = .pointer (some ⟨bk, 0, none⟩) ∧ H' = (bk, cel 165 [.slice ag g.length cg, .int .i64 (0), .int .u32 (mx)]) :: H ∧ R' = R) := by
 refine Zf Tryz.func55 rfl Tryz.ntmps55 rfl ?_
 refine sqt 1 rfl (pur 1 rfl (sqt 8 rfl (pur 2 rfl (sp rfl (PE.lenSl Z8B rfl) rfl ?_))))
 refine spE rfl (PE.convU us3 ZcQ rfl) rfl ?_
 rintro _ ⟨u6, rfl, hu6⟩
 refine spE rfl (PE.xorU rfl rfl) rfl ?_
 rintro _ ⟨u7, rfl, hu7⟩
 refine sp rfl (PE.build (out := [_, _, _]) Zet Zec rfl rfl) rfl (bx rfl rfl rfl (fun b9 => pur 1 rfl (Z6 ?_)))
 exact rtA rfl rfl rfl ⟨b9, u7, hu7, rfl, rfl, rfl⟩ idH
theorem Z7t (g : List Int) (ag : Option Addr) (cg bk : Nat) (hgl : g.length ≤ 9223372036854775807) (tq mx : Int) (htq : 0 ≤ tq ∧ tq ≤ 1000000000) (hmx : 0 ≤ mx ∧ mx ≤ 4294967295) (H : Z9) (R : Z5) [hG : MemRows ag 1 (Z29 g) R] :
    Fn Tryz.prog 135 [.pointer (some ⟨bk, 0, none⟩)] ((bk, cel 165 [.slice ag g.length cg, .int .i64 (tq), .int .u32 (mx)]) :: H) R (fun v H' R' => ∃ x m' : Int, (0 ≤ x ∧ x ≤ 65535) ∧ v = .int .i64 x ∧ (0 ≤ m' ∧ m' ≤ 4294967295) ∧ H' = (bk, cel 165 [.slice ag g.length cg, .int .i64 (tq + 1), .int .u32 (m')]) :: H ∧ R' = R) := by
 refine Zf Tryz.func135 rfl Tryz.ntmps135 rfl ?_
 refine sqt 1 rfl (pur 1 rfl (Z0 (sqt 6 rfl (pur 1 rfl (sp rfl (PE.nilCheck rfl) rfl (sp rfl (PE.fA Z3B rfl) rfl (spL rfl rfl (lh Zdr rfl rfl) rfl (sp rfl (PE.lenSl Z8B rfl) rfl (pur 1 rfl (sqt 2 rfl (pur 2 rfl ?_)))))))))))
 refine Z1 rfl ?_ ?_ <;> intro hc0 <;> try simp only [cS] at hc0
 obtain ⟨y, hy⟩ : ∃ y, g[(tq % g.length).toNat]? = some y := ⟨_, List.getElem?_eq_getElem (by have := Int.emod_lt_of_pos tq hc0; have := Int.emod_nonneg tq (show (g.length : Int) ≠ 0 by omega); omega)⟩
 refine Zo (a := ag) (sz := 1) (rows := Z29 g) (by intro h0; simp [Z29] at h0; simp [h0] at hy) (fun bgr ogr he => ?_)
 subst he
 refine Ze [0, 0, 2, 6, 14, 0, 32, 96, 224, 0, 512, 1536, 3584, 0, 15872, 32736, 65504, 131040, 262142, 524286, 1048575, 2097151, 4194303] (tks 0 4 (.ld 4 (tks 5 3 (.ld 8 (tks 9 3 (.ld 12 (tks 13 3 (.ld 16 (tks 17 5 (.big 22 .done)))))))))) Zu (by kernel_rfl) ?_
 refine Zp 2 rfl (tk rfl (PE.nilCheck rfl) rfl (tk rfl (PE.fA ZY rfl) rfl (ld rfl rfl (lh Z2I rfl rfl) rfl (Zp 1 rfl (tk rfl (PE.nilCheck rfl) rfl (tk rfl (PE.fA Z3B rfl) rfl (ld rfl rfl (lh Zdr rfl rfl) rfl (Zp 1 rfl (tk rfl (PE.nilCheck rfl) rfl (tk rfl (PE.fA Z1G rfl) rfl (ld rfl rfl (lh sc3 rfl rfl) rfl (Zp 1 rfl (tk rfl (PE.rem rfl rfl (by omega)) rfl (tk rfl (PE.indexAddr ZeF rfl rfl (by exact Int.emod_nonneg tq (by omega)) (by exact Int.emod_lt_of_pos tq hc0)) rfl (ld rfl rfl (lf0 (x := .int .u8 y) sc5 (by simp [Z29, Z72, hy]; rfl) rfl) rfl ?_)))))))))))))))
 refine tkE rfl (PE.convU us5 ZcQ rfl) rfl ?_
 rintro _ ⟨u28, rfl, hu28⟩
 refine tkE rfl (PE.xorU rfl rfl) rfl ?_
 rintro _ ⟨u29, rfl, hu29⟩
 refine tkE rfl (PE.mulU rfl rfl) rfl ?_
 rintro _ ⟨u30, rfl, hu30⟩
 refine tk rfl (PE.nilCheck rfl) rfl (tk rfl (PE.fA ZY rfl) rfl ?_)
 refine sto rfl rfl rfl Zac rfl rfl rfl rfl ?_
 refine bgT (sqt 8 rfl (pur 1 rfl (sp rfl (PE.nilCheck rfl) rfl (sp rfl (PE.fA Z1G rfl) rfl (spL rfl rfl (lh sc3 rfl rfl) rfl (sp rfl (PE.add rfl rfl (by omega)) rfl (sp rfl (PE.nilCheck rfl) rfl (sp rfl (PE.fA Z1G rfl) rfl ?_))))))))
 refine sto rfl rfl rfl cn3 rfl rfl rfl rfl ?_
 refine Z0 (Z0 ?_)
 refine Ze [0, 1, 3, 7, 0, 16, 48, 112, 240, 511] (tks 0 3 (.ld 3 (tks 4 3 (.ld 7 (.tk 8 (.tk 9 .done)))))) Zu (by kernel_rfl) ?_
 refine Zp 1 rfl (tk rfl (PE.nilCheck rfl) rfl (tk rfl (PE.fA Z1G rfl) rfl (ld rfl rfl (lh sc3 rfl rfl) rfl (Zp 1 rfl (tk rfl (PE.nilCheck rfl) rfl (tk rfl (PE.fA Z3B rfl) rfl (ld rfl rfl (lh Zdr rfl rfl) rfl (tk rfl (PE.lenSl Z8B rfl) rfl (Zp 1 rfl ?_)))))))))
 refine Z1 rfl ?_ ?_ <;> intro hc1 <;> try simp only [cS] at hc1
 refine sqr 10 rfl (pur 2 rfl (sp rfl (PE.nilCheck rfl) rfl (sp rfl (PE.fA ZY rfl) rfl (spL rfl rfl (lh Z2I rfl rfl) rfl ?_))))
 refine spE rfl (PE.mulU rfl rfl) rfl ?_
 rintro _ ⟨u55, rfl, hu55⟩
 refine spE rfl (PE.addU rfl rfl) rfl ?_
 rintro _ ⟨u56, rfl, hu56⟩
 refine sp rfl (PE.nilCheck rfl) rfl (sp rfl (PE.fA ZY rfl) rfl ?_)
 refine sto rfl rfl rfl Zac rfl rfl rfl rfl ?_
 refine Z0 ?_
 refine Ze [0, 1, 3, 7, 0, 16, 48, 112, 240, 511, 1023, 2047, 4095, 8191] (tks 0 3 (.ld 3 (tks 4 3 (.ld 7 (tks 8 6 .done))))) Zu (by kernel_rfl) ?_
 refine Zp 1 rfl (tk rfl (PE.nilCheck rfl) rfl (tk rfl (PE.fA ZY rfl) rfl (ld rfl rfl (lh Z2I rfl rfl) rfl (Zp 1 rfl (tk rfl (PE.nilCheck rfl) rfl (tk rfl (PE.fA ZY rfl) rfl (ld rfl rfl (lh Z2I rfl rfl) rfl ?_)))))))
 refine tkE rfl (PE.shrU rfl rfl (by decide) (by omega) (by omega)) rfl ?_
 rintro _ ⟨u67, rfl, hu67⟩
 refine tkE rfl (PE.xorU rfl rfl) rfl ?_
 rintro _ ⟨u68, rfl, hu68⟩
 refine tkE rfl (PE.shrU rfl rfl (by decide) (by omega) (by omega)) rfl ?_
 rintro _ ⟨u69, rfl, hu69⟩
 refine tkE rfl (PE.andU rfl rfl (by decide) (by decide)) rfl ?_
 rintro _ ⟨u70, rfl, hu70⟩
 refine tk rfl (PE.conv64 Z8F ik3 rfl (by omega)) rfl (Zp 1 rfl (Z6 ?_))
 first
   | exact rtA rfl rfl rfl ⟨u70, _, hu70, rfl, hu56, rfl, rfl⟩ idH
   | exact rtA rfl rfl rfl ⟨u70, _, hu70, rfl, hu30, rfl, rfl⟩ idH
   | exact rtA rfl rfl rfl ⟨u70, _, hu70, rfl, hmx, rfl, rfl⟩ idH
 refine Z2 (Z0 ?_)
 refine Ze [0, 1, 3, 7, 0, 16, 48, 112, 240, 511, 1023, 2047, 4095, 8191] (tks 0 3 (.ld 3 (tks 4 3 (.ld 7 (tks 8 6 .done))))) Zu (by kernel_rfl) ?_
 refine Zp 1 rfl (tk rfl (PE.nilCheck rfl) rfl (tk rfl (PE.fA ZY rfl) rfl (ld rfl rfl (lh Z2I rfl rfl) rfl (Zp 1 rfl (tk rfl (PE.nilCheck rfl) rfl (tk rfl (PE.fA ZY rfl) rfl (ld rfl rfl (lh Z2I rfl rfl) rfl ?_)))))))
 refine tkE rfl (PE.shrU rfl rfl (by decide) (by omega) (by omega)) rfl ?_
 rintro _ ⟨u67, rfl, hu67⟩
 refine tkE rfl (PE.xorU rfl rfl) rfl ?_
 rintro _ ⟨u68, rfl, hu68⟩
 refine tkE rfl (PE.shrU rfl rfl (by decide) (by omega) (by omega)) rfl ?_
 rintro _ ⟨u69, rfl, hu69⟩
 refine tkE rfl (PE.andU rfl rfl (by decide) (by decide)) rfl ?_
 rintro _ ⟨u70, rfl, hu70⟩
 refine tk rfl (PE.conv64 Z8F ik3 rfl (by omega)) rfl (Zp 1 rfl (Z6 ?_))
 first
   | exact rtA rfl rfl rfl ⟨u70, _, hu70, rfl, hu56, rfl, rfl⟩ idH
   | exact rtA rfl rfl rfl ⟨u70, _, hu70, rfl, hu30, rfl, rfl⟩ idH
   | exact rtA rfl rfl rfl ⟨u70, _, hu70, rfl, hmx, rfl, rfl⟩ idH
 refine Z2 (sqt 8 rfl (pur 1 rfl (sp rfl (PE.nilCheck rfl) rfl (sp rfl (PE.fA Z1G rfl) rfl (spL rfl rfl (lh sc3 rfl rfl) rfl (sp rfl (PE.add rfl rfl (by omega)) rfl (sp rfl (PE.nilCheck rfl) rfl (sp rfl (PE.fA Z1G rfl) rfl ?_))))))))
 refine sto rfl rfl rfl cn3 rfl rfl rfl rfl ?_
 refine Z0 (Z0 ?_)
 refine Ze [0, 1, 3, 7, 0, 16, 48, 112, 240, 511] (tks 0 3 (.ld 3 (tks 4 3 (.ld 7 (.tk 8 (.tk 9 .done)))))) Zu (by kernel_rfl) ?_
 refine Zp 1 rfl (tk rfl (PE.nilCheck rfl) rfl (tk rfl (PE.fA Z1G rfl) rfl (ld rfl rfl (lh sc3 rfl rfl) rfl (Zp 1 rfl (tk rfl (PE.nilCheck rfl) rfl (tk rfl (PE.fA Z3B rfl) rfl (ld rfl rfl (lh Zdr rfl rfl) rfl (tk rfl (PE.lenSl Z8B rfl) rfl (Zp 1 rfl ?_)))))))))
 refine Z1 rfl ?_ ?_ <;> intro hc1 <;> try simp only [cS] at hc1
 refine sqr 10 rfl (pur 2 rfl (sp rfl (PE.nilCheck rfl) rfl (sp rfl (PE.fA ZY rfl) rfl (spL rfl rfl (lh Z2I rfl rfl) rfl ?_))))
 refine spE rfl (PE.mulU rfl rfl) rfl ?_
 rintro _ ⟨u55, rfl, hu55⟩
 refine spE rfl (PE.addU rfl rfl) rfl ?_
 rintro _ ⟨u56, rfl, hu56⟩
 refine sp rfl (PE.nilCheck rfl) rfl (sp rfl (PE.fA ZY rfl) rfl ?_)
 refine sto rfl rfl rfl Zac rfl rfl rfl rfl ?_
 refine Z0 ?_
 refine Ze [0, 1, 3, 7, 0, 16, 48, 112, 240, 511, 1023, 2047, 4095, 8191] (tks 0 3 (.ld 3 (tks 4 3 (.ld 7 (tks 8 6 .done))))) Zu (by kernel_rfl) ?_
 refine Zp 1 rfl (tk rfl (PE.nilCheck rfl) rfl (tk rfl (PE.fA ZY rfl) rfl (ld rfl rfl (lh Z2I rfl rfl) rfl (Zp 1 rfl (tk rfl (PE.nilCheck rfl) rfl (tk rfl (PE.fA ZY rfl) rfl (ld rfl rfl (lh Z2I rfl rfl) rfl ?_)))))))
 refine tkE rfl (PE.shrU rfl rfl (by decide) (by omega) (by omega)) rfl ?_
 rintro _ ⟨u67, rfl, hu67⟩
 refine tkE rfl (PE.xorU rfl rfl) rfl ?_
 rintro _ ⟨u68, rfl, hu68⟩
 refine tkE rfl (PE.shrU rfl rfl (by decide) (by omega) (by omega)) rfl ?_
 rintro _ ⟨u69, rfl, hu69⟩
 refine tkE rfl (PE.andU rfl rfl (by decide) (by decide)) rfl ?_
 rintro _ ⟨u70, rfl, hu70⟩
 refine tk rfl (PE.conv64 Z8F ik3 rfl (by omega)) rfl (Zp 1 rfl (Z6 ?_))
 first
   | exact rtA rfl rfl rfl ⟨u70, _, hu70, rfl, hu56, rfl, rfl⟩ idH
   | exact rtA rfl rfl rfl ⟨u70, _, hu70, rfl, hu30, rfl, rfl⟩ idH
   | exact rtA rfl rfl rfl ⟨u70, _, hu70, rfl, hmx, rfl, rfl⟩ idH
 refine Z2 (Z0 ?_)
 refine Ze [0, 1, 3, 7, 0, 16, 48, 112, 240, 511, 1023, 2047, 4095, 8191] (tks 0 3 (.ld 3 (tks 4 3 (.ld 7 (tks 8 6 .done))))) Zu (by kernel_rfl) ?_
 refine Zp 1 rfl (tk rfl (PE.nilCheck rfl) rfl (tk rfl (PE.fA ZY rfl) rfl (ld rfl rfl (lh Z2I rfl rfl) rfl (Zp 1 rfl (tk rfl (PE.nilCheck rfl) rfl (tk rfl (PE.fA ZY rfl) rfl (ld rfl rfl (lh Z2I rfl rfl) rfl ?_)))))))
 refine tkE rfl (PE.shrU rfl rfl (by decide) (by omega) (by omega)) rfl ?_
 rintro _ ⟨u67, rfl, hu67⟩
 refine tkE rfl (PE.xorU rfl rfl) rfl ?_
 rintro _ ⟨u68, rfl, hu68⟩
 refine tkE rfl (PE.shrU rfl rfl (by decide) (by omega) (by omega)) rfl ?_
 rintro _ ⟨u69, rfl, hu69⟩
 refine tkE rfl (PE.andU rfl rfl (by decide) (by decide)) rfl ?_
 rintro _ ⟨u70, rfl, hu70⟩
 refine tk rfl (PE.conv64 Z8F ik3 rfl (by omega)) rfl (Zp 1 rfl (Z6 ?_))
 first
   | exact rtA rfl rfl rfl ⟨u70, _, hu70, rfl, hu56, rfl, rfl⟩ idH
   | exact rtA rfl rfl rfl ⟨u70, _, hu70, rfl, hu30, rfl, rfl⟩ idH
   | exact rtA rfl rfl rfl ⟨u70, _, hu70, rfl, hmx, rfl, rfl⟩ idH
theorem Z0p (g : List Int) (ag : Option Addr) (cg bk : Nat) (hgl : g.length ≤ 9223372036854775807) (tq mx : Int) (htq : 0 ≤ tq ∧ tq ≤ 1000000000) (hmx : 0 ≤ mx ∧ mx ≤ 4294967295) (n : Int) (H : Z9) (R : Z5) [hG : MemRows ag 1 (Z29 g) R] :
    Fn Tryz.prog 67 [.pointer (some ⟨bk, 0, none⟩), .int .i64 n] ((bk, cel 165 [.slice ag g.length cg, .int .i64 (tq), .int .u32 (mx)]) :: H) R (fun v H' R' => ∃ x m' : Int, (0 ≤ x ∧ x < max 1 n) ∧ v = .int .i64 x ∧ (0 ≤ m' ∧ m' ≤ 4294967295) ∧ H' = (bk, cel 165 [.slice ag g.length cg, .int .i64 (tq + 1), .int .u32 (m')]) :: H ∧ R' = R) := by
 refine Zf Tryz.func67 rfl Tryz.ntmps67 rfl ?_
 refine sqt 1 rfl (pur 1 rfl (sqt 6 rfl (pur 1 rfl ?_)))
 refine cl rfl ZcL rfl rfl (Z7t g ag cg bk hgl tq mx htq hmx _ _) ?_
 rintro _ _ _ ⟨x, m', hx, rfl, hm', rfl, rfl⟩
 refine pur 1 rfl (sp rfl (PE.max rfl rfl) rfl (sp rfl (PE.rem rfl rfl (by omega)) rfl (pur 1 rfl (Z6 ?_))))
 exact rtA rfl rfl rfl ⟨_, m', ⟨Int.emod_nonneg _ (by omega), Int.emod_lt_of_pos _ (by omega)⟩, rfl, hm', rfl, rfl⟩ idH
theorem Zan (g : List Int) (ag : Option Addr) (cg bk : Nat) (hgl : g.length ≤ 9223372036854775807) (tq mx : Int) (htq : 0 ≤ tq ∧ tq ≤ 1000000000) (hmx : 0 ≤ mx ∧ mx ≤ 4294967295) (lo hi : Int) (hb : -1000000 ≤ lo ∧ lo ≤ 1000000 ∧ -1000000 ≤ hi ∧ hi ≤ 1000000) (H : Z9) (R : Z5) [hG : MemRows ag 1 (Z29 g) R] :
    Fn Tryz.prog 125 [.pointer (some ⟨bk, 0, none⟩), .int .i64 lo, .int .i64 hi] ((bk, cel 165 [.slice ag g.length cg, .int .i64 (tq), .int .u32 (mx)]) :: H) R (fun v H' R' => ∃ x m' : Int, (lo ≤ x ∧ x < lo + max 1 (hi - lo + 1)) ∧ v = .int .i64 x ∧ (0 ≤ m' ∧ m' ≤ 4294967295) ∧ H' = (bk, cel 165 [.slice ag g.length cg, .int .i64 (tq + 1), .int .u32 (m')]) :: H ∧ R' = R) := by
 refine Zf Tryz.func125 rfl Tryz.ntmps125 rfl ?_
 refine sqt 1 rfl (pur 1 rfl (sqt 9 rfl (pur 4 rfl (sp rfl (PE.sub rfl rfl (by omega)) rfl (sp rfl (PE.add rfl rfl (by omega)) rfl ?_)))))
 refine cl rfl Z2S rfl rfl (Z0p g ag cg bk hgl tq mx htq hmx (hi - lo + 1) _ _) ?_
 rintro _ _ _ ⟨x, m', hx, rfl, hm', rfl, rfl⟩
 refine sp rfl (PE.add rfl rfl (by omega)) rfl (pur 1 rfl (Z6 ?_))
 exact rtA rfl rfl rfl ⟨lo + x, m', ⟨by omega, by omega⟩, rfl, hm', rfl, rfl⟩ idH
theorem Z7x (g : List Int) (ag : Option Addr) (cg bk : Nat) (hgl : g.length ≤ 9223372036854775807) (tq mx : Int) (htq : 0 ≤ tq ∧ tq ≤ 1000000000) (hmx : 0 ≤ mx ∧ mx ≤ 4294967295) (n : Int) (H : Z9) (R : Z5) [hG : MemRows ag 1 (Z29 g) R] :
    Fn Tryz.prog 126 [.pointer (some ⟨bk, 0, none⟩), .int .i64 n] ((bk, cel 165 [.slice ag g.length cg, .int .i64 (tq), .int .u32 (mx)]) :: H) R (fun v H' R' => ∃ (x : Bool) (m' : Int), v = .bool x ∧ (0 ≤ m' ∧ m' ≤ 4294967295) ∧ H' = (bk, cel 165 [.slice ag g.length cg, .int .i64 (tq + 1), .int .u32 (m')]) :: H ∧ R' = R) := by
 refine Zf Tryz.func126 rfl Tryz.ntmps126 rfl ?_
 refine sqt 1 rfl (pur 1 rfl (sqt 5 rfl (pur 2 rfl ?_)))
 refine cl rfl Z2S rfl rfl (Z0p g ag cg bk hgl tq mx htq hmx n _ _) ?_
 rintro _ _ _ ⟨x, m', hx, rfl, hm', rfl, rfl⟩
 refine pur 2 rfl (Z6 ?_)
 exact rtA rfl rfl rfl ⟨_, m', rfl, hm', rfl, rfl⟩ idH
theorem Zde : cal Tryz.prog 125 = true := by kernel_rfl
theorem Z78 : cal Tryz.prog 126 = true := by kernel_rfl
theorem ZeC : Z0M Tryz.prog 22 = some 1 := by kernel_rfl
theorem Z3x {p q : Nat → Bool} {k : Nat} (h : ∀ j < k, p j = q j) : Z0f p k = Z0f q k := by
  unfold Z0f
  rw [List.filter_congr fun j hj => h j (List.mem_range.1 hj)]
theorem Z3A (p : Nat → Bool) (k : Nat) (b : Bool) : Z0f (fun j => bif decide (j = k) then b else p j) (k + 1) = Z0f p k ++ bif b then [(k : Int)] else [] := by
  rw [Z2X, Z3x (q := p) fun j hj => by rw [decide_eq_false (show ¬ j = k by omega)]; rfl, decide_eq_true rfl]; rfl
theorem fltK_mem {p : Nat → Bool} {n : Nat} {j : Int} : j ∈ Z0f p n ↔ ∃ k : Nat, k < n ∧ p k = true ∧ j = k := by
  unfold Z0f
  rw [List.mem_map]
  constructor
  · rintro ⟨k, h1, h2⟩
    rw [List.mem_filter, List.mem_range] at h1
    exact ⟨k, h1.1, h1.2, h2.symm⟩
  · rintro ⟨k, h1, h2, rfl⟩; exact ⟨k, List.mem_filter.2 ⟨List.mem_range.2 h1, h2⟩, rfl⟩
theorem Z91 (p : Nat → Bool) (n : Nat) : (Z0f p n).Pairwise (· < ·) := (List.pairwise_lt_range.filter _).map _ fun a b h => by omega
theorem Z6q (p : Nat → Bool) (n : Nat) : (Z0f p n).Nodup := List.nodup_iff_pairwise_ne.2 ((Z91 p n).imp fun h => by omega)
theorem Z7h (p : Nat → Bool) {n : Int} (hn : 0 ≤ n) : ∀ x ∈ Z0f p n.toNat, 0 ≤ x ∧ x < n := fun x hx => by
  obtain ⟨k, h1, _, rfl⟩ := fltK_mem.1 hx; omega
theorem Z4O (p : Nat → Bool) {n : Int} (hn : 0 ≤ n) : ZL n (Z0f p n.toNat) = 0 := Z3U (Z7h p hn) (Z6q p _)
structure MadeW (h : Hse) (nb ng : Int) : Prop where
  bins : 2 ≤ h.bins ∧ h.bins ≤ nb
  gl : (h.gaps.length : Int) ≤ ng
  gaps : ∀ g ∈ h.gaps, (0 ≤ g.a ∧ g.a < h.bins) ∧ (0 ≤ g.b ∧ g.b < h.bins) ∧ g.a ≠ g.b
  none : h.sights = []
theorem MadeW.ok {h : Hse} {nb ng : Int} (hm : MadeW h nb ng) (h1 : nb ≤ 7) (h2 : ng ≤ 10) : h.ok := ⟨by have := hm.bins; omega, by have := hm.gl; omega, by rw [hm.none]; exact Nat.zero_le _, hm.gaps, by rw [hm.none]; simp⟩
def ini (f : Nat → Int) (n k : Nat) : List Int := (List.range n).map fun j => bif decide (j < k) then f j else 0
theorem ZP (f : Nat → Int) (n k : Nat) : (ini f n k).length = n := by simp [ini]
theorem Z5S {f : Nat → Int} {n k j : Nat} (hj : j < n) : na (ini f n k) j = bif decide (j < k) then f j else 0 := by
  unfold na ini
  rw [List.getD_eq_getElem?_getD, List.getElem?_map, List.getElem?_range hj]; rfl
theorem Z9p (f : Nat → Int) (n : Nat) : List.replicate n 0 = ini f n 0 := by
  apply List.ext_getElem?
  intro j
  rcases Nat.lt_or_ge j n with h | h
  · rw [Z0A (l := ini f n 0) (by rw [ZP]; exact h), Z5S h, List.getElem?_replicate, if_pos h]; rfl
  · rw [List.getElem?_eq_none (by simpa using h), List.getElem?_eq_none (by rw [ZP]; exact h)]
theorem Z6D {f : Nat → Int} {n k : Nat} (hk : k < n) {v : Int} (hv : f k = v) : (ini f n k).set k v = ini f n (k + 1) := by
  apply List.ext_getElem?
  intro j
  rcases Nat.lt_or_ge j n with hj | hj
  · rw [Z0A (l := (ini f n k).set k _) (by rw [List.length_set, ZP]; exact hj), Z0A (by rw [ZP]; exact hj), Z1N (by rw [ZP]; exact hk), Z5S hj, Z5S hj]
    by_cases e : k = j
    · subst e; rw [decide_eq_true rfl, decide_eq_true (Nat.lt_succ_self k), ← hv]; rfl
    · rw [decide_eq_false e, show decide (j < k + 1) = decide (j < k) from decide_eq_decide.2 (by omega)]; rfl
  · rw [List.getElem?_eq_none (by rw [List.length_set, ZP]; exact hj), List.getElem?_eq_none (by rw [ZP]; exact hj)]
def clP (pl : List PL) (t : Nat) : Nat := msk (Z3d pl (t + 1))
def in0 (fr : List Int) (j : Nat) : Int := bif Z3b fr j then 0 else 100
theorem Z4P {l : List Int} (h : ∀ x ∈ l, 0 ≤ x) (j : Nat) : Z3b l (j : Int) = (msk l).testBit j := by rw [Bool.eq_iff_iff, hasI_iff, Zr h]
theorem FolI.start {gs : List Gp} {cl : Nat → Nat} {fr : List Int} (h : ∀ x ∈ fr, 0 ≤ x) (n : Nat) : FolI gs cl (msk fr) n 0 (Z2u gs (cl 0) (lvp gs cl (msk fr) 0) 0) (ini (in0 fr) n n) := ⟨ZP _ _ _, fun k hk => by
  rw [Z5S hk, decide_eq_true hk, cond_true]
  unfold in0
  rw [Z4P h]
  show _ = bif (msk fr).testBit k then fol gs cl (msk fr) 0 k else bif (msk fr).testBit k then _ else 100
  cases hb : (msk fr).testBit k with
  | false => rfl
  | true =>
    rw [cond_true, cond_true]
    exact (Z7U (t := 0) (Nat.le_refl _) hb (fun i hi => absurd hi (Nat.not_lt_zero _))).symm⟩
def Zel (s acc : Nat) (g : Gp) : Nat → Nat
  | 0 => acc
  | 1 => acc ||| (bif s.testBit g.a.toNat then 2 ^ g.b.toNat else 0)
  | _ => (acc ||| (bif s.testBit g.a.toNat then 2 ^ g.b.toNat else 0)) ||| (bif s.testBit g.b.toNat then 2 ^ g.a.toNat else 0)
def Zex (g : Gp) : List Value := [.int .i64 g.a, .int .i64 g.b, .int .i64 g.b, .int .i64 g.a]
theorem Zal {s acc n : Nat} {g : Gp} (ha : 0 ≤ g.a ∧ g.a < n) (hb : 0 ≤ g.b ∧ g.b < n) {j : Nat} (hj : j < 2) : ∃ u v : Nat, ∃ rest : List Value, u < n ∧ v < n ∧ (Zex g).drop (j * 2) = [.int .i64 u, .int .i64 v] ++ rest ∧ Zel s acc g (j + 1) = Zel s acc g j ||| (bif s.testBit u then 2 ^ v else 0) := by
  have h1 : ((g.a.toNat : Nat) : Int) = g.a := by omega
  have h2 : ((g.b.toNat : Nat) : Int) = g.b := by omega
  match j, hj with
  | 0, _ => exact ⟨g.a.toNat, g.b.toNat, [.int .i64 g.b, .int .i64 g.a], by omega, by omega, by rw [h1, h2]; rfl, rfl⟩
  | 1, _ => exact ⟨g.b.toNat, g.a.toNat, [], by omega, by omega, by rw [h1, h2]; rfl, rfl⟩
theorem Z5u {pl : List PL} {k : Nat} (h : pl.length ≤ k) : Z3d pl (k + 1) = Z3d pl k := by unfold Z3d; rw [List.take_of_length_le (by omega), List.take_of_length_le h]
theorem Z5s {pl : List PL} {k : Nat} {x : Int} (h : x ∈ Z3d pl k) : x ∈ (lls pl).flatten := by
  unfold Z3d at h
  obtain ⟨l, h1, h2⟩ := List.mem_flatten.1 h
  obtain ⟨y, h3, rfl⟩ := List.mem_map.1 h1
  exact List.mem_flatten.2 ⟨_, List.mem_map_of_mem (List.mem_of_mem_take h3), h2⟩
theorem Zdl (l0 : List Int) (a0 : Option Addr) (c0 bk : Nat) (hgl : l0.length ≤ 9223372036854775807) (tq mx : Int) (htq : 0 ≤ tq ∧ tq ≤ 1000000) (hmx : 0 ≤ mx ∧ mx ≤ 4294967295) (nb ng : Int) (hnb : 2 ≤ nb ∧ nb ≤ 7) (hng : 0 ≤ ng ∧ ng ≤ 10) (H : Z9) (R : Z5) [hG : MemRows a0 1 (Z29 l0) R] :
    Fn Tryz.prog 54 [.pointer (some ⟨bk, 0, none⟩), .int .i64 nb, .int .i64 ng] ((bk, cel 165 [.slice a0 l0.length c0, .int .i64 (tq), .int .u32 (mx)]) :: H) R (fun v H' R' => ∃ (h : Hse) (p : Nat → Bool) (ag ar : Option Addr) (cg cr : Nat) (tq' mx' : Int), MadeW h nb ng ∧ h.gaps.length ≤ cg ∧ (Z0f p h.bins.toNat).length ≤ cr ∧ v = .tuple #[h.v (h.sg ag cg) (h.ss none 0), .slice ar (Z0f p h.bins.toNat).length cr] ∧ (tq ≤ tq' ∧ tq' ≤ tq + 100) ∧ (0 ≤ mx' ∧ mx' ≤ 4294967295) ∧ H' = (bk, cel 165 [.slice a0 l0.length c0, .int .i64 (tq'), .int .u32 (mx')]) :: H ∧ R' = RowsA none 3 (Zq h.sights) :: RowsA ar 1 (Z4 (Z0f p h.bins.toNat)) :: RowsA ag 2 (Zl h.gaps) :: R) := by
 refine Zf Tryz.func54 rfl Tryz.ntmps54 rfl ?_
 refine sqt 2 rfl (alc rfl Zbq rfl (fun b6 => pur 1 rfl (sqt 6 rfl (pur 2 rfl ?_))))
 refine ZB bk ?_
 refine cl rfl Zde rfl rfl (Zan l0 a0 c0 bk hgl _ _ (by omega) (by assumption) (2) (nb) (by first | omega | (dsimp only; omega)) _ _) ?_
 rintro _ _ R1 ⟨x15, m15, hx15, rfl, hm15, rfl, hR1⟩
 obtain rfl := hR1.symm
 refine sp rfl (PE.build (out := htl ⟨x15, [], []⟩ (.slice none 0 0) (.slice none 0 0)) ZeB Zbq rfl rfl) rfl (alc rfl Zbq rfl (fun b8 => ?_))
 refine sto rfl rfl rfl Zdu rfl rfl rfl rfl ?_
 refine Z0 (sqt 5 rfl ?_)
 refine ZB bk ?_
 refine pur 2 rfl (sp rfl (PE.add rfl rfl (by omega)) rfl ?_)
 refine cl rfl Z2S rfl rfl (Z0p l0 a0 c0 bk hgl _ _ (by omega) (by assumption) (ng + 1) _ _) ?_
 rintro _ _ R1 ⟨x20, m20, hx20, rfl, hm20, rfl, hR1⟩
 obtain rfl := hR1.symm
 refine pur 1 rfl (Z3 ?_)
 obtain ⟨n20, rfl⟩ : ∃ n : Nat, x20 = n := ⟨x20.toNat, by omega⟩
 refine Zd (ι := (x : {x : Nat × List Gp × Int × Int // x.1 ≤ n20 ∧ (x.2.1.length = x.1 ∧ ∀ g ∈ x.2.1, ((0 ≤ g.a ∧ g.a < x15) ∧ (0 ≤ g.b ∧ g.b < x15) ∧ g.a ≠ g.b)) ∧ (tq ≤ x.2.2.1 ∧ x.2.2.1 ≤ tq + 2 + 2 * x.1) ∧ (0 ≤ x.2.2.2 ∧ x.2.2.2 ≤ 4294967295)}) × OSl 97 2 (Zl x.1.2.1)) (fun x => ⟨[(0, .pointer (some ⟨bk, 0, none⟩)), (6, .pointer (some ⟨b6, 0, none⟩)), (8, .pointer (some ⟨b8, 0, none⟩)), (20, .int .i64 n20), (21, .int .i64 x.1.1.1)],
   (bk, cel 165 [.slice a0 l0.length c0, .int .i64 (x.1.1.2.2.1), .int .u32 (x.1.1.2.2.2)]) :: (x.2.G ++ (b8, cel 25 (htl ⟨x15, x.1.1.2.1, []⟩ x.2.fs (.slice none 0 0))) :: (b6, cel 25 [.int .i64 0, .slice none 0 0, .slice none 0 0]) :: H), R⟩) (fun x => n20 - x.1.1.1) ⟨⟨(0, [], tq + 1 + 1, m20), by omega, ⟨rfl, by simp⟩, by dsimp only; omega, by assumption⟩, OSl.nil _ _⟩ ?_ (fun x => ?_)
 exact Zj idH
 ·
  obtain ⟨⟨⟨k, l, tq2, mx2⟩, hk, ⟨hll, hlg⟩, htq2, hmx2⟩, o⟩ := x
  dsimp only at hk hll hlg htq2 hmx2 o ⊢
  refine sqt 1 rfl (pur 1 rfl (Z0 ?_))
  refine Z1 rfl ?_ ?_ <;> intro hc0 <;> try simp only [cS] at hc0
  ·
   have hrm : 0 ≤ (k : Int) % x15 ∧ (k : Int) % x15 < x15 := ⟨Int.emod_nonneg _ (by omega), Int.emod_lt_of_pos _ (by omega)⟩
   refine Z2 (Z0 (Z3 (sqt 2 rfl (pur 2 rfl (Z0 ?_)))))
   refine Ze [0, 0, 2, 7, 0, 0, 32, 112, 255, 0, 1023] (.tk 0 (.tk 1 (.ld 2 (tks 3 3 (.ld 6 (.any (.alt 7 (.tk 8 (.big 9 (.big 10 .done))) (.alt 9 (.big 7 (.tk 8 (.big 10 .done))) .stop)))))))) Zu (by kernel_rfl) ?_
   refine Zp 1 rfl (tk rfl (PE.fA Z0l rfl) rfl (ld rfl rfl (lh (v := .int .i64 x15) sc3 rfl rfl) rfl (tk rfl (PE.rem rfl rfl (by omega)) rfl (Zp 1 rfl (tk rfl (PE.fA Z0l rfl) rfl (ld rfl rfl (lh (v := .int .i64 x15) sc3 rfl rfl) rfl ?_))))))
   refine Z2l ?_ ?_
   ·
    refine ZB bk ?_
    refine cl rfl Z2S rfl rfl (Z0p l0 a0 c0 bk hgl _ _ (by omega) (by assumption) (x15) _ _) ?_
    rintro _ _ R1 ⟨x31, m31, hx31, rfl, hm31, rfl, hR1⟩
    obtain rfl := hR1.symm
    refine bg (fun w hs => ⟨trivial, (lh (v := .int .i64 x15) sc3 rfl rfl) w hs, trivial⟩) ?_
    refine tk rfl (PE.build (out := [.int .i64 ((k : Int) % x15), .int .i64 x31]) Z8r Z3i rfl rfl) rfl (alc rfl Z3i rfl (fun b10 => ?_))
    refine bg (fun w hs => ⟨(lh (v := .int .i64 x15) sc3 rfl rfl) w hs, trivial⟩) ?_
    refine sto rfl rfl rfl Z9R rfl rfl rfl rfl ?_
    refine bgT (Z0 (sqt 5 rfl (sp rfl (PE.fA ZO rfl) rfl (spL rfl rfl (lh sc3 rfl rfl) rfl (sp rfl (PE.fA ZF rfl) rfl (spL rfl rfl (lh sc3 rfl rfl) rfl (pur 1 rfl ?_)))))))
    refine Z2J (ι := {x : Int × Int // ((0 ≤ x.1 ∧ x.1 < x15) ∧ (0 ≤ x.2 ∧ x.2 < x15) ∧ x.1 ≠ x.2)}) (fun x => ⟨[(0, .pointer (some ⟨bk, 0, none⟩)), (6, .pointer (some ⟨b6, 0, none⟩)), (8, .pointer (some ⟨b8, 0, none⟩)), (10, .pointer (some ⟨b10, 0, none⟩)), (20, .int .i64 n20), (21, .int .i64 k)], (b10, cel 97 [.int .i64 (x.1.1), .int .i64 (x.1.2)]) :: (bk, cel 165 [.slice a0 l0.length c0, .int .i64 (tq2 + 1), .int .u32 (m31)]) :: (o.G ++ (b8, cel 25 (htl ⟨x15, l, []⟩ o.fs (.slice none 0 0))) :: (b6, cel 25 [.int .i64 0, .slice none 0 0, .slice none 0 0]) :: H), R⟩) ?_ ?_
    ·
     refine Z1 rfl ?_ ?_ <;> intro hc1 <;> try simp only [cS] at hc1
     ·
      have hr2 : 0 ≤ (x31 + 1) % x15 ∧ (x31 + 1) % x15 < x15 := ⟨Int.emod_nonneg _ (by omega), Int.emod_lt_of_pos _ (by omega)⟩
      have hne : (x31 + 1) % x15 ≠ x31 := by
        rcases Int.lt_or_le (x31 + 1) x15 with h9 | h9
        · rw [Int.emod_eq_of_lt (by omega) h9]; omega
        · rw [show x31 + 1 = x15 by omega, Int.emod_self]; omega
      refine sqr 8 rfl (sp rfl (PE.fA ZF rfl) rfl (spL rfl rfl (lh sc3 rfl rfl) rfl (sp rfl (PE.add rfl rfl (by omega)) rfl (sp rfl (PE.fA Z0l rfl) rfl (spL rfl rfl (lh (v := .int .i64 x15) sc3 rfl rfl) rfl (sp rfl (PE.rem rfl rfl (by omega)) rfl (sp rfl (PE.fA ZF rfl) rfl ?_)))))))
      refine ZN (l' := [.int .i64 ((k : Int) % x15), .int .i64 ((x31 + 1) % x15)]) rfl rfl rfl cn3 rfl rfl rfl rfl (nl rfl) ?_
      exact ZD ⟨((k : Int) % x15, (x31 + 1) % x15), ⟨hrm, hr2, by dsimp only; omega⟩⟩ (fun w h9 => h9.perm (by first | exact .refl _ | exact List.Perm.swap _ _ _))
     ·
      refine Z2 ?_
      exact ZD ⟨((k : Int) % x15, x31), ⟨hrm, by dsimp only; omega, by dsimp only; omega⟩⟩ (fun w h9 => h9.perm (by first | exact .refl _ | exact List.Perm.swap _ _ _))
    rintro ⟨⟨ga, gb⟩, hgo⟩
    dsimp only at hgo ⊢
    refine Z0 (sqt 2 rfl ?_)
    refine ZB bk ?_
    refine pur 1 rfl ?_
    refine cl rfl Z78 rfl rfl (Z7x l0 a0 c0 bk hgl _ _ (by omega) (by assumption) (2) _ _) ?_
    rintro _ _ R1 ⟨x46, m46, rfl, hm46, rfl, hR1⟩
    obtain rfl := hR1.symm
    refine Z2J (ι := {x : Int × Int // ((0 ≤ x.1 ∧ x.1 < x15) ∧ (0 ≤ x.2 ∧ x.2 < x15) ∧ x.1 ≠ x.2)}) (fun x => ⟨[(0, .pointer (some ⟨bk, 0, none⟩)), (6, .pointer (some ⟨b6, 0, none⟩)), (8, .pointer (some ⟨b8, 0, none⟩)), (10, .pointer (some ⟨b10, 0, none⟩)), (20, .int .i64 n20), (21, .int .i64 k)], (bk, cel 165 [.slice a0 l0.length c0, .int .i64 (tq2 + 1 + 1), .int .u32 (m46)]) :: (b10, cel 97 [.int .i64 (x.1.1), .int .i64 (x.1.2)]) :: (o.G ++ (b8, cel 25 (htl ⟨x15, l, []⟩ o.fs (.slice none 0 0))) :: (b6, cel 25 [.int .i64 0, .slice none 0 0, .slice none 0 0]) :: H), R⟩) ?_ ?_
    refine Z1 rfl ?_ ?_ <;> intro hc2
    refine sqr 8 rfl (sp rfl (PE.fA ZF rfl) rfl (spL rfl rfl (lh sc3 rfl rfl) rfl (sp rfl (PE.fA ZO rfl) rfl (spL rfl rfl (lh sc3 rfl rfl) rfl (sp rfl (PE.fA ZO rfl) rfl ?_)))))
    refine ZN (l' := [.int .i64 (gb), .int .i64 (gb)]) rfl rfl rfl cn3 rfl rfl rfl rfl (nl rfl) ?_
    refine sp rfl (PE.fA ZF rfl) rfl ?_
    refine ZN (l' := [.int .i64 (gb), .int .i64 (ga)]) rfl rfl rfl cn3 rfl rfl rfl rfl (nl rfl) ?_
    first | exact ZD ⟨(gb, ga), ⟨hgo.2.1, hgo.1, Ne.symm hgo.2.2⟩⟩ idH | exact ZD ⟨(ga, gb), hgo⟩ idH
    refine Z2 ?_
    first | exact ZD ⟨(gb, ga), ⟨hgo.2.1, hgo.1, Ne.symm hgo.2.2⟩⟩ idH | exact ZD ⟨(ga, gb), hgo⟩ idH
    rintro ⟨⟨ua, ub⟩, hgo2⟩
    dsimp only at hgo2 ⊢
    refine sqr 7 rfl (sp rfl (PE.fA Z00 rfl) rfl (spL rfl rfl (lh Z46 rfl rfl) rfl (spL rfl rfl (lhA [.int .i64 ua, .int .i64 ub] Z6v rfl rfl rfl) rfl ?_)))
    refine bsl (out := [_, _]) rfl Zdw Z3i rfl rfl rfl rfl rfl rfl (fun b56 => ?_)
    refine apO (o) rfl Zew rfl rfl (Z0w (row := Z1E ⟨ua, ub⟩) rfl) rfl rfl ((by rw [Z15]; simp only [List.length_singleton]; omega)) rfl (fun o57 => ?_)
    refine sp rfl (PE.fA Z00 rfl) rfl ?_
    refine ZN (l' := htl ⟨x15, l ++ [⟨ua, ub⟩], []⟩ o57.fs (.slice none 0 0)) rfl rfl rfl ZeC rfl (by rw [o57.cells.1]; first | done | rfl) (by rw [o57.cells.1]; simp [o57.cells.2]) (by rw [o57.cells.1]; first | done | rfl) (by rw [o57.cells.1]; first | done | exact Nat.le_of_ble_eq_true rfl) ?_
    refine sqr 2 rfl (sp rfl (PE.add rfl rfl (by omega)) rfl (pur 1 rfl ?_))
    exact Z7 ⟨⟨(k + 1, l ++ [⟨ua, ub⟩], tq2 + 1 + 1, m46), by dsimp only; omega, ⟨by simp [hll], fun g hg => (List.mem_append.1 hg).elim (hlg g) (fun h9 => by rw [List.mem_singleton.1 h9]; exact hgo2)⟩, by dsimp only; omega, by assumption⟩, o57.cast (by simp [Zl])⟩ (fun w h9 => ((h9.del b56).del b10).perm (by first | exact .refl _ | exact (Zh _ [_] _).symm))
   refine Z2l ?_ ?_
   ·
    refine alc rfl Z3i rfl (fun b10 => ?_)
    refine bg (fun w hs => ⟨(lh (v := .int .i64 x15) sc3 rfl rfl) w hs, (lh (v := .int .i64 x15) sc3 rfl rfl) w hs, trivial⟩) ?_
    refine ZB bk ?_
    refine cl rfl Z2S rfl rfl (Z0p l0 a0 c0 bk hgl _ _ (by omega) (by assumption) (x15) _ _) ?_
    rintro _ _ R1 ⟨x31, m31, hx31, rfl, hm31, rfl, hR1⟩
    obtain rfl := hR1.symm
    refine bg (fun w hs => ⟨trivial, (lh (v := .int .i64 x15) sc3 rfl rfl) w hs, trivial⟩) ?_
    refine tk rfl (PE.build (out := [.int .i64 ((k : Int) % x15), .int .i64 x31]) Z8r Z3i rfl rfl) rfl ?_
    refine sto rfl rfl rfl Z9R rfl rfl rfl rfl ?_
    refine bgT (Z0 (sqt 5 rfl (sp rfl (PE.fA ZO rfl) rfl (spL rfl rfl (lh sc3 rfl rfl) rfl (sp rfl (PE.fA ZF rfl) rfl (spL rfl rfl (lh sc3 rfl rfl) rfl (pur 1 rfl ?_)))))))
    refine Z2J (ι := {x : Int × Int // ((0 ≤ x.1 ∧ x.1 < x15) ∧ (0 ≤ x.2 ∧ x.2 < x15) ∧ x.1 ≠ x.2)}) (fun x => ⟨[(0, .pointer (some ⟨bk, 0, none⟩)), (6, .pointer (some ⟨b6, 0, none⟩)), (8, .pointer (some ⟨b8, 0, none⟩)), (10, .pointer (some ⟨b10, 0, none⟩)), (20, .int .i64 n20), (21, .int .i64 k)], (b10, cel 97 [.int .i64 (x.1.1), .int .i64 (x.1.2)]) :: (bk, cel 165 [.slice a0 l0.length c0, .int .i64 (tq2 + 1), .int .u32 (m31)]) :: (o.G ++ (b8, cel 25 (htl ⟨x15, l, []⟩ o.fs (.slice none 0 0))) :: (b6, cel 25 [.int .i64 0, .slice none 0 0, .slice none 0 0]) :: H), R⟩) ?_ ?_
    ·
     refine Z1 rfl ?_ ?_ <;> intro hc1 <;> try simp only [cS] at hc1
     ·
      have hr2 : 0 ≤ (x31 + 1) % x15 ∧ (x31 + 1) % x15 < x15 := ⟨Int.emod_nonneg _ (by omega), Int.emod_lt_of_pos _ (by omega)⟩
      have hne : (x31 + 1) % x15 ≠ x31 := by
        rcases Int.lt_or_le (x31 + 1) x15 with h9 | h9
        · rw [Int.emod_eq_of_lt (by omega) h9]; omega
        · rw [show x31 + 1 = x15 by omega, Int.emod_self]; omega
      refine sqr 8 rfl (sp rfl (PE.fA ZF rfl) rfl (spL rfl rfl (lh sc3 rfl rfl) rfl (sp rfl (PE.add rfl rfl (by omega)) rfl (sp rfl (PE.fA Z0l rfl) rfl (spL rfl rfl (lh (v := .int .i64 x15) sc3 rfl rfl) rfl (sp rfl (PE.rem rfl rfl (by omega)) rfl (sp rfl (PE.fA ZF rfl) rfl ?_)))))))
      refine ZN (l' := [.int .i64 ((k : Int) % x15), .int .i64 ((x31 + 1) % x15)]) rfl rfl rfl cn3 rfl rfl rfl rfl (nl rfl) ?_
      exact ZD ⟨((k : Int) % x15, (x31 + 1) % x15), ⟨hrm, hr2, by dsimp only; omega⟩⟩ (fun w h9 => h9.perm (by first | exact .refl _ | exact List.Perm.swap _ _ _))
     ·
      refine Z2 ?_
      exact ZD ⟨((k : Int) % x15, x31), ⟨hrm, by dsimp only; omega, by dsimp only; omega⟩⟩ (fun w h9 => h9.perm (by first | exact .refl _ | exact List.Perm.swap _ _ _))
    rintro ⟨⟨ga, gb⟩, hgo⟩
    dsimp only at hgo ⊢
    refine Z0 (sqt 2 rfl ?_)
    refine ZB bk ?_
    refine pur 1 rfl ?_
    refine cl rfl Z78 rfl rfl (Z7x l0 a0 c0 bk hgl _ _ (by omega) (by assumption) (2) _ _) ?_
    rintro _ _ R1 ⟨x46, m46, rfl, hm46, rfl, hR1⟩
    obtain rfl := hR1.symm
    refine Z2J (ι := {x : Int × Int // ((0 ≤ x.1 ∧ x.1 < x15) ∧ (0 ≤ x.2 ∧ x.2 < x15) ∧ x.1 ≠ x.2)}) (fun x => ⟨[(0, .pointer (some ⟨bk, 0, none⟩)), (6, .pointer (some ⟨b6, 0, none⟩)), (8, .pointer (some ⟨b8, 0, none⟩)), (10, .pointer (some ⟨b10, 0, none⟩)), (20, .int .i64 n20), (21, .int .i64 k)], (bk, cel 165 [.slice a0 l0.length c0, .int .i64 (tq2 + 1 + 1), .int .u32 (m46)]) :: (b10, cel 97 [.int .i64 (x.1.1), .int .i64 (x.1.2)]) :: (o.G ++ (b8, cel 25 (htl ⟨x15, l, []⟩ o.fs (.slice none 0 0))) :: (b6, cel 25 [.int .i64 0, .slice none 0 0, .slice none 0 0]) :: H), R⟩) ?_ ?_
    refine Z1 rfl ?_ ?_ <;> intro hc2
    refine sqr 8 rfl (sp rfl (PE.fA ZF rfl) rfl (spL rfl rfl (lh sc3 rfl rfl) rfl (sp rfl (PE.fA ZO rfl) rfl (spL rfl rfl (lh sc3 rfl rfl) rfl (sp rfl (PE.fA ZO rfl) rfl ?_)))))
    refine ZN (l' := [.int .i64 (gb), .int .i64 (gb)]) rfl rfl rfl cn3 rfl rfl rfl rfl (nl rfl) ?_
    refine sp rfl (PE.fA ZF rfl) rfl ?_
    refine ZN (l' := [.int .i64 (gb), .int .i64 (ga)]) rfl rfl rfl cn3 rfl rfl rfl rfl (nl rfl) ?_
    first | exact ZD ⟨(gb, ga), ⟨hgo.2.1, hgo.1, Ne.symm hgo.2.2⟩⟩ idH | exact ZD ⟨(ga, gb), hgo⟩ idH
    refine Z2 ?_
    first | exact ZD ⟨(gb, ga), ⟨hgo.2.1, hgo.1, Ne.symm hgo.2.2⟩⟩ idH | exact ZD ⟨(ga, gb), hgo⟩ idH
    rintro ⟨⟨ua, ub⟩, hgo2⟩
    dsimp only at hgo2 ⊢
    refine sqr 7 rfl (sp rfl (PE.fA Z00 rfl) rfl (spL rfl rfl (lh Z46 rfl rfl) rfl (spL rfl rfl (lhA [.int .i64 ua, .int .i64 ub] Z6v rfl rfl rfl) rfl ?_)))
    refine bsl (out := [_, _]) rfl Zdw Z3i rfl rfl rfl rfl rfl rfl (fun b56 => ?_)
    refine apO (o) rfl Zew rfl rfl (Z0w (row := Z1E ⟨ua, ub⟩) rfl) rfl rfl ((by rw [Z15]; simp only [List.length_singleton]; omega)) rfl (fun o57 => ?_)
    refine sp rfl (PE.fA Z00 rfl) rfl ?_
    refine ZN (l' := htl ⟨x15, l ++ [⟨ua, ub⟩], []⟩ o57.fs (.slice none 0 0)) rfl rfl rfl ZeC rfl (by rw [o57.cells.1]; first | done | rfl) (by rw [o57.cells.1]; simp [o57.cells.2]) (by rw [o57.cells.1]; first | done | rfl) (by rw [o57.cells.1]; first | done | exact Nat.le_of_ble_eq_true rfl) ?_
    refine sqr 2 rfl (sp rfl (PE.add rfl rfl (by omega)) rfl (pur 1 rfl ?_))
    exact Z7 ⟨⟨(k + 1, l ++ [⟨ua, ub⟩], tq2 + 1 + 1, m46), by dsimp only; omega, ⟨by simp [hll], fun g hg => (List.mem_append.1 hg).elim (hlg g) (fun h9 => by rw [List.mem_singleton.1 h9]; exact hgo2)⟩, by dsimp only; omega, by assumption⟩, o57.cast (by simp [Zl])⟩ (fun w h9 => ((h9.del b56).del b10).perm (by first | exact .refl _ | exact (Zh _ [_] _).symm))
   exact Z40
  obtain rfl : k = n20 := by omega
  obtain ⟨ag, cg, he, hcg, hf⟩ := o.freezeC
  rw [Z15] at hcg
  rw [he, Z15]
  refine ZB bk ?_
  refine Sy.heap (H' := _) (fun w h9 => hf (h9.perm (List.perm_middle (l₁ := o.G) (a := _)).symm)) ?_
  clear he hf
  obtain ⟨B, rfl⟩ : ∃ B : Nat, x15 = B := ⟨x15.toNat, by omega⟩
  refine Z8 (Za (Za (Zk (sqt 1 rfl (pur 1 rfl (Z0 (sqt 3 rfl (sp rfl (PE.fA Z0l rfl) rfl (spL rfl rfl (lh sc3 rfl rfl) rfl (pur 1 rfl (Z3 ?_)))))))))))
  refine Zd (ι := (x : {x : Nat × (Nat → Bool) × Int × Int // x.1 ≤ B ∧ (tq ≤ x.2.2.1 ∧ x.2.2.1 ≤ tq + 40 + x.1) ∧ (0 ≤ x.2.2.2 ∧ x.2.2.2 ≤ 4294967295)}) × OSl 3 1 (Z4 (Z0f x.1.2.1 x.1.1))) (fun x => ⟨[(0, .pointer (some ⟨bk, 0, none⟩)), (6, .pointer (some ⟨b6, 0, none⟩)), (8, .pointer (some ⟨b8, 0, none⟩)), (11, x.2.fs), (61, .int .i64 B), (62, .int .i64 x.1.1.1)],
    (bk, cel 165 [.slice a0 l0.length c0, .int .i64 (x.1.1.2.2.1), .int .u32 (x.1.1.2.2.2)]) :: (x.2.G ++ (b8, cel 25 (htl ⟨B, l, []⟩ (.slice ag l.length cg) (.slice none 0 0))) :: (b6, cel 25 [.int .i64 0, .slice none 0 0, .slice none 0 0]) :: H), RowsA ag 2 (Zl l) :: R⟩) (fun x => B - x.1.1.1) ⟨⟨(0, fun _ => false, tq2, mx2), by omega, by dsimp only; omega, by assumption⟩, OSl.nil _ _⟩ ?_ (fun x => ?_)
  exact Zj idH
  obtain ⟨⟨⟨i, p, tq3, mx3⟩, hi, htq3, hmx3⟩, o2⟩ := x
  dsimp only at hi htq3 hmx3 o2 ⊢
  have hfl := Z0B p i
  refine sqt 1 rfl (pur 1 rfl (Z0 ?_))
  refine Z1 rfl ?_ ?_ <;> intro hc3 <;> try simp only [cS] at hc3
  refine Z2 (Z0 (Z3 (sqt 2 rfl (pur 2 rfl (sqt 2 rfl ?_)))))
  refine ZB bk ?_
  refine pur 1 rfl ?_
  refine cl rfl Z78 rfl rfl (Z7x l0 a0 c0 bk hgl _ _ (by omega) (by assumption) (3) _ _) ?_
  rintro _ _ R1 ⟨x66, m66, rfl, hm66, rfl, hR1⟩
  obtain rfl := hR1.symm
  refine Z1 rfl ?_ ?_ <;> intro hc4 <;> try simp only [cS] at hc4
  refine sqr 5 rfl (pur 2 rfl ?_)
  refine bsl (out := [_]) rfl Z02 zl3 rfl rfl rfl rfl rfl rfl (fun b69 => ?_)
  refine apO (o2) rfl Z2t rfl rfl (Z0w (row := [.int .i64 i]) rfl) rfl rfl ((by rw [irl]; simp only [List.length_singleton]; omega)) rfl (fun o70 => ?_)
  refine pur 1 rfl (sqr 2 rfl (sp rfl (PE.add rfl rfl (by omega)) rfl (pur 1 rfl ?_)))
  have hput := Z3A p i true
  exact Z7 ⟨⟨(i + 1, fun j => bif decide (j = i) then true else p j, tq3 + 1, m66), by dsimp only; omega, by dsimp only; omega, by assumption⟩, o70.cast (by rw [hput]; simp [Z4])⟩ (fun w h9 => (h9.del b69).perm (by first | exact .refl _ | exact (Zh _ [_] _).symm))
  refine Z2 (sqr 2 rfl (sp rfl (PE.add rfl rfl (by omega)) rfl (pur 1 rfl ?_)))
  have hput := Z3A p i false
  exact Z7 ⟨⟨(i + 1, fun j => bif decide (j = i) then false else p j, tq3 + 1, m66), by dsimp only; omega, by dsimp only; omega, by assumption⟩, o2.cast (by rw [hput]; simp [Z4])⟩ idH
  obtain rfl : i = B := by omega
  obtain ⟨ar, cr, he, hcr, hf⟩ := o2.freezeC
  rw [irl] at hcr
  rw [he, irl]
  refine ZB bk ?_
  refine Sy.heap (H' := _) (fun w h9 => hf (h9.perm (List.perm_middle (l₁ := o2.G) (a := _)).symm)) ?_
  clear he hf
  refine Z8 (Za (Za (Zk (sqt 4 rfl (spL rfl rfl (lhA (htl ⟨(i : Int), l, []⟩ (.slice ag l.length cg) (.slice none 0 0)) Z0N rfl rfl rfl) rfl (pur 1 rfl ?_))))))
  refine ZN (l' := htl ⟨(i : Int), l, []⟩ (.slice ag l.length cg) (.slice none 0 0)) rfl rfl rfl Zdu rfl rfl rfl rfl (Nat.le_refl _) ?_
  refine pur 1 rfl (Z6 ?_)
  exact Zm (vs := [_, _]) rfl (.cons (RV.cell rfl (lhA [_, _, _] Z0N rfl rfl rfl)) (.cons (RV.tmp rfl) .nil)) rfl ⟨⟨(i : Int), l, []⟩, p, ag, ar, cg, cr, tq3, mx3, ⟨by dsimp only; omega, by dsimp only; omega, hlg, rfl⟩, hcg, hcr, rfl, by omega, by assumption, rfl, rfl⟩ (fun w h9 => St.norows ((h9.del b8).del b6))
theorem ZdA : Z4H Tryz.prog 166 = some 2 := by kernel_rfl
theorem Z68 : arN Tryz.prog 166 = some (2, 1) := by kernel_rfl
theorem ZdN : Z0M Tryz.prog 166 = some 2 := by kernel_rfl
theorem Zeu : elN Tryz.prog 167 = some 2 := by kernel_rfl
theorem ZbW : Z5f Tryz.prog 167 = true := by kernel_rfl
theorem Zes : slE Tryz.prog 167 = some (166, 2) := by kernel_rfl
theorem Z94 : ZJ Tryz.prog 166 = some ([.int .i64 0, .int .i64 0]) := by kernel_rfl
theorem FnV.lendO {P : Program} {f : FuncId} {v : Value} {e sz : Nat} {rows : List (List Value)} (o : OSl e sz rows) (mk : Value → List Value) {T : Z9} {R : Z5}
    (h : ∀ (a : Option Addr) (c : Nat) (B : World → Prop), FnV P f (mk (.slice a rows.length c)) T (RowsA a sz rows :: B :: R) v) : FnV P f (mk o.fs) (o.G ++ T) R v := fun w hw => by
  obtain ⟨fs, G, hl, his⟩ := o
  rcases his with ⟨rfl, rfl, rfl⟩ | ⟨b, cap, junk, rfl, rfl, h1, h2, h3⟩
  · have h3 : St T (RowsA none sz [] :: (fun _ => True) :: R) w := St.also (St.also hw (f := fun _ => True) (fun _ _ => trivial)) (fun w' _ i row hi => by simp at hi)
    refine CallsIn.mono (h none 0 _ w h3) ?_
    rintro e' w' ⟨u, H', R', ⟨rfl, rfl, rfl⟩, he, hs'⟩
    exact ⟨_, _, R, ⟨rfl, rfl, rfl⟩, he, hs'.ftail.ftail⟩
  · exact FnV.lend (H := (b, cel e (rows.flatten ++ junk)) :: T) (b := b) (e := e) (sz := sz) (rows := rows) (junk := junk) hl (fun B => h _ cap B) w hw
set_option maxHeartbeats 400000 in
theorem Ze0 (l0 : List Int) (a0 : Option Addr) (c0 bk : Nat) (hgl : l0.length ≤ 9223372036854775807) (tq mx : Int) (htq : 0 ≤ tq ∧ tq ≤ 1000000) (hmx : 0 ≤ mx ∧ mx ≤ 4294967295) (h : Hse) (ag as_ : Option Addr) (cg cs : Nat) (hok : h.ok) (H : Z9) (R : Z5) [hG : MemRows a0 1 (Z29 l0) R] :
    Fn Tryz.prog 56 [.pointer (some ⟨bk, 0, none⟩), h.v (h.sg ag cg) (h.ss as_ cs)] ((bk, cel 165 [.slice a0 l0.length c0, .int .i64 (tq), .int .u32 (mx)]) :: H) R (fun v H' R' => ∃ (d : Nat → Int) (af ak : Option Addr) (cf ck : Nat) (tq' mx' : Int), (Z0f (fun j => decide (d j = 0)) h.bins.toNat).length ≤ cf ∧ (Z0f (fun j => decide (d j = 1)) h.bins.toNat).length ≤ ck ∧ v = .tuple #[.slice af (Z0f (fun j => decide (d j = 0)) h.bins.toNat).length cf, .slice ak (Z0f (fun j => decide (d j = 1)) h.bins.toNat).length ck] ∧ (tq ≤ tq' ∧ tq' ≤ tq + 10) ∧ (0 ≤ mx' ∧ mx' ≤ 4294967295) ∧ H' = (bk, cel 165 [.slice a0 l0.length c0, .int .i64 (tq'), .int .u32 (mx')]) :: H ∧ R' = RowsA ak 1 (Z4 (Z0f (fun j => decide (d j = 1)) h.bins.toNat)) :: RowsA af 1 (Z4 (Z0f (fun j => decide (d j = 0)) h.bins.toNat)) :: R) := by
 refine Zf Tryz.func56 rfl Tryz.ntmps56 rfl ?_
 refine sqt 3 rfl ?_
 have hbn := hok.bins
 obtain ⟨B, hB⟩ : ∃ B : Nat, h.bins = B := ⟨h.bins.toNat, by omega⟩
 rw [show h.bins.toNat = B by omega]
 refine bx rfl rfl rfl (fun b3 => pur 2 rfl (sqt 2 rfl (pur 2 rfl (Z0 (sqt 3 rfl (sp rfl (PE.fA Z0l rfl) rfl (spL rfl rfl (lh (v := .int .i64 h.bins) sc3 rfl rfl) rfl ?_)))))))
 rw [hB]
 refine pur 1 rfl (Z3 ?_)
 refine Zd (ι := (x : {x : Nat × (Nat → Int) × Int × Int // x.1 ≤ B ∧ (tq ≤ x.2.2.1 ∧ x.2.2.1 ≤ tq + x.1) ∧ (0 ≤ x.2.2.2 ∧ x.2.2.2 ≤ 4294967295)}) × OSl 3 1 (Z4 (Z0f (fun j => decide (x.1.2.1 j = 0)) x.1.1)) × OSl 3 1 (Z4 (Z0f (fun j => decide (x.1.2.1 j = 1)) x.1.1))) (fun x => ⟨[(0, .pointer (some ⟨bk, 0, none⟩)), (6, x.2.1.fs), (7, x.2.2.fs), (10, .int .i64 B), (11, .int .i64 x.1.1.1)],
   (bk, cel 165 [.slice a0 l0.length c0, .int .i64 (x.1.1.2.2.1), .int .u32 (x.1.1.2.2.2)]) :: (x.2.1.G ++ (x.2.2.G ++ ((b3, cel 25 (htl h (h.sg ag cg) (h.ss as_ cs))) :: H))), R⟩) (fun x => B - x.1.1.1) ⟨⟨(0, fun _ => 0, tq, mx), by omega, by dsimp only; omega, by assumption⟩, OSl.nil _ _, OSl.nil _ _⟩ ?_ (fun x => ?_)
 ·
  exact Zj (fun w h9 => h9.perm (by first | exact .refl _ | exact List.Perm.swap _ _ _))
 obtain ⟨⟨⟨k, d, tq2, mx2⟩, hk, htq2, hmx2⟩, o1, o2⟩ := x
 dsimp only at hk htq2 hmx2 o1 o2 ⊢
 have hf1 := Z0B (fun j => decide (d j = 0)) k
 have hf2 := Z0B (fun j => decide (d j = 1)) k
 refine sqt 1 rfl (pur 1 rfl (Z0 ?_))
 refine Z1 rfl ?_ ?_ <;> intro hc0 <;> try simp only [cS] at hc0
 refine Z2 (Z0 (Z3 (sqt 2 rfl (pur 2 rfl (sqt 2 rfl ?_)))))
 refine ZB bk ?_
 refine pur 1 rfl ?_
 refine cl rfl Z2S rfl rfl (Z0p l0 a0 c0 bk hgl _ _ (by omega) (by assumption) (3) _ _) ?_
 rintro _ _ R1 ⟨x15, m15, hx15, rfl, hm15, rfl, hR1⟩
 obtain rfl := hR1.symm
 have hp : ∀ v : Int, Z0f (fun j => decide ((bif decide (j = k) then x15 else d j) = v)) (k + 1) = Z0f (fun j => decide (d j = v)) k ++ bif decide (x15 = v) then [(k : Int)] else [] := fun v => by
   rw [← Z3A]
   exact Z3x fun j _ => by by_cases e : j = k <;> simp [e]
 refine Z3 (sqt 2 rfl (pur 2 rfl ?_))
 refine Z1 rfl ?_ ?_ <;> intro hc1 <;> try simp only [cS] at hc1
 refine sqr 5 rfl (pur 2 rfl ?_)
 refine bsl (out := [_]) rfl Z02 zl3 rfl rfl rfl rfl rfl rfl (fun b20 => ?_)
 refine apO (o1) rfl Z2t rfl rfl (Z0w (row := [.int .i64 k]) rfl) rfl rfl ((by rw [irl]; simp only [List.length_singleton]; omega)) rfl (fun o21 => ?_)
 refine pur 1 rfl (sqr 2 rfl (sp rfl (PE.add rfl rfl (by omega)) rfl (pur 1 rfl ?_)))
 exact Z7 ⟨⟨(k + 1, fun j => bif decide (j = k) then x15 else d j, tq2 + 1, m15), by dsimp only; omega, by dsimp only; omega, by assumption⟩, o21.cast (by rw [hp 0, dT hc1]; simp [Z4]), o2.cast (by rw [hp 1, dF (show ¬ x15 = 1 by omega)]; simp [Z4])⟩ (fun w h9 => (h9.del b20).perm (by first | exact .refl _ | exact (Zh _ [_] _).symm))
 refine sqt 2 rfl (pur 2 rfl ?_)
 refine Z1 rfl ?_ ?_ <;> intro hc2 <;> try simp only [cS] at hc2
 refine sqr 5 rfl (pur 2 rfl ?_)
 refine bsl (out := [_]) rfl Z02 zl3 rfl rfl rfl rfl rfl rfl (fun b26 => ?_)
 refine apO (o2) rfl Z2t rfl rfl (Z0w (row := [.int .i64 k]) rfl) rfl rfl ((by rw [irl]; simp only [List.length_singleton]; omega)) rfl (fun o27 => ?_)
 refine pur 1 rfl (sqr 2 rfl (sp rfl (PE.add rfl rfl (by omega)) rfl (pur 1 rfl ?_)))
 exact Z7 ⟨⟨(k + 1, fun j => bif decide (j = k) then x15 else d j, tq2 + 1, m15), by dsimp only; omega, by dsimp only; omega, by assumption⟩, o1.cast (by rw [hp 0, dF hc1]; simp [Z4]), o27.cast (by rw [hp 1, dT hc2]; simp [Z4])⟩ (fun w h9 => (h9.del b26).perm (by first | exact .refl _ | exact (Zh _ [_] _).symm | exact (Zh _ (_ :: _) _)))
 refine Z2 (sqr 2 rfl (sp rfl (PE.add rfl rfl (by omega)) rfl (pur 1 rfl ?_)))
 exact Z7 ⟨⟨(k + 1, fun j => bif decide (j = k) then x15 else d j, tq2 + 1, m15), by dsimp only; omega, by dsimp only; omega, by assumption⟩, o1.cast (by rw [hp 0, dF hc1]; simp [Z4]), o2.cast (by rw [hp 1, dF hc2]; simp [Z4])⟩ idH
 obtain rfl : k = B := by omega
 obtain ⟨af, cf, he1, hc9, hz1⟩ := o1.freezeC
 obtain ⟨ak, ck, he2, hc8, hz2⟩ := o2.freezeC
 rw [irl] at hc9 hc8
 rw [he1, he2, irl, irl]
 refine ZB bk ?_
 refine Sy.heap (H' := _) (fun w h9 => hz1 (h9.perm (List.perm_middle (l₁ := o1.G) (a := _)).symm)) ?_
 refine Sy.heap (H' := _) (fun w h9 => hz2 (h9.perm (List.perm_middle (l₁ := o2.G) (a := _)).symm)) ?_
 clear he1 he2 hz1 hz2
 refine Z8 (Za (Za (Zk (sqt 4 rfl (pur 4 rfl (Z6 ?_))))))
 exact rtB rfl rfl rfl rfl ⟨d, af, ak, cf, ck, tq2, mx2, hc9, hc8, rfl, ⟨htq2.1, by omega⟩, hmx2, rfl, rfl⟩ (fun w h9 => h9.del b3)
set_option maxHeartbeats 1000000 in
theorem Z5E (h : Hse) (ag as_ : Option Addr) (cg cs : Nat) (hok : h.ok) (fr : List Int) (af : Option Addr) (cf : Nat) (hfl0 : fr.length ≤ 1000000) (hfr : ∀ x ∈ fr, 0 ≤ x) (pl : List PL) (ap : Option Addr) (cp : Nat) (hpl : pl.length ≤ 1000000) (hpt : (lls pl).flatten.length ≤ 1000000) (hpx : ∀ x ∈ (lls pl).flatten, 0 ≤ x) (H : Z9) (R : Z5) [hG : MemRows ag 2 (Zl h.gaps) R] [hF : MemRows af 1 (Z4 fr) R] [hP : MemRows ap 1 (Zw pl) R] [hI : MemF (Inn pl) R] :
    Fn Tryz.prog 59 [h.v (h.sg ag cg) (h.ss as_ cs), .slice af fr.length cf, .slice ap pl.length cp] H R (fun v H' R' => ∃ (a : Option Addr) (c : Nat), v = .slice a h.bins.toNat c ∧ H' = H ∧ R' = RowsA a 1 (Z4 (Z5B h.gaps (clP pl) (msk fr) h.bins.toNat)) :: R) := by
 refine Zf Tryz.func59 rfl Tryz.ntmps59 rfl ?_
 refine sqt 2 rfl ?_
 have hbn := hok.bins
 have hgn := hok.gl
 obtain ⟨B, hB⟩ : ∃ B : Nat, h.bins = B := ⟨h.bins.toNat, by omega⟩
 rw [show h.bins.toNat = B by omega]
 refine bx rfl rfl rfl (fun b3 => pur 1 rfl (sqt 4 rfl (sp rfl (PE.fA Z0l rfl) rfl (spL rfl rfl (lh (v := .int .i64 h.bins) sc3 rfl rfl) rfl ?_))))
 rw [hB]
 refine mkS rfl Z2t zl3 rfl rfl (Nat.le_refl _) ⟨by omega, by omega⟩ rfl (fun b17 => ?_)
 rw [ZdG, Z9p (in0 fr)]
 refine pur 1 rfl (Z0 (sqt 3 rfl (pur 1 rfl (sp rfl (PE.lenSl Zy rfl) rfl (pur 1 rfl (Z3 ?_))))))
 refine Zd (ι := {k : Nat // k ≤ B}) (fun x => ⟨[(0, h.v (h.sg ag cg) (h.ss as_ cs)), (1, .slice af fr.length cf), (2, .slice ap pl.length cp), (3, .pointer (some ⟨b3, 0, none⟩)), (7, .slice (some ⟨b17, 0, none⟩) B B), (19, .int .i64 B), (20, .int .i64 x.1)], (b17, cel 3 (Zg (ini (in0 fr) B x.1))) :: (b3, cel 25 (htl h (h.sg ag cg) (h.ss as_ cs))) :: H, R⟩) (fun x => B - x.1) ⟨0, by omega⟩ ?_ (fun x => ?_)
 exact Zj idH
 obtain ⟨k, hk⟩ := x
 dsimp only at hk ⊢
 refine sqt 1 rfl (pur 1 rfl (Z0 ?_))
 refine Z1 rfl ?_ ?_ <;> intro hc0 <;> try simp only [cS] at hc0
 refine Z2 (Z0 (Z3 (sqt 2 rfl (pur 2 rfl (sqt 4 rfl (pur 2 rfl (sp rfl (PE.indexAddr Z1l rfl rfl (by omega) (by omega)) rfl ?_)))))))
 refine ZN (l' := Zg ((ini (in0 fr) B k).set k 100)) rfl rfl rfl cn3 rfl rfl rfl (Z1a (by rw [ZP]; omega) (by show 0 + ((k : Nat) : Int).toNat * 1 = k; omega)) (by rw [Zb]; (first | rw [ZP] | rw [List.length_set, ZP] | rw [hfl]); show 0 + ((k : Nat) : Int).toNat * 1 + 1 ≤ _; omega) ?_
 refine sqt 3 rfl (pur 2 rfl ?_)
 refine clV rfl Z4L rfl rfl (ZC fr af cf (k : Int) (by omega) _ _) ?_
 refine Z1 rfl ?_ ?_ <;> intro hc1 <;> try simp only [cS] at hc1
 refine sqr 4 rfl (pur 2 rfl (sp rfl (PE.indexAddr Z1l rfl rfl (by omega) (by omega)) rfl ?_))
 refine ZN (l' := Zg (((ini (in0 fr) B k).set k 100).set k 0)) rfl rfl rfl cn3 rfl rfl rfl (Z1a (by rw [List.length_set, ZP]; omega) (by show 0 + ((k : Nat) : Int).toNat * 1 = k; omega)) (by rw [Zb]; (first | rw [ZP] | rw [List.length_set, ZP] | rw [hfl]); show 0 + ((k : Nat) : Int).toNat * 1 + 1 ≤ _; omega) ?_
 refine sqr 2 rfl (sp rfl (PE.add rfl rfl (by omega)) rfl (pur 1 rfl ?_))
 rw [Z61, Z6D (k := k) (by omega) (by unfold in0; rw [show Z3b fr (k : Int) = _ from hc1]; rfl)]
 exact Z7 ⟨k + 1, by omega⟩ idH
 refine Z2 (sqr 2 rfl (sp rfl (PE.add rfl rfl (by omega)) rfl (pur 1 rfl ?_)))
 rw [Z6D (k := k) (by omega) (by unfold in0; rw [show Z3b fr (k : Int) = _ from hc1]; rfl)]
 exact Z7 ⟨k + 1, by omega⟩ idH
 obtain rfl : k = B := by omega
 have hst := FolI.start (gs := h.gaps) (cl := (clP pl)) hfr k
 refine Z8 (Za (Za (Zk (sqt 1 rfl (pur 1 rfl (Z0 (sqt 1 rfl (pur 1 rfl (Z3 ?_)))))))))
 refine Zd (ι := (x : {x : Nat × List Int // x.1 ≤ 20 ∧ FolI h.gaps (clP pl) (msk fr) k x.1 (Z2u h.gaps ((clP pl) x.1) (lvp h.gaps (clP pl) (msk fr) x.1) 0) x.2}) × OSl 3 1 (Z4 (Z3d pl x.1.1))) (fun x => ⟨[(0, h.v (h.sg ag cg) (h.ss as_ cs)), (1, .slice af fr.length cf), (2, .slice ap pl.length cp), (3, .pointer (some ⟨b3, 0, none⟩)), (7, .slice (some ⟨b17, 0, none⟩) k k), (9, x.2.fs), (33, .int .i64 x.1.1.1)], x.2.G ++ ((b17, cel 3 (Zg (x.1.1.2))) :: (b3, cel 25 (htl h (h.sg ag cg) (h.ss as_ cs))) :: H), R⟩) (fun x => 20 - x.1.1.1) ⟨⟨(0, ini (in0 fr) k k), by omega, hst⟩, OSl.nil _ _⟩ ?_ (fun x => ?_)
 exact Zj idH
 obtain ⟨⟨⟨w, o⟩, hw, hfo⟩, oc⟩ := x
 dsimp only at hw hfo oc ⊢
 have hcl := Z26 pl w
 have hcl2 := Z26 pl (w + 1)
 refine sqt 1 rfl (pur 1 rfl (Z0 ?_))
 refine Z1 rfl ?_ ?_ <;> intro hc2 <;> try simp only [cS] at hc2
 refine Z2 (Z0 (Z3 (sqt 2 rfl (pur 2 rfl (Z0 (sqt 4 rfl (pur 2 rfl (sp rfl (PE.lenSl Z3O rfl) rfl (pur 1 rfl ?_)))))))))
 refine Z2J (ι := OSl 3 1 (Z4 (Z3d pl (w + 1)))) (fun oc => ⟨[(0, h.v (h.sg ag cg) (h.ss as_ cs)), (1, .slice af fr.length cf), (2, .slice ap pl.length cp), (3, .pointer (some ⟨b3, 0, none⟩)), (7, .slice (some ⟨b17, 0, none⟩) k k), (9, oc.fs), (10, .int .i64 w), (33, .int .i64 w)], oc.G ++ ((b17, cel 3 (Zg (o))) :: (b3, cel 25 (htl h (h.sg ag cg) (h.ss as_ cs))) :: H), R⟩) ?_ ?_
 refine Z1 rfl ?_ ?_ <;> intro hc3 <;> try simp only [cS] at hc3
 obtain ⟨x, hx⟩ : ∃ x, pl[w]? = some x := ⟨_, List.getElem?_eq_getElem (by omega)⟩
 have hst := Z2G hx
 have hsl := congrArg List.length hst
 rw [List.length_append] at hsl
 refine Zo (a := ap) (sz := 1) (rows := Zw pl) (ne0 (by rw [Zt]; omega)) (fun ba oa he => ?_)
 subst he
 refine Sy.heap (fun w h9 => St.inn (x := x) h9 (List.mem_of_getElem? hx)) ?_
 refine sqr 7 rfl (pur 3 rfl (sp rfl (PE.indexAddr Zbk rfl rfl (by omega) (by omega)) rfl (spL rfl rfl (lf0 Z2p (Z4l hx) rfl) rfl ?_)))
 refine apO (news := Z4 x.l) oc rfl Z2t rfl rfl (Z9k) (irl _) (by simp [Z09, Z4, Value.oneCell']) (by rw [irl, irl]; omega) rfl (fun o45 => ?_)
 refine pur 1 rfl ?_
 first | exact ZD (o45.cast (by rw [hst]; simp [Z4])) (fun w h9 => h9.ftail) | exact ZD (oc.cast (by rw [Z5u (by omega)])) idH
 refine Z2 ?_
 first | exact ZD (o45.cast (by rw [hst]; simp [Z4])) (fun w h9 => h9.ftail) | exact ZD (oc.cast (by rw [Z5u (by omega)])) idH
 intro oc
 dsimp only
 refine sqt 4 rfl (sp rfl (PE.fA Z00 rfl) rfl (spL rfl rfl (lh Z46 rfl rfl) rfl (sp rfl (PE.lenSl Z3h rfl) rfl (pur 1 rfl (Z3 ?_)))))
 refine Zd (ι := {x : Nat × List Int // x.1 ≤ h.gaps.length ∧ FolI h.gaps (clP pl) (msk fr) k w (Z2u h.gaps ((clP pl) w) (lvp h.gaps (clP pl) (msk fr) w) (x.1)) x.2}) (fun x => ⟨[(0, h.v (h.sg ag cg) (h.ss as_ cs)), (1, .slice af fr.length cf), (2, .slice ap pl.length cp), (3, .pointer (some ⟨b3, 0, none⟩)), (7, .slice (some ⟨b17, 0, none⟩) k k), (9, oc.fs), (10, .int .i64 w), (33, .int .i64 w), (47, h.sg ag cg), (48, .int .i64 h.gaps.length), (49, .int .i64 x.1.1)], oc.G ++ ((b17, cel 3 (Zg (x.1.2))) :: (b3, cel 25 (htl h (h.sg ag cg) (h.ss as_ cs))) :: H), R⟩) (fun x => h.gaps.length - x.1.1) ⟨(0, o), by omega, hfo⟩ ?_ (fun x => ?_)
 exact Zj idH
 obtain ⟨⟨i, o⟩, hi, hfo⟩ := x
 dsimp only at hi hfo ⊢
 refine sqt 1 rfl (pur 1 rfl (Z0 ?_))
 refine Z1 rfl ?_ ?_ <;> intro hc4 <;> try simp only [cS] at hc4
 obtain ⟨gg, hg⟩ : ∃ g, h.gaps[i]? = some g := ⟨_, List.getElem?_eq_getElem (by omega)⟩
 have hgo := hok.gaps gg (List.mem_of_getElem? hg)
 refine Zo (a := ag) (sz := 2) (rows := Zl h.gaps) (ne0 (by rw [Z15]; omega)) (fun ba oa he => ?_)
 subst he
 refine Z2 (Z0 (Z3 (sqt 6 rfl (pur 1 rfl (sp rfl (PE.indexAddr Z8s rfl rfl (by omega) (by omega)) rfl (spL rfl rfl (lfA Z6v (row := Z1E gg) (Z1z hg) rfl) rfl (alc rfl Z3i rfl (fun b12 => pur 1 rfl ?_))))))))
 refine ZN (l' := Z1E gg) rfl rfl rfl Z9R rfl rfl rfl rfl (nl rfl) ?_
 refine Z0 (sqt 3 rfl (pur 2 rfl ?_))
 refine Sy.heap (H' := oc.G ++ ((b12, cel 97 (Z1E gg)) :: _)) (fun w h9 => h9.perm (Zh [_] _ _)) ?_
 refine clV rfl Z4L rfl rfl (FnV.lendO oc (fun v => [v, .int .i64 i]) (fun a5 c5 _ => by rw [irl]; exact ZC (Z3d pl (w + 1)) a5 c5 (i : Int) (by omega) _ _)) ?_
 refine Z1 rfl ?_ ?_ <;> intro hc5 <;> try simp only [cS] at hc5
 have hcb : (clP pl w).testBit i = true := by unfold clP; rw [← Z4P (fun x hx => hpx x (Z5s hx))]; exact hc5
 refine Z8 (Za (Zk (sqr 2 rfl (sp rfl (PE.add rfl rfl (by omega)) rfl (pur 1 rfl ?_)))))
 exact Z7 ⟨(i + 1, o), by dsimp only; omega, hfo.shut hcb⟩ (fun w h9 => h9.del b12)
 have hcb : (clP pl w).testBit i = false := by unfold clP; rw [← Z4P (fun x hx => hpx x (Z5s hx))]; exact hc5
 refine Z2 (sqt 13 rfl (sp rfl (PE.fA ZO rfl) rfl (spL rfl rfl (lh sc3 rfl rfl) rfl (sp rfl (PE.fA ZF rfl) rfl (spL rfl rfl (lh sc3 rfl rfl) rfl (sp rfl (PE.buildArr (out := [_, _]) Z68 Z94 rfl rfl) rfl (sp rfl (PE.fA ZF rfl) rfl (spL rfl rfl (lh sc3 rfl rfl) rfl (sp rfl (PE.fA ZO rfl) rfl (spL rfl rfl (lh sc3 rfl rfl) rfl (sp rfl (PE.buildArr (out := [_, _]) Z68 Z94 rfl rfl) rfl ?_)))))))))))
 refine bsl (out := [_, _, _, _]) rfl Zes Z94 rfl rfl rfl rfl rfl rfl (fun b67 => ?_)
 refine sp rfl (PE.lenSl ZbW rfl) rfl (pur 1 rfl (Z3 ?_))
 refine Zd (ι := {x : Nat × List Int // x.1 ≤ 2 ∧ FolI h.gaps (clP pl) (msk fr) k w (Zel (lvp h.gaps (clP pl) (msk fr) w) (Z2u h.gaps ((clP pl) w) (lvp h.gaps (clP pl) (msk fr) w) (i)) gg x.1) x.2}) (fun x => ⟨[(0, h.v (h.sg (some ⟨ba, oa, none⟩) cg) (h.ss as_ cs)), (1, .slice af fr.length cf), (2, .slice ap pl.length cp), (3, .pointer (some ⟨b3, 0, none⟩)), (7, .slice (some ⟨b17, 0, none⟩) k k), (9, oc.fs), (10, .int .i64 w), (33, .int .i64 w), (47, h.sg (some ⟨ba, oa, none⟩) cg), (48, .int .i64 h.gaps.length), (49, .int .i64 i), (67, .slice (some ⟨b67, 0, none⟩) 2 2), (68, .int .i64 2), (69, .int .i64 x.1.1)], (b67, cel 166 (Zex gg)) :: (oc.G ++ ((b12, cel 97 (Z1E gg)) :: (b17, cel 3 (Zg (x.1.2))) :: (b3, cel 25 (htl h (h.sg (some ⟨ba, oa, none⟩) cg) (h.ss as_ cs))) :: H)), R⟩) (fun x => 2 - x.1.1) ⟨(0, o), by omega, hfo⟩ ?_ (fun x => ?_)
 exact Zj idH
 obtain ⟨⟨j, o⟩, hj, hfo⟩ := x
 dsimp only at hj hfo ⊢
 have hfl := hfo.len
 refine sqt 1 rfl (pur 1 rfl (Z0 ?_))
 refine Z1 rfl ?_ ?_ <;> intro hc6 <;> try simp only [cS] at hc6
 obtain ⟨u, v, rest, hu, hv, hdr, hacc⟩ := Zal (s := (lvp h.gaps (clP pl) (msk fr) w)) (acc := (Z2u h.gaps ((clP pl) w) (lvp h.gaps (clP pl) (msk fr) w) (i))) (n := k) (show 0 ≤ gg.a ∧ gg.a < (k : Int) by omega) (show 0 ≤ gg.b ∧ gg.b < (k : Int) by omega) (show j < 2 by omega)
 have hbu := hfo.bd (by omega) hu
 have hbv := hfo.bd (by omega) hv
 refine Z2 (Z0 (Z3 (sqt 4 rfl (sp rfl (PE.indexAddr Zeu rfl rfl (by omega) (by omega)) rfl (spL rfl rfl (lhA [.int .i64 (u : Int), .int .i64 (v : Int)] ZdA rfl (rest := rest) (by rw [← hdr]; congr 1; show 0 + ((j : Nat) : Int).toNat * 2 = j * 2; omega) rfl) rfl (alc rfl Z94 rfl (fun b14 => ?_)))))))
 refine ZN (l' := [.int .i64 (u : Int), .int .i64 (v : Int)]) rfl rfl rfl ZdN rfl rfl rfl rfl (nl rfl) ?_
 refine sqt 16 rfl (pur 1 rfl (sp rfl (PE.indexArr Z68 rfl rfl (by omega) (by omega)) rfl (spL rfl rfl (lh sc3 rfl rfl) rfl (sp rfl (PE.indexAddr Z1l rfl rfl (by omega) (by omega)) rfl (spL rfl rfl (lh sc3 rfl (Z0I (w := o) (k := u) (by omega) (by show 0 + ((u : Nat) : Int).toNat * 1 = u; omega))) rfl (pur 3 rfl ?_))))))
 refine Zv 80 rfl ?_ ?_ <;> intro g80
 simp only [decide_eq_true_eq] at g80
 refine pur 1 rfl ?_
 refine spG rfl rfl rfl rfl (PE.indexArr Z68 rfl rfl (by omega) (by omega)) rfl ?_
 refine Z2K rfl rfl rfl rfl rfl (lh sc3 rfl rfl) rfl ?_
 refine spG rfl rfl rfl rfl (PE.indexAddr Z1l rfl rfl (by omega) (by omega)) rfl ?_
 refine Z2K rfl rfl rfl rfl rfl (lh sc3 rfl (Z0I (w := o) (k := v) (by omega) (by show 0 + ((v : Nat) : Int).toNat * 1 = v; omega))) rfl (pur 3 rfl ?_)
 refine Z1 rfl ?_ ?_ <;> intro hc7 <;> try simp only [cS] at hc7
 refine Ze [0, 0, 2, 0, 0, 16, 56, 120, 0, 256, 1016, 2047, 4095] (.tk 0 (.tk 1 (.ld 2 (.tk 3 (.tk 4 (.ld 5 (.tk 6 (.ld 7 (tks 8 4 (.big 12 .done)))))))))) Zu (by kernel_rfl) ?_
 refine Zp 1 rfl (tk rfl (PE.indexArr Z68 rfl rfl (by omega) (by omega)) rfl (ld rfl rfl (lh sc3 rfl rfl) rfl (Zp 1 rfl (tk rfl (PE.indexArr Z68 rfl rfl (by omega) (by omega)) rfl (ld rfl rfl (lh sc3 rfl rfl) rfl (tk rfl (PE.indexAddr Z1l rfl rfl (by omega) (by omega)) rfl (ld rfl rfl (lh sc3 rfl (Z0I (w := o) (k := v) (by omega) (by show 0 + ((v : Nat) : Int).toNat * 1 = v; omega))) rfl (Zp 1 rfl (tk rfl (PE.add rfl rfl (by omega)) rfl (tk rfl (PE.min rfl rfl) rfl (tk rfl (PE.indexAddr Z1l rfl rfl (by omega) (by omega)) rfl ?_)))))))))))
 refine ZN (l' := Zg (o.set v (min (na o v) ((w : Int) + 1)))) rfl rfl rfl cn3 rfl rfl rfl (Z1a (by omega) (by show 0 + ((v : Nat) : Int).toNat * 1 = v; omega)) (by rw [Zb]; (first | rw [ZP] | rw [List.length_set, ZP] | rw [hfl]); show 0 + ((v : Nat) : Int).toNat * 1 + 1 ≤ _; omega) ?_
 refine bgT (sqr 2 rfl (sp rfl (PE.add rfl rfl (by omega)) rfl (pur 1 rfl ?_)))
 exact Z7 ⟨(j + 1, o.set v (min (na o v) ((w : Int) + 1))), by dsimp only; omega, by dsimp only; rw [hacc]; exact hfo.way (by omega) hu hv (by omega) (by omega)⟩ (fun w h9 => h9.del b14)
 refine Z2 (sqr 2 rfl (sp rfl (PE.add rfl rfl (by omega)) rfl (pur 1 rfl ?_)))
 exact Z7 ⟨(j + 1, o), by dsimp only; omega, by dsimp only; rw [hacc]; exact hfo.same (by omega) hu hv (fun h9 => by omega)⟩ (fun w h9 => h9.del b14)
 simp only [decide_eq_false_iff_not] at g80
 refine pur 8 rfl ?_
 refine Zx rfl ?_
 refine Z2 (sqr 2 rfl (sp rfl (PE.add rfl rfl (by omega)) rfl (pur 1 rfl ?_)))
 exact Z7 ⟨(j + 1, o), by dsimp only; omega, by dsimp only; rw [hacc]; exact hfo.same (by omega) hu hv (fun h9 => by omega)⟩ (fun w h9 => h9.del b14)
 obtain rfl : j = 2 := by omega
 refine Z8 (Za (Za (Zk (sqr 2 rfl (sp rfl (PE.add rfl rfl (by omega)) rfl (pur 1 rfl ?_))))))
 exact Z7 ⟨(i + 1, o), by dsimp only; omega, hfo.gap hg hcb⟩ (fun w h9 => (h9.del b67).del b12)
 obtain rfl : i = h.gaps.length := by omega
 have hwk := hfo.week
 refine Z8 (Za (Za (Zk (sqr 2 rfl (sp rfl (PE.add rfl rfl (by omega)) rfl (pur 1 rfl ?_))))))
 exact Z7 ⟨⟨(w + 1, o), by dsimp only; omega, hwk⟩, oc⟩ idH
 obtain rfl : w = 20 := by omega
 obtain rfl := hfo.done rfl
 refine Sy.heap (H' := _ :: (oc.G ++ _)) (fun w h9 => h9.perm (List.perm_middle (l₁ := oc.G) (a := _))) ?_
 refine Sy.heap (fun w h9 => St.rows (sz := 1) (rows := Z4 (Z5B h.gaps (clP pl) (msk fr) k)) (rest := []) (by rw [List.append_nil, show (Z4 (Z5B h.gaps (clP pl) (msk fr) k)).flatten = Zg (Z5B h.gaps (clP pl) (msk fr) k) from Z25 _]; exact h9) (fun r hr => by obtain ⟨x, _, rfl⟩ := List.mem_map.1 hr; rfl)) ?_
 refine Z8 (Za (Za (Zk (sqt 2 rfl (pur 2 rfl (Z6 ?_))))))
 exact rtA rfl rfl rfl ⟨_, k, rfl, rfl, rfl⟩ (fun w h9 => (St.drop (G := oc.G) h9).del b3)
theorem Tru.nil (h : Hse) (l : List Int) : Tru h l [] := ⟨(fun s hs => by cases hs), rfl⟩
theorem Zch {h : Hse} {l k : List Int} (hk : h.ok) (h1 : ZL h.bins l = 0) (h2 : ZL h.bins k = 0) (h3 : ∀ x ∈ l, x ∉ k) : h.botE l k = 0 := by
  have h4 : l.any (Z3b k) = false := List.any_eq_false.2 fun x hx h5 => h3 x hx (hasI_iff.1 h5)
  unfold Hse.botE
  rw [hse_ok.2 hk, h1, h2, h4]; rfl
theorem Z7z {d : Nat → Int} {n : Nat} : ∀ x ∈ Z0f (fun j => decide (d j = 0)) n, x ∉ Z0f (fun j => decide (d j = 1)) n := fun x h1 h2 => by
  obtain ⟨k, _, h3, rfl⟩ := fltK_mem.1 h1
  obtain ⟨k', _, h4, h5⟩ := fltK_mem.1 h2
  obtain rfl : k = k' := by omega
  have := of_decide_eq_true h3; have := of_decide_eq_true h4; omega
def Hse.add (h : Hse) (s : Sgt) : Hse := ⟨h.bins, h.gaps, h.sights ++ [s]⟩
theorem Zc0 : cal Tryz.prog 159 = true := by kernel_rfl
theorem Zdm : cal Tryz.prog 176 = true := by kernel_rfl
structure DelI (l : List Int) (p : Int → Bool) (i j : Nat) (c : List Int) : Prop where
  len : c.length = l.length
  le : i < j ∧ j ≤ l.length
  pre : c.take i = (l.take j).filter (fun x => !p x)
  suf : ∀ q, j ≤ q → c[q]? = l[q]?
theorem Z1t {l : List Int} {j : Nat} {x : Int} (h : l[j]? = some x) : l.take (j + 1) = l.take j ++ [x] := by rw [List.take_add_one, h]; rfl
theorem DelI.start {l : List Int} {p : Int → Bool} {k : Nat} (h : l.findIdx? p = some k) : DelI l p k (k + 1) l := by
  obtain ⟨h1, h2, h3⟩ := List.findIdx?_eq_some_iff_getElem.1 h
  refine ⟨rfl, ⟨by omega, by omega⟩, ?_, fun _ _ => rfl⟩
  rw [Z1t (List.getElem?_eq_getElem h1), List.filter_append, List.filter_cons, h2]
  have : (l.take k).filter (fun x => !p x) = l.take k := List.filter_eq_self.2 fun x hx => by
    obtain ⟨q, hq, rfl⟩ := List.mem_iff_getElem.1 hx
    rw [List.length_take] at hq
    rw [List.getElem_take]
    have := h3 q (by omega)
    simpa using this
  rw [this]; simp
theorem DelI.skip {l : List Int} {p : Int → Bool} {i j : Nat} {c : List Int} (h : DelI l p i j c) {x : Int} (hx : l[j]? = some x) (hp : p x = true) : DelI l p i (j + 1) c := by
  have hj := (List.getElem?_eq_some_iff.1 hx).1
  refine ⟨h.len, ⟨by have := h.le; omega, by omega⟩, ?_, fun q hq => h.suf q (by omega)⟩
  rw [h.pre, Z1t hx, List.filter_append, List.filter_cons, hp]; simp
theorem DelI.keep {l : List Int} {p : Int → Bool} {i j : Nat} {c : List Int} (h : DelI l p i j c) {x : Int} (hx : l[j]? = some x) (hp : p x = false) : DelI l p (i + 1) (j + 1) (c.set i x) := by
  have hj := (List.getElem?_eq_some_iff.1 hx).1
  have hl := h.le
  have hn := h.len
  refine ⟨by rw [List.length_set]; exact hn, ⟨by omega, by omega⟩, ?_, fun q hq => by rw [List.getElem?_set_ne (by omega)]; exact h.suf q (by omega)⟩
  rw [Z1t hx, List.filter_append, List.filter_cons, hp, ← h.pre, Z1t (l := c.set i x) (x := x) (by rw [List.getElem?_set_self (by omega)]), List.take_set_of_le (Nat.le_refl _)]; rfl
theorem DelI.done {l : List Int} {p : Int → Bool} {i : Nat} {c : List Int} (h : DelI l p i l.length c) : c.take i = l.filter (fun x => !p x) ∧ i = (l.filter (fun x => !p x)).length := by
  have h1 := h.pre
  rw [List.take_length] at h1
  refine ⟨h1, ?_⟩
  rw [← h1, List.length_take, h.len]
  have := h.le; omega
theorem Zat (n : Int) (H : Z9) (R : Z5) :
    FnV Tryz.prog 176 [.int .i64 n] H R (.bool false) := by
 refine Zf Tryz.func176 rfl Tryz.ntmps176 rfl ?_
 refine sqt 1 rfl (pur 1 rfl (sqt 4 rfl (pur 4 rfl (Z6 ?_))))
 exact rtA rfl rfl rfl ⟨by simp [Z08], rfl, rfl⟩ drp
end Go.Proofs.YthbjpnmclokinaaGreat
namespace Go.Proofs.YthbjpnmclokinaaGreat
set_option linter.unusedSimpArgs false
set_option linter.unusedVariables false
structure Bij (n : Nat) (R : Nat → Nat → Prop) : Prop where
  lt : ∀ u u', R u u' → u < n ∧ u' < n
  to : ∀ u, u < n → ∃ u', R u u'
  fr : ∀ u', u' < n → ∃ u, R u u'
  f : ∀ u u' v', R u u' → R u v' → u' = v'
  i : ∀ u v u', R u u' → R v u' → u = v
theorem Bij.symm {n : Nat} {R : Nat → Nat → Prop} (h : Bij n R) : Bij n fun u' u => R u u' := ⟨fun u u' h1 => (h.lt u' u h1).symm, h.fr, h.to, fun u u' v' h1 h2 => h.i u' v' u h1 h2, fun u v u' h1 h2 => h.f u' u v h1 h2⟩
structure Img (n : Nat) (R : Nat → Nat → Prop) (m m' : Nat) : Prop where
  lt : m < 2 ^ n
  lt' : m' < 2 ^ n
  bit : ∀ u u', R u u' → m.testBit u = m'.testBit u'
theorem Img.symm {n : Nat} {R : Nat → Nat → Prop} {m m' : Nat} (h : Img n R m m') : Img n (fun u' u => R u u') m' m := ⟨h.lt', h.lt, fun u u' h1 => (h.bit u' u h1).symm⟩
theorem Img.ex {n : Nat} {R : Nat → Nat → Prop} (hb : Bij n R) {m : Nat} (hm : m < 2 ^ n) : ∃ m', Img n R m m' := by
  classical
  obtain ⟨t, h1, h2⟩ := Z55 (fun u' => decide (∃ u, R u u' ∧ m.testBit u = true)) n
  refine ⟨t, hm, h1, fun u u' h => ?_⟩
  rw [h2 u', decide_eq_true (hb.lt u u' h).2, Bool.true_and, Bool.eq_iff_iff, decide_eq_true_eq]
  exact ⟨fun h3 => ⟨u, h, h3⟩, fun ⟨v, h3, h4⟩ => by rw [hb.i u v u' h h3]; exact h4⟩
theorem Img.unique {n : Nat} {R : Nat → Nat → Prop} (hb : Bij n R) {m a b : Nat} (h1 : Img n R m a) (h2 : Img n R m b) : a = b := ZT fun k => by
  rcases Nat.lt_or_ge k n with hk | hk
  · obtain ⟨u, hu⟩ := hb.fr k hk
    rw [← h1.bit u k hu, ← h2.bit u k hu]
  · rw [Z56 h1.lt' hk, Z56 h2.lt' hk]
theorem Img.zero {n : Nat} {R : Nat → Nat → Prop} : Img n R 0 0 := ⟨Nat.two_pow_pos _, Nat.two_pow_pos _, fun u u' _ => by rw [Nat.zero_testBit, Nat.zero_testBit]⟩
theorem Img.or {n : Nat} {R : Nat → Nat → Prop} {a a' b b' : Nat} (h1 : Img n R a a') (h2 : Img n R b b') : Img n R (a ||| b) (a' ||| b') := ⟨Z6d h1.lt h2.lt, Z6d h1.lt' h2.lt', fun u u' h => by rw [Nat.testBit_or, Nat.testBit_or, h1.bit u u' h, h2.bit u u' h]⟩
theorem Img.and {n : Nat} {R : Nat → Nat → Prop} (hb : Bij n R) {a a' b b' : Nat} (h1 : Img n R a a') (h2 : Img n R b b') (h : a &&& b = 0) : a' &&& b' = 0 := and_zero.2 fun k hk => by
  obtain ⟨u, hu⟩ := hb.fr k (Z0U h1.lt' hk)
  rw [← h2.bit u k hu]
  exact and_zero.1 h u (by rw [h1.bit u k hu]; exact hk)
theorem Img.cnt {n : Nat} {R : Nat → Nat → Prop} (hb : Bij n R) {m m' : Nat} (h : Img n R m m') : cnt n m = cnt n m' := by
  classical
  have hex : ∃ f : Nat → Nat, ∀ u, u < n → R u (f u) := ⟨fun u => if h : u < n then Classical.choose (hb.to u h) else 0, fun u hu => by
    dsimp only; rw [dif_pos hu]; exact Classical.choose_spec (hb.to u hu)⟩
  obtain ⟨f, hf⟩ := hex
  have hp : ((List.range n).map f).Perm (List.range n) := by
    refine (List.perm_ext_iff_of_nodup ?_ List.nodup_range).2 fun x => ?_
    · rw [List.nodup_iff_pairwise_ne, List.pairwise_map]
      refine List.pairwise_lt_range.imp_of_mem fun {a b} ha hb9 hab e => ?_
      have h1 := hf a (List.mem_range.1 ha)
      have h2 := hf b (List.mem_range.1 hb9)
      rw [← e] at h2
      have := hb.i a b _ h1 h2
      omega
    · rw [List.mem_range, List.mem_map]
      constructor
      · rintro ⟨u, hu, rfl⟩; exact (hb.lt _ _ (hf u (List.mem_range.1 hu))).2
      · intro hx
        obtain ⟨u, hu⟩ := hb.fr x hx
        have hul := (hb.lt u x hu).1
        exact ⟨u, List.mem_range.2 hul, hb.f u _ _ (hf u hul) hu⟩
  show (List.range n).countP (fun k => m.testBit k) = (List.range n).countP (fun k => m'.testBit k)
  have e1 := hp.countP_eq (fun k => m'.testBit k)
  rw [List.countP_map] at e1
  rw [← e1]
  exact List.countP_congr fun k hk => by rw [h.bit k (f k) (hf k (List.mem_range.1 hk))]; rfl
structure Sim (n : Nat) (gs gs' : List Gp) (R Q : Nat → Nat → Prop) : Prop where
  bin : Bij n R
  gap : Bij gs.length Q
  len : gs'.length = gs.length
  gp : ∀ i i' g g', Q i i' → gs[i]? = some g → gs'[i']? = some g' → R g.a.toNat g'.b.toNat ∧ R g.b.toNat g'.a.toNat
theorem Sim.symm {n : Nat} {gs gs' : List Gp} {R Q : Nat → Nat → Prop} (h : Sim n gs gs' R Q) : Sim n gs' gs (fun u' u => R u u') (fun i' i => Q i i') := ⟨h.bin.symm, by rw [h.len]; exact h.gap.symm, h.len.symm, fun i i' g g' h1 h2 h3 => by
  have := h.gp i' i g' g h1 h3 h2
  exact ⟨this.2, this.1⟩⟩
theorem Sim.wth {n : Nat} {gs gs' : List Gp} {R Q : Nat → Nat → Prop} (h : Sim n gs gs' R Q) : Wth gs n := fun g hg => by
  obtain ⟨i, hi⟩ := List.getElem?_of_mem hg
  have hl := (List.getElem?_eq_some_iff.1 hi).1
  obtain ⟨i', hq⟩ := h.gap.to i hl
  have hl' : i' < gs'.length := by rw [h.len]; exact (h.gap.lt i i' hq).2
  have h1 := h.gp i i' g gs'[i'] hq hi (List.getElem?_eq_getElem hl')
  exact ⟨(h.bin.lt _ _ h1.1).1, (h.bin.lt _ _ h1.2).1⟩
theorem Sim.adj {n : Nat} {gs gs' : List Gp} {R Q : Nat → Nat → Prop} (h : Sim n gs gs' R Q) {c c' u v u' v' : Nat} (hc : Img gs.length Q c c') (hu : R u u') (hv : R v v') (ha : Adj gs c u v) : Adj gs' c' u' v' := by
  obtain ⟨i, g, h1, h2, h3⟩ := ha
  have hl := (List.getElem?_eq_some_iff.1 h1).1
  obtain ⟨i', hq⟩ := h.gap.to i hl
  have hl' : i' < gs'.length := by rw [h.len]; exact (h.gap.lt i i' hq).2
  have h4 : gs'[i']? = some gs'[i'] := List.getElem?_eq_getElem hl'
  have h5 := h.gp i i' g _ hq h1 h4
  refine ⟨i', _, h4, by rw [← hc.bit i i' hq]; exact h2, ?_⟩
  rcases h3 with ⟨h6, h7⟩ | ⟨h6, h7⟩
  · right
    rw [h6] at h5; rw [h7] at h5
    exact ⟨(h.bin.f u _ _ h5.1 hu), (h.bin.f v _ _ h5.2 hv)⟩
  · left
    rw [h6] at h5; rw [h7] at h5
    exact ⟨(h.bin.f u _ _ h5.2 hu), (h.bin.f v _ _ h5.1 hv)⟩
theorem Sim.spr {n : Nat} {gs gs' : List Gp} {R Q : Nat → Nat → Prop} (h : Sim n gs gs' R Q) {c c' m m' : Nat} (hc : Img gs.length Q c c') (hm : Img n R m m') : Img n R (spr gs c m) (spr gs' c' m') := by
  refine ⟨Z1m h.wth hm.lt, Z1m h.symm.wth hm.lt', fun u u' hu => ?_⟩
  rw [Bool.eq_iff_iff, spr_test, spr_test]
  constructor
  · rintro (h1 | ⟨w, h1, h2⟩)
    · exact .inl (by rw [← hm.bit u u' hu]; exact h1)
    · obtain ⟨w', hw⟩ := h.bin.to w (h2.lt h.wth).1
      exact .inr ⟨w', by rw [← hm.bit w w' hw]; exact h1, h.adj hc hw hu h2⟩
  · rintro (h1 | ⟨w', h1, h2⟩)
    · exact .inl (by rw [hm.bit u u' hu]; exact h1)
    · obtain ⟨w, hw⟩ := h.bin.fr w' (h2.lt h.symm.wth).1
      exact .inr ⟨w, by rw [hm.bit w w' hw]; exact h1, h.symm.adj (by rw [h.len]; exact hc.symm) hw hu h2⟩
theorem Sim.lv {n : Nat} {gs gs' : List Gp} {R Q : Nat → Nat → Prop} (h : Sim n gs gs' R Q) {c c' m m' : Nat} (hc : Img gs.length Q c c') (hm : Img n R m m') : ∀ t, Img n R (lv gs c m t) (lv gs' c' m' t)
  | 0 => hm
  | t + 1 => h.spr hc (h.lv hc hm t)
theorem Sim.wk {n : Nat} {gs gs' : List Gp} {R Q : Nat → Nat → Prop} (h : Sim n gs gs' R Q) {c c' m m' u u' : Nat} (hc : Img gs.length Q c c') (hm : Img n R m m') (hu : R u u') : wk gs c m u = wk gs' c' m' u' := by
  unfold Go.Proofs.YthbjpnmclokinaaGreat.wk
  rw [show (fun t => (Go.Proofs.YthbjpnmclokinaaGreat.lv gs c m t).testBit u) = fun t => (Go.Proofs.YthbjpnmclokinaaGreat.lv gs' c' m' t).testBit u' from funext fun t => (h.lv hc hm t).bit u u' hu]
theorem Sim.shut {n : Nat} {gs gs' : List Gp} {R Q : Nat → Nat → Prop} (h : Sim n gs gs' R Q) {c c' S S' K K' : Nat} (hc : Img gs.length Q c c') (hS : Img n R S S') (hK : Img n R K K') (hs : Shut gs c S K) : Shut gs' c' S' K' := fun t v' hv => by
  obtain ⟨v, hr⟩ := h.bin.fr v' (Z0U (h.lv hc hS t).lt' hv)
  rw [← hK.bit v v' hr]
  exact hs t v (by rw [(h.lv hc hS t).bit v v' hr]; exact hv)
theorem Sim.cutLe {n : Nat} {gs gs' : List Gp} {R Q : Nat → Nat → Prop} (h : Sim n gs gs' R Q) {S S' K K' m m' : Nat} (hS : Img n R S S') (hK : Img n R K K') (h1 : Cut gs S K m) (h2 : Cut gs' S' K' m') : m' ≤ m := by
  obtain ⟨C, h3, h4, h5⟩ := h1.1
  obtain ⟨C', h6⟩ := Img.ex h.gap h3
  have h7 := h2.2 _ ⟨C', by rw [h.len]; exact h6.lt', h.shut h6 hS hK h4, rfl⟩
  rw [h.len, ← h6.cnt h.gap, h5] at h7; exact h7
theorem Sim.cut {n : Nat} {gs gs' : List Gp} {R Q : Nat → Nat → Prop} (h : Sim n gs gs' R Q) {S S' K K' m m' : Nat} (hS : Img n R S S') (hK : Img n R K K') (h1 : Cut gs S K m) (h2 : Cut gs' S' K' m') : m = m' := Nat.le_antisymm (h.symm.cutLe hS.symm hK.symm h2 h1) (h.cutLe hS hK h1 h2)
theorem Sim.pl {n : Nat} {gs gs' : List Gp} {R Q : Nat → Nat → Prop} (h : Sim n gs gs' R Q) {K K' sp m c k : Nat} (hK : Img n R K K') (hp : Pl gs K sp m c k) : ∀ {m' c' : Nat}, Img n R m m' → Img gs.length Q c c' → Pl gs' K' sp m' c' k := by
  induction hp with
  | @stay m c l hl hc hs he hk =>
    intro m' c' hm hc9
    obtain ⟨l', h1⟩ := Img.ex h.gap hl
    have h2 := h.spr (hc9.or h1) hm
    rw [he] at h2
    have e := h1.cnt h.gap
    rw [e]
    rw [← h.len]
    exact .stay (by rw [h.len]; exact h1.lt') (h1.and h.gap hc9 hc) (by rw [h.len, ← e]; exact hs) (h2.unique h.bin hm) (hm.and h.bin hK hk)
  | @go m c l k hl hc hs hne hk hp ih =>
    intro m' c' hm hc9
    obtain ⟨l', h1⟩ := Img.ex h.gap hl
    have h2 := h.spr (hc9.or h1) hm
    have e := h1.cnt h.gap
    rw [e]
    rw [← h.len]
    refine .go (by rw [h.len]; exact h1.lt') (h1.and h.gap hc9 hc) (by rw [h.len, ← e]; exact hs) (fun e2 => hne ?_) (h2.and h.bin hK hk) (ih h2 (hc9.or h1))
    rw [e2] at h2
    exact h2.symm.unique h.bin.symm hm.symm
theorem Sim.plan {n : Nat} {gs gs' : List Gp} {R Q : Nat → Nat → Prop} (h : Sim n gs gs' R Q) {S S' K K' sp k : Nat} (hS : Img n R S S') (hK : Img n R K K') : Pl gs K sp S 0 k ↔ Pl gs' K' sp S' 0 k :=
  ⟨fun hp => h.pl hK hp hS Img.zero, fun hp => h.symm.pl hK.symm hp hS.symm Img.zero⟩
theorem Img.map {n : Nat} {R : Nat → Nat → Prop} (hb : Bij n R) {l l' : List Int} (hl : ∀ x ∈ l, 0 ≤ x ∧ x < n) (h1 : ∀ x ∈ l, ∃ y ∈ l', R x.toNat y.toNat) (h2 : ∀ y ∈ l', 0 ≤ y ∧ ∃ x ∈ l, R x.toNat y.toNat) : Img n R (msk l) (msk l') := by
  refine ⟨ZZ hl, ZZ fun y hy => ?_, fun u u' hu => ?_⟩
  · obtain ⟨h3, x, hx, h4⟩ := h2 y hy
    have := (hb.lt _ _ h4).2
    omega
  · rw [Bool.eq_iff_iff, Zr (fun x hx => (hl x hx).1), Zr (fun y hy => (h2 y hy).1)]
    constructor
    · intro h
      obtain ⟨y, hy, h3⟩ := h1 _ h
      rw [Int.toNat_natCast] at h3
      have := hb.f u _ _ hu h3
      have h5 := (h2 y hy).1
      rw [show (u' : Int) = y by omega]; exact hy
    · intro h
      obtain ⟨_, x, hx, h3⟩ := h2 _ h
      rw [Int.toNat_natCast] at h3
      have := hb.i u _ _ hu h3
      have h5 := (hl x hx).1
      rw [show (u : Int) = x by omega]; exact hx
open Go
theorem Zcl : cal Tryz.prog 134 = true := by kernel_rfl
structure Ord (p : List Nat) (n : Nat) : Prop where
  len : p.length = n
  nd : p.Nodup
  lt : ∀ i ∈ p, i < n
theorem Ord.nil : Ord [] 0 := ⟨rfl, List.nodup_nil, by simp⟩
theorem Ord.ins {p : List Nat} {n j : Nat} (h : Ord p n) (hj : j ≤ n) : Ord (p.take j ++ n :: p.drop j) (n + 1) := by
  have hp : (p.take j ++ n :: p.drop j).Perm (n :: p) := by
    have h1 := List.perm_middle (a := n) (l₁ := p.take j) (l₂ := p.drop j)
    rwa [List.take_append_drop] at h1
  refine ⟨by rw [hp.length_eq]; simp [h.len], hp.nodup_iff.2 (List.nodup_cons.2 ⟨fun h1 => Nat.lt_irrefl _ (h.lt n h1), h.nd⟩), fun i hi => ?_⟩
  rcases List.mem_cons.1 (hp.mem_iff.1 hi) with rfl | h1
  · omega
  · have := h.lt i h1; omega
theorem Zb0 {xs : List Int} {rest : List Value} {i : Nat} {x : Int} (hi : i < xs.length) (hr : 1 ≤ rest.length) : spl (spl (Zg xs ++ rest) (0 + (i + 1) * 1) (Zg (xs.drop i))) (0 + i * 1) [.int .i64 x] = Zg (xs.take i ++ x :: xs.drop i) ++ rest.drop 1 := by
  rw [show 0 + (i + 1) * 1 = i + 1 from by omega, show 0 + i * 1 = i from by omega]
  obtain ⟨A, y, B, rfl, rfl⟩ := Z8e hi
  obtain ⟨r0, r, rfl⟩ : ∃ r0 r, rest = r0 :: r := by cases rest with
    | nil => simp at hr
    | cons a b => exact ⟨a, b, rfl⟩
  rw [List.drop_left, List.take_left]
  have e1 : Zg (A ++ y :: B) ++ r0 :: r = (Zg A ++ [.int .i64 y]) ++ ((Zg B ++ [r0]) ++ r) := by simp [Zg]
  have h1 := Z48 (p := Zg A ++ [.int .i64 y]) (q := Zg B ++ [r0]) (s := r) (vs := Zg (y :: B)) (by simp [Zg])
  rw [show (Zg A ++ [Value.int .i64 y]).length = A.length + 1 by simp [Zg]] at h1
  have h2 := Z48 (p := Zg A) (q := [.int .i64 y]) (s := Zg (y :: B) ++ r) (vs := [.int .i64 x]) rfl
  rw [show (Zg A).length = A.length by simp [Zg]] at h2
  rw [e1, h1, List.append_assoc, h2]
  simp [Zg]
theorem ZaP {xs : List Int} {z junk : List Value} {i : Nat} {x : Int} (hi : i < xs.length) (hz : z.length = xs.length + 1 - i) : spl (spl ((Zg (xs.take i)) ++ (z ++ junk)) (0 + i * 1) [.int .i64 x]) (0 + (i + 1) * 1) (Zg (xs.drop i)) = Zg (xs.take i ++ x :: xs.drop i) ++ junk := by
  rw [show 0 + (i + 1) * 1 = i + 1 from by omega, show 0 + i * 1 = i from by omega]
  obtain ⟨A, y, B, rfl, rfl⟩ := Z8e hi
  obtain ⟨z0, z1, rfl⟩ : ∃ z0 z1, z = z0 :: z1 := by cases z with
    | nil => simp only [List.length_nil, List.length_append, List.length_cons] at hz; omega
    | cons a b => exact ⟨a, b, rfl⟩
  rw [List.drop_left, List.take_left]
  have h1 := Z48 (p := Zg A) (q := [z0]) (s := z1 ++ junk) (vs := [.int .i64 x]) rfl
  rw [show (Zg A).length = A.length by simp [Zg]] at h1
  have h2 := Z48 (p := Zg A ++ [.int .i64 x]) (q := z1) (s := junk) (vs := Zg (y :: B)) (by simp [Zg] at hz ⊢; omega)
  rw [show (Zg A ++ [Value.int .i64 x]).length = A.length + 1 by simp [Zg]] at h2
  rw [show Zg A ++ (z0 :: z1 ++ junk) = Zg A ++ ([z0] ++ (z1 ++ junk)) from rfl, h1, ← List.append_assoc, h2]
  simp [Zg]
theorem Z7g {l vs : List Value} {off : Nat} (h : off + vs.length ≤ l.length) : (spl l off vs).length = l.length := by
  unfold spl
  simp only [List.length_append, List.length_take, List.length_drop]; omega
theorem Z8Q (xs : List Int) (o : OSl 3 1 (Z4 xs)) (i : Nat) (hi : i ≤ xs.length) (hl : xs.length ≤ 1000000) (x : Int) (bv : Nat) (H : Z9) (R : Z5) :
    Fn Tryz.prog 134 [o.fs, .int .i64 i, .slice (some ⟨bv, 0, none⟩) 1 1] ((bv, cel 3 [.int .i64 x]) :: (o.G ++ H)) R (fun v H' R' => ∃ o' : OSl 3 1 (Z4 (xs.take i ++ x :: xs.drop i)), v = o'.fs ∧ H' = o'.G ++ H ∧ R' = R) := by
 obtain ⟨a, c, he, hcc, _⟩ := o.freezeC
 rw [show (Z4 xs).length = xs.length from List.length_map _] at he hcc
 refine Zf Tryz.func134 rfl Tryz.ntmps134 rfl ?_
 refine sqt 1 rfl (pur 1 rfl (sqt 3 rfl (pur 2 rfl (sp rfl (PE.slLoA Z02 (congrArg some he) rfl hi) rfl (sqt 3 rfl (pur 1 rfl (sp rfl (PE.lenSl Zy rfl) rfl (pur 1 rfl (Z0 (sqt 2 rfl (pur 2 rfl ?_)))))))))))
 refine Z1 rfl ?_ ?_ <;> intro hc0
 exact absurd hc0 (by simp)
 refine Z2 (sqt 3 rfl (pur 1 rfl (sp rfl (PE.lenSl Zy (congrArg some he)) rfl (pur 1 rfl (Z0 (sqt 3 rfl (pur 3 rfl ?_)))))))
 refine Z1 rfl ?_ ?_ <;> intro hc1 <;> try simp only [cS] at hc1
 obtain rfl : i = xs.length := by omega
 refine sqt 4 rfl (pur 2 rfl ?_)
 refine apO (o) rfl Z2t rfl rfl (Z0w (row := [.int .i64 x]) rfl) rfl rfl ((by simp only [Z4, List.length_map, List.length_singleton]; omega)) rfl (fun o25 => ?_)
 refine pur 1 rfl (Z6 ?_)
 exact rtA rfl rfl rfl ⟨o25.cast (by simp [Z4]), rfl, rfl, rfl⟩ (fun w h => h.del bv)
 have hin : i < xs.length := by omega
 have hir : (Z4 xs).length = xs.length := List.length_map _
 obtain ⟨b, cap, junk, hfs, hG, hj, hcap, hmx⟩ := o.is.resolve_left (fun h => by rw [h.1] at hir; simp at hir; omega)
 rw [hir] at hfs hcap hj
 rw [hfs, hG, ZU]
 refine Sy.heap (H' := (bv, cel 3 [.int .i64 x]) :: (b, cel 3 (Zg xs ++ junk)) :: H) idH ?_
 clear he
 refine Z2 (Z0 (sqt 6 rfl (pur 2 rfl (sp rfl (PE.add rfl rfl (by omega)) rfl (pur 1 rfl (sp rfl (PE.capSl Zy rfl) rfl (pur 1 rfl ?_)))))))
 refine Z1 rfl ?_ ?_ <;> intro hc2 <;> try simp only [cS] at hc2
 refine sqt 10 rfl (pur 2 rfl (sp rfl (PE.slHi Z02 rfl rfl (by omega)) rfl (pur 2 rfl (sp rfl (PE.add rfl rfl (by omega)) rfl (pur 1 rfl (sp rfl (PE.sub rfl rfl (by omega)) rfl ?_))))))
 rw [show (xs.length : Int) + ((1 : Nat) : Int) - i = ((xs.length + 1 - i : Nat) : Int) from by omega]
 refine apZ rfl Z2t ik3 zl3 rfl rfl (by omega) (by omega) (by omega) (by omega) (by rw [List.length_append, Zb]; omega) rfl (fun b2 cap2 jk2 hc1 hc2 hc3 => ?_)
 refine pur 1 rfl (sqt 5 rfl (pur 2 rfl ?_))
 rw [show i + (xs.length + 1 - i) = xs.length + 1 from by omega] at hc1 hc3 ⊢
 rw [show (Zg xs ++ junk).take (i * 1) = Zg (xs.take i) from by rw [Nat.mul_one, List.take_append_of_le_length (by rw [Zb]; omega)]; simp [Zg, List.map_take]]
 refine sp rfl (PE.slLo Z02 rfl rfl (by omega) (by omega)) rfl (pur 1 rfl ?_)
 refine Zdt [.int .i64 x] rfl Z02 rfl rfl (by show 1 = Nat.min 1 (xs.length + 1 - i) * 1; rw [show Nat.min 1 (xs.length + 1 - i) = 1 from Nat.min_eq_left (by omega)]) (Z62 (l := [.int .i64 x]) (e2 := 3) (fun j v h => by simpa using h)) rfl (by simp only [List.length_append, Zb, List.length_take, Z1b, List.length_singleton]; omega) rfl ?_
 refine Z0 ?_
 refine Ze [0, 0, 0, 6, 15, 0, 0, 96, 255] (tks 0 8 (.big 8 .done)) Zu (by kernel_rfl) ?_
 refine Zp 3 rfl (tk rfl (PE.add rfl rfl (by omega)) rfl ?_)
 rw [show (i : Int) + ((1 : Nat) : Int) = ((i + 1 : Nat) : Int) from by omega]
 refine tk rfl (PE.slLo Z02 rfl rfl (by omega) (by omega)) rfl (Zp 2 rfl (tk rfl (PE.slLo Z02 rfl rfl (by omega) (by omega)) rfl ?_))
 refine Zdt (Zg (xs.drop i)) rfl Z02 rfl rfl (by rw [Zb, List.length_drop, show xs.length + 1 - (i + 1) = xs.length - i from by omega]; simp) (Z62 (l := Zg xs ++ junk) (e2 := 3) (fun j v h => by
   have h1 := (List.getElem?_eq_some_iff.1 h).1
   rw [Zb, List.length_drop] at h1
   rw [show 0 + i * 1 + j = i + j from by omega, List.getElem?_append_left (by rw [Zb]; omega)]
   simpa [Zg] using h)) (Z0y _) (by rw [Z7g (by simp only [List.length_append, Zb, List.length_take, Z1b, List.length_singleton, List.length_drop]; omega)]; simp only [List.length_append, Zb, List.length_take, Z1b, List.length_singleton, List.length_drop]; omega) rfl ?_
 refine bgT (sqt 2 rfl ?_)
 rw [ZaP hin (by rw [Z1b])]
 refine pur 2 rfl (Z6 ?_)
 obtain ⟨ys, hys⟩ : ∃ ys, ys = xs.take i ++ x :: xs.drop i := ⟨_, rfl⟩
 have hyl : ys.length = xs.length + 1 := by rw [hys]; simp; omega
 rw [← hys]
 have hyi : (Z4 ys).length = xs.length + 1 := by rw [List.length_map, hyl]
 exact rtA rfl rfl rfl ⟨(⟨.slice (some ⟨b2, 0, none⟩) (Z4 ys).length cap2, [(b2, cel 3 ((Z4 ys).flatten ++ jk2))], Z5K _, .inr ⟨b2, cap2, jk2, rfl, rfl, by rw [hyi]; first | omega | (rw [List.length_drop]; omega), by rw [hyi]; omega, hc2⟩⟩ : OSl 3 1 (Z4 ys)).cast (by rw [hys]), congrArg (fun q => Value.slice (some ⟨b2, 0, none⟩) q cap2) hyi.symm, rfl, rfl⟩ (fun w h => by
   show St ((b2, cel 3 ((Z4 ys).flatten ++ jk2)) :: H) R w
   rw [ZU]
   exact ((h.del bv).del b))
 refine Z2 (sqt 6 rfl (pur 3 rfl (sp rfl (PE.add rfl rfl (by omega)) rfl ?_)))
 rw [show (xs.length : Int) + ((1 : Nat) : Int) = ((xs.length + 1 : Nat) : Int) from by omega]
 refine sp rfl (PE.slHi Z02 rfl rfl (by omega)) rfl (pur 1 rfl (Z0 (sqt 8 rfl (pur 4 rfl (sp rfl (PE.add rfl rfl (by omega)) rfl ?_)))))
 rw [show (i : Int) + ((1 : Nat) : Int) = ((i + 1 : Nat) : Int) from by omega]
 refine sp rfl (PE.slLo Z02 rfl rfl (by omega) (by omega)) rfl ?_
 refine clX rfl rfl rfl (fun w hs => Zav (xa := [.int .i64 x]) (xb := Zg xs ++ junk) (eA := 3) (eB := 3) (tS := 26) (tR := 4) Tryz.func170 (by kernel_rfl) (by kernel_rfl) (by kernel_rfl) (by kernel_rfl) Z02 (fun e9 => ?_) (by simp [Zg]; intro e9 _; rw [e9] at hin; simp at hin) (hs.held (bv, _) (by simp)) (hs.held (b, _) (by simp))) ?_
 · subst e9
   have := hs.nd
   simp at this
 refine pur 1 rfl ?_
 refine Z0g (rfl) ?_
 refine Z0 ?_
 refine Ze [0, 0, 0, 6, 15, 0, 0, 96, 255] (tks 0 8 (.big 8 .done)) Zu (by kernel_rfl) ?_
 refine Zp 3 rfl (tk rfl (PE.add rfl rfl (by omega)) rfl ?_)
 rw [show (i : Int) + ((1 : Nat) : Int) = ((i + 1 : Nat) : Int) from by omega]
 refine tk rfl (PE.slLo Z02 rfl rfl (by omega) (by omega)) rfl (Zp 2 rfl (tk rfl (PE.slLo Z02 rfl rfl (by omega) (by omega)) rfl ?_))
 refine Zdt (Zg (xs.drop i)) rfl Z02 rfl rfl (by rw [Zb, List.length_drop, show xs.length + 1 - (i + 1) = xs.length - i from by omega, show Nat.min (xs.length + 1 - i) (xs.length - i) = xs.length - i from Nat.min_eq_right (by omega)]; omega) (Z62 (l := Zg xs ++ junk) (e2 := 3) (fun j v h => by
   have h1 := (List.getElem?_eq_some_iff.1 h).1
   rw [Zb, List.length_drop] at h1
   rw [show 0 + i * 1 + j = i + j from by omega, List.getElem?_append_left (by rw [Zb]; omega)]
   simpa [Zg] using h)) (Z0y _) (by simp only [List.length_append, Zb, List.length_drop]; omega) rfl ?_
 refine bgT (sqt 5 rfl (pur 2 rfl (sp rfl (PE.slLo Z02 rfl rfl (by omega) (by omega)) rfl (pur 1 rfl ?_))))
 refine Zdt [.int .i64 x] rfl Z02 rfl rfl (by show 1 = Nat.min 1 (xs.length + 1 - i) * 1; rw [show Nat.min 1 (xs.length + 1 - i) = 1 from Nat.min_eq_left (by omega)]) (Z62 (l := [.int .i64 x]) (e2 := 3) (fun j v h => by simpa using h)) rfl (by rw [Z7g (by simp only [List.length_append, Zb, List.length_singleton, List.length_drop]; omega)]; simp only [List.length_append, Zb, List.length_singleton, List.length_drop]; omega) rfl ?_
 refine sqt 2 rfl ?_
 rw [Zb0 hin (by omega)]
 refine pur 2 rfl (Z6 ?_)
 obtain ⟨ys, hys⟩ : ∃ ys, ys = xs.take i ++ x :: xs.drop i := ⟨_, rfl⟩
 have hyl : ys.length = xs.length + 1 := by rw [hys]; simp; omega
 rw [← hys]
 have hyi : (Z4 ys).length = xs.length + 1 := by rw [List.length_map, hyl]
 exact rtA rfl rfl rfl ⟨(⟨.slice (some ⟨b, 0, none⟩) (Z4 ys).length cap, [(b, cel 3 ((Z4 ys).flatten ++ junk.drop 1))], Z5K _, .inr ⟨b, cap, junk.drop 1, rfl, rfl, by rw [hyi]; first | omega | (rw [List.length_drop]; omega), by rw [hyi]; omega, hmx⟩⟩ : OSl 3 1 (Z4 ys)).cast (by rw [hys]), congrArg (fun q => Value.slice (some ⟨b, 0, none⟩) q cap) hyi.symm, rfl, rfl⟩ (fun w h => by
   show St ((b, cel 3 ((Z4 ys).flatten ++ junk.drop 1)) :: H) R w
   rw [ZU]
   exact h.del bv)
theorem Z4u (l0 : List Int) (a0 : Option Addr) (c0 bk : Nat) (hgl : l0.length ≤ 9223372036854775807) (tq mx : Int) (htq : 0 ≤ tq ∧ tq ≤ 100000) (hmx : 0 ≤ mx ∧ mx ≤ 4294967295) (n : Nat) (hn : n ≤ 1000) (H : Z9) (R : Z5) [hG : MemRows a0 1 (Z29 l0) R] :
    Fn Tryz.prog 66 [.pointer (some ⟨bk, 0, none⟩), .int .i64 n] ((bk, cel 165 [.slice a0 l0.length c0, .int .i64 (tq), .int .u32 (mx)]) :: H) R (fun v H' R' => ∃ (p : List Nat) (o : OSl 3 1 (Z4 (p.map fun (j : Nat) => (j : Int)))) (tq' mx' : Int), Ord p n ∧ v = o.fs ∧ (tq ≤ tq' ∧ tq' ≤ tq + n) ∧ (0 ≤ mx' ∧ mx' ≤ 4294967295) ∧ H' = (bk, cel 165 [.slice a0 l0.length c0, .int .i64 (tq'), .int .u32 (mx')]) :: (o.G ++ H) ∧ R' = R) := by
 refine Zf Tryz.func66 rfl Tryz.ntmps66 rfl ?_
 refine sqt 1 rfl (pur 1 rfl (sqt 1 rfl (pur 1 rfl (Z0 (sqt 2 rfl (pur 2 rfl (Z3 ?_)))))))
 refine Zd (ι := (x : {x : Nat × List Nat × Int × Int // x.1 ≤ n ∧ Ord x.2.1 x.1 ∧ (tq ≤ x.2.2.1 ∧ x.2.2.1 ≤ tq + x.1) ∧ (0 ≤ x.2.2.2 ∧ x.2.2.2 ≤ 4294967295)}) × OSl 3 1 (Z4 (x.1.2.1.map fun (j : Nat) => (j : Int)))) (fun x => ⟨[(0, .pointer (some ⟨bk, 0, none⟩)), (5, x.2.fs), (7, .int .i64 n), (8, .int .i64 x.1.1.1)], (bk, cel 165 [.slice a0 l0.length c0, .int .i64 (x.1.1.2.2.1), .int .u32 (x.1.1.2.2.2)]) :: (x.2.G ++ H), R⟩) (fun x => n - x.1.1.1) ⟨⟨(0, [], tq, mx), by omega, Ord.nil, by dsimp only; omega, by assumption⟩, OSl.nil _ _⟩ ?_ (fun x => ?_)
 exact Zj idH
 obtain ⟨⟨⟨k, p, tq2, mx2⟩, hk, hp, htq2, hmx2⟩, o⟩ := x
 dsimp only at hk hp htq2 hmx2 o ⊢
 have hpl := hp.len
 refine sqt 1 rfl (pur 1 rfl (Z0 ?_))
 refine Z1 rfl ?_ ?_ <;> intro hc0 <;> try simp only [cS] at hc0
 refine Z2 (Z0 (Z3 (sqt 2 rfl (pur 2 rfl (sqr 9 rfl (pur 3 rfl (sp rfl (PE.add rfl rfl (by omega)) rfl ?_)))))))
 refine cl rfl Z2S rfl rfl (Z0p l0 a0 c0 bk hgl _ _ (by omega) (by assumption) ((k : Int) + 1) _ _) ?_
 rintro _ _ R1 ⟨x15, m15, hx15, rfl, hm15, rfl, hR1⟩
 obtain rfl := hR1.symm
 obtain ⟨j, hj⟩ : ∃ j : Nat, x15 = j := ⟨x15.toNat, by omega⟩
 rw [hj]
 have hjk : j ≤ k := by omega
 refine pur 1 rfl ?_
 refine bsl (out := [_]) rfl Z02 zl3 rfl rfl rfl rfl rfl rfl (fun b17 => ?_)
 refine Sy.heap (H' := (b17, cel 3 [.int .i64 (k : Int)]) :: (o.G ++ ((bk, cel 165 [.slice a0 l0.length c0, .int .i64 (tq2 + 1), .int .u32 (m15)]) :: H))) (fun w h => h.perm (List.Perm.cons _ List.perm_middle.symm)) ?_
 refine cl rfl Zcl rfl rfl (Z8Q (p.map fun (j : Nat) => (j : Int)) o j (by simp [hpl]; omega) (by simp [hpl]; omega) (k : Int) b17 _ _) ?_
 rintro _ _ R1 ⟨o18, rfl, rfl, hR1⟩
 obtain rfl := hR1.symm
 clear hR1
 refine pur 1 rfl (sqr 2 rfl (sp rfl (PE.add rfl rfl (by omega)) rfl (pur 1 rfl ?_)))
 exact Z7 ⟨⟨(k + 1, p.take j ++ k :: p.drop j, tq2 + 1, m15), by omega, hp.ins hjk, by dsimp only; omega, by assumption⟩, o18.cast (by simp [Z4, List.map_take, List.map_drop])⟩ (fun w h => h.perm List.perm_middle)
 obtain rfl : k = n := by omega
 refine Z8 (Za (Za (Zk (sqt 2 rfl (pur 2 rfl (Z6 ?_))))))
 exact rtA rfl rfl rfl ⟨p, o, tq2, mx2, hp, rfl, by omega, by assumption, rfl, rfl⟩ idH
theorem Ord.bij {p : List Nat} {n : Nat} (h : Ord p n) : Bij n fun u u' => p[u]? = some u' := by
  have hl := h.len
  refine ⟨fun u u' h1 => ⟨by have := (List.getElem?_eq_some_iff.1 h1).1; omega, h.lt u' (List.mem_of_getElem? h1)⟩, fun u hu => ⟨_, List.getElem?_eq_getElem (by omega)⟩, fun u' hu => ?_, fun u u' v' h1 h2 => by rw [h1] at h2; exact Option.some.inj h2, fun u v u' h1 h2 => ?_⟩
  · have hm : u' ∈ p := Classical.byContradiction fun hn => by
      have h1 := List.Nodup.length_le_of_subset (l₁ := u' :: p) (l₂ := List.range n) (List.nodup_cons.2 ⟨hn, h.nd⟩) (fun x hx => by
        rcases List.mem_cons.1 hx with rfl | hx
        · exact List.mem_range.2 hu
        · exact List.mem_range.2 (h.lt x hx))
      rw [List.length_cons, List.length_range] at h1; omega
    exact List.getElem?_of_mem hm
  · obtain ⟨a1, a2⟩ := List.getElem?_eq_some_iff.1 h1
    obtain ⟨b1, b2⟩ := List.getElem?_eq_some_iff.1 h2
    have hp := List.nodup_iff_pairwise_ne.1 h.nd
    rcases Nat.lt_trichotomy u v with h3 | h3 | h3
    · exact absurd (a2.trans b2.symm) (List.pairwise_iff_getElem.1 hp u v a1 b1 h3)
    · exact h3
    · exact absurd (b2.trans a2.symm) (List.pairwise_iff_getElem.1 hp v u b1 a1 h3)
def inl (p : List Nat) : List Int := p.map fun (j : Nat) => (j : Int)
theorem Z1e (p : List Nat) : (inl p).length = p.length := List.length_map _
theorem ZaN {p : List Nat} {u u' : Nat} (h : p[u]? = some u') : na (inl p) u = u' := Z3e (by unfold inl; rw [List.getElem?_map, h]; rfl)
def imG (p : List Nat) (g : Gp) : Gp := ⟨na (inl p) g.b.toNat, na (inl p) g.a.toNat⟩
def imS (p : List Nat) (x : Sgt) : Sgt := ⟨x.week, na (inl p) x.bin.toNat, x.seen⟩
def rnm (p : List Nat) (l : List Int) : List Int := l.map fun k => na (inl p) k.toNat
structure RnG (p s : List Nat) (gs : List Gp) (i : Nat) (G : List Gp) : Prop where
  len : G.length = gs.length
  at_ : ∀ j, j < i → ∀ g k, gs[j]? = some g → s[j]? = some k → G[k]? = some (imG p g)
theorem RnG.step {p s : List Nat} {gs G : List Gp} {i k : Nat} {g : Gp} (h : RnG p s gs i G) (hs : Ord s gs.length) (hg : gs[i]? = some g) (hk : s[i]? = some k) : RnG p s gs (i + 1) (G.set k (imG p g)) := by
  have hb := hs.bij
  have hkl := (hb.lt i k hk).2
  refine ⟨by rw [List.length_set]; exact h.len, fun j hj g' k' h1 h2 => ?_⟩
  by_cases e : j = i
  · subst e
    rw [hg] at h1; rw [hk] at h2
    obtain rfl := Option.some.inj h1
    obtain rfl := Option.some.inj h2
    exact List.getElem?_set_self (by rw [h.len]; exact hkl)
  · have hne : k ≠ k' := fun e2 => by subst e2; exact e (hb.i j i k h2 hk)
    rw [List.getElem?_set_ne hne]
    exact h.at_ j (by omega) g' k' h1 h2
structure RnS (p s : List Nat) (ss : List Sgt) (i : Nat) (S : List Sgt) : Prop where
  len : S.length = ss.length
  at_ : ∀ j, j < i → ∀ x k, ss[j]? = some x → s[j]? = some k → S[k]? = some (imS p x)
theorem RnS.step {p s : List Nat} {ss S : List Sgt} {i k : Nat} {x : Sgt} (h : RnS p s ss i S) (hs : Ord s ss.length) (hg : ss[i]? = some x) (hk : s[i]? = some k) : RnS p s ss (i + 1) (S.set k (imS p x)) := by
  have hb := hs.bij
  have hkl := (hb.lt i k hk).2
  refine ⟨by rw [List.length_set]; exact h.len, fun j hj g' k' h1 h2 => ?_⟩
  by_cases e : j = i
  · subst e
    rw [hg] at h1; rw [hk] at h2
    obtain rfl := Option.some.inj h1
    obtain rfl := Option.some.inj h2
    exact List.getElem?_set_self (by rw [h.len]; exact hkl)
  · have hne : k ≠ k' := fun e2 => by subst e2; exact e (hb.i j i k h2 hk)
    rw [List.getElem?_set_ne hne]
    exact h.at_ j (by omega) g' k' h1 h2
structure Rnm (q t : Hse) (p s r : List Nat) : Prop where
  bins : t.bins = q.bins
  op : Ord p q.bins.toNat
  os : Ord s q.gaps.length
  or : Ord r q.sights.length
  gs : RnG p s q.gaps q.gaps.length t.gaps
  ss : RnS p r q.sights q.sights.length t.sights
theorem Rnm.p {q t : Hse} {p s r : List Nat} (h : Rnm q t p s r) {u : Nat} (hu : u < q.bins.toNat) : ∃ u', p[u]? = some u' ∧ u' < q.bins.toNat ∧ na (inl p) u = u' := by
  obtain ⟨u', h1⟩ := h.op.bij.to u hu
  exact ⟨u', h1, (h.op.bij.lt u u' h1).2, ZaN h1⟩
theorem Rnm.gap {q t : Hse} {p s r : List Nat} (h : Rnm q t p s r) {g' : Gp} (hg : g' ∈ t.gaps) : ∃ g ∈ q.gaps, g' = imG p g := by
  obtain ⟨k, hk⟩ := List.getElem?_of_mem hg
  have hkl := (List.getElem?_eq_some_iff.1 hk).1
  rw [h.gs.len] at hkl
  obtain ⟨i, hi⟩ := h.os.bij.fr k hkl
  have hil := (h.os.bij.lt i k hi).1
  have h1 := h.gs.at_ i hil _ k (List.getElem?_eq_getElem hil) hi
  rw [hk] at h1
  exact ⟨_, List.getElem_mem hil, Option.some.inj h1⟩
theorem Rnm.sgt {q t : Hse} {p s r : List Nat} (h : Rnm q t p s r) {x' : Sgt} (hx : x' ∈ t.sights) : ∃ x ∈ q.sights, x' = imS p x := by
  obtain ⟨k, hk⟩ := List.getElem?_of_mem hx
  have hkl := (List.getElem?_eq_some_iff.1 hk).1
  rw [h.ss.len] at hkl
  obtain ⟨i, hi⟩ := h.or.bij.fr k hkl
  have hil := (h.or.bij.lt i k hi).1
  have h1 := h.ss.at_ i hil _ k (List.getElem?_eq_getElem hil) hi
  rw [hk] at h1
  exact ⟨_, List.getElem_mem hil, Option.some.inj h1⟩
theorem Rnm.sgt2 {q t : Hse} {p s r : List Nat} (h : Rnm q t p s r) {x : Sgt} (hx : x ∈ q.sights) : imS p x ∈ t.sights := by
  obtain ⟨i, hi⟩ := List.getElem?_of_mem hx
  have hil := (List.getElem?_eq_some_iff.1 hi).1
  obtain ⟨k, hk⟩ := h.or.bij.to i hil
  exact List.mem_of_getElem? (h.ss.at_ i hil x k hi hk)
theorem Rnm.ok {q t : Hse} {p s r : List Nat} (h : Rnm q t p s r) (hq : q.ok) : t.ok := by
  have hb := hq.bins
  refine ⟨by rw [h.bins]; exact hb, by rw [h.gs.len]; exact hq.gl, by rw [h.ss.len]; exact hq.sl, fun g' hg => ?_, fun x' hx => ?_⟩
  · obtain ⟨g, h1, rfl⟩ := h.gap hg
    have h2 := hq.gaps g h1
    obtain ⟨a', a1, a2, a3⟩ := h.p (u := g.a.toNat) (by omega)
    obtain ⟨b', b1, b2, b3⟩ := h.p (u := g.b.toNat) (by omega)
    have hne : a' ≠ b' := fun e => by
      subst e
      have := h.op.bij.i _ _ _ a1 b1
      omega
    unfold imG
    rw [a3, b3, h.bins]
    exact ⟨by dsimp only; omega, by dsimp only; omega, by dsimp only; omega⟩
  · obtain ⟨x, h1, rfl⟩ := h.sgt hx
    have h2 := hq.sights x h1
    obtain ⟨a', a1, a2, a3⟩ := h.p (u := x.bin.toNat) (by omega)
    unfold imS
    rw [a3, h.bins]
    exact ⟨h2.1, by dsimp only; omega, by dsimp only; omega⟩
theorem Rnm.sim {q t : Hse} {p s r : List Nat} (h : Rnm q t p s r) (hq : q.ok) : Sim q.bins.toNat q.gaps t.gaps (fun u u' => p[u]? = some u') (fun i i' => s[i]? = some i') := ⟨h.op.bij, h.os.bij, h.gs.len, fun i i' g g' h1 h2 h3 => by
  have h4 := h.gs.at_ i (List.getElem?_eq_some_iff.1 h2).1 g i' h2 h1
  rw [h3] at h4
  obtain rfl := Option.some.inj h4
  have h5 := hq.gaps g (List.mem_of_getElem? h2)
  have hb := hq.bins
  obtain ⟨a', a1, a2, a3⟩ := h.p (u := g.a.toNat) (by omega)
  obtain ⟨b', b1, b2, b3⟩ := h.p (u := g.b.toNat) (by omega)
  unfold imG
  rw [a3, b3]
  exact ⟨a1, b1⟩⟩
theorem Rnm.inr {q t : Hse} {p s r : List Nat} (h : Rnm q t p s r) {l : List Int} (hl : ∀ x ∈ l, 0 ≤ x ∧ x < q.bins) : ∀ y ∈ rnm p l, 0 ≤ y ∧ y < t.bins := fun y hy => by
  obtain ⟨x, hx, rfl⟩ := List.mem_map.1 hy
  have := hl x hx
  obtain ⟨a', a1, a2, a3⟩ := h.p (u := x.toNat) (by omega)
  rw [a3, h.bins]; omega
theorem Rnm.eqv {q t : Hse} {p s r : List Nat} (h : Rnm q t p s r) {x y : Int} (hx : 0 ≤ x ∧ x < q.bins) (hy : 0 ≤ y ∧ y < q.bins) (e : na (inl p) x.toNat = na (inl p) y.toNat) : x = y := by
  obtain ⟨a', a1, a2, a3⟩ := h.p (u := x.toNat) (by omega)
  obtain ⟨b', b1, b2, b3⟩ := h.p (u := y.toNat) (by omega)
  rw [a3, b3] at e
  obtain rfl : a' = b' := by omega
  have := h.op.bij.i _ _ _ a1 b1
  omega
theorem Rnm.ls {q t : Hse} {p s r : List Nat} (h : Rnm q t p s r) {l : List Int} (hl : ∀ x ∈ l, 0 ≤ x ∧ x < q.bins) (hn : l.Nodup) : ZL t.bins (rnm p l) = 0 := Z3U (h.inr hl) (by
  unfold rnm
  rw [List.nodup_iff_pairwise_ne, List.pairwise_map]
  exact (List.nodup_iff_pairwise_ne.1 hn).imp_of_mem fun {a b} ha hb hab e => hab (h.eqv (hl a ha) (hl b hb) e))
theorem Rnm.apart {q t : Hse} {p s r : List Nat} (h : Rnm q t p s r) {l k : List Int} (hl : ∀ x ∈ l, 0 ≤ x ∧ x < q.bins) (hk : ∀ x ∈ k, 0 ≤ x ∧ x < q.bins) (ha : ∀ x ∈ l, x ∉ k) : ∀ x ∈ rnm p l, x ∉ rnm p k := fun x h1 h2 => by
  obtain ⟨y, hy, rfl⟩ := List.mem_map.1 h1
  obtain ⟨z, hz, e⟩ := List.mem_map.1 h2
  have := h.eqv (hk z hz) (hl y hy) e
  subst this
  exact ha z hy hz
theorem Rnm.ex {q t : Hse} {p s r : List Nat} (h : Rnm q t p s r) (hq : q.ok) {m m' : Nat} (hm : Img q.bins.toNat (fun u u' => p[u]? = some u') m m') : Z3w q.gaps m q.sights = Z3w t.gaps m' t.sights := by
  have hb := hq.bins
  have key : ∀ x ∈ q.sights, exS q.gaps m x = exS t.gaps m' (imS p x) := fun x hx => by
    have h1 := hq.sights x hx
    obtain ⟨a', a1, a2, a3⟩ := h.p (u := x.bin.toNat) (by omega)
    unfold exS imS
    rw [(h.sim hq).wk Img.zero hm a1, a3, Int.toNat_natCast]
  unfold Z3w
  rw [Bool.eq_iff_iff, List.all_eq_true, List.all_eq_true]
  constructor
  · intro h1 x' hx
    obtain ⟨x, h2, rfl⟩ := h.sgt hx
    rw [← key x h2]; exact h1 x h2
  · intro h1 x hx
    rw [key x hx]; exact h1 _ (h.sgt2 hx)
theorem Rnm.agr {q t : Hse} {p s r : List Nat} (h : Rnm q t p s r) (hq : q.ok) (ha : q.agr q.sights = true) : t.agr t.sights = true := by
  obtain ⟨m, h1, h2⟩ := (Z2R hq hq.sights).1 ha
  obtain ⟨m', h3⟩ := Img.ex h.op.bij h1
  have hok := h.ok hq
  exact (Z2R hok hok.sights).2 ⟨m', by rw [h.bins]; exact h3.lt', by rw [← h.ex hq h3]; exact h2⟩
end Go.Proofs.YthbjpnmclokinaaGreat
namespace Go.Proofs.YthbjpnmclokinaaGreat
set_option linter.unusedSimpArgs false
set_option linter.unusedVariables false
def Z0E (c : Nat) : List Nat → Nat
  | [] => c
  | l :: ls => Z0E (c ||| l) ls
def Z1k (gs : List Gp) (m c : Nat) : List Nat → Nat
  | [] => m
  | l :: ls => Z1k gs (spr gs (c ||| l) m) (c ||| l) ls
theorem Z6V {gs : List Gp} : ∀ {ls : List Nat} {m c v : Nat}, m.testBit v = true → (Z1k gs m c ls).testBit v = true
  | [], _, _, _, h => h
  | l :: ls, m, c, v, h => by
    show (Z1k gs (spr gs (c ||| l) m) (c ||| l) ls).testBit v = true
    exact Z6V (ls := ls) (Z0z h)
theorem Z75 {gs : List Gp} (hw : Wth gs 7) : ∀ {ls : List Nat} {m c : Nat}, m < 2 ^ 7 → Z1k gs m c ls < 2 ^ 7
  | [], _, _, h => h
  | l :: ls, m, c, h => by
    show Z1k gs (spr gs (c ||| l) m) (c ||| l) ls < 2 ^ 7
    exact Z75 hw (ls := ls) (Z1m hw h)
def Zaq (gs : List Gp) (sp : Nat) : Nat → List Nat → Prop
  | _, [] => True
  | c, l :: ls => l < 2 ^ gs.length ∧ l &&& c = 0 ∧ cnt gs.length l ≤ sp ∧ Zaq gs sp (c ||| l) ls
theorem Z9F {gs : List Gp} {K sp : Nat} (hw : Wth gs 7) : ∀ {ls : List Nat} {m c : Nat}, m < 2 ^ 7 → Zaq gs sp c ls → Shut gs (Z0E c ls) (Z1k gs m c ls) K → ∃ n, n ≤ Z5V gs ls ∧ Pl gs K sp m c n
  | [], m, c, hm, _, hs => ⟨0, Nat.le_refl _, Pl.free hw _ _ _ hm (Nat.le_refl _) hs⟩
  | l :: ls, m, c, hm, ⟨h1, h2, h3, h4⟩, hs => by
    have hm1 := Z1m (cl := c ||| l) hw hm
    obtain ⟨n, h5, h6⟩ := Z9F hw hm1 h4 hs
    have hk : spr gs (c ||| l) m &&& K = 0 := and_zero.2 fun v hv => hs 0 v (show (Z1k gs (spr gs (c ||| l) m) (c ||| l) ls).testBit v = true from Z6V (ls := ls) hv)
    by_cases e : spr gs (c ||| l) m = m
    · refine ⟨_, ?_, .stay h1 h2 h3 e (by rw [e] at hk; exact hk)⟩
      show _ ≤ cnt gs.length l + Z5V gs ls
      omega
    · refine ⟨_, ?_, .go h1 h2 h3 e hk h6⟩
      show _ ≤ cnt gs.length l + Z5V gs ls
      omega
theorem Z8g {gs : List Gp} {cl : Nat → Nat} {ls : List Nat} {m : Nat} : ∀ (t : Nat), t ≤ ls.length → (∀ i, i < t → cl i = Z0E 0 (ls.take (i + 1))) → lvp gs cl m t = Z1k gs m 0 (ls.take t)
  | 0, _, _ => rfl
  | t + 1, ht, hc => by
    have ih := Z8g (gs := gs) (m := m) t (by omega) (fun i hi => hc i (by omega))
    have key : ∀ (ls : List Nat) (m c t : Nat), t < ls.length → Z1k gs m c (ls.take (t + 1)) = spr gs (Z0E c (ls.take (t + 1))) (Z1k gs m c (ls.take t)) := by
      intro ls
      induction ls with
      | nil => intro m c t h; cases h
      | cons l ls ih2 =>
        intro m c t h
        cases t with
        | zero => rfl
        | succ t => exact ih2 _ _ t (by simpa using h)
    show spr gs (cl t) (lvp gs cl m t) = _
    rw [key ls m 0 t (by omega), ← ih, hc t (by omega)]
theorem Z5L {gs : List Gp} {cl : Nat → Nat} {m t c : Nat} (h : ∀ i, t ≤ i → cl i = c) : ∀ j, lvp gs cl m (t + j) = lv gs c (lvp gs cl m t) j
  | 0 => rfl
  | j + 1 => by
    show spr gs (cl (t + j)) (lvp gs cl m (t + j)) = spr gs c (lv gs c (lvp gs cl m t) j)
    rw [h (t + j) (by omega), Z5L h j]
theorem Z4f {gs : List Gp} {n c m K j : Nat} (h : Wth gs n) (hm : m < 2 ^ n) (hj : n ≤ j + 1) : Shut gs c m K ↔ lv gs c m j &&& K = 0 := by
  constructor
  · intro hs; exact and_zero.2 fun v hv => hs j v hv
  · intro h0 t v hv
    rcases Nat.lt_or_ge t j with h1 | h1
    · exact and_zero.1 h0 v (Z9e (by omega) hv)
    · rw [Z4K h hm hj h1] at hv; exact and_zero.1 h0 v hv
open Go
def Z84 (l : List Int) : Bool := (List.range (l.length - 1)).all fun i => decide (na l i < na l (i + 1))
def lE (gl : Nat) (sp : Int) (l : List Int) : Int := bif !(l.all fun k => inB k 0 ((gl : Int) - 1)) then 1 else bif !Z84 l then 4 else bif decide (sp < (l.length : Int)) then 9 else 0
def plE (gl : Nat) (sp : Int) : List (List Int) → Int
  | [] => 0
  | l :: ls => bif decide (lE gl sp l ≠ 0) then lE gl sp l else plE gl sp ls
theorem Z7N {gl : Nat} {sp : Int} {pl : List (List Int)} {k : Nat} {l : List Int} (h0 : plE gl sp (pl.take k) = 0) (hl : pl[k]? = some l) (he : lE gl sp l ≠ 0) : plE gl sp pl = lE gl sp l := by
  induction pl generalizing k with
  | nil => cases hl
  | cons x pl ih =>
    cases k with
    | zero =>
      rw [List.getElem?_cons_zero] at hl
      obtain rfl := Option.some.inj hl
      unfold plE; rw [decide_eq_true he]; rfl
    | succ k =>
      rw [List.getElem?_cons_succ] at hl
      rw [List.take_succ_cons] at h0
      unfold plE at h0 ⊢
      by_cases hx : lE gl sp x = 0
      · rw [decide_eq_false (by simpa using hx), cond_false] at h0 ⊢
        exact ih h0 hl
      · rw [decide_eq_true hx, cond_true] at h0; exact absurd h0 hx
theorem Zdd {gl : Nat} {sp : Int} {pl : List (List Int)} {k : Nat} {l : List Int} (h0 : plE gl sp (pl.take k) = 0) (hl : pl[k]? = some l) (he : lE gl sp l = 0) : plE gl sp (pl.take (k + 1)) = 0 := by
  induction pl generalizing k with
  | nil => cases hl
  | cons x pl ih =>
    cases k with
    | zero =>
      rw [List.getElem?_cons_zero] at hl
      obtain rfl := Option.some.inj hl
      rw [List.take_succ_cons]
      unfold plE; rw [decide_eq_false (by simpa using he)]; rfl
    | succ k =>
      rw [List.getElem?_cons_succ] at hl
      rw [List.take_succ_cons] at h0
      rw [List.take_succ_cons]
      unfold plE at h0 ⊢
      by_cases hx : lE gl sp x = 0
      · rw [decide_eq_false (by simpa using hx), cond_false] at h0 ⊢
        exact ih h0 hl
      · rw [decide_eq_true hx, cond_true] at h0; exact absurd h0 hx
theorem plE_zero {gl : Nat} {sp : Int} : ∀ {pl : List (List Int)}, plE gl sp pl = 0 ↔ ∀ l ∈ pl, lE gl sp l = 0
  | [] => by simp [plE]
  | x :: pl => by
    unfold plE
    by_cases hx : lE gl sp x = 0
    · rw [decide_eq_false (by simpa using hx), cond_false, plE_zero, List.forall_mem_cons]
      exact ⟨fun h => ⟨hx, h⟩, fun h => h.2⟩
    · rw [decide_eq_true hx, cond_true]
      exact ⟨fun h => absurd h hx, fun h => absurd (h x (by simp)) hx⟩
theorem ZbT {l : List Int} {i : Nat} (hi : i + 1 < l.length) (h : na l (i + 1) ≤ na l i) : Z84 l = false := by
  unfold Z84
  rw [List.all_eq_false]
  exact ⟨i, List.mem_range.2 (by omega), by simp; omega⟩
theorem Z7f {l : List Int} (h : ∀ i, i + 1 < l.length → na l i < na l (i + 1)) : Z84 l = true := by
  unfold Z84
  rw [List.all_eq_true]
  intro i hi
  exact decide_eq_true (h i (by have := List.mem_range.1 hi; omega))
theorem Zbg {gl : Nat} {sp : Int} {l : List Int} (h : lE gl sp l = 0) : (∀ x ∈ l, 0 ≤ x ∧ x < gl) ∧ Z84 l = true ∧ (l.length : Int) ≤ sp := by
  unfold lE at h
  cases h1 : l.all fun k => inB k 0 ((gl : Int) - 1) with
  | false => rw [h1] at h; cases h
  | true =>
    rw [h1] at h
    cases h2 : Z84 l with
    | false => rw [h2] at h; cases h
    | true =>
      rw [h2] at h
      by_cases h3 : sp < (l.length : Int)
      · rw [decide_eq_true h3] at h; cases h
      · refine ⟨fun x hx => ?_, rfl, by omega⟩
        have := List.all_eq_true.1 h1 x hx
        simp only [inB, Bool.and_eq_true, decide_eq_true_eq] at this; omega
def Hse.svE (h : Hse) (fr to_ : List Int) (sp : Int) (pl : List (List Int)) : Int := bif decide (h.rcE fr to_ sp ≠ 0) then h.rcE fr to_ sp else bif decide (9 < pl.length) then 2 else bif decide (plE h.gaps.length sp pl ≠ 0) then plE h.gaps.length sp pl else ZL (h.gaps.length : Int) pl.flatten
def Hse.svM (h : Hse) (fr : List Int) (M : List Nat) : Nat := lv h.gaps (Z0E 0 M) (Z1k h.gaps (msk fr) 0 M) h.bins.toNat
def Hse.svB (h : Hse) (fr to_ : List Int) (pl : List (List Int)) : Bool := decide (h.svM fr (pl.map msk) &&& msk to_ = 0)
def Hse.svR (h : Hse) (fr to_ : List Int) (sp : Int) (pl : List (List Int)) : Bool × Int := (decide (h.svE fr to_ sp pl = 0) && h.svB fr to_ pl, h.svE fr to_ sp pl)
theorem Z5w : ∀ (M : List Nat) (c l : Nat), Z0E c (M ++ [l]) = Z0E c M ||| l
  | [], _, _ => rfl
  | x :: M, c, l => Z5w M (c ||| x) l
theorem Z5x {gs : List Gp} : ∀ (M : List Nat) (m c l : Nat), Z1k gs m c (M ++ [l]) = spr gs (Z0E c M ||| l) (Z1k gs m c M)
  | [], _, _, _ => rfl
  | x :: M, m, c, l => Z5x M (spr gs (c ||| x) m) (c ||| x) l
theorem Z64 (a b : List Int) : msk (a ++ b) = msk a ||| msk b := ZT fun k => by
  rw [Nat.testBit_or, Z2r, Z2r, Z2r, List.any_append]
theorem Z7o : ∀ (L : List (List Int)) (c : Nat), Z0E c (L.map msk) = c ||| msk L.flatten
  | [], c => (Nat.or_zero c).symm
  | l :: L, c => by
    rw [List.map_cons, List.flatten_cons, Z64, ← Nat.or_assoc]
    exact Z7o L (c ||| msk l)
theorem Z9Q {n : Nat} : ∀ {M : List Nat} {c : Nat}, c < 2 ^ n → (∀ l ∈ M, l < 2 ^ n) → Z0E c M < 2 ^ n
  | [], _, hc, _ => hc
  | l :: M, c, hc, h => by
    show Z0E (c ||| l) M < 2 ^ n
    exact Z9Q (Z6d hc (h l (by simp))) (fun x hx => h x (List.mem_cons_of_mem _ hx))
theorem ZbV {n : Nat} {l : List Int} (hr : ∀ x ∈ l, 0 ≤ x ∧ x < n) (hn : l.Nodup) : cnt n (msk l) = l.length := by
  rw [← Z21, show l.length = (l.map Int.toNat).length from (List.length_map _).symm]
  refine List.Perm.length_eq ((List.perm_ext_iff_of_nodup (List.nodup_range.sublist List.filter_sublist) ?_).2 fun x => ?_)
  · rw [List.nodup_iff_pairwise_ne, List.pairwise_map]
    exact (List.nodup_iff_pairwise_ne.1 hn).imp_of_mem fun {a b} ha hb hab e => by
      have := hr a ha; have := hr b hb; omega
  · rw [List.mem_filter, List.mem_range, List.mem_map, Zr (fun k hk => (hr k hk).1)]
    constructor
    · rintro ⟨_, hx⟩; exact ⟨_, hx, Int.toNat_natCast x⟩
    · rintro ⟨y, hy, rfl⟩
      have := hr y hy
      exact ⟨by omega, by rw [show ((y.toNat : Nat) : Int) = y by omega]; exact hy⟩
theorem Z8f {gs : List Gp} {sp : Nat} : ∀ {L : List (List Int)} {c : Nat}, (∀ l ∈ L, ∀ x ∈ l, 0 ≤ x ∧ x < (gs.length : Int)) → (∀ l ∈ L, l.length ≤ sp) → L.flatten.Nodup → (∀ x ∈ L.flatten, c.testBit x.toNat = false) → Zaq gs sp c (L.map msk) ∧ Z5V gs (L.map msk) = L.flatten.length
  | [], _, _, _, _, _ => ⟨trivial, rfl⟩
  | l :: L, c, h1, h2, h3, h4 => by
    rw [List.flatten_cons] at h3 h4
    obtain ⟨n1, n2, n3⟩ := List.nodup_append.1 h3
    have hl := h1 l (by simp)
    have hc := ZbV hl n1
    obtain ⟨g1, g2⟩ := Z8f (gs := gs) (sp := sp) (L := L) (c := c ||| msk l) (fun x hx => h1 x (List.mem_cons_of_mem _ hx)) (fun x hx => h2 x (List.mem_cons_of_mem _ hx)) n2 (fun x hx => by
      rw [Nat.testBit_or, h4 x (List.mem_append_right _ hx), Bool.false_or]
      cases hb : (msk l).testBit x.toNat with
      | false => rfl
      | true =>
        have h5 := (Zr (fun k hk => (hl k hk).1) x.toNat).1 hb
        obtain ⟨l2, h6, h7⟩ := List.mem_flatten.1 hx
        have h8 := h1 l2 (List.mem_cons_of_mem _ h6) x h7
        rw [show ((x.toNat : Nat) : Int) = x by omega] at h5
        exact absurd rfl (n3 x h5 x hx))
    refine ⟨⟨ZZ hl, and_zero.2 fun k hk => ?_, by rw [hc]; exact h2 l (by simp), g1⟩, ?_⟩
    · have h5 := (Zr (fun k hk => (hl k hk).1) k).1 hk
      have := h4 _ (List.mem_append_left _ h5)
      rwa [Int.toNat_natCast] at this
    · rw [List.map_cons, List.flatten_cons, List.length_append, ← g2, ← hc]; rfl
theorem ZaG {h : Hse} (hk : h.ok) {fr to_ : List Int} (hf : ∀ x ∈ fr, 0 ≤ x ∧ x < h.bins) {pl : List PL} (hpl : pl.length ≤ 9) :
    (h.svB fr to_ (lls pl) = true ↔ Shut h.gaps (Z0E 0 ((lls pl).map msk)) (Z1k h.gaps (msk fr) 0 ((lls pl).map msk)) (msk to_)) ∧ (h.svB fr to_ (lls pl) = true ↔ lvp h.gaps (clP pl) (msk fr) 20 &&& msk to_ = 0) := by
  have hb := hk.bins
  have hm : msk fr < 2 ^ 7 := ZZ fun x hx => by have := hf x hx; omega
  have hw : Wth h.gaps h.bins.toNat := fun g hg => by have := hk.gaps g hg; omega
  have hml : msk fr < 2 ^ h.bins.toNat := ZZ fun x hx => by have := hf x hx; omega
  have hrl : ∀ {M : List Nat} {m c : Nat}, m < 2 ^ h.bins.toNat → Z1k h.gaps m c M < 2 ^ h.bins.toNat := fun {M} => by
    induction M with
    | nil => intro m c h; exact h
    | cons l M ih => intro m c h9; exact ih (Z1m hw h9)
  have hr := hrl (M := (lls pl).map msk) (c := 0) hml
  have hll : ((lls pl).map msk).length = pl.length := by rw [List.length_map, Z27]
  have e1 : ∀ i, clP pl i = Z0E 0 (((lls pl).map msk).take (i + 1)) := fun i => by
    rw [← List.map_take, Z7o, Nat.zero_or]
    unfold clP Z3d lls
    rw [List.map_take]
  have e2 : lvp h.gaps (clP pl) (msk fr) pl.length = Z1k h.gaps (msk fr) 0 ((lls pl).map msk) := by
    have := Z8g (gs := h.gaps) (cl := clP pl) (ls := (lls pl).map msk) (m := msk fr) pl.length (by omega) (fun i hi => e1 i)
    rw [this, List.take_of_length_le (by omega)]
  have e3 : ∀ i, pl.length ≤ i → clP pl i = Z0E 0 ((lls pl).map msk) := fun i hi => by rw [e1, List.take_of_length_le (by omega)]
  have e4 : lvp h.gaps (clP pl) (msk fr) 20 = lv h.gaps (Z0E 0 ((lls pl).map msk)) (Z1k h.gaps (msk fr) 0 ((lls pl).map msk)) (20 - pl.length) := by
    have := Z5L (gs := h.gaps) (m := msk fr) e3 (20 - pl.length)
    rw [show pl.length + (20 - pl.length) = 20 by omega, e2] at this; exact this
  have s1 := Z4f (c := Z0E 0 ((lls pl).map msk)) (K := msk to_) hw hr (j := h.bins.toNat) (by omega)
  have s2 := Z4f (c := Z0E 0 ((lls pl).map msk)) (K := msk to_) hw hr (j := 20 - pl.length) (by omega)
  have k1 : h.svB fr to_ (lls pl) = true ↔ lv h.gaps (Z0E 0 ((lls pl).map msk)) (Z1k h.gaps (msk fr) 0 ((lls pl).map msk)) h.bins.toNat &&& msk to_ = 0 := by
    unfold Hse.svB Hse.svM
    rw [decide_eq_true_eq]
  exact ⟨k1.trans s1.symm, by rw [e4]; exact k1.trans (s1.symm.trans s2)⟩
theorem Z3y {h : Hse} {fr to_ : List Int} {sp : Int} {pl : List (List Int)} {e : Int} (he : h.svE fr to_ sp pl = e) (h0 : e ≠ 0) : h.svR fr to_ sp pl = (false, e) := by unfold Hse.svR; rw [he, decide_eq_false h0]; rfl
theorem Zdh {h : Hse} {fr to_ : List Int} {sp : Int} {pl : List (List Int)} (h0 : h.rcE fr to_ sp ≠ 0) : h.svE fr to_ sp pl = h.rcE fr to_ sp := by unfold Hse.svE; rw [decide_eq_true h0]; rfl
theorem Z8C {h : Hse} {fr to_ : List Int} {sp : Int} {pl : List (List Int)} (h0 : h.rcE fr to_ sp = 0) (h1 : 9 < pl.length) : h.svE fr to_ sp pl = 2 := by unfold Hse.svE; rw [h0, decide_eq_true h1]; rfl
theorem Z7L {h : Hse} {fr to_ : List Int} {sp : Int} {pl : List (List Int)} (h0 : h.rcE fr to_ sp = 0) (h1 : ¬ 9 < pl.length) (h2 : plE h.gaps.length sp pl ≠ 0) : h.svE fr to_ sp pl = plE h.gaps.length sp pl := by unfold Hse.svE; rw [h0, decide_eq_false h1, decide_eq_true h2]; rfl
theorem Z9Y {h : Hse} {fr to_ : List Int} {sp : Int} {pl : List (List Int)} (h0 : h.rcE fr to_ sp = 0) (h1 : ¬ 9 < pl.length) (h2 : plE h.gaps.length sp pl = 0) : h.svE fr to_ sp pl = ZL (h.gaps.length : Int) pl.flatten := by unfold Hse.svE; rw [h0, decide_eq_false h1, h2]; rfl
theorem Z9B {h : Hse} {fr to_ : List Int} {sp : Int} {pl : List (List Int)} (he : h.svE fr to_ sp pl = 0) : h.svR fr to_ sp pl = (h.svB fr to_ pl, 0) := by unfold Hse.svR; rw [he]; rfl
theorem Zcw {gl : Nat} {sp : Int} {l : List Int} (h : (!(l.all fun k => inB k 0 ((gl : Int) - 1))) = true) : lE gl sp l = 1 := by unfold lE; rw [h]; rfl
theorem Zd1 {gl : Nat} {sp : Int} {l : List Int} (h : (!(l.all fun k => inB k 0 ((gl : Int) - 1))) = false) (h2 : Z84 l = false) : lE gl sp l = 4 := by unfold lE; rw [h, h2]; rfl
theorem Z6Q {gl : Nat} {sp : Int} {l : List Int} (h : (!(l.all fun k => inB k 0 ((gl : Int) - 1))) = false) (h2 : Z84 l = true) : lE gl sp l = bif decide (sp < (l.length : Int)) then 9 else 0 := by unfold lE; rw [h, h2]; rfl
theorem ZaM {α : Type} {l : List α} {k : Nat} {x : α} (h : l[k]? = some x) : l.take (k + 1) = l.take k ++ [x] := by rw [List.take_add_one, h]; rfl
set_option maxHeartbeats 1000000 in
theorem Z7s (h : Hse) (ag as_ : Option Addr) (cg cs : Nat) (hlg : h.gaps.length ≤ 9223372036854775807) (hls : h.sights.length ≤ 9223372036854775807) (fr to_ : List Int) (af at_ : Option Addr) (cf ct : Nat) (hlf : fr.length ≤ 1000000) (hlt : to_.length ≤ 1000000) (hfc : fr.length ≤ cf) (htc : to_.length ≤ ct) (spd : Int) (pl : List PL) (ap : Option Addr) (cp : Nat) (hpl : pl.length ≤ 1000000) (htot : (lls pl).flatten.length ≤ 1000000) (H : Z9) (R : Z5) [hG : MemRows ag 2 (Zl h.gaps) R] [hS : MemRows as_ 3 (Zq h.sights) R] [hF : MemRows af 1 (Z4 fr) R] [hT : MemRows at_ 1 (Z4 to_) R] [hP : MemRows ap 1 (Zw pl) R] [hI : MemF (Inn pl) R] :
    FnV Tryz.prog 23 [h.v (h.sg ag cg) (h.ss as_ cs), .slice af fr.length cf, .slice at_ to_.length ct, .int .i64 spd, .slice ap pl.length cp] H R (.tuple #[.bool (h.svR fr to_ spd (lls pl)).1, .int .i64 (h.svR fr to_ spd (lls pl)).2]) := by
 refine Zf Tryz.func23 rfl Tryz.ntmps23 rfl ?_
 refine sqt 3 rfl (bx rfl rfl rfl (fun b5 => pur 2 rfl (sqt 10 rfl (spL rfl rfl (lhA (htl h (h.sg ag cg) (h.ss as_ cs)) Z0N rfl rfl rfl) rfl (pur 3 rfl ?_)))))
 refine cl rfl ZbK rfl rfl (Z7M h ag as_ cg cs hlg hls fr to_ af at_ cf ct hlf hlt hfc htc spd _ _) ?_
 rintro _ _ R1 (⟨hre, rfl, rfl, hR1⟩ | ⟨hre, bd, br, mm, rfl, rfl, hR1⟩) <;> obtain rfl := hR1.symm <;> clear hR1
 refine pur 5 rfl (Z0 (sqt 2 rfl (pur 2 rfl ?_)))
 refine Z1 rfl ?_ ?_ <;> intro hc0
 refine sqt 3 rfl (pur 3 rfl (Z6 ?_))
 exact rtB rfl rfl rfl rfl ⟨by rw [Z3y (Zdh hre) (hre)] <;> rfl, rfl, rfl⟩ (fun w h9 => h9.del b5)
 exact absurd hc0 (by simp [hre])
 refine pur 5 rfl (Z0 (sqt 2 rfl (pur 2 rfl ?_)))
 refine Z1 rfl ?_ ?_ <;> intro hc0
 exact absurd hc0 (by simp)
 obtain ⟨hb, hs0, hs10⟩ := Zb7 hre
 obtain ⟨q1, q2, q3, q4, q5, q6⟩ := Z0r hb
 have hok := hb.ok
 have hgl := hok.gl
 have hbn := hok.bins
 have hll := Z27 pl
 have hw7 : Wth h.gaps 7 := fun g hg => by have := hok.gaps g hg; have := hok.bins; omega
 have hS7 : msk fr < 2 ^ 7 := ZZ fun x hx => q1 x hx
 have hxl : ∀ x ∈ pl, x.l.length ≤ 1000000 := fun x hx => by
   have hm : x.l ∈ lls pl := List.mem_map.2 ⟨x, hx, rfl⟩
   have := List.Sublist.length_le (List.sublist_flatten_of_mem hm)
   omega
 refine Z2 (Z0 (sqt 3 rfl (pur 1 rfl (sp rfl (PE.lenSl Z3O rfl) rfl (pur 1 rfl ?_)))))
 refine Z1 rfl ?_ ?_ <;> intro hc1 <;> try simp only [cS] at hc1
 refine sqt 2 rfl (pur 2 rfl (Z6 ?_))
 exact rtB rfl rfl rfl rfl ⟨by rw [Z3y (Z8C hre (by omega)) (by decide)] <;> rfl, rfl, rfl⟩ (fun w h9 => St.sub ((h9.del mm).del b5))
 refine Z2 (Z0 (sqt 3 rfl (pur 1 rfl (sp rfl (PE.lenSl Z3O rfl) rfl (pur 1 rfl (Z3 ?_))))))
 refine Zd (ι := {k : Nat // k ≤ pl.length ∧ plE h.gaps.length spd ((lls pl).take k) = 0}) (fun k => ⟨[(1, .slice af fr.length cf), (3, .int .i64 spd), (4, .slice ap pl.length cp), (5, .pointer (some ⟨b5, 0, none⟩)), (12, .pointer (some ⟨br, 0, none⟩)), (35, .slice ap pl.length cp), (36, .int .i64 pl.length), (37, .int .i64 k.1)], (mm, Z0v true []) :: (b5, cel 25 (htl h (h.sg ag cg) (h.ss as_ cs))) :: H, RowsA (some ⟨br, 0, none⟩) 4 [(rcD h ag as_ cg cs to_ spd bd br mm).row] :: RowsA (some ⟨bd, 0, none⟩) 4 [(dkA h ag as_ cg cs bd).row] :: R⟩) (fun k => pl.length - k.1) ⟨0, Nat.zero_le _, rfl⟩ ?_ (fun k => ?_)
 exact Zj idH
 obtain ⟨k, hk, hpe⟩ := k
 dsimp only at hk hpe ⊢
 refine sqt 1 rfl (pur 1 rfl (Z0 ?_))
 refine Z1 rfl ?_ ?_ <;> intro hc2 <;> try simp only [cS] at hc2
 obtain ⟨x, hx⟩ : ∃ x, pl[k]? = some x := ⟨_, List.getElem?_eq_getElem (by omega)⟩
 have hx9 := hxl x (List.mem_of_getElem? hx)
 have hgx := Z59 hx
 refine Sy.heap (fun w h9 => St.inn (x := x) h9 (List.mem_of_getElem? hx)) ?_
 refine Zo (a := ap) (sz := 1) (rows := Zw pl) (ne0 (by rw [Zt]; omega)) (fun ba oa he => ?_)
 subst he
 refine Z2 (Z0 (Z3 (sqt 3 rfl (sp rfl (PE.indexAddr Zbk rfl rfl (by omega) (by omega)) rfl (spL rfl rfl (lf0 Z2p (Z4l hx) rfl) rfl (pur 1 rfl (Z0 (sqt 5 rfl (pur 1 rfl (spL rfl rfl (lhA (htl h (h.sg ag cg) (h.ss as_ cs)) Z0N rfl rfl rfl) rfl (sp rfl (PE.makeFunc rfl rfl) rfl ?_)))))))))))
 refine clV rfl Zdp rfl rfl (Z36 x.l x.a x.c 84 [h.v (h.sg ag cg) (h.ss as_ cs)] [] (fun k => inB k 0 ((h.gaps.length : Int) - 1)) Zas (by omega) _ _ (fun _ z _ => ZaX h (by omega) ag cg (h.ss as_ cs) z _ _)) ?_
 refine pur 1 rfl ?_
 refine Z1 rfl ?_ ?_ <;> intro hc3 <;> try simp only [cS] at hc3
 have hle : lE h.gaps.length spd x.l = 1 := Zcw (by rw [hc3]; rfl)
 have hpl9 := Z7N hpe hgx (by rw [hle]; decide)
 rw [hle] at hpl9
 have hse := Z7L (pl := lls pl) hre (by omega) (by rw [hpl9]; decide)
 rw [hpl9] at hse
 refine sqt 2 rfl (pur 2 rfl (Z6 ?_))
 exact rtB rfl rfl rfl rfl ⟨by rw [Z3y (hse) (by decide)] <;> rfl, rfl, rfl⟩ (fun w h9 => St.sub ((h9.del mm).del b5))
 have hin9 : (!(x.l.all fun k => inB k 0 ((h.gaps.length : Int) - 1))) = false := by rw [hc3] <;> rfl
 refine Z2 (Z0 (sqt 1 rfl (pur 1 rfl (Z3 ?_))))
 refine Zd (ι := {i : Nat // (1 ≤ i ∧ i ≤ x.l.length + 1) ∧ ∀ j, j + 1 < i → j + 1 < x.l.length → na x.l j < na x.l (j + 1)}) (fun i => ⟨[(1, .slice af fr.length cf), (3, .int .i64 spd), (4, .slice (some ⟨ba, oa, none⟩) pl.length cp), (5, .pointer (some ⟨b5, 0, none⟩)), (12, .pointer (some ⟨br, 0, none⟩)), (15, .slice x.a x.l.length x.c), (16, .int .i64 (i.1 : Int)), (35, .slice (some ⟨ba, oa, none⟩) pl.length cp), (36, .int .i64 pl.length), (37, .int .i64 k)], (mm, Z0v true []) :: (b5, cel 25 (htl h (h.sg ag cg) (h.ss as_ cs))) :: H, RowsA x.a 1 (Z4 x.l) :: RowsA (some ⟨br, 0, none⟩) 4 [(rcD h ag as_ cg cs to_ spd bd br mm).row] :: RowsA (some ⟨bd, 0, none⟩) 4 [(dkA h ag as_ cg cs bd).row] :: R⟩) (fun i => x.l.length + 1 - i.1) ⟨1, ⟨by omega, by omega⟩, fun j h1 => by omega⟩ ?_ (fun i => ?_)
 exact Zj idH
 obtain ⟨i, ⟨hi1, hi2⟩, hia⟩ := i
 dsimp only at hi1 hi2 hia ⊢
 refine Z0 (sqt 4 rfl (pur 2 rfl (sp rfl (PE.lenSl Zy rfl) rfl (pur 1 rfl ?_))))
 refine Z1 rfl ?_ ?_ <;> intro hc4 <;> try simp only [cS] at hc4
 obtain ⟨u, hu⟩ : ∃ u, x.l[i]? = some u := ⟨_, List.getElem?_eq_getElem (by omega)⟩
 obtain ⟨v, hv⟩ : ∃ v, x.l[i - 1]? = some v := ⟨_, List.getElem?_eq_getElem (by omega)⟩
 refine Zo (a := x.a) (sz := 1) (rows := Z4 x.l) (ne0 (by rw [irl]; omega)) (fun bx9 ox9 hxa => ?_)
 rw [hxa]
 refine Z2 (Z0 (Z3 (Z0 ?_)))
 refine Ze [0, 0, 3, 7, 0, 0, 32, 112, 240, 511] (tks 0 3 (.ld 3 (tks 4 4 (.ld 8 (.tk 9 .done))))) Zu (by kernel_rfl) ?_
 refine Zp 2 rfl (tk rfl (PE.indexAddr Z1l rfl rfl (by omega) (by omega)) rfl (ld rfl rfl (lf0 sc3 (Z0u hu) rfl) rfl (Zp 2 rfl (tk rfl (PE.sub rfl rfl (by omega)) rfl ?_))))
 rw [show (i : Int) - 1 = ((i - 1 : Nat) : Int) from by omega]
 refine tk rfl (PE.indexAddr Z1l rfl rfl (by omega) (by omega)) rfl (ld rfl rfl (lf0 sc3 (Z0u hv) rfl) rfl (Zp 1 rfl ?_))
 refine Z1 rfl ?_ ?_ <;> intro hc5 <;> try simp only [cS] at hc5
 have hle : lE h.gaps.length spd x.l = 4 := Zd1 hin9 (ZbT (i := i - 1) (by omega) (by rw [show i - 1 + 1 = i by omega, Z3e hu, Z3e hv]; exact hc5))
 have hpl9 := Z7N hpe hgx (by rw [hle]; decide)
 rw [hle] at hpl9
 have hse := Z7L (pl := lls pl) hre (by omega) (by rw [hpl9]; decide)
 rw [hpl9] at hse
 refine sqt 2 rfl (pur 2 rfl (Z6 ?_))
 exact rtB rfl rfl rfl rfl ⟨by rw [Z3y (hse) (by decide)] <;> rfl, rfl, rfl⟩ (fun w h9 => St.sub ((h9.del mm).del b5))
 refine Z2 (sqr 3 rfl (pur 1 rfl (sp rfl (PE.add rfl rfl (by omega)) rfl (pur 1 rfl ?_))))
 exact ZG ⟨i + 1, ⟨by omega, by omega⟩, fun j h1 h2 => by
   rcases Nat.lt_or_ge (j + 1) i with h3 | h3
   · exact hia j h3 h2
   · obtain rfl : i = j + 1 := by omega
     have h4 := Z3e hu
     have h5 := Z3e hv
     rw [Nat.add_sub_cancel] at h5
     omega⟩ (by dsimp only; omega) (by first | exact (by repeat' first | exact Sub.nil | apply Sub.cons | rfl | (simp [lk]; omega)) | (rw [← hxa]; exact (by repeat' first | exact Sub.nil | apply Sub.cons | rfl | (simp [lk]; omega)))) (by first | exact idH | (rw [← hxa]; exact idH))
 have hasc : Z84 x.l = true := Z7f fun j hj => hia j (by omega) hj
 have hle9 : lE h.gaps.length spd x.l = _ := Z6Q hin9 hasc
 refine Z8 (Za (Za (Zk (sqt 4 rfl (pur 1 rfl (sp rfl (PE.lenSl Zy rfl) rfl (pur 2 rfl ?_)))))))
 refine Z1 rfl ?_ ?_ <;> intro hc6 <;> try simp only [cS] at hc6
 rw [dT (show spd < (x.l.length : Int) by omega), cond_true] at hle9
 have hpl9 := Z7N hpe hgx (by rw [hle9]; decide)
 rw [hle9] at hpl9
 have hse := Z7L (pl := lls pl) hre (by omega) (by rw [hpl9]; decide)
 rw [hpl9] at hse
 refine sqt 2 rfl (pur 2 rfl (Z6 ?_))
 exact rtB rfl rfl rfl rfl ⟨by rw [Z3y (hse) (by decide)] <;> rfl, rfl, rfl⟩ (fun w h9 => St.sub ((h9.del mm).del b5))
 rw [dF (show ¬ spd < (x.l.length : Int) by omega), cond_false] at hle9
 refine Z2 (sqr 2 rfl (sp rfl (PE.add rfl rfl (by omega)) rfl (pur 1 rfl ?_)))
 exact Z7 ⟨k + 1, by omega, Zdd hpe hgx hle9⟩ (fun w h9 => h9.ftail)
 obtain rfl : k = pl.length := by omega
 rw [List.take_of_length_le (by omega)] at hpe
 have hse := Z9Y (pl := lls pl) hre (by omega) hpe
 refine Z8 (Za (Za (Zk (Z0 (Z0 ?_)))))
 refine Ze [0, 1, 0, 4, 15, 31] (.tk 0 (.ld 2 (.tk 3 (.big 1 (.big 4 (.tk 5 .done)))))) Zu (by kernel_rfl) ?_
 refine Zp 1 rfl (ld rfl rfl (lhA (htl h (h.sg ag cg) (h.ss as_ cs)) Z0N rfl rfl rfl) rfl (tk rfl (PE.makeFunc rfl rfl) rfl ?_))
 refine cl rfl Z4U rfl rfl (Z11 pl ap cp hpl htot _ _) ?_
 rintro _ _ R1 ⟨o, rfl, rfl, hR1⟩
 obtain rfl := hR1.symm
 clear hR1
 obtain ⟨ac, cc, heo, hcc, hfz⟩ := o.freezeC
 rw [irl] at hcc
 rw [heo, irl]
 refine Sy.heap (fun w h => hfz h) ?_
 clear hfz heo
 refine bg (fun w hs => ⟨(lhA (htl h (h.sg ag cg) (h.ss as_ cs)) Z0N rfl rfl rfl) w hs, trivial⟩) ?_
 refine clV rfl Z93 rfl rfl (Z2A (lls pl).flatten ac cc 84 [h.v (h.sg ag cg) (h.ss as_ cs)] [] (fun k => inB k 0 ((h.gaps.length : Int) - 1)) Zas (by omega) hcc _ _ (fun _ z _ => ZaX h (by omega) ag cg (h.ss as_ cs) z _ _)) ?_
 refine bgT (Zp 1 rfl (sqt 2 rfl (pur 2 rfl ?_)))
 refine Z1 rfl ?_ ?_ <;> intro hc7 <;> try simp only [cS] at hc7
 have hle : ZL h.gaps.length (lls pl).flatten ≠ 0 := hc7
 refine sqt 3 rfl (pur 3 rfl (Z6 ?_))
 exact rtB rfl rfl rfl rfl ⟨by rw [Z3y (hse) (hle)] <;> rfl, rfl, rfl⟩ (fun w h9 => St.sub ((h9.del mm).del b5))
 have hle : ZL h.gaps.length (lls pl).flatten = 0 := Classical.byContradiction hc7
 rw [hle] at hse
 have hpz := plE_zero.1 hpe
 have hll2 : ∀ l ∈ lls pl, ∀ x ∈ l, 0 ≤ x ∧ x < (h.gaps.length : Int) := fun l hl => (Zbg (hpz l hl)).1
 have hM10 : ∀ l ∈ ((lls pl).map msk), l < 2 ^ 10 := fun l hl => by
   obtain ⟨y, hy, rfl⟩ := List.mem_map.1 hl
   exact ZZ fun x hx => by have := hll2 y hy x hx; omega
 refine Z2 (sqt 5 rfl (pur 1 rfl ?_))
 refine clV rfl Z9c rfl rfl (Z8V fr (fun k hk => by have := q1 k hk; omega) hlf af cf _ _) ?_
 refine sp rfl (PE.build (out := [_, _]) Z4v Z1J rfl rfl) rfl (alc rfl Z1J rfl (fun b18 => ?_))
 refine ZN (l' := plc (msk fr) (0)) rfl rfl rfl Z4g rfl rfl rfl rfl (nl rfl) ?_
 refine Z0 (sqt 3 rfl (pur 1 rfl (sp rfl (PE.lenSl Z3O rfl) rfl (pur 1 rfl (Z3 ?_)))))
 refine Zd (ι := {k : Nat // k ≤ pl.length}) (fun k => ⟨[(5, .pointer (some ⟨b5, 0, none⟩)), (12, .pointer (some ⟨br, 0, none⟩)), (18, .pointer (some ⟨b18, 0, none⟩)), (78, .slice ap pl.length cp), (79, .int .i64 pl.length), (80, .int .i64 k.1)], (b18, cel 123 (plc (Z1k h.gaps (msk fr) 0 (((lls pl).map msk).take (k.1))) (Z0E 0 (((lls pl).map msk).take (k.1))))) :: (mm, Z0v true []) :: (b5, cel 25 (htl h (h.sg ag cg) (h.ss as_ cs))) :: H, RowsA ac 1 (Z4 (lls pl).flatten) :: RowsA (some ⟨br, 0, none⟩) 4 [(rcD h ag as_ cg cs to_ spd bd br mm).row] :: RowsA (some ⟨bd, 0, none⟩) 4 [(dkA h ag as_ cg cs bd).row] :: R⟩) (fun k => pl.length - k.1) ⟨0, Nat.zero_le _⟩ ?_ (fun k => ?_)
 exact Zj idH
 obtain ⟨k, hk⟩ := k
 dsimp only at hk ⊢
 have hc10 : Z0E 0 (((lls pl).map msk).take (k)) < 2 ^ 10 := Z9Q (by decide) (fun l hl => hM10 l (List.mem_of_mem_take hl))
 have hm7 : Z1k h.gaps (msk fr) 0 (((lls pl).map msk).take (k)) < 2 ^ 7 := Z75 hw7 hS7
 refine sqt 1 rfl (pur 1 rfl (Z0 ?_))
 refine Z1 rfl ?_ ?_ <;> intro hc8 <;> try simp only [cS] at hc8
 obtain ⟨x, hx⟩ : ∃ x, pl[k]? = some x := ⟨_, List.getElem?_eq_getElem (by omega)⟩
 have hx9 := hxl x (List.mem_of_getElem? hx)
 have hxm := hll2 x.l (List.mem_of_getElem? (Z59 hx))
 have hx10 : msk x.l < 2 ^ 10 := ZZ fun z hz => by have := hxm z hz; omega
 have htk : ((lls pl).map msk).take (k + 1) = ((lls pl).map msk).take k ++ [msk x.l] := ZaM (by rw [List.getElem?_map, Z59 hx]; rfl)
 have hcs : Z0E 0 (((lls pl).map msk).take (k + 1)) = Z0E 0 (((lls pl).map msk).take (k)) ||| msk x.l := by rw [htk, Z5w]
 have hrs : Z1k h.gaps (msk fr) 0 (((lls pl).map msk).take (k + 1)) = spr h.gaps (Z0E 0 (((lls pl).map msk).take (k)) ||| msk x.l) (Z1k h.gaps (msk fr) 0 (((lls pl).map msk).take (k))) := by rw [htk, Z5x]
 have hc210 : Z0E 0 (((lls pl).map msk).take (k)) ||| msk x.l < 2 ^ 10 := Z6d hc10 hx10
 refine Sy.heap (fun w h9 => St.inn (x := x) h9 (List.mem_of_getElem? hx)) ?_
 refine Zo (a := ap) (sz := 1) (rows := Zw pl) (ne0 (by rw [Zt]; omega)) (fun ba oa he => ?_)
 subst he
 refine Z2 (Z0 (Z3 (sqt 3 rfl (sp rfl (PE.indexAddr Zbk rfl rfl (by omega) (by omega)) rfl (spL rfl rfl (lf0 Z2p (Z4l hx) rfl) rfl (pur 1 rfl (Z0 ?_)))))))
 refine Ze [0, 1, 0, 4, 15, 31, 63] (.tk 0 (.ld 1 (.tk 2 (.big 3 (.tk 4 (.tk 5 (.big 6 .done))))))) Zu (by kernel_rfl) ?_
 refine tk rfl (PE.fA Z19 rfl) rfl (ld rfl rfl (lh sc3 rfl rfl) rfl (Zp 1 rfl ?_))
 refine clV rfl Z9c rfl rfl (Z8V x.l (fun z hz => by have := hxm z hz; omega) hx9 x.a x.c _ _) ?_
 refine bg (fun w hs => ⟨(lh sc3 rfl rfl) w hs, trivial⟩) ?_
 refine tk rfl (PE.orN (m := Z0E 0 (((lls pl).map msk).take (k))) (n := msk x.l) rfl rfl (Z8v hc10 (by omega)) (Z8v hx10 (by omega))) rfl (tk rfl (PE.fA Z19 rfl) rfl ?_)
 refine ZN (l' := plc (Z1k h.gaps (msk fr) 0 (((lls pl).map msk).take (k))) (Z0E 0 (((lls pl).map msk).take (k)) ||| msk x.l)) rfl rfl rfl cn3 rfl rfl rfl rfl (nl rfl) ?_
 refine bgT (sqr 5 rfl (pur 1 rfl (spL rfl rfl (lhA (plc (Z1k h.gaps (msk fr) 0 (((lls pl).map msk).take (k))) (Z0E 0 (((lls pl).map msk).take (k)) ||| msk x.l)) Z0e rfl rfl rfl) rfl ?_)))
 refine clV rfl Z6n rfl rfl (Z1o (rcD h ag as_ cg cs to_ spd bd br mm) (Z0o h ag as_ cg cs hok bd) (Z1k h.gaps (msk fr) 0 (((lls pl).map msk).take (k))) (Z0E 0 (((lls pl).map msk).take (k)) ||| msk x.l) hm7 hc210 _ _) ?_
 refine sp rfl (PE.fA ZA rfl) rfl ?_
 refine ZN (l' := plc (spr h.gaps (Z0E 0 (((lls pl).map msk).take (k)) ||| msk x.l) (Z1k h.gaps (msk fr) 0 (((lls pl).map msk).take (k)))) (Z0E 0 (((lls pl).map msk).take (k)) ||| msk x.l)) rfl rfl rfl cn3 rfl rfl rfl rfl (nl rfl) ?_
 refine sqr 2 rfl (sp rfl (PE.add rfl rfl (by omega)) rfl (pur 1 rfl ?_))
 rw [← hrs, ← hcs]
 exact Z7 ⟨k + 1, by omega⟩ (fun w h9 => h9.ftail)
 obtain rfl : k = pl.length := by omega
 rw [List.take_of_length_le (show ((lls pl).map msk).length ≤ pl.length by rw [List.length_map]; omega)] at hc10 hm7 ⊢
 obtain ⟨B, hB⟩ : ∃ B : Nat, h.bins = B := ⟨h.bins.toNat, by omega⟩
 refine Z8 (Za (Za (Zk (Z0 (sqt 3 rfl (sp rfl (PE.fA Z0l rfl) rfl (spL rfl rfl (lh (v := .int .i64 h.bins) sc3 rfl rfl) rfl ?_)))))))
 rw [hB]
 refine pur 1 rfl (Z3 ?_)
 refine Zd (ι := {j : Nat // j ≤ B}) (fun j => ⟨[(12, .pointer (some ⟨br, 0, none⟩)), (18, .pointer (some ⟨b18, 0, none⟩)), (96, .int .i64 B), (97, .int .i64 j.1)], (b18, cel 123 (plc (lv h.gaps (Z0E 0 ((lls pl).map msk)) (Z1k h.gaps (msk fr) 0 ((lls pl).map msk)) (j.1)) (Z0E 0 ((lls pl).map msk)))) :: (mm, Z0v true []) :: (b5, cel 25 (htl h (h.sg ag cg) (h.ss as_ cs))) :: H, RowsA ac 1 (Z4 (lls pl).flatten) :: RowsA (some ⟨br, 0, none⟩) 4 [(rcD h ag as_ cg cs to_ spd bd br mm).row] :: RowsA (some ⟨bd, 0, none⟩) 4 [(dkA h ag as_ cg cs bd).row] :: R⟩) (fun j => B - j.1) ⟨0, Nat.zero_le _⟩ ?_ (fun j => ?_)
 exact Zj idH
 obtain ⟨j, hj⟩ := j
 dsimp only at hj ⊢
 have hl7 : lv h.gaps (Z0E 0 ((lls pl).map msk)) (Z1k h.gaps (msk fr) 0 ((lls pl).map msk)) (j) < 2 ^ 7 := Z7k hw7 hm7 j
 refine sqt 1 rfl (pur 1 rfl (Z0 ?_))
 refine Z1 rfl ?_ ?_ <;> intro hc9 <;> try simp only [cS] at hc9
 refine Z2 (Z0 (Z3 (sqr 5 rfl (pur 1 rfl (spL rfl rfl (lhA (plc (lv h.gaps (Z0E 0 ((lls pl).map msk)) (Z1k h.gaps (msk fr) 0 ((lls pl).map msk)) (j)) (Z0E 0 ((lls pl).map msk))) Z0e rfl rfl rfl) rfl ?_)))))
 refine clV rfl Z6n rfl rfl (Z1o (rcD h ag as_ cg cs to_ spd bd br mm) (Z0o h ag as_ cg cs hok bd) (lv h.gaps (Z0E 0 ((lls pl).map msk)) (Z1k h.gaps (msk fr) 0 ((lls pl).map msk)) (j)) (Z0E 0 ((lls pl).map msk)) hl7 hc10 _ _) ?_
 refine sp rfl (PE.fA ZA rfl) rfl ?_
 refine ZN (l' := plc (lv h.gaps (Z0E 0 ((lls pl).map msk)) (Z1k h.gaps (msk fr) 0 ((lls pl).map msk)) (j + 1)) (Z0E 0 ((lls pl).map msk))) rfl rfl rfl cn3 rfl rfl rfl rfl (nl rfl) ?_
 refine sqr 2 rfl (sp rfl (PE.add rfl rfl (by omega)) rfl (pur 1 rfl ?_))
 exact Z7 ⟨j + 1, by omega⟩ idH
 obtain rfl : j = B := by omega
 have hsb : h.svB fr to_ (lls pl) = decide (lv h.gaps (Z0E 0 ((lls pl).map msk)) (Z1k h.gaps (msk fr) 0 ((lls pl).map msk)) (j) &&& msk to_ = 0) := by unfold Hse.svB Hse.svM; rw [show h.bins.toNat = j by omega]
 have hK7 : msk to_ < 2 ^ 7 := ZZ fun x hx => q2 x hx
 have h27 : (2 : Nat) ^ 7 = 128 := rfl
 have hde : decide (((lv h.gaps (Z0E 0 ((lls pl).map msk)) (Z1k h.gaps (msk fr) 0 ((lls pl).map msk)) (j) &&& msk to_ : Nat) : Int) = 0) = decide (lv h.gaps (Z0E 0 ((lls pl).map msk)) (Z1k h.gaps (msk fr) 0 ((lls pl).map msk)) (j) &&& msk to_ = 0) := decide_eq_decide.2 (by omega)
 refine Z8 (Za (Za (Zk (Z0 ?_))))
 refine Ze [0, 1, 0, 4, 12, 28, 63, 127, 255, 511] (.tk 0 (.ld 1 (tks 2 3 (.ld 5 (tks 6 4 .done))))) Zu (by kernel_rfl) ?_
 refine tk rfl (PE.fA ZA rfl) rfl (ld rfl rfl (lh sc3 rfl rfl) rfl (Zp 1 rfl (tk rfl (PE.nilCheck rfl) rfl (tk rfl (PE.fA Z4S rfl) rfl (ld rfl rfl (lfB (sz := 4) sc3 rfl) rfl (tk rfl (PE.andN (m := lv h.gaps (Z0E 0 ((lls pl).map msk)) (Z1k h.gaps (msk fr) 0 ((lls pl).map msk)) (j)) (n := msk to_) rfl rfl rfl (by omega) (by omega)) rfl (Zp 3 rfl (Z6 ?_))))))))
 exact rtB rfl rfl rfl rfl ⟨by rw [Z9B hse, hsb, ← hde] <;> rfl, rfl, rfl⟩ (fun w h9 => St.sub (((h9.del b18).del mm).del b5))
end Go.Proofs.YthbjpnmclokinaaGreat
