/- Walks of the functions of the program, and the laws that join them: what the last theorem of this claim needs, in order. -/
import Derived.Test.YthbjpnmclokinaaGreatwd4
namespace Go.Proofs.YthbjpnmclokinaaGreat
set_option linter.unusedSimpArgs false
set_option linter.unusedVariables false
open Go
theorem ZdV : cal Tryz.prog 21 = true := by kernel_rfl
def ZfX (h : Hse) (fr to_ : List Int) (H : Z8) (R : Z6) : Value → Z8 → Z6 → Prop := fun v H' R' => H' = H ∧ R' = R ∧ ((h.botE fr to_ ≠ 0 ∧ v = .tuple #[.int .i64 0, .int .i64 (h.botE fr to_)]) ∨
  (h.botE fr to_ = 0 ∧ ∃ s : Nat, s ≤ 10 ∧ (∃ n, Pl h.gaps (msk to_) s (msk fr) 0 n) ∧ (∀ s', s' < s → ∀ n, ¬ Pl h.gaps (msk to_) s' (msk fr) 0 n) ∧ v = .tuple #[.int .i64 (s : Int), .int .i64 0]))
theorem Zbo {h : Hse} {fr to_ : List Int} {s : Nat} (hb : h.botE fr to_ = 0) (hs : s ≤ 10) : h.rcE fr to_ (s : Int) = 0 := by
  have : inB (s : Int) 0 10 = true := by simp [inB]; omega
  unfold Hse.rcE; rw [hb, this]; rfl
theorem Z2i {h : Hse} {fr to_ : List Int} (hb : h.Bot fr to_) : Two h.gaps (msk fr) (msk to_) := by
  obtain ⟨q1, q2, q3, q4, q5, q6⟩ := ZD hb
  have hok := hb.ok
  exact ⟨fun g hg => by have := hok.gaps g hg; have := hok.bins; omega, fun i g hg => by have := hok.gaps g (List.mem_of_getElem? hg); omega, Z0S fun x hx => q1 x hx, Z0S fun x hx => q2 x hx, fun v hv => by
    cases hk : (msk to_).testBit v with
    | false => rfl
    | true => exact absurd ((Zs (fun k hk => (q2 k hk).1) v).1 hk) (hb.no _ ((Zs (fun k hk => (q1 k hk).1) v).1 hv))⟩
theorem Z9U {h : Hse} {fr to_ : List Int} (hb : h.Bot fr to_) : ∃ n, Pl h.gaps (msk to_) 10 (msk fr) 0 n := by
  have ht := Z2i hb
  have hp := Nat.two_pow_pos h.gaps.length
  exact ⟨_, Pl.once ht.w ht.s (show 2 ^ h.gaps.length - 1 < 2 ^ h.gaps.length by omega) (Z5D ht) (Nat.le_trans (Z1Z _ _) hb.ok.gl)⟩
set_option maxHeartbeats 400000 in
theorem ZaZ (h : Hse) (ag as_ : Option Addr) (cg cs : Nat) (hlg : h.gaps.length ≤ 9223372036854775807) (hls : h.sights.length ≤ 9223372036854775807) (fr to_ : List Int) (af at_ : Option Addr) (cf ct : Nat) (hlf : fr.length ≤ 1000000) (hlt : to_.length ≤ 1000000) (hfc : fr.length ≤ cf) (htc : to_.length ≤ ct) (H : Z8) (R : Z6) [hG : MemRows ag 2 (Zd h.gaps) R] [hS : MemRows as_ 3 (Ze h.sights) R] [hF : MemRows af 1 (Z4 fr) R] [hT : MemRows at_ 1 (Z4 to_) R] :
    Fn Tryz.prog 24 [h.v (h.sg ag cg) (h.ss as_ cs), .slice af fr.length cf, .slice at_ to_.length ct] H R (ZfX h fr to_ H R) := by
 refine Zg Tryz.func24 rfl Tryz.ntmps24 rfl ?_
 refine sqt 3 rfl (bx rfl rfl rfl (fun b3 => pur 2 rfl (Z0 (sqt 5 rfl (spL rfl rfl (lhA (htl h (h.sg ag cg) (h.ss as_ cs)) Z0y rfl rfl rfl) rfl (pur 2 rfl ?_))))))
 refine clV rfl Z6t rfl rfl (Z3H h ag as_ cg cs hlg hls fr to_ af at_ cf ct (by omega) (by omega) hfc htc _ _) ?_
 refine pur 1 rfl (sqt 2 rfl (pur 2 rfl ?_))
 refine Z1 rfl ?_ ?_ <;> intro hc0
 have hbe : h.botE fr to_ ≠ 0 := of_decide_eq_true hc0
 refine sqt 3 rfl (pur 3 rfl (Z5 ?_))
 exact rtB rfl rfl rfl rfl ⟨rfl, rfl, .inl ⟨hbe, rfl⟩⟩ (fun w h9 => h9.del b3)
 ·
  have hbe : h.botE fr to_ = 0 := Classical.byContradiction fun e => by rw [decide_eq_true e] at hc0; cases hc0
  have hb := Z0u hbe
  obtain ⟨n0, hn0⟩ := Z9U hb
  refine Z2 (sqt 1 rfl (pur 1 rfl (Z3 ?_)))
  refine Zc (ι := {s : Nat // s ≤ 10 ∧ ∀ s', s' < s → ∀ n, ¬ Pl h.gaps (msk to_) s' (msk fr) 0 n}) (fun s => ⟨[(1, .slice af fr.length cf), (2, .slice at_ to_.length ct), (3, .pointer (some ⟨b3, 0, none⟩)), (9, .int .i64 (s.1 : Int))], (b3, cel 25 (htl h (h.sg ag cg) (h.ss as_ cs))) :: H, R⟩) (fun s => 11 - s.1) ⟨0, by omega, fun s' h9 => absurd h9 (Nat.not_lt_zero _)⟩ ?_ (fun s => ?_)
  exact Zj idH
  ·
   obtain ⟨s, hs, hno⟩ := s
   dsimp only at hs hno ⊢
   have hrz := Zbo hbe hs
   refine Z0 (Z3 (sqt 10 rfl (spL rfl rfl (lhA (htl h (h.sg ag cg) (h.ss as_ cs)) Z0y rfl rfl rfl) rfl (pur 3 rfl ?_))))
   refine cl rfl ZdV rfl rfl (ZaG h ag as_ cg cs hlg hls fr to_ af at_ cf ct hlf hlt hfc htc (s : Int) _ _) ?_
   rintro _ _ R1 ⟨rfl, hq⟩
   rcases hq with ⟨h9, _⟩ | ⟨_, hnp, rfl, hR1⟩ | ⟨_, ls, pl, a, c, _, _, _, _, _, hls2, rfl, hR1⟩
   · exact absurd hrz h9
   all_goals obtain rfl := hR1.symm
   all_goals clear hR1
   all_goals rw [Int.toNat_natCast] at *
   refine pur 5 rfl (sqt 2 rfl (pur 2 rfl ?_))
   refine Z1 rfl ?_ ?_ <;> intro hc1
   exact absurd hc1 (by decide)
   have hs10 : s ≠ 10 := fun e => hnp n0 (by rw [e]; exact hn0)
   refine Z2 (sqr 3 rfl (pur 1 rfl (sp rfl (PE.add rfl rfl (by omega)) rfl (pur 1 rfl ?_))))
   exact Za ⟨s + 1, by omega, fun s' h9 => (Nat.lt_succ_iff_lt_or_eq.1 h9).elim (hno s') (fun e => by subst e; exact hnp)⟩ idH
   refine pur 5 rfl (sqt 2 rfl (pur 2 rfl ?_))
   refine Z1 rfl ?_ ?_ <;> intro hc1
   refine sqt 3 rfl (pur 3 rfl (Z5 ?_))
   exact rtB rfl rfl rfl rfl ⟨rfl, rfl, .inr ⟨hbe, s, hs, ⟨_, hls2.1⟩, hno, rfl⟩⟩ (fun w h9 => St.sub (h9.del b3))
   exact absurd hc1 (by decide)
theorem ZdG : cal Tryz.prog 136 = true := by kernel_rfl
theorem ik3 : Zf3 Tryz.prog 3 = some .i64 := by kernel_rfl
section steps
variable {P : Program} {r : Option Nat} {ops : Array Oper} {n : Nat} {L : Zl} {D : List Deferred} {H : Z8} {R : Z6} {K : Act → World → Prop}
  {i d : Nat} {ty : TypeId} {pos : String} {af : Array Edge}
theorem ZfN {t tn e sz by_ k : Nat} {kq kn : IntKind} {s x : Operand} {zl : List Value} (ho : ops[i]? = some ⟨some d, .call { callee := .builtin .append, args := #[s, x], argTypes := #[t, tn] }, ty, pos, af, none⟩)
    (ht : apT P t = some (e, sz, by_)) (htn : Zf3 P tn = some kn) (hz : ZS P e = some zl) (hs : ev L s = some (.slice none 0 0)) (hx : ev L x = some (.int kq k))
    (hk : 0 < k) (hs0 : 0 < sz) (hb : k * by_ ≤ 140737488355328 ∧ k ≤ 9223372036854775807) (hd : Nat.blt d n = true)
    (h : ∀ (b' cap' : Nat) (junk : List Value), k ≤ cap' → cap' ≤ 9223372036854775807 → k * sz + junk.length = cap' * sz → Sy n ((d, .slice (some ⟨b', 0, none⟩) k cap') :: L) D ((b', cel e (Z1D k zl ++ junk)) :: H) R K) : Sy n L D H R (stp P r ops i K) := fun a w ha hD hw => by
  unfold apT at ht
  split at ht
  case h_2 => cases ht
  rename_i e' hu
  split at ht
  case h_2 => cases ht
  rename_i ie hi
  split at ht
  case h_2 => cases ht
  rename_i z hzz
  cases hzs : Nat.beq z.cells.size ie.size with
  | false => rw [hzs] at ht; cases ht
  | true =>
  rw [hzs, cond_true] at ht
  cases ht
  have hzs := Nat.eq_of_beq_eq_true hzs
  have hzl : z.cells.toList = zl := by
    have : ZS P e = some z.cells.toList := by simp [ZS, hi, hzz]
    rw [this] at hz; exact Option.some.inj hz
  have hun : P.underlying tn = some (.int kn) := by
    unfold Zf3 at htn
    split at htn
    · rename_i q hq; cases htn; exact hq
    · cases htn
  have hold : (Builtin.firstCells ie.size 0 (.slice none 0 0)).run P w.drew = .ok ([] : List Value).toArray w.drew := by
    simp [Builtin.firstCells, Sem.run_pure]
  have h2 := Lib.run_append_grow_zeros (P := P) w t tn ty e ie z kq kn hu hun hi hzz none 0 0 [] hold k hk hs0 (by omega) (by omega) (by omega) (growslice_fits (by omega) (by rw [Nat.zero_add]; exact hb.1))
  rw [Nat.zero_add] at h2
  have hge := grownCap_ge w k 0 e
  have hcm : grownCap w k 0 e ≤ maxLen := grownCap_le_maxLen w _ 0 e (by simp only [maxLen]; omega)
  have hrep : ∀ q, (Builtin.zeroCells z.cells q).toList = Z1D q zl := fun q => by rw [← hzl]; simp [Builtin.zeroCells, Z1D]
  have e1 : (.cells (([] : List Value).toArray ++ Builtin.zeroCells z.cells k ++ Builtin.zeroCells z.cells (grownCap w k 0 e - k)) e : Obj) = cel e (Z1D k zl ++ (Builtin.zeroCells z.cells (grownCap w k 0 e - k)).toList) := by
    unfold cel; congr 1; apply Array.toList_inj.1; simp [hrep]
  refine Zu ho (Zh _ rfl _) (v := .slice (some ⟨w.heap.size, 0, none⟩) k (grownCap w k 0 e)) (w' := w.drew.alloc (cel e (Z1D k zl ++ (Builtin.zeroCells z.cells (grownCap w k 0 e - k)).toList))) ?_
    (h w.heap.size (grownCap w k 0 e) (Builtin.zeroCells z.cells (grownCap w k 0 e - k)).toList hge (by simp only [maxLen] at hcm; omega) ?_ _ _ (ha.put (by simpa using hd) _) hD (hw.drew.alloc _))
  · simp only [execOp, resolve, invoke, builtin, Sem.run_bind, Sem.run_pure, Result.andThen, List.map_toArray, List.map_cons, List.map_nil, ha.reads _ _ hs, ha.reads _ _ hx]
    rw [e1] at h2
    rw [h2]
  · simp only [Array.length_toList, size_zeroCells, hzs, ← Nat.add_mul]
    congr 1; omega
end steps
theorem Z8g {k : Nat} {v : Value} : (Z1D k [v]).length = k := by simp [Z1D]
def Z6e (pl : List PL) (k : Nat) : List Int := (lls (pl.take k)).flatten
theorem Z3a {pl : List PL} {k : Nat} {x : PL} (h : pl[k]? = some x) : Z6e pl (k + 1) = Z6e pl k ++ x.l := by
  unfold Z6e lls
  rw [List.take_add_one, h, Option.toList_some, List.map_append, List.flatten_append]; simp
theorem Z2m (pl : List PL) : ∀ k, (Z6e pl k).length ≤ (lls pl).flatten.length := fun k => by
  unfold Z6e lls
  have h : pl.map (·.l) = (pl.take k).map (·.l) ++ (pl.drop k).map (·.l) := by rw [← List.map_append, List.take_append_drop]
  rw [h, List.flatten_append, List.length_append]; omega
theorem Zbq (k : Nat) (hk : k ≤ 1000000) (H : Z8) (R : Z6) :
    Fn Tryz.prog 136 [.slice none 0 0, .int .i64 (k : Int)] H R (fun v H' R' => ∃ o : OSl 3 1 [], v = o.fs ∧ H' = o.G ++ H ∧ R' = R) := by
 refine Zg Tryz.func136 rfl Tryz.ntmps136 rfl ?_
 refine sqt 1 rfl (pur 1 rfl (Z0 (sqt 2 rfl (pur 2 rfl ?_))))
 refine Z1 rfl ?_ ?_ <;> intro hc0
 simp only [decide_eq_true_eq] at hc0
 omega
 refine Z2 (Z0 (sqt 8 rfl (pur 2 rfl (sp rfl (PE.capSl Zw rfl) rfl (pur 1 rfl (sp rfl (PE.lenSl Zw rfl) rfl (sp rfl (PE.sub rfl rfl (by omega)) rfl (sp rfl (PE.sub rfl rfl (by omega)) rfl ?_))))))))
 rw [show (k : Int) - (((0 : Nat) : Int) - ((0 : Nat) : Int)) = (k : Int) by omega]
 refine pur 1 rfl (sqt 2 rfl (pur 2 rfl ?_))
 refine Z1 rfl ?_ ?_ <;> intro hc1
 try simp only [cS] at hc1
 refine sqr 10 rfl (pur 2 rfl (sp rfl (PE.capSl Zw rfl) rfl (sp rfl (PE.slHi (h := 0) Z0H rfl rfl (by omega)) rfl (pur 1 rfl ?_))))
 refine ZfN rfl Z2y ik3 zl3 rfl rfl (by omega) (by omega) (by omega) rfl (fun b2 cap2 jk2 hc1 hc2 hc3 => ?_)
 refine pur 1 rfl (sp rfl (PE.lenSl Zw rfl) rfl (sp rfl (PE.slHi (h := 0) Z0H rfl rfl (by omega)) rfl (pur 1 rfl (sqt 2 rfl (pur 2 rfl (Z5 ?_))))))
 exact rtA rfl rfl rfl ⟨⟨.slice (some ⟨b2, 0, none⟩) 0 cap2, [(b2, cel 3 (Z1D k [.int .i64 0] ++ jk2))], by simp, .inr ⟨b2, cap2, Z1D k [.int .i64 0] ++ jk2, rfl, rfl, by rw [List.length_append, Z8g]; simp only [List.length_nil]; omega, Nat.zero_le _, hc2⟩⟩, rfl, rfl, rfl⟩ idH
 refine Z2 (sqt 2 rfl (pur 2 rfl (Z5 ?_)))
 exact rtA rfl rfl rfl ⟨OSl.nil _ _, rfl, rfl, rfl⟩ idH
set_option maxHeartbeats 400000 in
theorem Z2I (pl : List PL) (ap : Option Addr) (cp : Nat) (hpl : pl.length ≤ 1000000) (htl : (lls pl).flatten.length ≤ 1000000) (H : Z8) (R : Z6) [hP : MemRows ap 1 (Zm pl) R] [hI : MemF (Inn pl) R] :
    Fn Tryz.prog 68 [.slice ap pl.length cp] H R (fun v H' R' => ∃ o : OSl 3 1 (Z4 (lls pl).flatten), v = o.fs ∧ H' = o.G ++ H ∧ R' = R) := by
 refine Zg Tryz.func68 rfl Tryz.ntmps68 rfl ?_
 refine sqt 1 rfl (pur 1 rfl (sqt 1 rfl (pur 1 rfl (Z0 (sqt 3 rfl (pur 1 rfl (sp rfl (PE.lenSl Z1E rfl) rfl (pur 1 rfl (Z3 ?_)))))))))
 refine Zc (ι := {k : Nat // k ≤ pl.length}) (fun k => ⟨[(0, .slice ap pl.length cp), (3, .int .i64 ((Z6e pl k.1).length : Nat)), (9, .slice ap pl.length cp), (10, .int .i64 pl.length), (11, .int .i64 k.1)], H, R⟩) (fun k => pl.length - k.1) ⟨0, Nat.zero_le _⟩ ?_ (fun k => ?_)
 exact Zj idH
 obtain ⟨k, hk⟩ := k
 dsimp only at hk ⊢
 have hcl := Z2m pl k
 have hcl2 := Z2m pl (k + 1)
 refine sqt 1 rfl (pur 1 rfl (Z0 ?_))
 refine Z1 rfl ?_ ?_ <;> intro hc0 <;> try simp only [cS] at hc0
 obtain ⟨x, hx⟩ : ∃ x, pl[k]? = some x := ⟨_, List.getElem?_eq_getElem (by omega)⟩
 have hst := congrArg List.length (Z3a hx)
 rw [List.length_append] at hst
 refine Zf (a := ap) (sz := 1) (rows := Zm pl) (ne0 (by rw [Zv]; omega)) (fun ba oa he => ?_)
 subst he
 refine Z2 (Z0 (Z3 (sqt 3 rfl (sp rfl (PE.indexAddr Z6r rfl rfl (by omega) (by omega)) rfl (spL rfl rfl (lf0 Z1L (Z1h hx) rfl) rfl (pur 1 rfl (sqt 5 rfl (pur 2 rfl (sp rfl (PE.lenSl Zw rfl) rfl (sp rfl (PE.add rfl rfl (by omega)) rfl ?_))))))))))
 rw [show ((Z6e pl k).length : Int) + (x.l.length : Int) = ((Z6e pl (k + 1)).length : Int) by omega]
 refine pur 1 rfl (sqt 2 rfl (pur 2 rfl ?_))
 refine Z1 rfl ?_ ?_ <;> intro hc1
 simp only [decide_eq_true_eq] at hc1
 omega
 refine Z2 (sqr 2 rfl (sp rfl (PE.add rfl rfl (by omega)) rfl (pur 1 rfl ?_)))
 exact Za ⟨k + 1, by omega⟩ idH
 obtain rfl : k = pl.length := by omega
 refine Z7 (Z9 (Z9 (Zn (sqt 3 rfl (pur 1 rfl ?_)))))
 refine cl rfl ZdG rfl rfl (Zbq (Z6e pl pl.length).length (by omega) _ _) ?_
 rintro _ _ R1 ⟨o0, rfl, rfl, hR1⟩
 obtain rfl := hR1.symm
 clear hR1
 refine pur 1 rfl (Z0 (sqt 3 rfl (pur 1 rfl (sp rfl (PE.lenSl Z1E rfl) rfl (pur 1 rfl (Z3 ?_))))))
 refine Zc (ι := (k : {k : Nat // k ≤ pl.length}) × OSl 3 1 (Z4 (Z6e pl k.1))) (fun y => ⟨[(6, y.2.fs), (25, .slice ap pl.length cp), (26, .int .i64 pl.length), (27, .int .i64 y.1.1)], y.2.G ++ H, R⟩) (fun y => pl.length - y.1.1) ⟨⟨0, Nat.zero_le _⟩, o0⟩ ?_ (fun y => ?_)
 exact Zj idH
 obtain ⟨⟨k, hk⟩, o⟩ := y
 dsimp only at hk o ⊢
 have hcl := Z2m pl k
 have hcl2 := Z2m pl (k + 1)
 refine sqt 1 rfl (pur 1 rfl (Z0 ?_))
 refine Z1 rfl ?_ ?_ <;> intro hc2 <;> try simp only [cS] at hc2
 obtain ⟨x, hx⟩ : ∃ x, pl[k]? = some x := ⟨_, List.getElem?_eq_getElem (by omega)⟩
 have hst := Z3a hx
 have hsl := congrArg List.length hst
 rw [List.length_append] at hsl
 refine Zf (a := ap) (sz := 1) (rows := Zm pl) (ne0 (by rw [Zv]; omega)) (fun ba oa he => ?_)
 subst he
 refine Sy.heap (fun w h => St.inn (x := x) h (List.mem_of_getElem? hx)) ?_
 refine Z2 (Z0 (Z3 (sqt 3 rfl (sp rfl (PE.indexAddr Z6r rfl rfl (by omega) (by omega)) rfl (spL rfl rfl (lf0 Z1L (Z1h hx) rfl) rfl (pur 1 rfl (sqr 4 rfl (pur 2 rfl ?_))))))))
 refine apO (news := Z4 x.l) o rfl Z2y rfl rfl (Z5t) (irl _) (by simp [ZR, Z4, Value.oneCell']) (by rw [irl, irl]; omega) rfl (fun o33 => ?_)
 refine pur 1 rfl (sqr 2 rfl (sp rfl (PE.add rfl rfl (by omega)) rfl (pur 1 rfl ?_)))
 exact Za ⟨⟨k + 1, by omega⟩, o33.cast (by rw [hst]; simp [Z4])⟩ (fun w h => h.ftail)
 obtain rfl : k = pl.length := by omega
 refine Z7 (Z9 (Z9 (Zn (sqt 2 rfl (pur 2 rfl (Z5 ?_))))))
 exact rtA rfl rfl rfl ⟨o.cast (by unfold Z6e; rw [List.take_length]), rfl, rfl, rfl⟩ idH
theorem Z9n : cal Tryz.prog 68 = true := by kernel_rfl
def ZfM (h : Hse) (fr to_ : List Int) (spd : Int) (H : Z8) (R : Z6) : Value → Z8 → Z6 → Prop := fun v H' R' => H' = H ∧ R' = R ∧ ((h.rcE fr to_ spd ≠ 0 ∧ v = .tuple #[.int .i64 0, .int .i64 (h.rcE fr to_ spd)]) ∨
  (h.rcE fr to_ spd = 0 ∧ (∀ n, ¬ Pl h.gaps (msk to_) spd.toNat (msk fr) 0 n) ∧ v = .tuple #[.int .i64 0, .int .i64 6]) ∨
  (h.rcE fr to_ spd = 0 ∧ ∃ n : Nat, n ≤ 10 ∧ Lst (Pl h.gaps (msk to_) spd.toNat (msk fr) 0) n ∧ v = .tuple #[.int .i64 (n : Int), .int .i64 0]))
theorem Z6o {gs : List Gp} (hg : gs.length ≤ 10) : ∀ {ls : List Nat}, (∀ l ∈ ls, l < 2 ^ gs.length) → ((ls.map Z1z).flatten).length = Z8V gs ls
  | [], _ => rfl
  | l :: ls, h => by
    rw [List.map_cons, List.flatten_cons, List.length_append, Z6o hg (fun x hx => h x (List.mem_cons_of_mem _ hx)), Z44 (h l (by simp)) hg]; rfl
theorem St.norows9 {sz : Nat} {H : Z8} {R : Z6} {w : World} (h : St H R w) : St H (Inn [] :: RowsA none sz (Zm []) :: R) w := St.inn0 (St.norows (sz := sz) h)
set_option maxHeartbeats 400000 in
theorem Z9r (h : Hse) (ag as_ : Option Addr) (cg cs : Nat) (hlg : h.gaps.length ≤ 9223372036854775807) (hls : h.sights.length ≤ 9223372036854775807) (fr to_ : List Int) (af at_ : Option Addr) (cf ct : Nat) (hlf : fr.length ≤ 1000000) (hlt : to_.length ≤ 1000000) (hfc : fr.length ≤ cf) (htc : to_.length ≤ ct) (spd : Int) (H : Z8) (R : Z6) [hG : MemRows ag 2 (Zd h.gaps) R] [hS : MemRows as_ 3 (Ze h.sights) R] [hF : MemRows af 1 (Z4 fr) R] [hT : MemRows at_ 1 (Z4 to_) R] :
    Fn Tryz.prog 22 [h.v (h.sg ag cg) (h.ss as_ cs), .slice af fr.length cf, .slice at_ to_.length ct, .int .i64 spd] H R (ZfM h fr to_ spd H R) := by
 refine Zg Tryz.func22 rfl Tryz.ntmps22 rfl ?_
 refine sqt 3 rfl (bx rfl rfl rfl (fun b4 => pur 2 rfl (sqt 10 rfl (spL rfl rfl (lhA (htl h (h.sg ag cg) (h.ss as_ cs)) Z0y rfl rfl rfl) rfl (pur 3 rfl ?_)))))
 refine cl rfl ZdV rfl rfl (ZaG h ag as_ cg cs hlg hls fr to_ af at_ cf ct hlf hlt hfc htc spd _ _) ?_
 rintro _ _ R1 ⟨rfl, hq⟩
 rcases hq with ⟨h9, rfl, hR1⟩ | ⟨h9, hnp, rfl, hR1⟩ | ⟨h9, ls, pl, a, c, hll, hpk, hpc, hlb, hrun, hlst, rfl, hR1⟩
 all_goals obtain rfl := hR1.symm
 all_goals clear hR1
 refine pur 5 rfl (sqt 6 rfl ?_)
 refine Sy.heap (fun w h => St.norows9 (sz := 1) h) ?_
 refine pur 1 rfl ?_
 refine cl rfl Z9n rfl rfl (Z2I [] none 0 (by decide) (by decide) _ _) ?_
 rintro _ _ R1 ⟨o, rfl, rfl, hR1⟩
 obtain rfl := hR1.symm
 clear hR1
 obtain ⟨ao, co, heo, hfz⟩ := o.freeze
 rw [heo, irl]
 refine Sy.heap (fun w h => hfz h) ?_
 clear hfz heo
 refine sp rfl (PE.lenSl Zw rfl) rfl (pur 3 rfl (Z5 ?_))
 exact rtB rfl rfl rfl rfl ⟨rfl, rfl, .inl ⟨h9, rfl⟩⟩ (fun w h9 => St.sub (h9.del b4))
 refine pur 5 rfl (sqt 6 rfl ?_)
 refine Sy.heap (fun w h => St.norows9 (sz := 1) h) ?_
 refine pur 1 rfl ?_
 refine cl rfl Z9n rfl rfl (Z2I [] none 0 (by decide) (by decide) _ _) ?_
 rintro _ _ R1 ⟨o, rfl, rfl, hR1⟩
 obtain rfl := hR1.symm
 clear hR1
 obtain ⟨ao, co, heo, hfz⟩ := o.freeze
 rw [heo, irl]
 refine Sy.heap (fun w h => hfz h) ?_
 clear hfz heo
 refine sp rfl (PE.lenSl Zw rfl) rfl (pur 3 rfl (Z5 ?_))
 exact rtB rfl rfl rfl rfl ⟨rfl, rfl, .inr (.inl ⟨h9, hnp, rfl⟩)⟩ (fun w h9 => St.sub (h9.del b4))
 refine pur 5 rfl (sqt 6 rfl ?_)
 have hgl := (Zda h9).1.ok.gl
 have hlen : (lls pl).flatten.length = Z8V h.gaps ls := by rw [hll]; exact Z6o hgl hlb
 have hs10 := hlst.1.few
 have hpl : pl.length = ls.length := by have := congrArg List.length hll; rw [Z03, List.length_map] at this; exact this
 refine pur 1 rfl ?_
 refine cl rfl Z9n rfl rfl (Z2I pl a c (by omega) (by omega) _ _) ?_
 rintro _ _ R1 ⟨o, rfl, rfl, hR1⟩
 obtain rfl := hR1.symm
 clear hR1
 obtain ⟨ao, co, heo, hfz⟩ := o.freeze
 rw [heo, irl, hlen]
 refine Sy.heap (fun w h => hfz h) ?_
 clear hfz heo
 refine sp rfl (PE.lenSl Zw rfl) rfl (pur 3 rfl (Z5 ?_))
 exact rtB rfl rfl rfl rfl ⟨rfl, rfl, .inr (.inr ⟨h9, Z8V h.gaps ls, by omega, hlst, rfl⟩)⟩ (fun w h9 => St.sub (h9.del b4))
theorem Zed : cal Tryz.prog 148 = true := by kernel_rfl
theorem ZdM : cal Tryz.prog 149 = true := by kernel_rfl
theorem Zdy : cal Tryz.prog 173 = true := by kernel_rfl
theorem ZdL : cal Tryz.prog 84 = true := by kernel_rfl
theorem Zfy : cal Tryz.prog 95 = true := by kernel_rfl
theorem Zf8 : cal Tryz.prog 96 = true := by kernel_rfl
theorem Zf6 : cal Tryz.prog 97 = true := by kernel_rfl
def Hse.ledE (h : Hse) (fr to_ : List Int) (ls : List (List Int)) : Int := bif decide (h.botE fr to_ ≠ 0) then h.botE fr to_ else bif decide (Zy h.gaps.length ls.flatten ≠ 0) then Zy h.gaps.length ls.flatten else bif !(ls.all fun l => Z3w h.gaps 0 fr to_ l) then 8 else 0
def Hse.ledR (h : Hse) (fr to_ : List Int) (ls : List (List Int)) : Int := bif decide (h.ledE fr to_ ls = 0) then ls.length else 0
theorem Z85 (pl : List PL) (p : List Int → Bool) : (pl.all fun x => p x.l) = (lls pl).all p := by unfold lls; rw [List.all_map]; rfl
theorem Z2k {h : Hse} {fr to_ : List Int} {ls : List (List Int)} {e : Int} (he : h.ledE fr to_ ls = e) (h0 : e ≠ 0) : h.ledR fr to_ ls = 0 := by unfold Hse.ledR; rw [he, decide_eq_false h0]; rfl
theorem Z8m (xs : List PL) (a : Option Addr) (c g : Nat) (fst cap : List Value) (p : PL → Bool) (hg : cal Tryz.prog g = true) (hl : xs.length ≤ 9223372036854775807) (H : Z8) (R : Z6) [hR : MemRows a 1 (Zm xs) R] (hp : ∀ x, x ∈ xs → FnV Tryz.prog g (fst ++ [.slice x.a x.l.length x.c] ++ cap) H R (.bool (p x))) :
    FnV Tryz.prog 173 [.slice a xs.length c, .func (.func g) fst.toArray cap.toArray] H R (.int .i64 (match xs.findIdx? p with | some k => (k : Int) | none => -1)) := by
 refine Zg Tryz.func173 rfl Tryz.ntmps173 rfl ?_
 refine sqt 1 rfl (pur 1 rfl (Z0 (sqt 3 rfl (pur 1 rfl (sp rfl (PE.lenSl Z1E rfl) rfl (pur 1 rfl (Z3 ?_)))))))
 refine Zc (ι := {k : Nat // k ≤ xs.length ∧ ∀ x ∈ xs.take k, p x = false}) (fun k => ⟨[(0, .slice a xs.length c), (1, .func (.func g) fst.toArray cap.toArray), (7, .int .i64 xs.length), (8, .int .i64 k.1)], H, R⟩) (fun k => xs.length - k.1) ⟨0, by simp⟩ ?_ (fun k => ?_)
 exact Zj idH
 obtain ⟨k, hk, hn⟩ := k
 dsimp only
 refine sqt 1 rfl (pur 1 rfl (Z0 ?_))
 refine Z1 rfl ?_ ?_ <;> intro hc0
 simp only [cS] at hc0
 obtain ⟨x, hx⟩ : ∃ x, xs[k]? = some x := ⟨_, List.getElem?_eq_getElem (by omega)⟩
 have hxm := List.mem_of_getElem? hx
 refine Zf (a := a) (sz := 1) (rows := Zm xs) (by cases xs <;> simp_all [Zm]) (fun b off he => ?_)
 subst he
 refine Z2 (Z0 (Z3 (sqt 2 rfl (pur 2 rfl (sqt 6 rfl (pur 3 rfl (sp rfl (PE.indexAddr Z6r rfl rfl (by omega) (by omega)) rfl (spL rfl rfl (lf0 Z1L (by simp [Zm, hx]; rfl) rfl) rfl ?_))))))))
 refine Z6S rfl rfl (hg) rfl rfl (hp x hxm) ?_
 refine Z1 rfl ?_ ?_ <;> intro hc1
 refine sqt 2 rfl (pur 2 rfl (Z5 ?_))
 first | (exact rtA rfl rfl rfl ⟨by rw [Z0a hx hn hc1]; rfl, rfl, rfl⟩ idH) | (exact rtA rfl rfl rfl ⟨by rw [ZV (by simpa using hn)]; rfl, rfl, rfl⟩ idH)
 refine Z2 (sqr 2 rfl (sp rfl (PE.add rfl rfl (by omega)) rfl (pur 1 rfl ?_)))
 exact Za ⟨k + 1, by omega, Z1k hx hn hc1⟩ idH
 simp only [cS] at hc0
 obtain rfl : k = xs.length := by omega
 refine Z7 (Z9 (Z9 (Zn (sqt 1 rfl (pur 1 rfl (Z5 ?_))))))
 first | (exact rtA rfl rfl rfl ⟨by rw [Z0a hx hn hc1]; rfl, rfl, rfl⟩ idH) | (exact rtA rfl rfl rfl ⟨by rw [ZV (by simpa using hn)]; rfl, rfl, rfl⟩ idH)
theorem Z7s (xs : List PL) (a : Option Addr) (c g : Nat) (fst cap : List Value) (p : PL → Bool) (hg : cal Tryz.prog g = true) (hl : xs.length ≤ 9223372036854775807) (H : Z8) (R : Z6) [hR : MemRows a 1 (Zm xs) R] (hp : ∀ x, x ∈ xs → FnV Tryz.prog g (fst ++ [.slice x.a x.l.length x.c] ++ cap) H R (.bool (p x))) :
    FnV Tryz.prog 148 [.slice a xs.length c, .func (.func g) fst.toArray cap.toArray] H R (.bool (xs.any p)) := by
 refine Zg Tryz.func148 rfl Tryz.ntmps148 rfl ?_
 refine sqt 1 rfl (pur 1 rfl (sqt 5 rfl (pur 2 rfl ?_)))
 refine clV rfl Zdy rfl rfl (Z8m xs a c g fst cap p hg hl _ _ hp) ?_
 refine pur 2 rfl (Z5 ?_)
 exact rtA rfl rfl rfl ⟨by simp only [ZC]; exact Z2T _ _, rfl, rfl⟩ drp
theorem Z7Z (x : PL) (g bf : Nat) (fst cap : List Value) (p : Bool) (hg : cal Tryz.prog g = true) (H : Z8) (R : Z6) [hM : Mem1 bf (cel 145 [.func (.func g) fst.toArray cap.toArray]) H] (hp : FnV Tryz.prog g (fst ++ [.slice x.a x.l.length x.c] ++ cap) H R (.bool p)) :
    FnV Tryz.prog 149 [.slice x.a x.l.length x.c, .pointer (some ⟨bf, 0, none⟩)] H R (.bool !p) := by
 refine Zg Tryz.func149 rfl Tryz.ntmps149 rfl ?_
 refine sqt 1 rfl (pur 1 rfl (sqt 5 rfl (spL rfl rfl (lh Zdf rfl rfl) rfl (pur 1 rfl ?_))))
 refine Z6S rfl rfl (hg) rfl rfl (hp) ?_
 refine pur 2 rfl (Z5 ?_)
 exact rtA rfl rfl rfl ⟨rfl, rfl, rfl⟩ drp
theorem Z5r (xs : List PL) (a : Option Addr) (c g : Nat) (fst cap : List Value) (p : PL → Bool) (hg : cal Tryz.prog g = true) (hl : xs.length ≤ 9223372036854775807) (H : Z8) (R : Z6) [hR : MemRows a 1 (Zm xs) R] (hp : ∀ b x, x ∈ xs → FnV Tryz.prog g (fst ++ [.slice x.a x.l.length x.c] ++ cap) ((b, cel 145 [.func (.func g) fst.toArray cap.toArray]) :: H) R (.bool (p x))) :
    FnV Tryz.prog 95 [.slice a xs.length c, .func (.func g) fst.toArray cap.toArray] H R (.bool (xs.all p)) := by
 refine Zg Tryz.func95 rfl Tryz.ntmps95 rfl ?_
 refine sqt 2 rfl (bx rfl rfl rfl (fun b3 => pur 1 rfl (sqt 5 rfl (pur 1 rfl (sp rfl (PE.makeFunc rfl rfl) rfl ?_)))))
 refine clV rfl Zed rfl rfl (Z7s xs a c 149 [] [_] (fun x => !p x) ZdM hl _ _ (hp := fun x hx => Z7Z x g _ fst cap (p x) hg _ _ (hp := hp _ x hx))) ?_
 refine pur 2 rfl (Z5 ?_)
 exact rtA rfl rfl rfl ⟨by simp only [ZC]; rw [Z15], rfl, rfl⟩ drp
theorem Z8Z (h : Hse) (ag as_ : Option Addr) (cg cs : Nat) (hok : h.ok) (fr to_ : List Int) (af at_ : Option Addr) (cf ct b4 b5 b6 : Nat) (hfr : ∀ x ∈ fr, 0 ≤ x ∧ x < 7) (hfl : fr.length ≤ 1000) (hnt : to_.length ≤ 1000000) (x : PL) (pl : List PL) (hxm : x ∈ pl) (hp : ∀ k ∈ x.l, 0 ≤ k) (hpl : x.l.length ≤ 1000000) (H : Z8) (R : Z6) [hG : MemRows ag 2 (Zd h.gaps) R] [hS : MemRows as_ 3 (Ze h.sights) R] [hF : MemRows af 1 (Z4 fr) R] [hT : MemRows at_ 1 (Z4 to_) R] [m4 : Mem1 b4 (cel 25 (htl h (h.sg ag cg) (h.ss as_ cs))) H] [m5 : Mem1 b5 (cel 26 [.slice af fr.length cf]) H] [m6 : Mem1 b6 (cel 26 [.slice at_ to_.length ct]) H] [hI : MemF (Inn pl) R] :
    FnV Tryz.prog 96 [.slice x.a x.l.length x.c, .pointer (some ⟨b4, 0, none⟩), .pointer (some ⟨b5, 0, none⟩), .pointer (some ⟨b6, 0, none⟩)] H R (.bool (Z3w h.gaps 0 fr to_ x.l)) := by
 refine Zg Tryz.func96 rfl Tryz.ntmps96 rfl ?_
 refine sqt 1 rfl ?_
 refine Sy.heap (fun w h => St.inn (x := x) h hxm) ?_
 refine pur 1 rfl (Z0 ?_)
 refine Zo [0, 1, 0, 0, 0, 31, 63] (.ld 0 (.ld 2 (.ld 3 (.tk 4 (.big 1 (.big 5 (.tk 6 .done))))))) ZG (by kernel_rfl) ?_
 refine ld rfl rfl (lhA (htl h (h.sg ag cg) (h.ss as_ cs)) Z0y rfl rfl rfl) rfl (ld rfl rfl (lh Z1L rfl rfl) rfl (ld rfl rfl (lh Z1L rfl rfl) rfl (Zx 1 rfl ?_)))
 refine cl rfl Z5w rfl rfl (Z5z h ag as_ cg cs _ _) ?_
 rintro _ _ _ ⟨bd, rfl, rfl, rfl⟩
 refine bg (fun w hs => ⟨(lh Z1L rfl rfl) w hs, (lh Z1L rfl rfl) w hs, trivial, trivial⟩) ?_
 refine clV rfl Zf6 rfl rfl (Zc0 (dkA h ag as_ cg cs bd) (Z0D h ag as_ cg cs hok bd) fr to_ x.l af at_ x.a cf ct x.c hfr hfl hnt hp hpl _ _) ?_
 refine bgT (Zx 1 rfl (Z5 ?_))
 exact rtA rfl rfl rfl ⟨rfl, rfl, rfl⟩ (fun w h9 => h9.ftail.ftail)
set_option maxHeartbeats 400000 in
theorem Z8E (h : Hse) (ag as_ : Option Addr) (cg cs : Nat) (hlg : h.gaps.length ≤ 9223372036854775807) (hls : h.sights.length ≤ 9223372036854775807) (fr to_ : List Int) (af at_ : Option Addr) (cf ct : Nat) (hlf : fr.length ≤ 1000000) (hlt : to_.length ≤ 1000000) (hfc : fr.length ≤ cf) (htc : to_.length ≤ ct) (pl : List PL) (ap : Option Addr) (cp : Nat) (hpl : pl.length ≤ 1000000) (htot : (lls pl).flatten.length ≤ 1000000) (H : Z8) (R : Z6) [hG : MemRows ag 2 (Zd h.gaps) R] [hS : MemRows as_ 3 (Ze h.sights) R] [hF : MemRows af 1 (Z4 fr) R] [hT : MemRows at_ 1 (Z4 to_) R] [hP : MemRows ap 1 (Zm pl) R] [hI : MemF (Inn pl) R] :
    FnV Tryz.prog 36 [h.v (h.sg ag cg) (h.ss as_ cs), .slice af fr.length cf, .slice at_ to_.length ct, .slice ap pl.length cp] H R (.tuple #[.int .i64 (h.ledR fr to_ (lls pl)), .int .i64 (h.ledE fr to_ (lls pl))]) := by
 refine Zg Tryz.func36 rfl Tryz.ntmps36 rfl ?_
 refine sqt 5 rfl (bx rfl rfl rfl (fun b4 => bx rfl rfl rfl (fun b5 => bx rfl rfl rfl (fun b6 => pur 2 rfl (Z0 (sqt 5 rfl (spL rfl rfl (lhA (htl h (h.sg ag cg) (h.ss as_ cs)) Z0y rfl rfl rfl) rfl (spL rfl rfl (lh Z1L rfl rfl) rfl (spL rfl rfl (lh Z1L rfl rfl) rfl ?_)))))))))
 refine clV rfl Z6t rfl rfl (Z3H h ag as_ cg cs hlg hls fr to_ af at_ cf ct (by omega) (by omega) hfc htc _ _) ?_
 refine pur 1 rfl (sqt 2 rfl (pur 2 rfl ?_))
 refine Z1 rfl ?_ ?_ <;> intro hc0
 have hbe : h.botE fr to_ ≠ 0 := of_decide_eq_true hc0
 have e : h.ledE fr to_ (lls pl) = h.botE fr to_ := by unfold Hse.ledE; rw [dT hbe]; rfl
 refine sqt 3 rfl (pur 3 rfl (Z5 ?_))
 exact rtB rfl rfl rfl rfl ⟨by rw [Z2k e (by assumption), e] <;> rfl, rfl, rfl⟩ drp
 have hbe : h.botE fr to_ = 0 := Classical.byContradiction fun e => by rw [decide_eq_true e] at hc0; cases hc0
 have hb := Z0u hbe
 obtain ⟨q1, q2, q3, q4, q5, q6⟩ := ZD hb
 have hok := hb.ok
 refine Z2 (Z0 (Z0 ?_))
 refine Zo [0, 1, 0, 4, 15, 31] (.tk 0 (.ld 2 (.tk 3 (.big 1 (.big 4 (.tk 5 .done)))))) ZG (by kernel_rfl) ?_
 refine Zx 1 rfl (ld rfl rfl (lhA (htl h (h.sg ag cg) (h.ss as_ cs)) Z0y rfl rfl rfl) rfl (tk rfl (PE.makeFunc rfl rfl) rfl ?_))
 refine cl rfl Z9n rfl rfl (Z2I pl ap cp hpl htot _ _) ?_
 rintro _ _ R1 ⟨o, rfl, rfl, hR1⟩
 obtain rfl := hR1.symm
 clear hR1
 obtain ⟨ac, cc, heo, hcc, hfz⟩ := o.freezeC
 rw [irl] at hcc
 rw [heo, irl]
 refine Sy.heap (fun w h => hfz h) ?_
 clear hfz heo
 refine bg (fun w hs => ⟨(lhA (htl h (h.sg ag cg) (h.ss as_ cs)) Z0y rfl rfl rfl) w hs, trivial⟩) ?_
 refine clV rfl Z9a rfl rfl (Z2F (lls pl).flatten ac cc 84 [h.v (h.sg ag cg) (h.ss as_ cs)] [] (fun k => inB k 0 ((h.gaps.length : Int) - 1)) ZdL (by omega) hcc _ _ (fun _ z _ => Zev h (by have := hok.gl; omega) ag cg (h.ss as_ cs) z _ _)) ?_
 refine bgT (Zx 1 rfl (sqt 2 rfl (pur 2 rfl ?_)))
 refine Z1 rfl ?_ ?_ <;> intro hc1
 have hle : Zy h.gaps.length (lls pl).flatten ≠ 0 := of_decide_eq_true hc1
 have e : h.ledE fr to_ (lls pl) = Zy h.gaps.length (lls pl).flatten := by unfold Hse.ledE; rw [hbe, dT hle]; rfl
 refine sqt 3 rfl (pur 3 rfl (Z5 ?_))
 exact rtB rfl rfl rfl rfl ⟨by rw [Z2k e (by assumption), e] <;> rfl, rfl, rfl⟩ (fun w h9 => St.sub (((h9.del b6).del b5).del b4))
 have hle : Zy h.gaps.length (lls pl).flatten = 0 := Classical.byContradiction fun e => by rw [show decide (Zai (fun k => inB k 0 ((h.gaps.length : Int) - 1)) (lls pl).flatten ≠ 0) = true from decide_eq_true e] at hc1; cases hc1
 have hlx := (ZA hle).1
 have hin : ∀ x ∈ pl, (∀ k ∈ x.l, 0 ≤ k) ∧ x.l.length ≤ 1000000 := fun x hx => by
   have hm : x.l ∈ lls pl := List.mem_map.2 ⟨x, hx, rfl⟩
   refine ⟨fun k hk => (hlx k (List.mem_flatten.2 ⟨_, hm, hk⟩)).1, ?_⟩
   have := List.Sublist.length_le (List.sublist_flatten_of_mem hm)
   omega
 refine Z2 (Z0 (sqt 4 rfl (pur 1 rfl (sp rfl (PE.makeFunc rfl rfl) rfl ?_))))
 refine clV rfl Zfy rfl rfl (Z5r pl ap cp 96 [] [_, _, _] (fun x => Z3w h.gaps 0 fr to_ x.l) Zf8 (by omega) _ _ (fun _ x hx => Z8Z h ag as_ cg cs hok fr to_ af at_ cf ct b4 b5 b6 q1 (by omega) hlt x pl hx (hin x hx).1 (hin x hx).2 _ _)) ?_
 refine pur 1 rfl ?_
 refine Z1 rfl ?_ ?_ <;> intro hc2
 have hc9 : (!(pl.all fun x => Z3w h.gaps 0 fr to_ x.l)) = true := hc2
 rw [Z85 pl (fun l => Z3w h.gaps 0 fr to_ l)] at hc9
 have h8 : (8 : Int) ≠ 0 := by decide
 have e : h.ledE fr to_ (lls pl) = 8 := by unfold Hse.ledE; rw [hbe, hle, hc9]; rfl
 refine sqt 2 rfl (pur 2 rfl (Z5 ?_))
 exact rtB rfl rfl rfl rfl ⟨by rw [Z2k e (by assumption), e] <;> rfl, rfl, rfl⟩ (fun w h9 => St.sub (((h9.del b6).del b5).del b4))
 have hc9 : (!(pl.all fun x => Z3w h.gaps 0 fr to_ x.l)) = false := hc2
 rw [Z85 pl (fun l => Z3w h.gaps 0 fr to_ l)] at hc9
 have e : h.ledE fr to_ (lls pl) = 0 := by unfold Hse.ledE; rw [hbe, hle, hc9]; rfl
 have er : h.ledR fr to_ (lls pl) = pl.length := by unfold Hse.ledR; rw [e, Z03]; rfl
 refine Z2 (sqt 4 rfl (pur 1 rfl (sp rfl (PE.lenSl Z1E rfl) rfl (pur 2 rfl (Z5 ?_)))))
 exact rtB rfl rfl rfl rfl ⟨by rw [er, e] <;> rfl, rfl, rfl⟩ (fun w h9 => St.sub (((h9.del b6).del b5).del b4))
theorem ZfD : Z0w Tryz.prog 25 = some 3 := by kernel_rfl
theorem ZfI : Z1j Tryz.prog 25 = some [(0, 1), (1, 1), (2, 1)] := by kernel_rfl
theorem Zf1 : Z1j Tryz.prog 67 = some [(0, 1), (1, 1), (2, 1)] := by kernel_rfl
theorem Zg0 : slE Tryz.prog 22 = some (97, 2) := by kernel_rfl
theorem Zew : ZS Tryz.prog 25 = some ([.int .i64 0, .slice none 0 0, .slice none 0 0]) := by kernel_rfl
def Z6T : List Gp := [⟨0, 1⟩, ⟨0, 2⟩, ⟨1, 3⟩, ⟨2, 3⟩, ⟨3, 4⟩, ⟨4, 5⟩, ⟨1, 2⟩]
def sixS : List Sgt := [⟨2, 3, true⟩, ⟨1, 1, false⟩, ⟨2, 4, false⟩]
abbrev six (k : Nat) : Hse := ⟨6, Z6T, sixS.take k⟩
theorem Z6O (l : List Sgt) (k : Nat) : (Ze l).take k = Ze (l.take k) := (List.map_take).symm
theorem Zbd {k : Nat} (hk : k ≤ 3) : (six k).sights.length = k := by
  show (sixS.take k).length = k
  rw [List.length_take]; show min k 3 = k; omega
set_option maxHeartbeats 400000 in
theorem Z4L (k : Nat) (hk : k ≤ 3) (H : Z8) (R : Z6) :
    Fn Tryz.prog 69 [.int .i64 (k : Int)] H R (fun v H' R' => ∃ (ag as_ : Option Addr) (cg cs : Nat), v = (six k).v ((six k).sg ag cg) ((six k).ss as_ cs) ∧ k ≤ cs ∧ H' = H ∧ R' = RowsA ag 2 (Zd (six k).gaps) :: RowsA as_ 3 (Ze (six k).sights) :: R) := by
 refine Zg Tryz.func69 rfl Tryz.ntmps69 rfl ?_
 refine sqt 1 rfl (alc rfl Zew rfl (fun b2 => sqt 5 rfl (sp rfl (PE.build (out := [_, _, _]) Zf1 ZaX rfl rfl) rfl (sp rfl (PE.build (out := [_, _, _]) Zf1 ZaX rfl rfl) rfl (sp rfl (PE.build (out := [_, _, _]) Zf1 ZaX rfl rfl) rfl ?_)))))
 refine bsl (out := [_, _, _, _, _, _, _, _, _]) rfl Zfj ZaX rfl rfl rfl rfl rfl rfl (fun b7 => ?_)
 refine pur 1 rfl (sqt 17 rfl (sp rfl (PE.build (out := [_, _]) ZaH Z51 rfl rfl) rfl (sp rfl (PE.build (out := [_, _]) ZaH Z51 rfl rfl) rfl (sp rfl (PE.build (out := [_, _]) ZaH Z51 rfl rfl) rfl (sp rfl (PE.build (out := [_, _]) ZaH Z51 rfl rfl) rfl (sp rfl (PE.build (out := [_, _]) ZaH Z51 rfl rfl) rfl (sp rfl (PE.build (out := [_, _]) ZaH Z51 rfl rfl) rfl (sp rfl (PE.build (out := [_, _]) ZaH Z51 rfl rfl) rfl ?_))))))))
 refine bsl (out := [_, _, _, _, _, _, _, _, _, _, _, _, _, _]) rfl Zg0 Z51 rfl rfl rfl rfl rfl rfl (fun b15 => ?_)
 refine pur 3 rfl (sp rfl (PE.lenSl Z3x rfl) rfl (sp rfl (PE.min rfl rfl) rfl (sp rfl (PE.max rfl rfl) rfl ?_)))
 rw [show max (0 : Int) (min (k : Int) ((3 : Nat) : Int)) = (k : Int) by omega]
 refine sp rfl (PE.slHi (h := k) Zfj rfl rfl (by omega)) rfl (sp rfl (PE.build (out := [_, _, _]) ZfI Zew rfl rfl) rfl ?_)
 refine ZT (l' := [.int .i64 6, .slice (some ⟨b15, 0, none⟩) 7 7, .slice (some ⟨b7, 0, none⟩) k 3]) rfl rfl rfl ZfD rfl rfl rfl rfl (nl rfl) ?_
 refine Z5 ?_
 refine Sy.heap (fun w h9 => St.rows (sz := 3) (rows := Ze sixS) (rest := []) (h9.pull b7) (by simp [Ze, sixS, Z1S])) ?_
 refine Sy.heap (fun w h9 => St.rows (sz := 2) (rows := Zd Z6T) (rest := []) (h9.pull b15) (by simp [Zd, Z6T, grow])) ?_
 refine Sy.heap (fun w h9 => (show St _ (RowsA (some ⟨b7, 0, none⟩) 3 (Ze (sixS.take k)) :: _) w from Z6O sixS k ▸ St.rowsTake (a := some ⟨b7, 0, none⟩) (sz := 3) (rows := Ze sixS) h9 k)) ?_
 exact Zp (vs := [_]) rfl (.cons (RV.cell rfl (lhA [_, _, _] Z0y rfl rfl rfl)) .nil) rfl ⟨some ⟨b15, 0, none⟩, some ⟨b7, 0, none⟩, 7, 3, by unfold Hse.v Hse.sg Hse.ss htl; rw [Zbd hk]; rfl, hk, rfl, rfl⟩ (fun w h9 => St.sub (h9.del b2))
theorem ZdJ : cal Tryz.prog 89 = true := by kernel_rfl
theorem Z4r : Wth Z6T 7 := by
  intro g hg
  simp only [Z6T, List.mem_cons, List.not_mem_nil, or_false] at hg
  rcases hg with rfl | rfl | rfl | rfl | rfl | rfl | rfl <;> decide
theorem six_w : ((six 0).weeksR [0]).1 = [0, 1, 1, 2, 3, 4] ∧ ((six 0).weeksR [0]).2 = 0 := ⟨by kernel_rfl, by kernel_rfl⟩
theorem six_o : ((six 2).orgR).1 = [4] ∧ ((six 2).orgR).2 = 0 := ⟨by kernel_rfl, by kernel_rfl⟩
theorem six_s : ((six 2).surR 1).1 = [4, 5] ∧ ((six 2).surR 1).2 = 0 := ⟨by kernel_rfl, by kernel_rfl⟩
theorem six_c : ((six 3).claR).1 = [0, 1, 2] ∧ ((six 3).claR).2 = 0 := ⟨by kernel_rfl, by kernel_rfl⟩
theorem six_l : (six 0).ledR [0] [3] [[0, 2], [1, 3]] = 2 ∧ (six 0).ledE [0] [3] [[0, 2], [1, 3]] = 0 := ⟨by kernel_rfl, by kernel_rfl⟩
theorem six_b : (six 0).botE [0] [5] = 0 ∧ (six 0).botE [0] [3] = 0 ∧ (six 0).rcE [0] [1] 1 = 0 := ⟨by kernel_rfl, by kernel_rfl, by kernel_rfl⟩
theorem Zep : plD Z6T 2 1 8 1 0 3 = true := by kernel_rfl
theorem ZdQ : plD Z6T 2 1 8 1 0 2 = false := by kernel_rfl
theorem ZcL : plD Z6T 8 0 8 1 0 10 = false := by kernel_rfl
theorem Zdn : plD Z6T 8 1 8 1 0 10 = true := by kernel_rfl
theorem Zdc : plD Z6T 32 10 8 1 0 1 = true := by kernel_rfl
theorem Zd1 : plD Z6T 32 10 8 1 0 0 = false := by kernel_rfl
theorem six_few : Lst (Pl (six 0).gaps (msk [1]) (1 : Int).toNat (msk [0]) 0) 3 := Z8s Z4r (by decide) Zep ZdQ
theorem Zbp : Lst (Pl (six 0).gaps (msk [5]) 10 (msk [0]) 0) 1 := Z8s Z4r (by decide) Zdc Zd1
theorem Zbs {s : Nat} (h1 : ∃ n, Pl (six 0).gaps (msk [3]) s (msk [0]) 0 n) (h2 : ∀ s', s' < s → ∀ n, ¬ Pl (six 0).gaps (msk [3]) s' (msk [0]) 0 n) : s = 1 := by
  rcases Nat.lt_trichotomy s 1 with h3 | h3 | h3
  · obtain rfl : s = 0 := by omega
    obtain ⟨n, hn⟩ := h1
    have hf := hn.few
    have h4 := Z5q (n := 10) (f := 8) Z4r (by decide) (by omega) hn (by have : (six 0).gaps.length = 7 := rfl; omega)
    have h5 : plD Z6T 8 0 8 1 0 10 = true := h4
    rw [ZcL] at h5
    cases h5
  · exact h3
  · obtain ⟨k, _, hk⟩ := Z4l Zdn
    exact absurd hk (h2 1 h3 k)
theorem Z6Q {f : Nat → Int} {V : List (Nat × Int)} (hf : Flw f (msk [0]) (msk [5]) (six 0).gaps) (hs : Shn (six 0).gaps (fun _ => true) f (msk [0]) (msk [5]) V) : (Z0P (Z0I V) (six 0).gaps).length = 1 := by
  have hc := (hs.cut (Z2i (Z0u six_b.1)) hf).1
  have hl : (Z0P (Z0I V) (six 0).gaps).length ≤ 7 := by
    unfold Z0P
    rw [List.length_map]
    exact Nat.le_trans (List.length_filter_le _ _) (by decide)
  exact (Cut.plan (sp := 10) Z4r (by decide) hc (by omega)).unique Zbp
theorem Z6g (xs ys : List Int) (a a2 : Option Addr) (c c2 : Nat) (hl : xs.length ≤ 9223372036854775807) (hl2 : ys.length ≤ 9223372036854775807) (H : Z8) (R : Z6) [hR : MemRows a 1 (Z4 xs) R] [hR2 : MemRows a2 1 (Z4 ys) R] :
    FnV Tryz.prog 89 [.slice a xs.length c, .slice a2 ys.length c2] H R (.bool (decide (xs = ys))) := by
 refine Zg Tryz.func89 rfl Tryz.ntmps89 rfl ?_
 refine sqt 1 rfl (pur 1 rfl (Z0 (sqt 5 rfl (pur 1 rfl (sp rfl (PE.lenSl Zw rfl) rfl (pur 1 rfl (sp rfl (PE.lenSl Zw rfl) rfl (pur 1 rfl ?_))))))))
 refine Z1 rfl ?_ ?_ <;> intro hc0
 have hne : xs ≠ ys := fun e => by subst e; simp at hc0
 refine sqt 1 rfl (pur 1 rfl (Z5 ?_))
 exact rtA rfl rfl rfl ⟨by first | (simp only [ZC]; rw [dT heq]; done) | (simp only [ZC]; rw [dF hne]), rfl, rfl⟩ idH
 have hle : xs.length = ys.length := by simp only [cS] at hc0; omega
 refine Z2 (Z0 (sqt 3 rfl (pur 1 rfl (sp rfl (PE.lenSl Zw rfl) rfl (pur 1 rfl (Z3 ?_))))))
 refine Zc (ι := {k : Nat // k ≤ xs.length ∧ xs.take k = ys.take k}) (fun k => ⟨[(0, .slice a xs.length c), (1, .slice a2 ys.length c2), (12, .int .i64 xs.length), (13, .int .i64 k.1)], H, R⟩) (fun k => xs.length - k.1) ⟨0, by simp⟩ ?_ (fun k => ?_)
 exact Zj idH
 obtain ⟨k, hk, hn⟩ := k
 dsimp only
 refine sqt 1 rfl (pur 1 rfl (Z0 ?_))
 refine Z1 rfl ?_ ?_ <;> intro hc1
 simp only [cS] at hc1
 obtain ⟨x, hx⟩ : ∃ x, xs[k]? = some x := ⟨_, List.getElem?_eq_getElem (by omega)⟩
 obtain ⟨z, hz⟩ : ∃ z, ys[k]? = some z := ⟨_, List.getElem?_eq_getElem (by omega)⟩
 refine Zf (a := a) (sz := 1) (rows := Z4 xs) (by intro h0; simp [Z4] at h0; simp [h0] at hx) (fun b off he => ?_)
 subst he
 refine Zf (a := a2) (sz := 1) (rows := Z4 ys) (by intro h0; simp [Z4] at h0; simp [h0] at hz) (fun b2 off2 he => ?_)
 subst he
 refine Z2 (Z0 (Z3 (sqt 2 rfl (pur 2 rfl (Z0 ?_)))))
 refine Zo [0, 0, 3, 7, 0, 0, 48, 112, 255] (tks 0 3 (.ld 3 (tks 4 3 (.ld 7 (.tk 8 .done))))) ZG (by kernel_rfl) ?_
 refine Zx 2 rfl (tk rfl (PE.indexAddr Z1e rfl rfl (by omega) (by omega)) rfl (ld rfl rfl (lf0 sc3 (by simp [Z4, hx]; rfl) rfl) rfl (Zx 2 rfl (tk rfl (PE.indexAddr Z1e rfl rfl (by omega) (by omega)) rfl (ld rfl rfl (lf0 sc3 (by simp [Z4, hz]; rfl) rfl) rfl (Zx 1 rfl ?_))))))
 refine Z1 rfl ?_ ?_ <;> intro hc2
 have hne : xs ≠ ys := fun e => by subst e; rw [hx] at hz; cases hz; simp at hc2
 refine sqt 1 rfl (pur 1 rfl (Z5 ?_))
 exact rtA rfl rfl rfl ⟨by first | (simp only [ZC]; rw [dT heq]; done) | (simp only [ZC]; rw [dF hne]), rfl, rfl⟩ idH
 have hxz : x = z := by simpa using hc2
 refine Z2 (sqr 2 rfl (sp rfl (PE.add rfl rfl (by omega)) rfl (pur 1 rfl ?_)))
 exact Za ⟨k + 1, by omega, by rw [List.take_add_one, List.take_add_one, hn, hx, hz, hxz]⟩ idH
 simp only [cS] at hc1
 obtain rfl : k = xs.length := by omega
 have heq : xs = ys := by
   rw [List.take_length] at hn
   exact hn.trans (by rw [hle]; exact List.take_length)
 refine Z7 (Z9 (Z9 (Zn (sqt 1 rfl (pur 1 rfl (Z5 ?_))))))
 exact rtA rfl rfl rfl ⟨by first | (simp only [ZC]; rw [dT heq]; done) | (simp only [ZC]; rw [dF hne]), rfl, rfl⟩ idH
theorem Z17 (xs ys : List Int) (a a2 : Option Addr) (c c2 : Nat) (hl : xs.length ≤ 9223372036854775807) (hl2 : ys.length ≤ 9223372036854775807) (H : Z8) (R : Z6) [hR : MemRows a 1 (Z4 xs) R] [hR2 : MemRows a2 1 (Z4 ys) R] :
    FnV Tryz.prog 26 [.slice a xs.length c, .slice a2 ys.length c2] H R (.bool (decide (xs = ys))) := by
 refine Zg Tryz.func26 rfl Tryz.ntmps26 rfl ?_
 refine sqt 1 rfl (pur 1 rfl (sqt 4 rfl (pur 2 rfl ?_)))
 refine clV rfl ZdJ rfl rfl (Z6g xs ys a a2 c c2 hl hl2 _ _) ?_
 refine pur 1 rfl (Z5 ?_)
 exact rtA rfl rfl rfl ⟨rfl, rfl, rfl⟩ drp
theorem ZeK : cal Tryz.prog 22 = true := by kernel_rfl
theorem ZeG : cal Tryz.prog 24 = true := by kernel_rfl
theorem Z55 : cal Tryz.prog 26 = true := by kernel_rfl
theorem ZcM : cal Tryz.prog 33 = true := by kernel_rfl
theorem Zde : cal Tryz.prog 36 = true := by kernel_rfl
theorem ZeQ : cal Tryz.prog 41 = true := by kernel_rfl
theorem ZeD : cal Tryz.prog 49 = true := by kernel_rfl
theorem Zfb : cal Tryz.prog 51 = true := by kernel_rfl
theorem ZeN : cal Tryz.prog 53 = true := by kernel_rfl
theorem Z4I : cal Tryz.prog 69 = true := by kernel_rfl
set_option maxHeartbeats 1000000 in
theorem Z4j (H : Z8) (R : Z6) :
    FnV Tryz.prog 11 [] H R (.bool true) := by
 refine Zg Tryz.func11 rfl Tryz.ntmps11 rfl ?_
 refine sqt 1 rfl (pur 1 rfl (sqt 8 rfl ?_))
 refine cl rfl Z4I rfl rfl (Z4L 0 (by decide) _ _) ?_
 rintro _ _ R1 ⟨ag18, as18, cg18, cs18, rfl, _, rfl, hR1⟩
 obtain rfl := hR1.symm
 clear hR1
 refine bsl (out := [_]) rfl Z0H zl3 rfl rfl rfl rfl rfl rfl (fun b19 => ?_)
 refine Sy.heap (fun w h9 => St.rows (sz := 1) (rows := Z4 [0]) (rest := []) (h9.pull b19) (by simp)) ?_
 refine cl rfl ZeQ rfl rfl (Zbi (six 0) ag18 as18 cg18 cs18 (by decide) (by decide) [0] (some ⟨b19, 0, none⟩) 1 (by decide) (by decide) _ _) ?_
 rintro _ _ R1 ⟨a1, c1, _, rfl, rfl, hR1⟩
 obtain rfl := hR1.symm
 clear hR1
 rw [six_w.1, six_w.2]
 refine pur 5 rfl (sqt 7 rfl ?_)
 refine cl rfl Z4I rfl rfl (Z4L 2 (by decide) _ _) ?_
 rintro _ _ R1 ⟨ag24, as24, cg24, cs24, rfl, _, rfl, hR1⟩
 obtain rfl := hR1.symm
 clear hR1
 refine cl rfl ZeD rfl rfl (Z7x (six 2) ag24 as24 cg24 cs24 (by decide) (by decide) _ _) ?_
 rintro _ _ R1 ⟨a2, c2, _, rfl, rfl, hR1⟩
 obtain rfl := hR1.symm
 clear hR1
 rw [six_o.1, six_o.2]
 refine pur 5 rfl (sqt 7 rfl ?_)
 refine cl rfl Z4I rfl rfl (Z4L 2 (by decide) _ _) ?_
 rintro _ _ R1 ⟨ag29, as29, cg29, cs29, rfl, _, rfl, hR1⟩
 obtain rfl := hR1.symm
 clear hR1
 refine cl rfl Zfb rfl rfl (Z9l (six 2) ag29 as29 cg29 cs29 (by decide) (by decide) 1 _ _) ?_
 rintro _ _ R1 ⟨a3, c3, _, rfl, rfl, hR1⟩
 obtain rfl := hR1.symm
 clear hR1
 rw [six_s.1, six_s.2]
 refine pur 5 rfl (sqt 7 rfl ?_)
 refine cl rfl Z4I rfl rfl (Z4L 3 (by decide) _ _) ?_
 rintro _ _ R1 ⟨ag34, as34, cg34, cs34, rfl, _, rfl, hR1⟩
 obtain rfl := hR1.symm
 clear hR1
 refine cl rfl ZeN rfl rfl (Zbn (six 3) ag34 as34 cg34 cs34 (by decide) (by decide) _ _) ?_
 rintro _ _ R1 ⟨a4, c4, _, rfl, rfl, hR1⟩
 obtain rfl := hR1.symm
 clear hR1
 rw [six_c.1, six_c.2]
 refine pur 5 rfl (sqt 9 rfl ?_)
 refine cl rfl Z4I rfl rfl (Z4L 0 (by decide) _ _) ?_
 rintro _ _ R1 ⟨ag39, as39, cg39, cs39, rfl, _, rfl, hR1⟩
 obtain rfl := hR1.symm
 clear hR1
 refine bsl (out := [_]) rfl Z0H zl3 rfl rfl rfl rfl rfl rfl (fun b40 => ?_)
 refine bsl (out := [_]) rfl Z0H zl3 rfl rfl rfl rfl rfl rfl (fun b41 => ?_)
 refine Sy.heap (fun w h9 => St.rows (sz := 1) (rows := Z4 [0]) (rest := []) (h9.pull b40) (by simp)) ?_
 refine Sy.heap (fun w h9 => St.rows (sz := 1) (rows := Z4 [1]) (rest := []) (h9.pull b41) (by simp)) ?_
 refine cl rfl ZeK rfl rfl (Z9r (six 0) ag39 as39 cg39 cs39 (by decide) (by decide) [0] [1] (some ⟨b40, 0, none⟩) (some ⟨b41, 0, none⟩) 1 1 (by decide) (by decide) (by decide) (by decide) 1 _ _) ?_
 rintro _ _ R1 ⟨rfl, hR1, hq⟩
 obtain rfl := hR1.symm
 clear hR1
 rcases hq with ⟨h9, _⟩ | ⟨_, hn, _⟩ | ⟨_, n, _, hn, rfl⟩
 · exact absurd six_b.2.2 h9
 · exact absurd six_few.1 (hn 3)
 obtain rfl := hn.unique six_few
 refine pur 5 rfl (sqt 12 rfl ?_)
 refine cl rfl Z4I rfl rfl (Z4L 0 (by decide) _ _) ?_
 rintro _ _ R1 ⟨ag46, as46, cg46, cs46, rfl, _, rfl, hR1⟩
 obtain rfl := hR1.symm
 clear hR1
 refine bsl (out := [_]) rfl Z0H zl3 rfl rfl rfl rfl rfl rfl (fun b47 => ?_)
 refine bsl (out := [_]) rfl Z0H zl3 rfl rfl rfl rfl rfl rfl (fun b48 => ?_)
 refine bsl (out := [_, _]) rfl Z0H zl3 rfl rfl rfl rfl rfl rfl (fun b49 => ?_)
 refine bsl (out := [_, _]) rfl Z0H zl3 rfl rfl rfl rfl rfl rfl (fun b50 => ?_)
 refine bsl (out := [_, _]) rfl Zcr Z8U rfl rfl rfl rfl rfl rfl (fun b51 => ?_)
 refine Sy.heap (fun w h9 => St.rows (sz := 1) (rows := Z4 [0]) (rest := []) (h9.pull b47) (by simp)) ?_
 refine Sy.heap (fun w h9 => St.rows (sz := 1) (rows := Z4 [3]) (rest := []) (h9.pull b48) (by simp)) ?_
 refine Sy.heap (fun w h9 => St.rows (sz := 1) (rows := Z4 [0, 2]) (rest := []) (h9.pull b49) (by simp)) ?_
 refine Sy.heap (fun w h9 => St.rows (sz := 1) (rows := Z4 [1, 3]) (rest := []) (h9.pull b50) (by simp)) ?_
 refine Sy.heap (fun w h9 => St.rows (sz := 1) (rows := Zm [⟨some ⟨b49, 0, none⟩, 2, [0, 2]⟩, ⟨some ⟨b50, 0, none⟩, 2, [1, 3]⟩]) (rest := []) (h9.pull b51) (by simp [Zm, Z37])) ?_
 refine Sy.heap (fun w h9 => St.inn0 h9) ?_
 refine Sy.heap (fun w h9 => (show St _ (Inn [⟨some ⟨b49, 0, none⟩, 2, [0, 2]⟩] :: _) w from St.innSnoc (l := []) ⟨some ⟨b49, 0, none⟩, 2, [0, 2]⟩ h9)) ?_
 refine Sy.heap (fun w h9 => (show St _ (Inn [⟨some ⟨b49, 0, none⟩, 2, [0, 2]⟩, ⟨some ⟨b50, 0, none⟩, 2, [1, 3]⟩] :: _) w from St.innSnoc (l := [⟨some ⟨b49, 0, none⟩, 2, [0, 2]⟩]) ⟨some ⟨b50, 0, none⟩, 2, [1, 3]⟩ h9)) ?_
 refine cl rfl Zde rfl rfl (Z8E (six 0) ag46 as46 cg46 cs46 (by decide) (by decide) [0] [3] (some ⟨b47, 0, none⟩) (some ⟨b48, 0, none⟩) 1 1 (by decide) (by decide) (by decide) (by decide) [⟨some ⟨b49, 0, none⟩, 2, [0, 2]⟩, ⟨some ⟨b50, 0, none⟩, 2, [1, 3]⟩] (some ⟨b51, 0, none⟩) 2 (by show 2 ≤ 1000000; decide) (by show 4 ≤ 1000000; decide) _ _) ?_
 rintro _ _ _ ⟨rfl, rfl, rfl⟩
 rw [show lls [⟨some ⟨b49, 0, none⟩, 2, [0, 2]⟩, ⟨some ⟨b50, 0, none⟩, 2, [1, 3]⟩] = [[0, 2], [1, 3]] from rfl, six_l.1, six_l.2]
 refine pur 5 rfl (sqt 9 rfl ?_)
 refine cl rfl Z4I rfl rfl (Z4L 0 (by decide) _ _) ?_
 rintro _ _ R1 ⟨ag56, as56, cg56, cs56, rfl, _, rfl, hR1⟩
 obtain rfl := hR1.symm
 clear hR1
 refine bsl (out := [_]) rfl Z0H zl3 rfl rfl rfl rfl rfl rfl (fun b57 => ?_)
 refine bsl (out := [_]) rfl Z0H zl3 rfl rfl rfl rfl rfl rfl (fun b58 => ?_)
 refine Sy.heap (fun w h9 => St.rows (sz := 1) (rows := Z4 [0]) (rest := []) (h9.pull b57) (by simp)) ?_
 refine Sy.heap (fun w h9 => St.rows (sz := 1) (rows := Z4 [5]) (rest := []) (h9.pull b58) (by simp)) ?_
 refine cl rfl ZcM rfl rfl (Zdq (six 0) ag56 as56 cg56 cs56 (by decide) (by decide) [0] [5] (some ⟨b57, 0, none⟩) (some ⟨b58, 0, none⟩) 1 1 (by decide) (by decide) (by decide) (by decide) _ _) ?_
 rintro _ _ R1 ⟨rfl, hq⟩
 rcases hq with ⟨h9, _⟩ | ⟨_, f, V, a5, c5, hf, hs, _, rfl, hR1⟩
 · exact absurd six_b.1 h9
 obtain rfl := hR1.symm
 clear hR1
 rw [Z6Q hf hs]
 refine pur 5 rfl (sqt 9 rfl ?_)
 refine cl rfl Z4I rfl rfl (Z4L 0 (by decide) _ _) ?_
 rintro _ _ R1 ⟨ag63, as63, cg63, cs63, rfl, _, rfl, hR1⟩
 obtain rfl := hR1.symm
 clear hR1
 refine bsl (out := [_]) rfl Z0H zl3 rfl rfl rfl rfl rfl rfl (fun b64 => ?_)
 refine bsl (out := [_]) rfl Z0H zl3 rfl rfl rfl rfl rfl rfl (fun b65 => ?_)
 refine Sy.heap (fun w h9 => St.rows (sz := 1) (rows := Z4 [0]) (rest := []) (h9.pull b64) (by simp)) ?_
 refine Sy.heap (fun w h9 => St.rows (sz := 1) (rows := Z4 [3]) (rest := []) (h9.pull b65) (by simp)) ?_
 refine cl rfl ZeG rfl rfl (ZaZ (six 0) ag63 as63 cg63 cs63 (by decide) (by decide) [0] [3] (some ⟨b64, 0, none⟩) (some ⟨b65, 0, none⟩) 1 1 (by decide) (by decide) (by decide) (by decide) _ _) ?_
 rintro _ _ R1 ⟨rfl, hR1, hq⟩
 obtain rfl := hR1.symm
 clear hR1
 rcases hq with ⟨h9, _⟩ | ⟨_, n, _, hn1, hn2, rfl⟩
 · exact absurd six_b.2.1 h9
 obtain rfl := Zbs hn1 hn2
 refine pur 5 rfl (sqt 68 rfl (pur 3 rfl ?_))
 refine Zq 71 rfl ?_ ?_ <;> intro g71
 refine pur 4 rfl ?_
 refine Zq 75 rfl ?_ ?_ <;> intro g75
 refine pur 4 rfl ?_
 refine Zq 79 rfl ?_ ?_ <;> intro g79
 refine pur 4 rfl ?_
 refine Zq 83 rfl ?_ ?_ <;> intro g83
 refine pur 4 rfl ?_
 refine Zq 87 rfl ?_ ?_ <;> intro g87
 refine pur 4 rfl ?_
 refine Zq 91 rfl ?_ ?_ <;> intro g91
 refine pur 4 rfl ?_
 refine Zq 95 rfl ?_ ?_ <;> intro g95
 refine pur 4 rfl ?_
 refine Zq 99 rfl ?_ ?_ <;> intro g99
 refine pur 1 rfl ?_
 refine Zds (out := [_, _, _, _, _, _]) rfl rfl rfl rfl Z0H zl3 rfl rfl rfl rfl rfl rfl (fun b101 => ?_)
 refine Sy.heap (fun w h9 => St.rows (sz := 1) (rows := Z4 [0, 1, 1, 2, 3, 4]) (rest := []) (h9.pull b101) (by simp)) ?_
 refine Z2J rfl rfl rfl rfl Z55 rfl rfl (Z17 [0, 1, 1, 2, 3, 4] [0, 1, 1, 2, 3, 4] a1 (some ⟨b101, 0, none⟩) c1 6 (by decide) (by decide) _ _) ?_
 refine pur 2 rfl ?_
 refine Zq 104 rfl ?_ ?_ <;> intro g104
 refine pur 1 rfl ?_
 refine Zds (out := [_]) rfl rfl rfl rfl Z0H zl3 rfl rfl rfl rfl rfl rfl (fun b106 => ?_)
 refine Sy.heap (fun w h9 => St.rows (sz := 1) (rows := Z4 [4]) (rest := []) (h9.pull b106) (by simp)) ?_
 refine Z2J rfl rfl rfl rfl Z55 rfl rfl (Z17 [4] [4] a2 (some ⟨b106, 0, none⟩) c2 1 (by decide) (by decide) _ _) ?_
 refine pur 2 rfl ?_
 refine Zq 109 rfl ?_ ?_ <;> intro g109
 refine pur 1 rfl ?_
 refine Zds (out := [_, _]) rfl rfl rfl rfl Z0H zl3 rfl rfl rfl rfl rfl rfl (fun b111 => ?_)
 refine Sy.heap (fun w h9 => St.rows (sz := 1) (rows := Z4 [4, 5]) (rest := []) (h9.pull b111) (by simp)) ?_
 refine Z2J rfl rfl rfl rfl Z55 rfl rfl (Z17 [4, 5] [4, 5] a3 (some ⟨b111, 0, none⟩) c3 2 (by decide) (by decide) _ _) ?_
 refine pur 2 rfl ?_
 refine Zq 114 rfl ?_ ?_ <;> intro g114
 refine pur 1 rfl ?_
 refine Zds (out := [_, _, _]) rfl rfl rfl rfl Z0H zl3 rfl rfl rfl rfl rfl rfl (fun b116 => ?_)
 refine Sy.heap (fun w h9 => St.rows (sz := 1) (rows := Z4 [0, 1, 2]) (rest := []) (h9.pull b116) (by simp)) ?_
 refine Z2J rfl rfl rfl rfl Z55 rfl rfl (Z17 [0, 1, 2] [0, 1, 2] a4 (some ⟨b116, 0, none⟩) c4 3 (by decide) (by decide) _ _) ?_
 refine pur 2 rfl ?_
 refine Zq 119 rfl ?_ ?_ <;> intro g119
 refine pur 4 rfl ?_
 refine Zq 123 rfl ?_ ?_ <;> intro g123
 refine pur 4 rfl ?_
 refine Zq 127 rfl ?_ ?_ <;> intro g127
 refine pur 1 rfl ?_
 refine spG rfl rfl rfl rfl (PE.lenSl Zw rfl) rfl ?_
 refine pur 3 rfl ?_
 refine Zq 132 rfl ?_ ?_ <;> intro g132
 refine pur 4 rfl (Z5 ?_)
 exact rtA rfl rfl rfl ⟨rfl, rfl, rfl⟩ (fun w h9 => St.sub h9)
 exact absurd g132 (by decide)
 exact absurd g127 (by decide)
 exact absurd g123 (by decide)
 exact absurd g119 (by decide)
 exact absurd g114 (by decide)
 exact absurd g109 (by decide)
 exact absurd g104 (by decide)
 exact absurd g99 (by decide)
 exact absurd g95 (by decide)
 exact absurd g91 (by decide)
 exact absurd g87 (by decide)
 exact absurd g83 (by decide)
 exact absurd g79 (by decide)
 exact absurd g75 (by decide)
 exact absurd g71 (by decide)
theorem ZfJ : apT Tryz.prog 22 = some (97, 2, 16) := by kernel_rfl
theorem Zff : cal Tryz.prog 70 = true := by kernel_rfl
theorem ZeS : cal Tryz.prog 71 = true := by kernel_rfl
theorem Z7r (xs : List Gp) (a : Option Addr) (c : Nat) (hl : xs.length ≤ 1000000) (H : Z8) (R : Z6) [hR : MemRows a 2 (Zd xs) R] :
    Fn Tryz.prog 70 [.slice a xs.length c] H R (fun v H' R' => ∃ o : OSl 97 2 (Zd xs), v = o.fs ∧ o.here ∧ H' = o.G ++ H ∧ R' = R) := by
 refine Zg Tryz.func70 rfl Tryz.ntmps70 rfl ?_
 refine sqt 1 rfl (pur 1 rfl (sqt 6 rfl (pur 1 rfl (sp rfl (PE.lenSl Z1M rfl) rfl ?_))))
 refine mkO rfl ZfJ Z51 rfl rfl ⟨by omega, by omega⟩ rfl (fun o ho => ?_)
 refine pur 1 rfl ?_
 refine ZeB (news := Zd xs) o rfl ZfJ rfl rfl (Z5t) (by simp [Zd]) (by simp [ZR, Zd, grow, Value.oneCell']) ⟨by simp [Zd]; omega, by simp [Zd]; omega⟩ rfl ho (fun o2 ho2 => ?_)
 refine pur 1 rfl (Z5 ?_)
 exact rtA rfl rfl rfl ⟨o2.cast (by simp), rfl, ho2, rfl, rfl⟩ idH
theorem Z78 (xs : List Sgt) (a : Option Addr) (c : Nat) (hl : xs.length ≤ 1000000) (H : Z8) (R : Z6) [hR : MemRows a 3 (Ze xs) R] :
    Fn Tryz.prog 71 [.slice a xs.length c] H R (fun v H' R' => ∃ o : OSl 67 3 (Ze xs), v = o.fs ∧ o.here ∧ H' = o.G ++ H ∧ R' = R) := by
 refine Zg Tryz.func71 rfl Tryz.ntmps71 rfl ?_
 refine sqt 1 rfl (pur 1 rfl (sqt 6 rfl (pur 1 rfl (sp rfl (PE.lenSl Z3x rfl) rfl ?_))))
 refine mkO rfl Zfw ZaX rfl rfl ⟨by omega, by omega⟩ rfl (fun o ho => ?_)
 refine pur 1 rfl ?_
 refine ZeB (news := Ze xs) o rfl Zfw rfl rfl (Z5t) (by simp [Ze]) (by simp [ZR, Ze, Z1S, Value.oneCell', Value.oneCell']) ⟨by simp [Ze]; omega, by simp [Ze]; omega⟩ rfl ho (fun o2 ho2 => ?_)
 refine pur 1 rfl (Z5 ?_)
 exact rtA rfl rfl rfl ⟨o2.cast (by simp), rfl, ho2, rfl, rfl⟩ idH
theorem ZeJ (h : Hse) (ag as_ : Option Addr) (cg cs : Nat) (hlg : h.gaps.length ≤ 1000000) (hls : h.sights.length ≤ 1000000) (H : Z8) (R : Z6) [hG : MemRows ag 2 (Zd h.gaps) R] [hS : MemRows as_ 3 (Ze h.sights) R] :
    Fn Tryz.prog 12 [h.v (h.sg ag cg) (h.ss as_ cs)] H R (fun v H' R' => ∃ (og : OSl 97 2 (Zd h.gaps)) (os : OSl 67 3 (Ze h.sights)), v = h.v og.fs os.fs ∧ H' = os.G ++ (og.G ++ H) ∧ R' = R) := by
 refine Zg Tryz.func12 rfl Tryz.ntmps12 rfl ?_
 refine sqt 2 rfl (bx rfl rfl rfl (fun b1 => alc rfl Zew rfl (fun b2 => Z0 ?_)))
 refine Zo [0, 1, 0, 4, 12, 0, 32, 124, 255, 511] (.tk 0 (.ld 1 (.tk 2 (.ld 3 (.tk 5 (.ld 6 (.big 4 (.big 7 (.tk 8 (.big 9 .done)))))))))) ZG (by kernel_rfl) ?_
 refine tk rfl (PE.fA Z1o rfl) rfl (ld rfl rfl (lh sc3 rfl rfl) rfl (tk rfl (PE.fA Z05 rfl) rfl (ld rfl rfl (lh Z3K rfl rfl) rfl (tk rfl (PE.fA Z0E rfl) rfl (ld rfl rfl (lh Z53 rfl rfl) rfl ?_)))))
 refine cl rfl Zff rfl rfl (Z7r h.gaps ag cg hlg _ _) ?_
 rintro _ _ R1 ⟨og, rfl, hog, rfl, hR1⟩
 obtain rfl := hR1.symm
 clear hR1
 refine bg (fun w hs => ⟨(lh Z53 rfl rfl) w hs, trivial, (lh sc3 rfl rfl) w hs, trivial⟩) ?_
 refine cl rfl ZeS rfl rfl (Z78 h.sights as_ cs hls _ _) ?_
 rintro _ _ R1 ⟨os, rfl, hos, rfl, hR1⟩
 obtain rfl := hR1.symm
 clear hR1
 refine bg (fun w hs => ⟨trivial, (lh sc3 rfl rfl) w hs, trivial⟩) ?_
 refine tk rfl (PE.build (out := htl h og.fs os.fs) ZfI Zew rfl (by simp only [Z4J, og.cells.1, os.cells.1, List.getElem?_cons_zero, List.getElem?_cons_succ]; rfl)) rfl ?_
 refine ZT (l' := htl h og.fs os.fs) rfl rfl rfl ZfD rfl rfl (by show (htl _ og.fs os.fs).all (·.oneCell') = true; simp only [htl, List.all_cons, List.all_nil, og.cells.2, os.cells.2, Bool.and_true]; rfl) rfl (Nat.le_refl _) ?_
 refine bgT (Z5 ?_)
 exact Zp (vs := [_]) rfl (.cons (RV.cell rfl (lhA [_, _, _] Z0y rfl rfl rfl)) .nil) rfl ⟨og, os, rfl, rfl, rfl⟩ (fun w h9 => ((h9.del b2).del b1))
structure MadeW (h : Hse) (nb ng : Int) : Prop where
  bins : 2 ≤ h.bins ∧ h.bins ≤ nb
  gl : (h.gaps.length : Int) ≤ ng
  gaps : ∀ g ∈ h.gaps, (0 ≤ g.a ∧ g.a < h.bins) ∧ (0 ≤ g.b ∧ g.b < h.bins) ∧ g.a ≠ g.b
  none : h.sights = []
theorem MadeW.ok {h : Hse} {nb ng : Int} (hm : MadeW h nb ng) (h1 : nb ≤ 7) (h2 : ng ≤ 10) : h.ok := ⟨by have := hm.bins; omega, by have := hm.gl; omega, by rw [hm.none]; exact Nat.zero_le _, hm.gaps, by rw [hm.none]; simp⟩
def ini (f : Nat → Int) (n k : Nat) : List Int := (List.range n).map fun j => bif decide (j < k) then f j else 0
theorem Zcl (f : Nat → Int) (n k : Nat) : (ini f n k).length = n := by simp [ini]
theorem Zeg {f : Nat → Int} {n k j : Nat} (hj : j < n) : na (ini f n k) j = bif decide (j < k) then f j else 0 := by
  unfold na ini
  rw [List.getD_eq_getElem?_getD, List.getElem?_map, List.getElem?_range hj]; rfl
def in0 (fr : List Int) (j : Nat) : Int := bif ZF fr j then 0 else 100
theorem Z5d {l : List Int} (h : ∀ x ∈ l, 0 ≤ x) (j : Nat) : ZF l (j : Int) = (msk l).testBit j := by rw [Bool.eq_iff_iff, hasI_iff, Zs h]
theorem FolI.start {gs : List Gp} {cl : Nat → Nat} {fr : List Int} (h : ∀ x ∈ fr, 0 ≤ x) (n : Nat) : FolI gs cl (msk fr) n 0 (Z3t gs (cl 0) (lvp gs cl (msk fr) 0) 0) (ini (in0 fr) n n) := ⟨Zcl _ _ _, fun k hk => by
  rw [Zeg hk, decide_eq_true hk, cond_true]
  unfold in0
  rw [Z5d h]
  show _ = bif (msk fr).testBit k then fol gs cl (msk fr) 0 k else bif (msk fr).testBit k then _ else 100
  cases hb : (msk fr).testBit k with
  | false => rfl
  | true =>
    rw [cond_true, cond_true]
    exact (Z8z (t := 0) (Nat.le_refl _) hb (fun i hi => absurd hi (Nat.not_lt_zero _))).symm⟩
theorem FnV.lendO {P : Program} {f : FuncId} {v : Value} {e sz : Nat} {rows : List (List Value)} (o : OSl e sz rows) (mk : Value → List Value) {T : Z8} {R : Z6}
    (h : ∀ (a : Option Addr) (c : Nat) (B : World → Prop), FnV P f (mk (.slice a rows.length c)) T (RowsA a sz rows :: B :: R) v) : FnV P f (mk o.fs) (o.G ++ T) R v := fun w hw => by
  obtain ⟨fs, G, hl, his⟩ := o
  rcases his with ⟨rfl, rfl, rfl⟩ | ⟨b, cap, junk, rfl, rfl, h1, h2, h3⟩
  · have h3 : St T (RowsA none sz [] :: (fun _ => True) :: R) w := St.also (St.also hw (f := fun _ => True) (fun _ _ => trivial)) (fun w' _ i row hi => by simp at hi)
    refine CallsIn.mono (h none 0 _ w h3) ?_
    rintro e' w' ⟨u, H', R', ⟨rfl, rfl, rfl⟩, he, hs'⟩
    exact ⟨_, _, R, ⟨rfl, rfl, rfl⟩, he, hs'.ftail.ftail⟩
  · exact FnV.lend (H := (b, cel e (rows.flatten ++ junk)) :: T) (b := b) (e := e) (sz := sz) (rows := rows) (junk := junk) hl (fun B => h _ cap B) w hw
theorem Tru.nil (h : Hse) (l : List Int) : Tru h l [] := ⟨(fun s hs => by cases hs), rfl⟩
theorem Zdz (a b : List Sgt) : Ze (a ++ b) = Ze a ++ Ze b := List.map_append
def Hse.add (h : Hse) (s : Sgt) : Hse := ⟨h.bins, h.gaps, h.sights ++ [s]⟩
structure DelI (l : List Int) (p : Int → Bool) (i j : Nat) (c : List Int) : Prop where
  len : c.length = l.length
  le : i < j ∧ j ≤ l.length
  pre : c.take i = (l.take j).filter (fun x => !p x)
  suf : ∀ q, j ≤ q → c[q]? = l[q]?
theorem Z1x {l : List Int} {j : Nat} {x : Int} (h : l[j]? = some x) : l.take (j + 1) = l.take j ++ [x] := by rw [List.take_add_one, h]; rfl
theorem DelI.start {l : List Int} {p : Int → Bool} {k : Nat} (h : l.findIdx? p = some k) : DelI l p k (k + 1) l := by
  obtain ⟨h1, h2, h3⟩ := List.findIdx?_eq_some_iff_getElem.1 h
  refine ⟨rfl, ⟨by omega, by omega⟩, ?_, fun _ _ => rfl⟩
  rw [Z1x (List.getElem?_eq_getElem h1), List.filter_append, List.filter_cons, h2]
  have : (l.take k).filter (fun x => !p x) = l.take k := List.filter_eq_self.2 fun x hx => by
    obtain ⟨q, hq, rfl⟩ := List.mem_iff_getElem.1 hx
    rw [List.length_take] at hq
    rw [List.getElem_take]
    have := h3 q (by omega)
    simpa using this
  rw [this]; simp
theorem DelI.skip {l : List Int} {p : Int → Bool} {i j : Nat} {c : List Int} (h : DelI l p i j c) {x : Int} (hx : l[j]? = some x) (hp : p x = true) : DelI l p i (j + 1) c := by
  have hj := (List.getElem?_eq_some_iff.1 hx).1
  refine ⟨h.len, ⟨by have := h.le; omega, by omega⟩, ?_, fun q hq => h.suf q (by omega)⟩
  rw [h.pre, Z1x hx, List.filter_append, List.filter_cons, hp]; simp
theorem DelI.keep {l : List Int} {p : Int → Bool} {i j : Nat} {c : List Int} (h : DelI l p i j c) {x : Int} (hx : l[j]? = some x) (hp : p x = false) : DelI l p (i + 1) (j + 1) (c.set i x) := by
  have hj := (List.getElem?_eq_some_iff.1 hx).1
  have hl := h.le
  have hn := h.len
  refine ⟨by rw [List.length_set]; exact hn, ⟨by omega, by omega⟩, ?_, fun q hq => by rw [List.getElem?_set_ne (by omega)]; exact h.suf q (by omega)⟩
  rw [Z1x hx, List.filter_append, List.filter_cons, hp, ← h.pre, Z1x (l := c.set i x) (x := x) (by rw [List.getElem?_set_self (by omega)]), List.take_set_of_le (Nat.le_refl _)]; rfl
theorem DelI.done {l : List Int} {p : Int → Bool} {i : Nat} {c : List Int} (h : DelI l p i l.length c) : c.take i = l.filter (fun x => !p x) ∧ i = (l.filter (fun x => !p x)).length := by
  have h1 := h.pre
  rw [List.take_length] at h1
  refine ⟨h1, ?_⟩
  rw [← h1, List.length_take, h.len]
  have := h.le; omega
theorem ZfS : Z0w Tryz.prog 67 = some 3 := by kernel_rfl
end Go.Proofs.YthbjpnmclokinaaGreat
namespace Go.Proofs.YthbjpnmclokinaaGreat
set_option linter.unusedSimpArgs false
set_option linter.unusedVariables false
structure Bij (n : Nat) (R : Nat → Nat → Prop) : Prop where
  lt : ∀ u u', R u u' → u < n ∧ u' < n
  to : ∀ u, u < n → ∃ u', R u u'
  fr : ∀ u', u' < n → ∃ u, R u u'
  f : ∀ u u' v', R u u' → R u v' → u' = v'
  i : ∀ u v u', R u u' → R v u' → u = v
theorem Bij.symm {n : Nat} {R : Nat → Nat → Prop} (h : Bij n R) : Bij n fun u' u => R u u' := ⟨fun u u' h1 => (h.lt u' u h1).symm, h.fr, h.to, fun u u' v' h1 h2 => h.i u' v' u h1 h2, fun u v u' h1 h2 => h.f u' u v h1 h2⟩
structure Img (n : Nat) (R : Nat → Nat → Prop) (m m' : Nat) : Prop where
  lt : m < 2 ^ n
  lt' : m' < 2 ^ n
  bit : ∀ u u', R u u' → m.testBit u = m'.testBit u'
theorem Img.symm {n : Nat} {R : Nat → Nat → Prop} {m m' : Nat} (h : Img n R m m') : Img n (fun u' u => R u u') m' m := ⟨h.lt', h.lt, fun u u' h1 => (h.bit u' u h1).symm⟩
theorem Img.ex {n : Nat} {R : Nat → Nat → Prop} (hb : Bij n R) {m : Nat} (hm : m < 2 ^ n) : ∃ m', Img n R m m' := by
  classical
  obtain ⟨t, h1, h2⟩ := Z5n (fun u' => decide (∃ u, R u u' ∧ m.testBit u = true)) n
  refine ⟨t, hm, h1, fun u u' h => ?_⟩
  rw [h2 u', decide_eq_true (hb.lt u u' h).2, Bool.true_and, Bool.eq_iff_iff, decide_eq_true_eq]
  exact ⟨fun h3 => ⟨u, h, h3⟩, fun ⟨v, h3, h4⟩ => by rw [hb.i u v u' h h3]; exact h4⟩
theorem Img.unique {n : Nat} {R : Nat → Nat → Prop} (hb : Bij n R) {m a b : Nat} (h1 : Img n R m a) (h2 : Img n R m b) : a = b := ZO fun k => by
  rcases Nat.lt_or_ge k n with hk | hk
  · obtain ⟨u, hu⟩ := hb.fr k hk
    rw [← h1.bit u k hu, ← h2.bit u k hu]
  · rw [Z5j h1.lt' hk, Z5j h2.lt' hk]
theorem Img.zero {n : Nat} {R : Nat → Nat → Prop} : Img n R 0 0 := ⟨Nat.two_pow_pos _, Nat.two_pow_pos _, fun u u' _ => by rw [Nat.zero_testBit, Nat.zero_testBit]⟩
theorem Img.or {n : Nat} {R : Nat → Nat → Prop} {a a' b b' : Nat} (h1 : Img n R a a') (h2 : Img n R b b') : Img n R (a ||| b) (a' ||| b') := ⟨Z9M h1.lt h2.lt, Z9M h1.lt' h2.lt', fun u u' h => by rw [Nat.testBit_or, Nat.testBit_or, h1.bit u u' h, h2.bit u u' h]⟩
theorem Img.and {n : Nat} {R : Nat → Nat → Prop} (hb : Bij n R) {a a' b b' : Nat} (h1 : Img n R a a') (h2 : Img n R b b') (h : a &&& b = 0) : a' &&& b' = 0 := and_zero.2 fun k hk => by
  obtain ⟨u, hu⟩ := hb.fr k (Z0t h1.lt' hk)
  rw [← h2.bit u k hu]
  exact and_zero.1 h u (by rw [h1.bit u k hu]; exact hk)
theorem Img.cnt {n : Nat} {R : Nat → Nat → Prop} (hb : Bij n R) {m m' : Nat} (h : Img n R m m') : cnt n m = cnt n m' := by
  classical
  have hex : ∃ f : Nat → Nat, ∀ u, u < n → R u (f u) := ⟨fun u => if h : u < n then Classical.choose (hb.to u h) else 0, fun u hu => by
    dsimp only; rw [dif_pos hu]; exact Classical.choose_spec (hb.to u hu)⟩
  obtain ⟨f, hf⟩ := hex
  have hp : ((List.range n).map f).Perm (List.range n) := by
    refine (List.perm_ext_iff_of_nodup ?_ List.nodup_range).2 fun x => ?_
    · rw [List.nodup_iff_pairwise_ne, List.pairwise_map]
      refine List.pairwise_lt_range.imp_of_mem fun {a b} ha hb9 hab e => ?_
      have h1 := hf a (List.mem_range.1 ha)
      have h2 := hf b (List.mem_range.1 hb9)
      rw [← e] at h2
      have := hb.i a b _ h1 h2
      omega
    · rw [List.mem_range, List.mem_map]
      constructor
      · rintro ⟨u, hu, rfl⟩; exact (hb.lt _ _ (hf u (List.mem_range.1 hu))).2
      · intro hx
        obtain ⟨u, hu⟩ := hb.fr x hx
        have hul := (hb.lt u x hu).1
        exact ⟨u, List.mem_range.2 hul, hb.f u _ _ (hf u hul) hu⟩
  show (List.range n).countP (fun k => m.testBit k) = (List.range n).countP (fun k => m'.testBit k)
  have e1 := hp.countP_eq (fun k => m'.testBit k)
  rw [List.countP_map] at e1
  rw [← e1]
  exact List.countP_congr fun k hk => by rw [h.bit k (f k) (hf k (List.mem_range.1 hk))]; rfl
structure Sim (n : Nat) (gs gs' : List Gp) (R Q : Nat → Nat → Prop) : Prop where
  bin : Bij n R
  gap : Bij gs.length Q
  len : gs'.length = gs.length
  gp : ∀ i i' g g', Q i i' → gs[i]? = some g → gs'[i']? = some g' → R g.a.toNat g'.b.toNat ∧ R g.b.toNat g'.a.toNat
theorem Sim.symm {n : Nat} {gs gs' : List Gp} {R Q : Nat → Nat → Prop} (h : Sim n gs gs' R Q) : Sim n gs' gs (fun u' u => R u u') (fun i' i => Q i i') := ⟨h.bin.symm, by rw [h.len]; exact h.gap.symm, h.len.symm, fun i i' g g' h1 h2 h3 => by
  have := h.gp i' i g' g h1 h3 h2
  exact ⟨this.2, this.1⟩⟩
theorem Sim.wth {n : Nat} {gs gs' : List Gp} {R Q : Nat → Nat → Prop} (h : Sim n gs gs' R Q) : Wth gs n := fun g hg => by
  obtain ⟨i, hi⟩ := List.getElem?_of_mem hg
  have hl := (List.getElem?_eq_some_iff.1 hi).1
  obtain ⟨i', hq⟩ := h.gap.to i hl
  have hl' : i' < gs'.length := by rw [h.len]; exact (h.gap.lt i i' hq).2
  have h1 := h.gp i i' g gs'[i'] hq hi (List.getElem?_eq_getElem hl')
  exact ⟨(h.bin.lt _ _ h1.1).1, (h.bin.lt _ _ h1.2).1⟩
theorem Sim.adj {n : Nat} {gs gs' : List Gp} {R Q : Nat → Nat → Prop} (h : Sim n gs gs' R Q) {c c' u v u' v' : Nat} (hc : Img gs.length Q c c') (hu : R u u') (hv : R v v') (ha : Adj gs c u v) : Adj gs' c' u' v' := by
  obtain ⟨i, g, h1, h2, h3⟩ := ha
  have hl := (List.getElem?_eq_some_iff.1 h1).1
  obtain ⟨i', hq⟩ := h.gap.to i hl
  have hl' : i' < gs'.length := by rw [h.len]; exact (h.gap.lt i i' hq).2
  have h4 : gs'[i']? = some gs'[i'] := List.getElem?_eq_getElem hl'
  have h5 := h.gp i i' g _ hq h1 h4
  refine ⟨i', _, h4, by rw [← hc.bit i i' hq]; exact h2, ?_⟩
  rcases h3 with ⟨h6, h7⟩ | ⟨h6, h7⟩
  · right
    rw [h6] at h5; rw [h7] at h5
    exact ⟨(h.bin.f u _ _ h5.1 hu), (h.bin.f v _ _ h5.2 hv)⟩
  · left
    rw [h6] at h5; rw [h7] at h5
    exact ⟨(h.bin.f u _ _ h5.2 hu), (h.bin.f v _ _ h5.1 hv)⟩
theorem Sim.spr {n : Nat} {gs gs' : List Gp} {R Q : Nat → Nat → Prop} (h : Sim n gs gs' R Q) {c c' m m' : Nat} (hc : Img gs.length Q c c') (hm : Img n R m m') : Img n R (spr gs c m) (spr gs' c' m') := by
  refine ⟨Z27 h.wth hm.lt, Z27 h.symm.wth hm.lt', fun u u' hu => ?_⟩
  rw [Bool.eq_iff_iff, spr_test, spr_test]
  constructor
  · rintro (h1 | ⟨w, h1, h2⟩)
    · exact .inl (by rw [← hm.bit u u' hu]; exact h1)
    · obtain ⟨w', hw⟩ := h.bin.to w (h2.lt h.wth).1
      exact .inr ⟨w', by rw [← hm.bit w w' hw]; exact h1, h.adj hc hw hu h2⟩
  · rintro (h1 | ⟨w', h1, h2⟩)
    · exact .inl (by rw [hm.bit u u' hu]; exact h1)
    · obtain ⟨w, hw⟩ := h.bin.fr w' (h2.lt h.symm.wth).1
      exact .inr ⟨w, by rw [hm.bit w w' hw]; exact h1, h.symm.adj (by rw [h.len]; exact hc.symm) hw hu h2⟩
theorem Sim.lv {n : Nat} {gs gs' : List Gp} {R Q : Nat → Nat → Prop} (h : Sim n gs gs' R Q) {c c' m m' : Nat} (hc : Img gs.length Q c c') (hm : Img n R m m') : ∀ t, Img n R (lv gs c m t) (lv gs' c' m' t)
  | 0 => hm
  | t + 1 => h.spr hc (h.lv hc hm t)
theorem Sim.wk {n : Nat} {gs gs' : List Gp} {R Q : Nat → Nat → Prop} (h : Sim n gs gs' R Q) {c c' m m' u u' : Nat} (hc : Img gs.length Q c c') (hm : Img n R m m') (hu : R u u') : wk gs c m u = wk gs' c' m' u' := by
  unfold Go.Proofs.YthbjpnmclokinaaGreat.wk
  rw [show (fun t => (Go.Proofs.YthbjpnmclokinaaGreat.lv gs c m t).testBit u) = fun t => (Go.Proofs.YthbjpnmclokinaaGreat.lv gs' c' m' t).testBit u' from funext fun t => (h.lv hc hm t).bit u u' hu]
theorem Sim.shut {n : Nat} {gs gs' : List Gp} {R Q : Nat → Nat → Prop} (h : Sim n gs gs' R Q) {c c' S S' K K' : Nat} (hc : Img gs.length Q c c') (hS : Img n R S S') (hK : Img n R K K') (hs : Shut gs c S K) : Shut gs' c' S' K' := fun t v' hv => by
  obtain ⟨v, hr⟩ := h.bin.fr v' (Z0t (h.lv hc hS t).lt' hv)
  rw [← hK.bit v v' hr]
  exact hs t v (by rw [(h.lv hc hS t).bit v v' hr]; exact hv)
theorem Sim.cutLe {n : Nat} {gs gs' : List Gp} {R Q : Nat → Nat → Prop} (h : Sim n gs gs' R Q) {S S' K K' m m' : Nat} (hS : Img n R S S') (hK : Img n R K K') (h1 : Cut gs S K m) (h2 : Cut gs' S' K' m') : m' ≤ m := by
  obtain ⟨C, h3, h4, h5⟩ := h1.1
  obtain ⟨C', h6⟩ := Img.ex h.gap h3
  have h7 := h2.2 _ ⟨C', by rw [h.len]; exact h6.lt', h.shut h6 hS hK h4, rfl⟩
  rw [h.len, ← h6.cnt h.gap, h5] at h7; exact h7
theorem Sim.cut {n : Nat} {gs gs' : List Gp} {R Q : Nat → Nat → Prop} (h : Sim n gs gs' R Q) {S S' K K' m m' : Nat} (hS : Img n R S S') (hK : Img n R K K') (h1 : Cut gs S K m) (h2 : Cut gs' S' K' m') : m = m' := Nat.le_antisymm (h.symm.cutLe hS.symm hK.symm h2 h1) (h.cutLe hS hK h1 h2)
theorem Sim.pl {n : Nat} {gs gs' : List Gp} {R Q : Nat → Nat → Prop} (h : Sim n gs gs' R Q) {K K' sp m c k : Nat} (hK : Img n R K K') (hp : Pl gs K sp m c k) : ∀ {m' c' : Nat}, Img n R m m' → Img gs.length Q c c' → Pl gs' K' sp m' c' k := by
  induction hp with
  | @stay m c l hl hc hs he hk =>
    intro m' c' hm hc9
    obtain ⟨l', h1⟩ := Img.ex h.gap hl
    have h2 := h.spr (hc9.or h1) hm
    rw [he] at h2
    have e := h1.cnt h.gap
    rw [e]
    rw [← h.len]
    exact .stay (by rw [h.len]; exact h1.lt') (h1.and h.gap hc9 hc) (by rw [h.len, ← e]; exact hs) (h2.unique h.bin hm) (hm.and h.bin hK hk)
  | @go m c l k hl hc hs hne hk hp ih =>
    intro m' c' hm hc9
    obtain ⟨l', h1⟩ := Img.ex h.gap hl
    have h2 := h.spr (hc9.or h1) hm
    have e := h1.cnt h.gap
    rw [e]
    rw [← h.len]
    refine .go (by rw [h.len]; exact h1.lt') (h1.and h.gap hc9 hc) (by rw [h.len, ← e]; exact hs) (fun e2 => hne ?_) (h2.and h.bin hK hk) (ih h2 (hc9.or h1))
    rw [e2] at h2
    exact h2.symm.unique h.bin.symm hm.symm
theorem Sim.plan {n : Nat} {gs gs' : List Gp} {R Q : Nat → Nat → Prop} (h : Sim n gs gs' R Q) {S S' K K' sp k : Nat} (hS : Img n R S S') (hK : Img n R K K') : Pl gs K sp S 0 k ↔ Pl gs' K' sp S' 0 k :=
  ⟨fun hp => h.pl hK hp hS Img.zero, fun hp => h.symm.pl hK.symm hp hS.symm Img.zero⟩
theorem Img.map {n : Nat} {R : Nat → Nat → Prop} (hb : Bij n R) {l l' : List Int} (hl : ∀ x ∈ l, 0 ≤ x ∧ x < n) (h1 : ∀ x ∈ l, ∃ y ∈ l', R x.toNat y.toNat) (h2 : ∀ y ∈ l', 0 ≤ y ∧ ∃ x ∈ l, R x.toNat y.toNat) : Img n R (msk l) (msk l') := by
  refine ⟨Z0S hl, Z0S fun y hy => ?_, fun u u' hu => ?_⟩
  · obtain ⟨h3, x, hx, h4⟩ := h2 y hy
    have := (hb.lt _ _ h4).2
    omega
  · rw [Bool.eq_iff_iff, Zs (fun x hx => (hl x hx).1), Zs (fun y hy => (h2 y hy).1)]
    constructor
    · intro h
      obtain ⟨y, hy, h3⟩ := h1 _ h
      rw [Int.toNat_natCast] at h3
      have := hb.f u _ _ hu h3
      have h5 := (h2 y hy).1
      rw [show (u' : Int) = y by omega]; exact hy
    · intro h
      obtain ⟨_, x, hx, h3⟩ := h2 _ h
      rw [Int.toNat_natCast] at h3
      have := hb.i u _ _ hu h3
      have h5 := (hl x hx).1
      rw [show (u : Int) = x by omega]; exact hx
open Go
structure Ord (p : List Nat) (n : Nat) : Prop where
  len : p.length = n
  nd : p.Nodup
  lt : ∀ i ∈ p, i < n
theorem Ord.nil : Ord [] 0 := ⟨rfl, List.nodup_nil, by simp⟩
theorem Ord.ins {p : List Nat} {n j : Nat} (h : Ord p n) (hj : j ≤ n) : Ord (p.take j ++ n :: p.drop j) (n + 1) := by
  have hp : (p.take j ++ n :: p.drop j).Perm (n :: p) := by
    have h1 := List.perm_middle (a := n) (l₁ := p.take j) (l₂ := p.drop j)
    rwa [List.take_append_drop] at h1
  refine ⟨by rw [hp.length_eq]; simp [h.len], hp.nodup_iff.2 (List.nodup_cons.2 ⟨fun h1 => Nat.lt_irrefl _ (h.lt n h1), h.nd⟩), fun i hi => ?_⟩
  rcases List.mem_cons.1 (hp.mem_iff.1 hi) with rfl | h1
  · omega
  · have := h.lt i h1; omega
theorem Ord.bij {p : List Nat} {n : Nat} (h : Ord p n) : Bij n fun u u' => p[u]? = some u' := by
  have hl := h.len
  refine ⟨fun u u' h1 => ⟨by have := (List.getElem?_eq_some_iff.1 h1).1; omega, h.lt u' (List.mem_of_getElem? h1)⟩, fun u hu => ⟨_, List.getElem?_eq_getElem (by omega)⟩, fun u' hu => ?_, fun u u' v' h1 h2 => by rw [h1] at h2; exact Option.some.inj h2, fun u v u' h1 h2 => ?_⟩
  · have hm : u' ∈ p := Classical.byContradiction fun hn => by
      have h1 := List.Nodup.length_le_of_subset (l₁ := u' :: p) (l₂ := List.range n) (List.nodup_cons.2 ⟨hn, h.nd⟩) (fun x hx => by
        rcases List.mem_cons.1 hx with rfl | hx
        · exact List.mem_range.2 hu
        · exact List.mem_range.2 (h.lt x hx))
      rw [List.length_cons, List.length_range] at h1; omega
    exact List.getElem?_of_mem hm
  · obtain ⟨a1, a2⟩ := List.getElem?_eq_some_iff.1 h1
    obtain ⟨b1, b2⟩ := List.getElem?_eq_some_iff.1 h2
    have hp := List.nodup_iff_pairwise_ne.1 h.nd
    rcases Nat.lt_trichotomy u v with h3 | h3 | h3
    · exact absurd (a2.trans b2.symm) (List.pairwise_iff_getElem.1 hp u v a1 b1 h3)
    · exact h3
    · exact absurd (b2.trans a2.symm) (List.pairwise_iff_getElem.1 hp v u b1 a1 h3)
def inl (p : List Nat) : List Int := p.map fun (j : Nat) => (j : Int)
theorem ZbJ {p : List Nat} {u u' : Nat} (h : p[u]? = some u') : na (inl p) u = u' := Z3n (by unfold inl; rw [List.getElem?_map, h]; rfl)
def imG (p : List Nat) (g : Gp) : Gp := ⟨na (inl p) g.b.toNat, na (inl p) g.a.toNat⟩
def imS (p : List Nat) (x : Sgt) : Sgt := ⟨x.week, na (inl p) x.bin.toNat, x.seen⟩
def rnm (p : List Nat) (l : List Int) : List Int := l.map fun k => na (inl p) k.toNat
structure RnG (p s : List Nat) (gs : List Gp) (i : Nat) (G : List Gp) : Prop where
  len : G.length = gs.length
  at_ : ∀ j, j < i → ∀ g k, gs[j]? = some g → s[j]? = some k → G[k]? = some (imG p g)
theorem RnG.step {p s : List Nat} {gs G : List Gp} {i k : Nat} {g : Gp} (h : RnG p s gs i G) (hs : Ord s gs.length) (hg : gs[i]? = some g) (hk : s[i]? = some k) : RnG p s gs (i + 1) (G.set k (imG p g)) := by
  have hb := hs.bij
  have hkl := (hb.lt i k hk).2
  refine ⟨by rw [List.length_set]; exact h.len, fun j hj g' k' h1 h2 => ?_⟩
  by_cases e : j = i
  · subst e
    rw [hg] at h1; rw [hk] at h2
    obtain rfl := Option.some.inj h1
    obtain rfl := Option.some.inj h2
    exact List.getElem?_set_self (by rw [h.len]; exact hkl)
  · have hne : k ≠ k' := fun e2 => by subst e2; exact e (hb.i j i k h2 hk)
    rw [List.getElem?_set_ne hne]
    exact h.at_ j (by omega) g' k' h1 h2
structure RnS (p s : List Nat) (ss : List Sgt) (i : Nat) (S : List Sgt) : Prop where
  len : S.length = ss.length
  at_ : ∀ j, j < i → ∀ x k, ss[j]? = some x → s[j]? = some k → S[k]? = some (imS p x)
theorem RnS.step {p s : List Nat} {ss S : List Sgt} {i k : Nat} {x : Sgt} (h : RnS p s ss i S) (hs : Ord s ss.length) (hg : ss[i]? = some x) (hk : s[i]? = some k) : RnS p s ss (i + 1) (S.set k (imS p x)) := by
  have hb := hs.bij
  have hkl := (hb.lt i k hk).2
  refine ⟨by rw [List.length_set]; exact h.len, fun j hj g' k' h1 h2 => ?_⟩
  by_cases e : j = i
  · subst e
    rw [hg] at h1; rw [hk] at h2
    obtain rfl := Option.some.inj h1
    obtain rfl := Option.some.inj h2
    exact List.getElem?_set_self (by rw [h.len]; exact hkl)
  · have hne : k ≠ k' := fun e2 => by subst e2; exact e (hb.i j i k h2 hk)
    rw [List.getElem?_set_ne hne]
    exact h.at_ j (by omega) g' k' h1 h2
structure Rnm (q t : Hse) (p s r : List Nat) : Prop where
  bins : t.bins = q.bins
  op : Ord p q.bins.toNat
  os : Ord s q.gaps.length
  or : Ord r q.sights.length
  gs : RnG p s q.gaps q.gaps.length t.gaps
  ss : RnS p r q.sights q.sights.length t.sights
theorem Rnm.p {q t : Hse} {p s r : List Nat} (h : Rnm q t p s r) {u : Nat} (hu : u < q.bins.toNat) : ∃ u', p[u]? = some u' ∧ u' < q.bins.toNat ∧ na (inl p) u = u' := by
  obtain ⟨u', h1⟩ := h.op.bij.to u hu
  exact ⟨u', h1, (h.op.bij.lt u u' h1).2, ZbJ h1⟩
theorem Rnm.gap {q t : Hse} {p s r : List Nat} (h : Rnm q t p s r) {g' : Gp} (hg : g' ∈ t.gaps) : ∃ g ∈ q.gaps, g' = imG p g := by
  obtain ⟨k, hk⟩ := List.getElem?_of_mem hg
  have hkl := (List.getElem?_eq_some_iff.1 hk).1
  rw [h.gs.len] at hkl
  obtain ⟨i, hi⟩ := h.os.bij.fr k hkl
  have hil := (h.os.bij.lt i k hi).1
  have h1 := h.gs.at_ i hil _ k (List.getElem?_eq_getElem hil) hi
  rw [hk] at h1
  exact ⟨_, List.getElem_mem hil, Option.some.inj h1⟩
theorem Rnm.sgt {q t : Hse} {p s r : List Nat} (h : Rnm q t p s r) {x' : Sgt} (hx : x' ∈ t.sights) : ∃ x ∈ q.sights, x' = imS p x := by
  obtain ⟨k, hk⟩ := List.getElem?_of_mem hx
  have hkl := (List.getElem?_eq_some_iff.1 hk).1
  rw [h.ss.len] at hkl
  obtain ⟨i, hi⟩ := h.or.bij.fr k hkl
  have hil := (h.or.bij.lt i k hi).1
  have h1 := h.ss.at_ i hil _ k (List.getElem?_eq_getElem hil) hi
  rw [hk] at h1
  exact ⟨_, List.getElem_mem hil, Option.some.inj h1⟩
theorem Rnm.sgt2 {q t : Hse} {p s r : List Nat} (h : Rnm q t p s r) {x : Sgt} (hx : x ∈ q.sights) : imS p x ∈ t.sights := by
  obtain ⟨i, hi⟩ := List.getElem?_of_mem hx
  have hil := (List.getElem?_eq_some_iff.1 hi).1
  obtain ⟨k, hk⟩ := h.or.bij.to i hil
  exact List.mem_of_getElem? (h.ss.at_ i hil x k hi hk)
theorem Rnm.ok {q t : Hse} {p s r : List Nat} (h : Rnm q t p s r) (hq : q.ok) : t.ok := by
  have hb := hq.bins
  refine ⟨by rw [h.bins]; exact hb, by rw [h.gs.len]; exact hq.gl, by rw [h.ss.len]; exact hq.sl, fun g' hg => ?_, fun x' hx => ?_⟩
  · obtain ⟨g, h1, rfl⟩ := h.gap hg
    have h2 := hq.gaps g h1
    obtain ⟨a', a1, a2, a3⟩ := h.p (u := g.a.toNat) (by omega)
    obtain ⟨b', b1, b2, b3⟩ := h.p (u := g.b.toNat) (by omega)
    have hne : a' ≠ b' := fun e => by
      subst e
      have := h.op.bij.i _ _ _ a1 b1
      omega
    unfold imG
    rw [a3, b3, h.bins]
    exact ⟨by dsimp only; omega, by dsimp only; omega, by dsimp only; omega⟩
  · obtain ⟨x, h1, rfl⟩ := h.sgt hx
    have h2 := hq.sights x h1
    obtain ⟨a', a1, a2, a3⟩ := h.p (u := x.bin.toNat) (by omega)
    unfold imS
    rw [a3, h.bins]
    exact ⟨h2.1, by dsimp only; omega, by dsimp only; omega⟩
theorem Rnm.sim {q t : Hse} {p s r : List Nat} (h : Rnm q t p s r) (hq : q.ok) : Sim q.bins.toNat q.gaps t.gaps (fun u u' => p[u]? = some u') (fun i i' => s[i]? = some i') := ⟨h.op.bij, h.os.bij, h.gs.len, fun i i' g g' h1 h2 h3 => by
  have h4 := h.gs.at_ i (List.getElem?_eq_some_iff.1 h2).1 g i' h2 h1
  rw [h3] at h4
  obtain rfl := Option.some.inj h4
  have h5 := hq.gaps g (List.mem_of_getElem? h2)
  have hb := hq.bins
  obtain ⟨a', a1, a2, a3⟩ := h.p (u := g.a.toNat) (by omega)
  obtain ⟨b', b1, b2, b3⟩ := h.p (u := g.b.toNat) (by omega)
  unfold imG
  rw [a3, b3]
  exact ⟨a1, b1⟩⟩
theorem Rnm.inr {q t : Hse} {p s r : List Nat} (h : Rnm q t p s r) {l : List Int} (hl : ∀ x ∈ l, 0 ≤ x ∧ x < q.bins) : ∀ y ∈ rnm p l, 0 ≤ y ∧ y < t.bins := fun y hy => by
  obtain ⟨x, hx, rfl⟩ := List.mem_map.1 hy
  have := hl x hx
  obtain ⟨a', a1, a2, a3⟩ := h.p (u := x.toNat) (by omega)
  rw [a3, h.bins]; omega
theorem Rnm.eqv {q t : Hse} {p s r : List Nat} (h : Rnm q t p s r) {x y : Int} (hx : 0 ≤ x ∧ x < q.bins) (hy : 0 ≤ y ∧ y < q.bins) (e : na (inl p) x.toNat = na (inl p) y.toNat) : x = y := by
  obtain ⟨a', a1, a2, a3⟩ := h.p (u := x.toNat) (by omega)
  obtain ⟨b', b1, b2, b3⟩ := h.p (u := y.toNat) (by omega)
  rw [a3, b3] at e
  obtain rfl : a' = b' := by omega
  have := h.op.bij.i _ _ _ a1 b1
  omega
theorem Rnm.ls {q t : Hse} {p s r : List Nat} (h : Rnm q t p s r) {l : List Int} (hl : ∀ x ∈ l, 0 ≤ x ∧ x < q.bins) (hn : l.Nodup) : Zy t.bins (rnm p l) = 0 := Z4c (h.inr hl) (by
  unfold rnm
  rw [List.nodup_iff_pairwise_ne, List.pairwise_map]
  exact (List.nodup_iff_pairwise_ne.1 hn).imp_of_mem fun {a b} ha hb hab e => hab (h.eqv (hl a ha) (hl b hb) e))
theorem Rnm.apart {q t : Hse} {p s r : List Nat} (h : Rnm q t p s r) {l k : List Int} (hl : ∀ x ∈ l, 0 ≤ x ∧ x < q.bins) (hk : ∀ x ∈ k, 0 ≤ x ∧ x < q.bins) (ha : ∀ x ∈ l, x ∉ k) : ∀ x ∈ rnm p l, x ∉ rnm p k := fun x h1 h2 => by
  obtain ⟨y, hy, rfl⟩ := List.mem_map.1 h1
  obtain ⟨z, hz, e⟩ := List.mem_map.1 h2
  have := h.eqv (hk z hz) (hl y hy) e
  subst this
  exact ha z hy hz
theorem Rnm.ex {q t : Hse} {p s r : List Nat} (h : Rnm q t p s r) (hq : q.ok) {m m' : Nat} (hm : Img q.bins.toNat (fun u u' => p[u]? = some u') m m') : Z3I q.gaps m q.sights = Z3I t.gaps m' t.sights := by
  have hb := hq.bins
  have key : ∀ x ∈ q.sights, exS q.gaps m x = exS t.gaps m' (imS p x) := fun x hx => by
    have h1 := hq.sights x hx
    obtain ⟨a', a1, a2, a3⟩ := h.p (u := x.bin.toNat) (by omega)
    unfold exS imS
    rw [(h.sim hq).wk Img.zero hm a1, a3, Int.toNat_natCast]
  unfold Z3I
  rw [Bool.eq_iff_iff, List.all_eq_true, List.all_eq_true]
  constructor
  · intro h1 x' hx
    obtain ⟨x, h2, rfl⟩ := h.sgt hx
    rw [← key x h2]; exact h1 x h2
  · intro h1 x hx
    rw [key x hx]; exact h1 _ (h.sgt2 hx)
theorem Rnm.agr {q t : Hse} {p s r : List Nat} (h : Rnm q t p s r) (hq : q.ok) (ha : q.agr q.sights = true) : t.agr t.sights = true := by
  obtain ⟨m, h1, h2⟩ := (Z3o hq hq.sights).1 ha
  obtain ⟨m', h3⟩ := Img.ex h.op.bij h1
  have hok := h.ok hq
  exact (Z3o hok hok.sights).2 ⟨m', by rw [h.bins]; exact h3.lt', by rw [← h.ex hq h3]; exact h2⟩
theorem Z4f {α : Type} {l : List α} {k : Nat} {x : α} (h : l[k]? = some x) : l.take (k + 1) = l.take k ++ [x] := by rw [List.take_add_one, h]; rfl
end Go.Proofs.YthbjpnmclokinaaGreat
namespace Go.Proofs.YthbjpnmclokinaaGreat
set_option linter.unusedSimpArgs false
set_option linter.unusedVariables false
def nxt (gs : List Gp) (cl now : List Int) : Nat → List Int
  | 0 => now
  | i + 1 => match gs[i]? with
    | some g => bif ZF cl i then nxt gs cl now i else
      (fun o => bif ZF now g.b && !ZF o g.a then o ++ [g.a] else o) (bif ZF now g.a && !ZF (nxt gs cl now i) g.b then nxt gs cl now i ++ [g.b] else nxt gs cl now i)
    | none => nxt gs cl now i
structure Lm (l : List Int) (m : Nat) : Prop where
  rg : ∀ x ∈ l, 0 ≤ x ∧ x < 7
  nd : l.Nodup
  ms : msk l = m
theorem ZbP (l : List Int) (x : Int) : msk (l ++ [x]) = msk l ||| 2 ^ x.toNat := by
  unfold msk
  rw [List.foldl_append]; rfl
theorem Lm.has {l : List Int} {m : Nat} (h : Lm l m) {x : Int} (hx : 0 ≤ x) : ZF l x = m.testBit x.toNat := by
  rw [← h.ms, Bool.eq_iff_iff, hasI_iff, Zs (fun k hk => (h.rg k hk).1), show ((x.toNat : Nat) : Int) = x by omega]
theorem Lm.add {l : List Int} {m : Nat} (h : Lm l m) {x : Int} (hx : 0 ≤ x ∧ x < 7) (hn : ZF l x = false) : Lm (l ++ [x]) (m ||| 2 ^ x.toNat) := by
  refine ⟨fun y hy => ?_, ?_, by rw [ZbP, h.ms]⟩
  · rcases List.mem_append.1 hy with h1 | h1
    · exact h.rg y h1
    · rw [List.mem_singleton.1 h1]; exact hx
  · refine List.nodup_append.2 ⟨h.nd, by simp, fun a ha b hb e => ?_⟩
    rw [List.mem_singleton] at hb
    subst hb; subst e
    rw [hasI_iff.2 ha] at hn; cases hn
theorem Ze1 {m v : Nat} (h : m.testBit v = true) : m ||| 2 ^ v = m := ZO fun k => by
  rw [Nat.testBit_or, Nat.testBit_two_pow]
  by_cases e : v = k
  · subst e; rw [h]; rfl
  · rw [decide_eq_false e, Bool.or_false]
theorem Lm.way {l : List Int} {m : Nat} (h : Lm l m) {x : Int} (hx : 0 ≤ x ∧ x < 7) (p : Bool) : Lm (bif p && !ZF l x then l ++ [x] else l) (m ||| (bif p then 2 ^ x.toNat else 0)) := by
  cases p with
  | false => rw [Bool.false_and, cond_false, cond_false, Nat.or_zero]; exact h
  | true =>
    rw [Bool.true_and, cond_true]
    cases hb : ZF l x with
    | false => rw [Bool.not_false, cond_true]; exact h.add hx hb
    | true =>
      rw [Bool.not_true, cond_false]
      rw [h.has hx.1] at hb
      rw [Ze1 hb]; exact h
theorem ZaR {gs : List Gp} {cl now : List Int} {c m : Nat} (hg : ∀ g ∈ gs, (0 ≤ g.a ∧ g.a < 7) ∧ 0 ≤ g.b ∧ g.b < 7) (hc : ∀ i : Nat, ZF cl (i : Int) = c.testBit i) (hn : Lm now m) : ∀ i, Lm (nxt gs cl now i) (Z3t gs c m i)
  | 0 => hn
  | i + 1 => by
    have ih := ZaR hg hc hn i
    unfold nxt Z3t
    cases hgi : gs[i]? with
    | none => exact ih
    | some g =>
      dsimp only
      rw [hc i]
      cases c.testBit i with
      | true => exact ih
      | false =>
        have h1 := hg g (List.mem_of_getElem? hgi)
        rw [cond_false, cond_false]
        have h2 := ih.way h1.2 (ZF now g.a)
        have h3 := h2.way h1.1 (ZF now g.b)
        unfold gpo
        rw [← Nat.or_assoc]
        rw [hn.has h1.1.1, hn.has h1.2.1] at h3
        rw [hn.has h1.1.1, hn.has h1.2.1]
        exact h3
def Z6v (gs : List Gp) (cl now : List Int) : List Int := nxt gs cl now gs.length
theorem Zbv {gs : List Gp} {cl now : List Int} {c m : Nat} (hg : ∀ g ∈ gs, (0 ≤ g.a ∧ g.a < 7) ∧ 0 ≤ g.b ∧ g.b < 7) (hc : ∀ i : Nat, ZF cl (i : Int) = c.testBit i) (hn : Lm now m) : Lm (Z6v gs cl now) (spr gs c m) := by
  have := ZaR hg hc hn gs.length
  rw [Z6a] at this; exact this
theorem Lm.len {l : List Int} {m : Nat} (h : Lm l m) : l.length = cnt 7 m := by
  rw [← Z2b, show l.length = (l.map Int.toNat).length from (List.length_map _).symm]
  refine List.Perm.length_eq ((List.perm_ext_iff_of_nodup ?_ (List.nodup_range.sublist List.filter_sublist)).2 fun x => ?_)
  · rw [List.nodup_iff_pairwise_ne, List.pairwise_map]
    exact (List.nodup_iff_pairwise_ne.1 h.nd).imp_of_mem fun {a b} ha hb hab e => by
      have := h.rg a ha; have := h.rg b hb; omega
  · rw [List.mem_filter, List.mem_range, List.mem_map, ← h.ms, Zs (fun k hk => (h.rg k hk).1)]
    constructor
    · rintro ⟨y, hy, rfl⟩
      have := h.rg y hy
      exact ⟨by omega, by rw [show ((y.toNat : Nat) : Int) = y by omega]; exact hy⟩
    · rintro ⟨_, hx⟩; exact ⟨_, hx, Int.toNat_natCast x⟩
theorem Lm.few {l : List Int} {m : Nat} (h : Lm l m) : l.length ≤ 7 := by rw [h.len]; exact Z1Z _ _
theorem Lm.lt {l : List Int} {m : Nat} (h : Lm l m) : m < 2 ^ 7 := by rw [← h.ms]; exact Z0S h.rg
theorem Lm.of {n : Int} {l : List Int} (hn : n ≤ 7) (h : Zy n l = 0) : Lm l (msk l) := by
  unfold Zy at h
  cases h1 : l.all fun k => inB k 0 (n - 1) with
  | false => rw [h1] at h; cases h
  | true =>
    rw [h1] at h
    cases h2 : (List.range l.length).any (Z3s l) with
    | true => rw [h2] at h; cases h
    | false =>
      refine ⟨fun x hx => ?_, ?_, rfl⟩
      · have := List.all_eq_true.1 h1 x hx
        simp only [inB, Bool.and_eq_true, decide_eq_true_eq] at this; omega
      · rw [List.nodup_iff_pairwise_ne, List.pairwise_iff_getElem]
        intro i j hi hj hij e
        have h3 := List.any_eq_false.1 h2 j (List.mem_range.2 hj)
        apply h3
        unfold Z3s
        rw [hasI_iff, show na l j = l[j] from by unfold na; rw [List.getD_eq_getElem?_getD, List.getElem?_eq_getElem hj]; rfl, ← e]
        exact List.mem_of_getElem? (by rw [List.getElem?_take, if_pos hij, List.getElem?_eq_getElem hi])
def fw (gs : List Gp) (c m w k : Nat) : Int := match (List.range w).find? fun t => (lv gs c m t).testBit k with
  | some t => (t : Int)
  | none => -1
theorem Zc9 (gs : List Gp) (c m k : Nat) : fw gs c m 0 k = -1 := rfl
theorem Z1v (gs : List Gp) (c m w k : Nat) : (∃ t : Nat, t < w ∧ fw gs c m w k = t ∧ (lv gs c m t).testBit k = true ∧ ∀ i : Nat, i < t → (lv gs c m i).testBit k = false) ∨ (fw gs c m w k = -1 ∧ ∀ i : Nat, i < w → (lv gs c m i).testBit k = false) := by
  unfold fw
  rcases hf : (List.range w).find? fun t => (lv gs c m t).testBit k with _ | t
  · refine .inr ⟨rfl, fun i hi => ?_⟩
    have := List.find?_eq_none.1 hf i (List.mem_range.2 hi)
    simpa using this
  · obtain ⟨h1, lp, lq, h2, h3⟩ := List.find?_eq_some_iff_append.1 hf
    have hm : t ∈ List.range w := by rw [h2]; simp
    refine .inl ⟨t, List.mem_range.1 hm, rfl, h1, fun i hi => ?_⟩
    have hi7 : i ∈ List.range w := List.mem_range.2 (by have := List.mem_range.1 hm; omega)
    have hp := List.pairwise_lt_range (n := w)
    rw [h2] at hi7 hp
    rw [List.pairwise_append] at hp
    rcases List.mem_append.1 hi7 with h4 | h4
    · have := h3 i h4; simpa using this
    · rcases List.mem_cons.1 h4 with rfl | h4
      · omega
      · have := (List.pairwise_cons.1 hp.2.1).1 i h4; omega
theorem Zby {gs : List Gp} {c m w k : Nat} : fw gs c m (w + 1) k = bif decide (0 ≤ fw gs c m w k) then fw gs c m w k else bif (lv gs c m w).testBit k then (w : Int) else -1 := by
  rcases Z1v gs c m w k with ⟨t, h1, h2, h3, h4⟩ | ⟨h1, h2⟩
  · rw [h2, decide_eq_true (by omega), cond_true]
    rcases Z1v gs c m (w + 1) k with ⟨t', g1, g2, g3, g4⟩ | ⟨g1, g2⟩
    · rw [g2]
      rcases Nat.lt_trichotomy t t' with h | h | h
      · rw [g4 t h] at h3; cases h3
      · rw [h]
      · rw [h4 t' h] at g3; cases g3
    · rw [g2 t (by omega)] at h3; cases h3
  · rw [h1, decide_eq_false (by decide), cond_false]
    rcases Z1v gs c m (w + 1) k with ⟨t', g1, g2, g3, g4⟩ | ⟨g1, g2⟩
    · have : t' = w := by
        rcases Nat.lt_or_ge t' w with h | h
        · rw [h2 t' h] at g3; cases g3
        · omega
      subst this
      rw [g2, g3]; rfl
    · rw [g1, g2 w (by omega)]; rfl
def wkC (gs : List Gp) (c m k : Nat) : Int := bif decide (far ≤ wk gs c m k) then -1 else wk gs c m k
theorem ZeI {gs : List Gp} {c m n k : Nat} (hn7 : n ≤ 7) (hn1 : 1 ≤ n) (hw : Wth gs n) (hm : m < 2 ^ n) : fw gs c m n k = wkC gs c m k := by
  unfold wkC
  rcases Z0z gs c m k with ⟨t, h1, h2, h3, h4⟩ | ⟨h1, h2⟩
  · rw [h2, decide_eq_false (by unfold far; omega), cond_false]
    rcases Z1v gs c m n k with ⟨t', g1, g2, g3, g4⟩ | ⟨g1, g2⟩
    · rw [g2]
      rcases Nat.lt_trichotomy t t' with h | h | h
      · rw [g4 t h] at h3; cases h3
      · rw [h]
      · rw [h4 t' h] at g3; cases g3
    · rcases Nat.lt_or_ge t n with h | h
      · rw [g2 t h] at h3; cases h3
      · rw [Z3Y hw hm (t := n - 1) (by omega) (by omega), g2 (n - 1) (by omega)] at h3; cases h3
  · rw [h1, decide_eq_true (Int.le_refl _), cond_true]
    rcases Z1v gs c m n k with ⟨t', g1, g2, g3, g4⟩ | ⟨g1, g2⟩
    · rw [h2 t' (by omega)] at g3; cases g3
    · exact g1
def wkL (gs : List Gp) (c m n : Nat) : List Int := (List.range n).map (wkC gs c m)
theorem Z7I (gs : List Gp) (c m n : Nat) : (wkL gs c m n).length = n := by simp [wkL]
theorem Zea {gs : List Gp} {c m n k : Nat} (hk : k < n) : na (wkL gs c m n) k = wkC gs c m k := by
  unfold na wkL; rw [List.getD_eq_getElem?_getD, List.getElem?_map, List.getElem?_range hk]; rfl
structure RwI (gs : List Gp) (c m n w : Nat) (met : List Int) (o : List Int) : Prop where
  len : o.length = n
  at_ : ∀ k < n, na o k = bif decide (0 ≤ fw gs c m w k) then fw gs c m w k else bif ZF met (k : Int) then (w : Int) else -1
theorem RwI.put {gs : List Gp} {c m n w : Nat} {met o : List Int} {x : Int} (h : RwI gs c m n w met o) (hx : 0 ≤ x ∧ x.toNat < n) (hn : na o x.toNat < 0) : RwI gs c m n w (met ++ [x]) (o.set x.toNat (w : Int)) := by
  have hl := h.len
  refine ⟨by rw [List.length_set]; exact hl, fun k hk => ?_⟩
  have h1 := h.at_ k hk
  by_cases e : x.toNat = k
  · subst e
    have e1 : na (o.set x.toNat (w : Int)) x.toNat = (w : Int) := by unfold na; rw [List.getD_eq_getElem?_getD, List.getElem?_set_self (by omega)]; rfl
    rw [e1]
    have h2 : ¬ 0 ≤ fw gs c m w x.toNat := fun h9 => by rw [decide_eq_true h9, cond_true] at h1; omega
    rw [decide_eq_false h2, cond_false, show ((x.toNat : Nat) : Int) = x by omega, hasI_iff.2 (List.mem_append_right _ (by simp))]; rfl
  · have e1 : na (o.set x.toNat (w : Int)) k = na o k := by unfold na; simp only [List.getD_eq_getElem?_getD, List.getElem?_set_ne e]
    have e2 : ZF (met ++ [x]) (k : Int) = ZF met (k : Int) := by
      rw [Bool.eq_iff_iff, hasI_iff, hasI_iff, List.mem_append, List.mem_singleton]
      exact ⟨fun h9 => h9.resolve_right (fun e9 => by omega), .inl⟩
    rw [e1, e2]; exact h1
theorem RwI.skip {gs : List Gp} {c m n w : Nat} {met o : List Int} {x : Int} (h : RwI gs c m n w met o) (hx : 0 ≤ x ∧ x.toNat < n) (hn : 0 ≤ na o x.toNat) : RwI gs c m n w (met ++ [x]) o := by
  refine ⟨h.len, fun k hk => ?_⟩
  have h1 := h.at_ k hk
  by_cases e : x.toNat = k
  · subst e
    rw [h1]
    rw [h1] at hn
    by_cases h2 : 0 ≤ fw gs c m w x.toNat
    · rw [decide_eq_true h2]; rfl
    · rw [decide_eq_false h2, cond_false] at hn ⊢
      rw [cond_false, hasI_iff.2 (show ((x.toNat : Nat) : Int) ∈ met ++ [x] from List.mem_append_right _ (by simp; omega))]
      cases h3 : ZF met ((x.toNat : Nat) : Int) with
      | true => rfl
      | false => rw [h3] at hn; exact absurd hn (show ¬ (0 : Int) ≤ -1 by decide)
  · have e2 : ZF (met ++ [x]) (k : Int) = ZF met (k : Int) := by
      rw [Bool.eq_iff_iff, hasI_iff, hasI_iff, List.mem_append, List.mem_singleton]
      exact ⟨fun h9 => h9.resolve_right (fun e9 => by omega), .inl⟩
    rw [e2]; exact h1
theorem RwI.week {gs : List Gp} {c m n w : Nat} {now o : List Int} (h : RwI gs c m n w now o) (hn : Lm now (lv gs c m w)) : RwI gs c m n (w + 1) [] o := ⟨h.len, fun k hk => by
  rw [h.at_ k hk, Zby, hn.has (by omega), Int.toNat_natCast]
  cases h1 : decide (0 ≤ fw gs c m w k) with
  | true => rw [cond_true, h1]; rfl
  | false =>
    rw [cond_false]
    cases (lv gs c m w).testBit k with
    | true => rw [cond_true, decide_eq_true (show (0 : Int) ≤ (w : Int) by omega)]; rfl
    | false => rfl⟩
theorem RwI.done {gs : List Gp} {c m n : Nat} {o : List Int} (h : RwI gs c m n n [] o) (hn7 : n ≤ 7) (hn1 : 1 ≤ n) (hw : Wth gs n) (hm : m < 2 ^ n) : o = wkL gs c m n := by
  apply List.ext_getElem?
  intro k
  rcases Nat.lt_or_ge k n with hk | hk
  · have h1 := h.at_ k hk
    have h2 : o[k]? = some (na o k) := by unfold na; rw [List.getD_eq_getElem?_getD, List.getElem?_eq_getElem (by rw [h.len]; exact hk)]; rfl
    rw [h2, h1]
    unfold wkL
    rw [List.getElem?_map, List.getElem?_range hk]
    show some _ = some (wkC gs c m k)
    rw [← ZeI hn7 hn1 hw hm]
    by_cases h3 : 0 ≤ fw gs c m n k
    · rw [decide_eq_true h3]; rfl
    · rw [decide_eq_false h3]
      rcases Z1v gs c m n k with ⟨t, _, h4, _⟩ | ⟨h4, _⟩
      · omega
      · rw [h4]; rfl
  · rw [List.getElem?_eq_none (by rw [h.len]; exact hk), List.getElem?_eq_none (by rw [Z7I]; exact hk)]
open Go
theorem Zae : Z4O Tryz.prog 110 = some 2 := by kernel_rfl
theorem Z6W : Z4O Tryz.prog 35 = some 3 := by kernel_rfl
theorem Z97 : cal Tryz.prog 11 = true := by kernel_rfl
theorem Z9x : cal Tryz.prog 14 = true := by kernel_rfl
theorem Z7w : cal Tryz.prog 29 = true := by kernel_rfl
theorem Z6w : cal Tryz.prog 72 = true := by kernel_rfl
theorem Z2D : cal Tryz.prog 73 = true := by kernel_rfl
theorem Zfl : cal Tryz.prog 76 = true := by kernel_rfl
theorem Zba : Z0w Tryz.prog 110 = some 2 := by kernel_rfl
theorem ZeM : elN Tryz.prog 32 = some 2 := by kernel_rfl
theorem ZfH : elN Tryz.prog 33 = some 3 := by kernel_rfl
theorem Z0s : Z1U Tryz.prog 110 0 = some 0 := by kernel_rfl
theorem Z0L : Z1U Tryz.prog 110 1 = some 1 := by kernel_rfl
theorem Zbm : Z1U Tryz.prog 111 0 = some 0 := by kernel_rfl
theorem Zb5 : Z1U Tryz.prog 111 1 = some 1 := by kernel_rfl
theorem Z26 : Z1U Tryz.prog 35 0 = some 0 := by kernel_rfl
theorem Z1q : Z1U Tryz.prog 35 1 = some 1 := by kernel_rfl
theorem Z3B : Z1U Tryz.prog 35 2 = some 2 := by kernel_rfl
theorem Z6M : Z5J Tryz.prog 32 = true := by kernel_rfl
theorem Ze2 : Z5J Tryz.prog 33 = true := by kernel_rfl
theorem Z79 : Z28 Tryz.prog 32 = true := by kernel_rfl
theorem Zec : Z28 Tryz.prog 33 = true := by kernel_rfl
theorem Z9P : ZS Tryz.prog 110 = some ([.int .i64 0, .int .i64 0]) := by kernel_rfl
theorem Zee {n lo hi : Int} (h : decide (n < lo) = true) : true = !(inB n lo hi) := by
  have := of_decide_eq_true h
  unfold inB; rw [decide_eq_false (show ¬ lo ≤ n by omega)]; rfl
theorem ZcE {n lo hi : Int} (h : decide (n < lo) = false) : decide (hi < n) = !(inB n lo hi) := by
  have := of_decide_eq_false h
  unfold inB; rw [decide_eq_true (show lo ≤ n by omega), Bool.true_and, ← decide_not]; exact decide_eq_decide.2 (by omega)
theorem Z9q {l : List Int} {v : Int} (h : ∀ x ∈ l, x ≠ v) : ZF l v = false := by
  cases hb : ZF l v with
  | false => rfl
  | true => exact absurd rfl (h v (hasI_iff.1 hb))
theorem Z6J {l : List Int} {k : Nat} {x v : Int} (hx : l[k]? = some x) (h : ∀ y ∈ l.take k, y ≠ v) (hn : x ≠ v) : ∀ y ∈ l.take (k + 1), y ≠ v := fun y hy => by
  rw [List.take_add_one, hx] at hy
  rcases List.mem_append.1 hy with h1 | h1
  · exact h y h1
  · rw [List.mem_singleton.1 h1]; exact hn
def fil (v : Int) (B k : Nat) : List Int := List.replicate k v ++ List.replicate (B - k) 0
theorem Z71 {v : Int} {B k : Nat} (h : k ≤ B) : (fil v B k).length = B := by unfold fil; rw [List.length_append, List.length_replicate, List.length_replicate]; omega
theorem Zbl {v : Int} {B k : Nat} (h : k < B) : (fil v B k).set k v = fil v B (k + 1) := by
  unfold fil
  rw [List.set_append_right _ _ (by rw [List.length_replicate]; exact Nat.le_refl _), List.length_replicate, Nat.sub_self, show B - k = (B - (k + 1)) + 1 by omega, List.replicate_succ, List.set_cons_zero, List.replicate_succ', List.append_assoc]; rfl
theorem Z9E (v : Int) (B : Nat) : fil v B 0 = List.replicate B 0 := by unfold fil; rfl
theorem ZbI (v : Int) (B : Nat) : fil v B B = List.replicate B v := by unfold fil; rw [Nat.sub_self]; exact List.append_nil _
theorem Lm.ltn {l : List Int} {m n : Nat} (h : Lm l m) (hm : m < 2 ^ n) : ∀ x ∈ l, 0 ≤ x ∧ x.toNat < n := fun x hx => by
  have h1 := h.rg x hx
  refine ⟨h1.1, ?_⟩
  rcases Nat.lt_or_ge x.toNat n with h2 | h2
  · exact h2
  · have h3 := (Zs (fun k hk => (h.rg k hk).1) x.toNat).2 (by rw [show ((x.toNat : Nat) : Int) = x by omega]; exact hx)
    rw [h.ms] at h3
    rw [Nat.testBit_lt_two_pow (Nat.lt_of_lt_of_le hm (Nat.pow_le_pow_right (by decide) h2))] at h3; cases h3
theorem RwI.start (gs : List Gp) (c m B : Nat) : RwI gs c m B 0 [] (List.replicate B (-1)) := ⟨List.length_replicate, fun k hk => by
  rw [Zc9]
  unfold na
  rw [List.getD_eq_getElem?_getD, List.getElem?_replicate, if_pos hk]; rfl⟩
theorem Z5y (gs : List Gp) (cl now : List Int) : ∀ i, (nxt gs cl now i).length ≤ now.length + 2 * i
  | 0 => Nat.le_refl _
  | i + 1 => by
    have ih := Z5y gs cl now i
    unfold nxt
    cases gs[i]? with
    | none => dsimp only; omega
    | some g =>
      dsimp only
      cases ZF cl i with
      | true => rw [cond_true]; omega
      | false =>
        rw [cond_false]
        cases ZF now g.a && !ZF (nxt gs cl now i) g.b with
        | true =>
          dsimp only [cond_true]
          cases ZF now g.b && !ZF (nxt gs cl now i ++ [g.b]) g.a with
          | true => simp only [cond_true, List.length_append, List.length_singleton]; omega
          | false => simp only [cond_false, List.length_append, List.length_singleton]; omega
        | false =>
          dsimp only [cond_false]
          cases ZF now g.b && !ZF (nxt gs cl now i) g.a with
          | true => simp only [cond_true, List.length_append, List.length_singleton]; omega
          | false => simp only [cond_false]; omega
def nx1 (gs : List Gp) (cl now : List Int) (i : Nat) (g : Gp) : List Int := bif ZF now g.a && !ZF (nxt gs cl now i) g.b then nxt gs cl now i ++ [g.b] else nxt gs cl now i
theorem Z9j {gs : List Gp} {cl now : List Int} {i : Nat} {g : Gp} (hg : gs[i]? = some g) (hc : ZF cl i = true) : nxt gs cl now (i + 1) = nxt gs cl now i := by
  conv => lhs; unfold nxt
  rw [hg]; dsimp only; rw [hc]; rfl
theorem Z9h {gs : List Gp} {cl now : List Int} {i : Nat} {g : Gp} (hg : gs[i]? = some g) (hc : ZF cl i = false) : nxt gs cl now (i + 1) = bif ZF now g.b && !ZF (nx1 gs cl now i g) g.a then nx1 gs cl now i g ++ [g.a] else nx1 gs cl now i g := by
  conv => lhs; unfold nxt
  rw [hg]; dsimp only; rw [hc]; rfl
theorem ck2 {h : Hse} (h1 : (!(inB h.bins 1 7)) = true ∨ 10 < h.gaps.length ∨ 8 < h.sights.length) : h.check = 2 := by
  unfold Hse.check
  have : (!(inB h.bins 1 7) || decide (10 < h.gaps.length) || decide (8 < h.sights.length)) = true := by
    rcases h1 with h1 | h1 | h1
    · rw [h1]; rfl
    · rw [decide_eq_true h1]; simp
    · rw [decide_eq_true h1]; simp
  rw [this]; rfl
def Z2K (h : Hse) (k : Nat) : Bool := (h.gaps.take k).any fun g => !(inB g.a 0 (h.bins - 1)) || !(inB g.b 0 (h.bins - 1))
def Z0N (h : Hse) (k : Nat) : Bool := (h.gaps.take k).any fun g => decide (g.a = g.b)
def Zcv (h : Hse) (k : Nat) : Bool := (h.sights.take k).any fun s => !(inB s.bin 0 (h.bins - 1))
theorem Z4p {α : Type} {l : List α} {k : Nat} {x : α} {p : α → Bool} (hx : l[k]? = some x) : (l.take (k + 1)).any p = ((l.take k).any p || p x) := by rw [List.take_add_one, hx, List.any_append]; simp
theorem Zbf {h : Hse} (h1 : inB h.bins 1 7 = true) (h2 : h.gaps.length ≤ 10) (h3 : h.sights.length ≤ 8) (h4 : (h.sights.all fun s => inB s.week 0 9) = true) : h.check = bif Z2K h h.gaps.length || Zcv h h.sights.length then 1 else bif Z0N h h.gaps.length then 5 else 0 := by
  unfold Hse.check Z2K Zcv Z0N
  rw [h1, decide_eq_false (show ¬ 10 < h.gaps.length by omega), decide_eq_false (show ¬ 8 < h.sights.length by omega), h4, List.take_length, List.take_length]
  have e1 : (!(h.gaps.all fun g => inB g.a 0 (h.bins - 1) && inB g.b 0 (h.bins - 1))) = h.gaps.any fun g => !(inB g.a 0 (h.bins - 1)) || !(inB g.b 0 (h.bins - 1)) := by
    rw [List.not_all_eq_any_not]
    congr 1; funext g; rw [Bool.not_and]
  have e2 : (!(h.sights.all fun s => inB s.bin 0 (h.bins - 1))) = h.sights.any fun s => !(inB s.bin 0 (h.bins - 1)) := List.not_all_eq_any_not
  have e3 : (!(h.gaps.all fun g => !decide (g = ⟨g.b, g.a⟩))) = h.gaps.any fun g => decide (g.a = g.b) := by
    rw [List.not_all_eq_any_not]
    congr 1; funext g
    rw [Bool.not_not]
    cases g with
    | mk a b => exact decide_eq_decide.2 ⟨fun e => by injection e, fun e => by dsimp only at e; subst e; rfl⟩
  rw [e1, e2, e3]; rfl
theorem ck3 {h : Hse} (h1 : inB h.bins 1 7 = true) (h2 : h.gaps.length ≤ 10) (h3 : h.sights.length ≤ 8) {s : Sgt} (hs : s ∈ h.sights) (h4 : (!(inB s.week 0 9)) = true) : h.check = 3 := by
  have e : (h.sights.all fun s => inB s.week 0 9) = false := List.all_eq_false.2 ⟨s, hs, by rw [Bool.not_eq_true'] at h4; rw [h4]; decide⟩
  unfold Hse.check
  rw [h1, decide_eq_false (show ¬ 10 < h.gaps.length by omega), decide_eq_false (show ¬ 8 < h.sights.length by omega), e]; rfl
theorem Zc1 {l : List Sgt} {p : Sgt → Bool} (h : ∀ x ∈ l.take l.length, p x = true) : l.all p = true := List.all_eq_true.2 fun x hx => h x (by rw [List.take_length]; exact hx)
theorem Z3J (n lo hi : Int) (H : Z8) (R : Z6) :
    FnV Tryz.prog 72 [.int .i64 n, .int .i64 lo, .int .i64 hi] H R (.bool (!(inB n lo hi))) := by
 refine Zg Tryz.func72 rfl Tryz.ntmps72 rfl ?_
 refine sqt 1 rfl (pur 1 rfl (sqt 9 rfl (pur 4 rfl ?_)))
 refine Zq 10 rfl ?_ ?_ <;> intro g10
 refine pur 5 rfl (Z5 ?_)
 exact rtA rfl rfl rfl ⟨by first | exact congrArg Value.bool (Zee g10) | exact congrArg Value.bool (ZcE g10), rfl, rfl⟩ drp
 refine pur 5 rfl (Z5 ?_)
 exact rtA rfl rfl rfl ⟨by first | exact congrArg Value.bool (Zee g10) | exact congrArg Value.bool (ZcE g10), rfl, rfl⟩ drp
theorem Z1b (l : List Int) (a : Option Addr) (c : Nat) (v : Int) (hl : l.length ≤ 9223372036854775807) (H : Z8) (R : Z6) [hL : MemRows a 1 (Z4 l) R] :
    FnV Tryz.prog 73 [.slice a l.length c, .int .i64 v] H R (.bool (ZF l v)) := by
 refine Zg Tryz.func73 rfl Tryz.ntmps73 rfl ?_
 refine sqt 1 rfl (pur 1 rfl (Z0 (sqt 1 rfl (pur 1 rfl (Z3 ?_)))))
 refine Zc (ι := {k : Nat // k ≤ l.length ∧ ∀ x ∈ l.take k, x ≠ v}) (fun k => ⟨[(0, .slice a l.length c), (1, .int .i64 v), (5, .int .i64 (k.1 : Int))], H, R⟩) (fun k => l.length - k.1) ⟨0, Nat.zero_le _, by simp⟩ ?_ (fun k => ?_)
 exact Zj idH
 obtain ⟨k, hk, hn⟩ := k
 dsimp only at hk hn ⊢
 refine Z0 (sqt 4 rfl (pur 2 rfl (sp rfl (PE.lenSl Zw rfl) rfl (pur 1 rfl ?_))))
 refine Z1 rfl ?_ ?_ <;> intro hc0 <;> try simp only [cS] at hc0
 obtain ⟨x, hx⟩ : ∃ x, l[k]? = some x := ⟨_, List.getElem?_eq_getElem (by omega)⟩
 refine Zf (a := a) (sz := 1) (rows := Z4 l) (ne0 (by rw [irl]; omega)) (fun ba oa he => ?_)
 subst he
 refine Z2 (Z0 (Z3 (sqt 6 rfl (pur 2 rfl (sp rfl (PE.indexAddr Z1e rfl rfl (by omega) (by omega)) rfl (spL rfl rfl (lf0 sc3 (ZH hx) rfl) rfl (pur 2 rfl ?_)))))))
 refine Z1 rfl ?_ ?_ <;> intro hc1 <;> try simp only [cS] at hc1
 have hh : ZF l v = true := hasI_iff.2 (by rw [← hc1]; exact List.mem_of_getElem? hx)
 refine sqt 1 rfl (pur 1 rfl (Z5 ?_))
 exact rtA rfl rfl rfl ⟨by simp only [ZC]; rw [hh], rfl, rfl⟩ drp
 refine Z2 (sqr 3 rfl (pur 1 rfl (sp rfl (PE.add rfl rfl (by omega)) rfl (pur 1 rfl ?_))))
 exact Za ⟨k + 1, by omega, Z6J hx hn hc1⟩ idH
 obtain rfl : k = l.length := by omega
 rw [List.take_length] at hn
 have hh : ZF l v = false := Z9q hn
 refine Z7 (Z9 (Z9 (Zn (sqt 1 rfl (pur 1 rfl (Z5 ?_))))))
 exact rtA rfl rfl rfl ⟨by simp only [ZC]; rw [hh], rfl, rfl⟩ drp
theorem Zbg (xs : List Int) (n : Nat) (hn : xs.length = n) (a : Option Addr) (c : Nat) (v : Int) (hl : xs.length ≤ 9223372036854775807) (H : Z8) (R : Z6) [hR : MemRows a 1 (Z4 xs) R] : FnV Tryz.prog 73 [.slice a n c, .int .i64 v] H R (.bool (ZF xs v)) := by subst hn; exact Z1b xs a c v hl H R
set_option maxHeartbeats 400000 in
theorem Z1f (l : List Int) (a : Option Addr) (c : Nat) (n : Int) (hn : 0 ≤ n ∧ n ≤ 1000000) (hl : l.length ≤ 9223372036854775807) (hlc : l.length ≤ c) (H : Z8) (R : Z6) [hR : MemRows a 1 (Z4 l) R] :
    FnV Tryz.prog 29 [.slice a l.length c, .int .i64 n] H R (.int .i64 (Zy n l)) := by
 refine Zg Tryz.func29 rfl Tryz.ntmps29 rfl ?_
 refine sqt 1 rfl (pur 1 rfl (Z0 (sqt 1 rfl (pur 1 rfl (Z3 ?_)))))
 refine Zc (ι := {k : Nat // k ≤ l.length ∧ ∀ x ∈ l.take k, inB x 0 (n - 1) = true}) (fun k => ⟨[(0, .slice a l.length c), (1, .int .i64 n), (5, .int .i64 (k.1 : Int))], H, R⟩) (fun k => l.length - k.1) ⟨0, Nat.zero_le _, by simp⟩ ?_ (fun k => ?_)
 exact Zj idH
 obtain ⟨k, hk, hi⟩ := k
 dsimp only at hk hi ⊢
 refine Z0 (sqt 4 rfl (pur 2 rfl (sp rfl (PE.lenSl Zw rfl) rfl (pur 1 rfl ?_))))
 refine Z1 rfl ?_ ?_ <;> intro hc0 <;> try simp only [cS] at hc0
 obtain ⟨x, hx⟩ : ∃ x, l[k]? = some x := ⟨_, List.getElem?_eq_getElem (by omega)⟩
 refine Zf (a := a) (sz := 1) (rows := Z4 l) (ne0 (by rw [irl]; omega)) (fun ba oa he => ?_)
 subst he
 refine Z2 (Z0 (Z3 (sqt 7 rfl (pur 2 rfl (sp rfl (PE.indexAddr Z1e rfl rfl (by omega) (by omega)) rfl (spL rfl rfl (lf0 sc3 (ZH hx) rfl) rfl (pur 1 rfl (sp rfl (PE.sub rfl rfl (by omega)) rfl ?_))))))))
 refine clV rfl Z6w rfl rfl (Z3J _ _ _ _ _) ?_
 refine Z1 rfl ?_ ?_ <;> intro hc1
 have hx9 : inB x 0 (n - 1) = false := by rw [← Bool.not_eq_true']; exact hc1
 have hall : (l.all fun k => inB k 0 (n - 1)) = false := List.all_eq_false.2 ⟨x, List.mem_of_getElem? hx, by rw [hx9]; decide⟩
 refine sqt 1 rfl (pur 1 rfl (Z5 ?_))
 exact rtA rfl rfl rfl ⟨by simp only [ZC]; unfold Zy; rw [hall]; rfl, rfl, rfl⟩ drp
 have hx9 : inB x 0 (n - 1) = true := by rw [← Bool.not_eq_false']; exact hc1
 refine Z2 (sqr 3 rfl (pur 1 rfl (sp rfl (PE.add rfl rfl (by omega)) rfl (pur 1 rfl ?_))))
 exact Zb ⟨k + 1, by omega, fun y hy => by
   rw [List.take_add_one, hx] at hy
   rcases List.mem_append.1 hy with h1 | h1
   · exact hi y h1
   · rw [List.mem_singleton.1 h1]; exact hx9⟩ (by dsimp only; omega) (by repeat' first | exact Sub.nil | apply Sub.cons | rfl | (simp [lk]; omega)) idH
 obtain rfl : k = l.length := by omega
 rw [List.take_length] at hi
 have hall : (l.all fun k => inB k 0 (n - 1)) = true := List.all_eq_true.2 hi
 refine Z7 (Z9 (Z9 (Zn (Z0 (sqt 1 rfl (pur 1 rfl (Z3 ?_)))))))
 refine Zc (ι := {k : Nat // k ≤ l.length ∧ ∀ i < k, Z3s l i = false}) (fun k => ⟨[(0, .slice a l.length c), (6, .int .i64 (k.1 : Int))], H, R⟩) (fun k => l.length - k.1) ⟨0, Nat.zero_le _, fun i hi => absurd hi (Nat.not_lt_zero _)⟩ ?_ (fun k => ?_)
 exact Zj idH
 obtain ⟨k, hk, hd⟩ := k
 dsimp only at hk hd ⊢
 refine Z0 (sqt 4 rfl (pur 2 rfl (sp rfl (PE.lenSl Zw rfl) rfl (pur 1 rfl ?_))))
 refine Z1 rfl ?_ ?_ <;> intro hc2 <;> try simp only [cS] at hc2
 obtain ⟨x, hx⟩ : ∃ x, l[k]? = some x := ⟨_, List.getElem?_eq_getElem (by omega)⟩
 refine Zf (a := a) (sz := 1) (rows := Z4 l) (ne0 (by rw [irl]; omega)) (fun ba oa he => ?_)
 subst he
 refine Z2 (Z0 (Z3 (Z0 ?_)))
 refine Zo [0, 0, 3, 0, 0, 24, 56, 127] (tks 0 6 (.ld 6 (.big 7 .done))) ZG (by kernel_rfl) ?_
 refine Zx 2 rfl (tk rfl (PE.slHi (h := k) Z0H rfl rfl (by omega)) rfl (Zx 2 rfl (tk rfl (PE.indexAddr Z1e rfl rfl (by omega) (by omega)) rfl (ld rfl rfl (lf0 sc3 (ZH hx) rfl) rfl ?_))))
 refine Sy.heap (fun w h => (Z2c l k ▸ St.rowsTake (a := some ⟨ba, oa, none⟩) (sz := 1) (rows := Z4 l) h k)) ?_
 refine clV rfl Z2D rfl rfl (Zbg (l.take k) k (by rw [List.length_take]; omega) (some ⟨ba, oa, none⟩) c x (by rw [List.length_take]; omega) _ _) ?_
 refine bgT ?_
 refine Z1 rfl ?_ ?_ <;> intro hc3 <;> try simp only [cS] at hc3
 have hdk : Z3s l k = true := by unfold Z3s; rw [Z3n hx]; exact hc3
 refine sqt 1 rfl (pur 1 rfl (Z5 ?_))
 exact rtA rfl rfl rfl ⟨by simp only [ZC]; unfold Zy; rw [hall, Z7W (by omega) hdk]; rfl, rfl, rfl⟩ drp
 have hd2 : ∀ i < k + 1, Z3s l i = false := fun i hi => by
   rcases Nat.lt_or_ge i k with h1 | h1
   · exact hd i h1
   · obtain rfl : i = k := by omega
     unfold Z3s; rw [Z3n hx]; exact hc3
 refine Z2 (sqr 3 rfl (pur 1 rfl (sp rfl (PE.add rfl rfl (by omega)) rfl (pur 1 rfl ?_))))
 exact Za ⟨k + 1, by omega, hd2⟩ (fun w h => h.ftail)
 obtain rfl : k = l.length := by omega
 refine Z7 (Z9 (Z9 (Zn (sqt 1 rfl (pur 1 rfl (Z5 ?_))))))
 exact rtA rfl rfl rfl ⟨by simp only [ZC]; unfold Zy; rw [hall, ZaQ hd rfl]; rfl, rfl, rfl⟩ drp
set_option maxHeartbeats 400000 in
theorem ZbA (h : Hse) (ag as_ : Option Addr) (cg cs : Nat) (hok : h.ok) (fr to_ : List Int) (af at_ : Option Addr) (cf ct : Nat) (hlf : fr.length ≤ 1000000) (hlt : to_.length ≤ 1000000) (hfc : fr.length ≤ cf) (htc : to_.length ≤ ct) (H : Z8) (R : Z6) [hF : MemRows af 1 (Z4 fr) R] [hT : MemRows at_ 1 (Z4 to_) R] :
    FnV Tryz.prog 17 [h.v (h.sg ag cg) (h.ss as_ cs), .slice af fr.length cf, .slice at_ to_.length ct] H R (.int .i64 (h.botE fr to_)) := by
 refine Zg Tryz.func17 rfl Tryz.ntmps17 rfl ?_
 refine sqt 2 rfl ?_
 have hbn := hok.bins
 have hck := hse_ok.2 hok
 refine bx rfl rfl rfl (fun b3 => pur 1 rfl (Z0 (sqt 5 rfl (pur 1 rfl (sp rfl (PE.fA Z26 rfl) rfl (spL rfl rfl (lh (v := .int .i64 h.bins) sc3 rfl rfl) rfl ?_))))))
 refine clV rfl Z7w rfl rfl (Z1f fr af cf h.bins (by omega) (by omega) hfc _ _) ?_
 refine pur 1 rfl (sqt 2 rfl (pur 2 rfl ?_))
 refine Z1 rfl ?_ ?_ <;> intro hc0 <;> try simp only [cS] at hc0
 refine sqt 2 rfl (pur 2 rfl (Z5 ?_))
 exact rtA rfl rfl rfl ⟨by simp only [ZC]; unfold Hse.botE; rw [hck, dT hc0]; rfl, rfl, rfl⟩ (fun w h9 => h9.del b3)
 have hc0 : Zy h.bins fr = 0 := by omega
 refine Z2 (Z0 (sqt 5 rfl (pur 1 rfl (sp rfl (PE.fA Z26 rfl) rfl (spL rfl rfl (lh (v := .int .i64 h.bins) sc3 rfl rfl) rfl ?_)))))
 refine clV rfl Z7w rfl rfl (Z1f to_ at_ ct h.bins (by omega) (by omega) htc _ _) ?_
 refine pur 1 rfl (sqt 2 rfl (pur 2 rfl ?_))
 refine Z1 rfl ?_ ?_ <;> intro hc1 <;> try simp only [cS] at hc1
 refine sqt 2 rfl (pur 2 rfl (Z5 ?_))
 exact rtA rfl rfl rfl ⟨by simp only [ZC]; unfold Hse.botE; rw [hck, hc0, dT hc1]; rfl, rfl, rfl⟩ (fun w h9 => h9.del b3)
 have hc1 : Zy h.bins to_ = 0 := by omega
 refine Z2 (Z0 (sqt 1 rfl (pur 1 rfl (Z3 ?_))))
 refine Zc (ι := {k : Nat // k ≤ fr.length ∧ ∀ x ∈ fr.take k, ZF to_ x = false}) (fun k => ⟨[(1, .slice af fr.length cf), (2, .slice at_ to_.length ct), (9, .int .i64 (k.1 : Int))], (b3, cel 35 (htl h (h.sg ag cg) (h.ss as_ cs))) :: H, R⟩) (fun k => fr.length - k.1) ⟨0, Nat.zero_le _, by simp⟩ ?_ (fun k => ?_)
 exact Zj idH
 obtain ⟨k, hk, hn⟩ := k
 dsimp only at hk hn ⊢
 refine Z0 (sqt 4 rfl (pur 2 rfl (sp rfl (PE.lenSl Zw rfl) rfl (pur 1 rfl ?_))))
 refine Z1 rfl ?_ ?_ <;> intro hc2 <;> try simp only [cS] at hc2
 obtain ⟨x, hx⟩ : ∃ x, fr[k]? = some x := ⟨_, List.getElem?_eq_getElem (by omega)⟩
 refine Zf (a := af) (sz := 1) (rows := Z4 fr) (ne0 (by rw [irl]; omega)) (fun ba oa he => ?_)
 subst he
 refine Z2 (Z0 (Z3 (sqt 6 rfl (pur 3 rfl (sp rfl (PE.indexAddr Z1e rfl rfl (by omega) (by omega)) rfl (spL rfl rfl (lf0 sc3 (ZH hx) rfl) rfl ?_))))))
 refine clV rfl Z2D rfl rfl (Z1b to_ at_ ct x (by omega) _ _) ?_
 refine Z1 rfl ?_ ?_ <;> intro hc3 <;> try simp only [cS] at hc3
 have hh : fr.any (ZF to_) = true := List.any_eq_true.2 ⟨x, List.mem_of_getElem? hx, hc3⟩
 refine sqt 1 rfl (pur 1 rfl (Z5 ?_))
 exact rtA rfl rfl rfl ⟨by simp only [ZC]; unfold Hse.botE; rw [hck, hc0, hc1, hh]; rfl, rfl, rfl⟩ (fun w h9 => h9.del b3)
 refine Z2 (sqr 3 rfl (pur 1 rfl (sp rfl (PE.add rfl rfl (by omega)) rfl (pur 1 rfl ?_))))
 exact Zb ⟨k + 1, by omega, fun y hy => by
   rw [List.take_add_one, hx] at hy
   rcases List.mem_append.1 hy with h1 | h1
   · exact hn y h1
   · rw [List.mem_singleton.1 h1]; exact hc3⟩ (by dsimp only; omega) (by repeat' first | exact Sub.nil | apply Sub.cons | rfl | (simp [lk]; omega)) idH
 obtain rfl : k = fr.length := by omega
 rw [List.take_length] at hn
 have hh : fr.any (ZF to_) = false := List.any_eq_false.2 fun x hx => by rw [hn x hx]; decide
 refine Z7 (Z9 (Z9 (Zn (sqt 1 rfl (pur 1 rfl (Z5 ?_))))))
 exact rtA rfl rfl rfl ⟨by simp only [ZC]; unfold Hse.botE; rw [hck, hc0, hc1, hh]; rfl, rfl, rfl⟩ (fun w h9 => h9.del b3)
set_option maxHeartbeats 400000 in
theorem Z9v (h : Hse) (ag as_ : Option Addr) (cg cs : Nat) (hlg : h.gaps.length ≤ 9223372036854775807) (hls : h.sights.length ≤ 9223372036854775807) (H : Z8) (R : Z6) [hG : MemRows ag 2 (Zd h.gaps) R] [hS : MemRows as_ 3 (Ze h.sights) R] :
    FnV Tryz.prog 16 [h.v (h.sg ag cg) (h.ss as_ cs)] H R (.int .i64 h.check) := by
 refine Zg Tryz.func16 rfl Tryz.ntmps16 rfl ?_
 refine sqt 2 rfl (bx rfl rfl rfl (fun b1 => pur 1 rfl (Z0 (sqt 15 rfl (sp rfl (PE.fA Z26 rfl) rfl (spL rfl rfl (lh (v := .int .i64 h.bins) sc3 rfl rfl) rfl ?_))))))
 refine clV rfl Z6w rfl rfl (Z3J _ _ _ _ _) ?_
 refine pur 1 rfl ?_
 refine Zq 11 rfl ?_ ?_ <;> intro g11
 refine pur 11 rfl ?_
 refine ZW rfl ?_
 refine sqt 1 rfl (pur 1 rfl (Z5 ?_))
 exact rtA rfl rfl rfl ⟨congrArg (Value.int .i64) ((ck2 (.inl g11)).symm), rfl, rfl⟩ (fun w h9 => h9.del b1)
 refine spG rfl rfl rfl rfl (PE.fA Z1q rfl) rfl ?_
 refine Z0O rfl rfl rfl rfl rfl (lh Z79 rfl rfl) rfl ?_
 refine spG rfl rfl rfl rfl (PE.lenSl Z6M rfl) rfl ?_
 refine pur 3 rfl ?_
 refine Zq 17 rfl ?_ ?_ <;> intro g17
 refine pur 5 rfl ?_
 refine ZW rfl ?_
 refine sqt 1 rfl (pur 1 rfl (Z5 ?_))
 exact rtA rfl rfl rfl ⟨congrArg (Value.int .i64) ((ck2 (.inr (.inl (by have := of_decide_eq_true g17; omega)))).symm), rfl, rfl⟩ (fun w h9 => h9.del b1)
 refine spG rfl rfl rfl rfl (PE.fA Z3B rfl) rfl ?_
 refine Z0O rfl rfl rfl rfl rfl (lh Zec rfl rfl) rfl ?_
 refine spG rfl rfl rfl rfl (PE.lenSl Ze2 rfl) rfl ?_
 refine pur 2 rfl ?_
 refine Z1 rfl ?_ ?_ <;> intro hc0
 refine sqt 1 rfl (pur 1 rfl (Z5 ?_))
 exact rtA rfl rfl rfl ⟨congrArg (Value.int .i64) ((ck2 (.inr (.inr (by have := of_decide_eq_true hc0; omega)))).symm), rfl, rfl⟩ (fun w h9 => h9.del b1)
 try simp only [cS] at hc0
 have hb7 : inB h.bins 1 7 = true := by rw [← Bool.not_eq_false']; exact g11
 have hgl9 : h.gaps.length ≤ 10 := by first | omega | (simp only [decide_eq_false_iff_not] at g17; omega)
 have hsl9 : h.sights.length ≤ 8 := by omega
 have hbb : 1 ≤ h.bins ∧ h.bins ≤ 7 := by simpa [inB] using hb7
 refine Z2 (sqt 2 rfl (pur 2 rfl (Z0 (sqt 1 rfl (pur 1 rfl (Z3 ?_))))))
 refine Zc (ι := {k : Nat // k ≤ h.gaps.length}) (fun k => ⟨[(1, .pointer (some ⟨b1, 0, none⟩)), (3, .bool (Z2K h k.1)), (4, .bool (Z0N h k.1)), (5, .int .i64 (k.1 : Int))], (b1, cel 35 (htl h (h.sg ag cg) (h.ss as_ cs))) :: H, R⟩) (fun k => h.gaps.length - k.1) ⟨0, Nat.zero_le _⟩ ?_ (fun k => ?_)
 exact Zj idH
 obtain ⟨k, hk⟩ := k
 dsimp only at hk ⊢
 refine Z0 (sqt 5 rfl (pur 1 rfl (sp rfl (PE.fA Z1q rfl) rfl (spL rfl rfl (lh Z79 rfl rfl) rfl (sp rfl (PE.lenSl Z6M rfl) rfl (pur 1 rfl ?_))))))
 refine Z1 rfl ?_ ?_ <;> intro hc1 <;> try simp only [cS] at hc1
 obtain ⟨g, hg⟩ : ∃ g, h.gaps[k]? = some g := ⟨_, List.getElem?_eq_getElem (by omega)⟩
 have e1 : Z2K h (k + 1) = (Z2K h k || (!(inB g.a 0 (h.bins - 1)) || !(inB g.b 0 (h.bins - 1)))) := Z4p hg
 have e2 : Z0N h (k + 1) = (Z0N h k || decide (g.a = g.b)) := Z4p hg
 refine Zf (a := ag) (sz := 2) (rows := Zd h.gaps) (ne0 (by rw [Z0m]; omega)) (fun ba oa he => ?_)
 subst he
 refine Z2 (Z0 (Z3 (sqt 7 rfl (sp rfl (PE.fA Z1q rfl) rfl (spL rfl rfl (lh Z79 rfl rfl) rfl (pur 1 rfl (sp rfl (PE.indexAddr ZeM rfl rfl (by omega) (by omega)) rfl (spL rfl rfl (lfA Zae (row := grow g) (Z0C hg) rfl) rfl (alc rfl Z9P rfl (fun b6 => ?_))))))))))
 refine ZT (l' := grow g) rfl rfl rfl Zba rfl rfl rfl rfl (nl rfl) ?_
 refine sqt 18 rfl (pur 2 rfl ?_)
 refine Zq 36 rfl ?_ ?_ <;> intro g36
 refine pur 16 rfl (sqr 9 rfl (pur 2 rfl ?_))
 refine Zq 53 rfl ?_ ?_ <;> intro g53
 refine pur 7 rfl (sqr 3 rfl (pur 1 rfl (sp rfl (PE.add rfl rfl (by omega)) rfl (pur 1 rfl ?_))))
 first
   | exact absurd g44 (by decide)
   | (have f1 : Z2K h (k + 1) = true := by rw [e1, g36]; rfl
      first
        | (have f2 : Z0N h (k + 1) = true := by rw [e2, g53]; rfl
           exact Zb ⟨k + 1, by omega⟩ (by dsimp only; omega) (by rw [f1, f2]; exact (by repeat' first | exact Sub.nil | apply Sub.cons | rfl | (simp [lk]; omega))) (fun w h => h.del b6))
        | (have f2 : Z0N h (k + 1) = decide (g.a = g.b) := by rw [e2, g53]; rfl
           exact Zb ⟨k + 1, by omega⟩ (by dsimp only; omega) (by rw [f1, f2]; exact (by repeat' first | exact Sub.nil | apply Sub.cons | rfl | (simp [lk]; omega))) (fun w h => h.del b6)))
   | (have f1 : Z2K h (k + 1) = true := by rw [e1, g36, g44]; rfl
      first
        | (have f2 : Z0N h (k + 1) = true := by rw [e2, g53]; rfl
           exact Zb ⟨k + 1, by omega⟩ (by dsimp only; omega) (by rw [f1, f2]; exact (by repeat' first | exact Sub.nil | apply Sub.cons | rfl | (simp [lk]; omega))) (fun w h => h.del b6))
        | (have f2 : Z0N h (k + 1) = decide (g.a = g.b) := by rw [e2, g53]; rfl
           exact Zb ⟨k + 1, by omega⟩ (by dsimp only; omega) (by rw [f1, f2]; exact (by repeat' first | exact Sub.nil | apply Sub.cons | rfl | (simp [lk]; omega))) (fun w h => h.del b6)))
   | (have f1 : Z2K h (k + 1) = !(inB g.b 0 (h.bins - 1)) := by rw [e1, g36, g44]; rfl
      first
        | (have f2 : Z0N h (k + 1) = true := by rw [e2, g53]; rfl
           exact Zb ⟨k + 1, by omega⟩ (by dsimp only; omega) (by rw [f1, f2]; exact (by repeat' first | exact Sub.nil | apply Sub.cons | rfl | (simp [lk]; omega))) (fun w h => h.del b6))
        | (have f2 : Z0N h (k + 1) = decide (g.a = g.b) := by rw [e2, g53]; rfl
           exact Zb ⟨k + 1, by omega⟩ (by dsimp only; omega) (by rw [f1, f2]; exact (by repeat' first | exact Sub.nil | apply Sub.cons | rfl | (simp [lk]; omega))) (fun w h => h.del b6)))
 refine spG rfl rfl rfl rfl (PE.fA Z0s rfl) rfl ?_
 refine Z0O rfl rfl rfl rfl rfl (lh sc3 rfl rfl) rfl ?_
 refine spG rfl rfl rfl rfl (PE.fA Z0L rfl) rfl ?_
 refine Z0O rfl rfl rfl rfl rfl (lh sc3 rfl rfl) rfl (pur 3 rfl (sqr 3 rfl (pur 1 rfl (sp rfl (PE.add rfl rfl (by omega)) rfl (pur 1 rfl ?_)))))
 first
   | exact absurd g44 (by decide)
   | (have f1 : Z2K h (k + 1) = true := by rw [e1, g36]; rfl
      first
        | (have f2 : Z0N h (k + 1) = true := by rw [e2, g53]; rfl
           exact Zb ⟨k + 1, by omega⟩ (by dsimp only; omega) (by rw [f1, f2]; exact (by repeat' first | exact Sub.nil | apply Sub.cons | rfl | (simp [lk]; omega))) (fun w h => h.del b6))
        | (have f2 : Z0N h (k + 1) = decide (g.a = g.b) := by rw [e2, g53]; rfl
           exact Zb ⟨k + 1, by omega⟩ (by dsimp only; omega) (by rw [f1, f2]; exact (by repeat' first | exact Sub.nil | apply Sub.cons | rfl | (simp [lk]; omega))) (fun w h => h.del b6)))
   | (have f1 : Z2K h (k + 1) = true := by rw [e1, g36, g44]; rfl
      first
        | (have f2 : Z0N h (k + 1) = true := by rw [e2, g53]; rfl
           exact Zb ⟨k + 1, by omega⟩ (by dsimp only; omega) (by rw [f1, f2]; exact (by repeat' first | exact Sub.nil | apply Sub.cons | rfl | (simp [lk]; omega))) (fun w h => h.del b6))
        | (have f2 : Z0N h (k + 1) = decide (g.a = g.b) := by rw [e2, g53]; rfl
           exact Zb ⟨k + 1, by omega⟩ (by dsimp only; omega) (by rw [f1, f2]; exact (by repeat' first | exact Sub.nil | apply Sub.cons | rfl | (simp [lk]; omega))) (fun w h => h.del b6)))
   | (have f1 : Z2K h (k + 1) = !(inB g.b 0 (h.bins - 1)) := by rw [e1, g36, g44]; rfl
      first
        | (have f2 : Z0N h (k + 1) = true := by rw [e2, g53]; rfl
           exact Zb ⟨k + 1, by omega⟩ (by dsimp only; omega) (by rw [f1, f2]; exact (by repeat' first | exact Sub.nil | apply Sub.cons | rfl | (simp [lk]; omega))) (fun w h => h.del b6))
        | (have f2 : Z0N h (k + 1) = decide (g.a = g.b) := by rw [e2, g53]; rfl
           exact Zb ⟨k + 1, by omega⟩ (by dsimp only; omega) (by rw [f1, f2]; exact (by repeat' first | exact Sub.nil | apply Sub.cons | rfl | (simp [lk]; omega))) (fun w h => h.del b6)))
 refine spG rfl rfl rfl rfl (PE.fA Z0s rfl) rfl ?_
 refine Z0O rfl rfl rfl rfl rfl (lh sc3 rfl rfl) rfl ?_
 refine spG rfl rfl rfl rfl (PE.fA Z26 rfl) rfl ?_
 refine Z0O rfl rfl rfl rfl rfl (lh (v := .int .i64 h.bins) sc3 rfl rfl) rfl ?_
 refine spG rfl rfl rfl rfl (PE.sub rfl rfl (by omega)) rfl ?_
 refine Z2J rfl rfl rfl rfl Z6w rfl rfl (Z3J _ _ _ _ _) ?_
 refine pur 2 rfl ?_
 refine Zq 44 rfl ?_ ?_ <;> intro g44
 refine pur 8 rfl (sqr 9 rfl (pur 2 rfl ?_))
 refine Zq 53 rfl ?_ ?_ <;> intro g53
 refine pur 7 rfl (sqr 3 rfl (pur 1 rfl (sp rfl (PE.add rfl rfl (by omega)) rfl (pur 1 rfl ?_))))
 first
   | exact absurd g44 (by decide)
   | (have f1 : Z2K h (k + 1) = true := by rw [e1, g36]; rfl
      first
        | (have f2 : Z0N h (k + 1) = true := by rw [e2, g53]; rfl
           exact Zb ⟨k + 1, by omega⟩ (by dsimp only; omega) (by rw [f1, f2]; exact (by repeat' first | exact Sub.nil | apply Sub.cons | rfl | (simp [lk]; omega))) (fun w h => h.del b6))
        | (have f2 : Z0N h (k + 1) = decide (g.a = g.b) := by rw [e2, g53]; rfl
           exact Zb ⟨k + 1, by omega⟩ (by dsimp only; omega) (by rw [f1, f2]; exact (by repeat' first | exact Sub.nil | apply Sub.cons | rfl | (simp [lk]; omega))) (fun w h => h.del b6)))
   | (have f1 : Z2K h (k + 1) = true := by rw [e1, g36, g44]; rfl
      first
        | (have f2 : Z0N h (k + 1) = true := by rw [e2, g53]; rfl
           exact Zb ⟨k + 1, by omega⟩ (by dsimp only; omega) (by rw [f1, f2]; exact (by repeat' first | exact Sub.nil | apply Sub.cons | rfl | (simp [lk]; omega))) (fun w h => h.del b6))
        | (have f2 : Z0N h (k + 1) = decide (g.a = g.b) := by rw [e2, g53]; rfl
           exact Zb ⟨k + 1, by omega⟩ (by dsimp only; omega) (by rw [f1, f2]; exact (by repeat' first | exact Sub.nil | apply Sub.cons | rfl | (simp [lk]; omega))) (fun w h => h.del b6)))
   | (have f1 : Z2K h (k + 1) = !(inB g.b 0 (h.bins - 1)) := by rw [e1, g36, g44]; rfl
      first
        | (have f2 : Z0N h (k + 1) = true := by rw [e2, g53]; rfl
           exact Zb ⟨k + 1, by omega⟩ (by dsimp only; omega) (by rw [f1, f2]; exact (by repeat' first | exact Sub.nil | apply Sub.cons | rfl | (simp [lk]; omega))) (fun w h => h.del b6))
        | (have f2 : Z0N h (k + 1) = decide (g.a = g.b) := by rw [e2, g53]; rfl
           exact Zb ⟨k + 1, by omega⟩ (by dsimp only; omega) (by rw [f1, f2]; exact (by repeat' first | exact Sub.nil | apply Sub.cons | rfl | (simp [lk]; omega))) (fun w h => h.del b6)))
 refine spG rfl rfl rfl rfl (PE.fA Z0s rfl) rfl ?_
 refine Z0O rfl rfl rfl rfl rfl (lh sc3 rfl rfl) rfl ?_
 refine spG rfl rfl rfl rfl (PE.fA Z0L rfl) rfl ?_
 refine Z0O rfl rfl rfl rfl rfl (lh sc3 rfl rfl) rfl (pur 3 rfl (sqr 3 rfl (pur 1 rfl (sp rfl (PE.add rfl rfl (by omega)) rfl (pur 1 rfl ?_)))))
 first
   | exact absurd g44 (by decide)
   | (have f1 : Z2K h (k + 1) = true := by rw [e1, g36]; rfl
      first
        | (have f2 : Z0N h (k + 1) = true := by rw [e2, g53]; rfl
           exact Zb ⟨k + 1, by omega⟩ (by dsimp only; omega) (by rw [f1, f2]; exact (by repeat' first | exact Sub.nil | apply Sub.cons | rfl | (simp [lk]; omega))) (fun w h => h.del b6))
        | (have f2 : Z0N h (k + 1) = decide (g.a = g.b) := by rw [e2, g53]; rfl
           exact Zb ⟨k + 1, by omega⟩ (by dsimp only; omega) (by rw [f1, f2]; exact (by repeat' first | exact Sub.nil | apply Sub.cons | rfl | (simp [lk]; omega))) (fun w h => h.del b6)))
   | (have f1 : Z2K h (k + 1) = true := by rw [e1, g36, g44]; rfl
      first
        | (have f2 : Z0N h (k + 1) = true := by rw [e2, g53]; rfl
           exact Zb ⟨k + 1, by omega⟩ (by dsimp only; omega) (by rw [f1, f2]; exact (by repeat' first | exact Sub.nil | apply Sub.cons | rfl | (simp [lk]; omega))) (fun w h => h.del b6))
        | (have f2 : Z0N h (k + 1) = decide (g.a = g.b) := by rw [e2, g53]; rfl
           exact Zb ⟨k + 1, by omega⟩ (by dsimp only; omega) (by rw [f1, f2]; exact (by repeat' first | exact Sub.nil | apply Sub.cons | rfl | (simp [lk]; omega))) (fun w h => h.del b6)))
   | (have f1 : Z2K h (k + 1) = !(inB g.b 0 (h.bins - 1)) := by rw [e1, g36, g44]; rfl
      first
        | (have f2 : Z0N h (k + 1) = true := by rw [e2, g53]; rfl
           exact Zb ⟨k + 1, by omega⟩ (by dsimp only; omega) (by rw [f1, f2]; exact (by repeat' first | exact Sub.nil | apply Sub.cons | rfl | (simp [lk]; omega))) (fun w h => h.del b6))
        | (have f2 : Z0N h (k + 1) = decide (g.a = g.b) := by rw [e2, g53]; rfl
           exact Zb ⟨k + 1, by omega⟩ (by dsimp only; omega) (by rw [f1, f2]; exact (by repeat' first | exact Sub.nil | apply Sub.cons | rfl | (simp [lk]; omega))) (fun w h => h.del b6)))
 refine spG rfl rfl rfl rfl (PE.fA Z0L rfl) rfl ?_
 refine Z0O rfl rfl rfl rfl rfl (lh sc3 rfl rfl) rfl ?_
 refine spG rfl rfl rfl rfl (PE.fA Z26 rfl) rfl ?_
 refine Z0O rfl rfl rfl rfl rfl (lh (v := .int .i64 h.bins) sc3 rfl rfl) rfl ?_
 refine spG rfl rfl rfl rfl (PE.sub rfl rfl (by omega)) rfl ?_
 refine Z2J rfl rfl rfl rfl Z6w rfl rfl (Z3J _ _ _ _ _) ?_
 refine pur 2 rfl (sqr 9 rfl (pur 2 rfl ?_))
 refine Zq 53 rfl ?_ ?_ <;> intro g53
 refine pur 7 rfl (sqr 3 rfl (pur 1 rfl (sp rfl (PE.add rfl rfl (by omega)) rfl (pur 1 rfl ?_))))
 first
   | exact absurd g44 (by decide)
   | (have f1 : Z2K h (k + 1) = true := by rw [e1, g36]; rfl
      first
        | (have f2 : Z0N h (k + 1) = true := by rw [e2, g53]; rfl
           exact Zb ⟨k + 1, by omega⟩ (by dsimp only; omega) (by rw [f1, f2]; exact (by repeat' first | exact Sub.nil | apply Sub.cons | rfl | (simp [lk]; omega))) (fun w h => h.del b6))
        | (have f2 : Z0N h (k + 1) = decide (g.a = g.b) := by rw [e2, g53]; rfl
           exact Zb ⟨k + 1, by omega⟩ (by dsimp only; omega) (by rw [f1, f2]; exact (by repeat' first | exact Sub.nil | apply Sub.cons | rfl | (simp [lk]; omega))) (fun w h => h.del b6)))
   | (have f1 : Z2K h (k + 1) = true := by rw [e1, g36, g44]; rfl
      first
        | (have f2 : Z0N h (k + 1) = true := by rw [e2, g53]; rfl
           exact Zb ⟨k + 1, by omega⟩ (by dsimp only; omega) (by rw [f1, f2]; exact (by repeat' first | exact Sub.nil | apply Sub.cons | rfl | (simp [lk]; omega))) (fun w h => h.del b6))
        | (have f2 : Z0N h (k + 1) = decide (g.a = g.b) := by rw [e2, g53]; rfl
           exact Zb ⟨k + 1, by omega⟩ (by dsimp only; omega) (by rw [f1, f2]; exact (by repeat' first | exact Sub.nil | apply Sub.cons | rfl | (simp [lk]; omega))) (fun w h => h.del b6)))
   | (have f1 : Z2K h (k + 1) = !(inB g.b 0 (h.bins - 1)) := by rw [e1, g36, g44]; rfl
      first
        | (have f2 : Z0N h (k + 1) = true := by rw [e2, g53]; rfl
           exact Zb ⟨k + 1, by omega⟩ (by dsimp only; omega) (by rw [f1, f2]; exact (by repeat' first | exact Sub.nil | apply Sub.cons | rfl | (simp [lk]; omega))) (fun w h => h.del b6))
        | (have f2 : Z0N h (k + 1) = decide (g.a = g.b) := by rw [e2, g53]; rfl
           exact Zb ⟨k + 1, by omega⟩ (by dsimp only; omega) (by rw [f1, f2]; exact (by repeat' first | exact Sub.nil | apply Sub.cons | rfl | (simp [lk]; omega))) (fun w h => h.del b6)))
 refine spG rfl rfl rfl rfl (PE.fA Z0s rfl) rfl ?_
 refine Z0O rfl rfl rfl rfl rfl (lh sc3 rfl rfl) rfl ?_
 refine spG rfl rfl rfl rfl (PE.fA Z0L rfl) rfl ?_
 refine Z0O rfl rfl rfl rfl rfl (lh sc3 rfl rfl) rfl (pur 3 rfl (sqr 3 rfl (pur 1 rfl (sp rfl (PE.add rfl rfl (by omega)) rfl (pur 1 rfl ?_)))))
 first
   | exact absurd g44 (by decide)
   | (have f1 : Z2K h (k + 1) = true := by rw [e1, g36]; rfl
      first
        | (have f2 : Z0N h (k + 1) = true := by rw [e2, g53]; rfl
           exact Zb ⟨k + 1, by omega⟩ (by dsimp only; omega) (by rw [f1, f2]; exact (by repeat' first | exact Sub.nil | apply Sub.cons | rfl | (simp [lk]; omega))) (fun w h => h.del b6))
        | (have f2 : Z0N h (k + 1) = decide (g.a = g.b) := by rw [e2, g53]; rfl
           exact Zb ⟨k + 1, by omega⟩ (by dsimp only; omega) (by rw [f1, f2]; exact (by repeat' first | exact Sub.nil | apply Sub.cons | rfl | (simp [lk]; omega))) (fun w h => h.del b6)))
   | (have f1 : Z2K h (k + 1) = true := by rw [e1, g36, g44]; rfl
      first
        | (have f2 : Z0N h (k + 1) = true := by rw [e2, g53]; rfl
           exact Zb ⟨k + 1, by omega⟩ (by dsimp only; omega) (by rw [f1, f2]; exact (by repeat' first | exact Sub.nil | apply Sub.cons | rfl | (simp [lk]; omega))) (fun w h => h.del b6))
        | (have f2 : Z0N h (k + 1) = decide (g.a = g.b) := by rw [e2, g53]; rfl
           exact Zb ⟨k + 1, by omega⟩ (by dsimp only; omega) (by rw [f1, f2]; exact (by repeat' first | exact Sub.nil | apply Sub.cons | rfl | (simp [lk]; omega))) (fun w h => h.del b6)))
   | (have f1 : Z2K h (k + 1) = !(inB g.b 0 (h.bins - 1)) := by rw [e1, g36, g44]; rfl
      first
        | (have f2 : Z0N h (k + 1) = true := by rw [e2, g53]; rfl
           exact Zb ⟨k + 1, by omega⟩ (by dsimp only; omega) (by rw [f1, f2]; exact (by repeat' first | exact Sub.nil | apply Sub.cons | rfl | (simp [lk]; omega))) (fun w h => h.del b6))
        | (have f2 : Z0N h (k + 1) = decide (g.a = g.b) := by rw [e2, g53]; rfl
           exact Zb ⟨k + 1, by omega⟩ (by dsimp only; omega) (by rw [f1, f2]; exact (by repeat' first | exact Sub.nil | apply Sub.cons | rfl | (simp [lk]; omega))) (fun w h => h.del b6)))
 obtain rfl : k = h.gaps.length := by omega
 refine Z7 (Z9 (Z9 (Zn (Z0 (sqt 1 rfl (pur 1 rfl (Z3 ?_)))))))
 refine Zc (ι := {k : Nat // k ≤ h.sights.length ∧ ∀ x ∈ h.sights.take k, inB x.week 0 9 = true}) (fun k => ⟨[(1, .pointer (some ⟨b1, 0, none⟩)), (3, .bool (Z2K h h.gaps.length || Zcv h k.1)), (4, .bool (Z0N h h.gaps.length)), (7, .int .i64 (k.1 : Int))], (b1, cel 35 (htl h (h.sg ag cg) (h.ss as_ cs))) :: H, R⟩) (fun k => h.sights.length - k.1) ⟨0, Nat.zero_le _, by simp⟩ ?_ (fun k => ?_)
 exact Ze0 (by rw [show Zcv h 0 = false from rfl, Bool.or_false]; exact (by repeat' first | exact Sub.nil | apply Sub.cons | rfl | (simp [lk]; omega))) idH
 obtain ⟨k, hk, hwk⟩ := k
 dsimp only at hk hwk ⊢
 refine Z0 (sqt 5 rfl (pur 1 rfl (sp rfl (PE.fA Z3B rfl) rfl (spL rfl rfl (lh Zec rfl rfl) rfl (sp rfl (PE.lenSl Ze2 rfl) rfl (pur 1 rfl ?_))))))
 refine Z1 rfl ?_ ?_ <;> intro hc2 <;> try simp only [cS] at hc2
 obtain ⟨x, hx⟩ : ∃ x, h.sights[k]? = some x := ⟨_, List.getElem?_eq_getElem (by omega)⟩
 have e3 : Zcv h (k + 1) = (Zcv h k || !(inB x.bin 0 (h.bins - 1))) := Z4p hx
 refine Zf (a := as_) (sz := 3) (rows := Ze h.sights) (ne0 (by rw [Z1Y]; omega)) (fun bs os he => ?_)
 subst he
 refine Z2 (Z0 (Z3 (Z0 (sqt 7 rfl (sp rfl (PE.fA Z3B rfl) rfl (spL rfl rfl (lh Zec rfl rfl) rfl (pur 1 rfl (sp rfl (PE.indexAddr ZfH rfl rfl (by omega) (by omega)) rfl (sp rfl (PE.fA Zbm rfl) rfl (spL rfl rfl (lf (j := 0) sc3 (Z5F hx) rfl) rfl ?_))))))))))
 refine clV rfl Z6w rfl rfl (Z3J _ _ _ _ _) ?_
 refine Z1 rfl ?_ ?_ <;> intro hc3
 refine sqt 1 rfl (pur 1 rfl (Z5 ?_))
 exact rtA rfl rfl rfl ⟨congrArg (Value.int .i64) ((ck3 hb7 (by omega) (by omega) (List.mem_of_getElem? hx) hc3).symm), rfl, rfl⟩ (fun w h9 => h9.del b1)
 refine Z2 ?_
 refine Zo [0, 1, 3, 7, 3, 31, 63, 127, 3, 259, 771, 2047, 4095, 8191] (tks 0 3 (.ld 3 (tks 4 3 (.ld 7 (.tk 8 (.ld 9 (.tk 10 (.big 11 (.tk 12 (.tk 13 .done)))))))))) ZG (by kernel_rfl) ?_
 refine Zx 2 rfl ?_
 refine Zq 75 rfl ?_ ?_ <;> intro g75
 refine Zx 1 rfl ?_
 refine ldN rfl rfl rfl rfl rfl rfl rfl rfl ?_
 refine Zx 3 rfl ?_
 refine ldN rfl rfl rfl rfl rfl rfl rfl rfl ?_
 refine Zx 1 rfl ?_
 refine ldN rfl rfl rfl rfl rfl rfl rfl rfl ?_
 refine Zx 1 rfl ?_
 refine spN rfl rfl rfl rfl rfl rfl rfl rfl ?_
 refine bgT (Zx 2 rfl (sqr 3 rfl (pur 1 rfl (sp rfl (PE.add rfl rfl (by omega)) rfl (pur 1 rfl ?_)))))
 exact Zb ⟨k + 1, by omega, fun y hy => by
   rw [List.take_add_one, hx] at hy
   rcases List.mem_append.1 hy with h1 | h1
   · exact hwk y h1
   · rw [List.mem_singleton.1 h1, ← Bool.not_eq_false']; exact hc3⟩ (by dsimp only; omega) (by simp only [e3, ← Bool.or_assoc]; first | (rw [g75, Bool.true_or]; exact (by repeat' first | exact Sub.nil | apply Sub.cons | rfl | (simp [lk]; omega))) | (rw [g75, Bool.false_or]; exact (by repeat' first | exact Sub.nil | apply Sub.cons | rfl | (simp [lk]; omega)))) idH
 refine tkG rfl rfl rfl rfl (PE.fA Z3B rfl) rfl ?_
 refine ldG rfl rfl rfl rfl rfl (lh Zec rfl rfl) rfl (Zx 1 rfl ?_)
 refine tkG rfl rfl rfl rfl (PE.indexAddr ZfH rfl rfl (by omega) (by omega)) rfl ?_
 refine tkG rfl rfl rfl rfl (PE.fA Zb5 rfl) rfl ?_
 refine ldG rfl rfl rfl rfl rfl (lf (j := 1) sc3 (Z5F hx) rfl) rfl ?_
 refine tkG rfl rfl rfl rfl (PE.fA Z26 rfl) rfl ?_
 refine ldG rfl rfl rfl rfl rfl (lh (v := .int .i64 h.bins) sc3 rfl rfl) rfl ?_
 refine tkG rfl rfl rfl rfl (PE.sub rfl rfl (by omega)) rfl ?_
 refine Z2J rfl rfl rfl rfl Z6w rfl rfl (Z3J _ _ _ _ _) ?_
 refine bgT (Zx 2 rfl (sqr 3 rfl (pur 1 rfl (sp rfl (PE.add rfl rfl (by omega)) rfl (pur 1 rfl ?_)))))
 exact Zb ⟨k + 1, by omega, fun y hy => by
   rw [List.take_add_one, hx] at hy
   rcases List.mem_append.1 hy with h1 | h1
   · exact hwk y h1
   · rw [List.mem_singleton.1 h1, ← Bool.not_eq_false']; exact hc3⟩ (by dsimp only; omega) (by simp only [e3, ← Bool.or_assoc]; first | (rw [g75, Bool.true_or]; exact (by repeat' first | exact Sub.nil | apply Sub.cons | rfl | (simp [lk]; omega))) | (rw [g75, Bool.false_or]; exact (by repeat' first | exact Sub.nil | apply Sub.cons | rfl | (simp [lk]; omega)))) idH
 obtain rfl : k = h.sights.length := by omega
 have hcr := Zbf hb7 (by omega) (by omega) (Zc1 hwk)
 refine Z7 (Z9 (Z9 (Zn (Z0 (sqt 1 rfl (pur 1 rfl ?_))))))
 refine Z1 rfl ?_ ?_ <;> intro hc4
 refine sqt 1 rfl (pur 1 rfl (Z5 ?_))
 exact rtA rfl rfl rfl ⟨congrArg (Value.int .i64) (by rw [hcr, hc4]; rfl), rfl, rfl⟩ (fun w h9 => h9.del b1)
 refine Z2 (Z0 (sqt 1 rfl (pur 1 rfl ?_)))
 refine Z1 rfl ?_ ?_ <;> intro hc5
 refine sqt 1 rfl (pur 1 rfl (Z5 ?_))
 exact rtA rfl rfl rfl ⟨congrArg (Value.int .i64) (by rw [hcr, hc4, hc5]; rfl), rfl, rfl⟩ (fun w h9 => h9.del b1)
 refine Z2 (sqt 1 rfl (pur 1 rfl (Z5 ?_)))
 exact rtA rfl rfl rfl ⟨congrArg (Value.int .i64) (by rw [hcr, hc4, hc5]; rfl), rfl, rfl⟩ (fun w h9 => h9.del b1)
set_option maxHeartbeats 600000 in
theorem Zc7 (h : Hse) (ag as_ : Option Addr) (cg cs : Nat) (hgl : h.gaps.length ≤ 10) (now cz : List Int) (an ac : Option Addr) (cn cc : Nat) (hnl : now.length ≤ 1000000) (hcl : cz.length ≤ 1000000) (H : Z8) (R : Z6) [hG : MemRows ag 2 (Zd h.gaps) R] [hN : MemRows an 1 (Z4 now) R] [hC : MemRows ac 1 (Z4 cz) R] :
    Fn Tryz.prog 76 [h.v (h.sg ag cg) (h.ss as_ cs), .slice an now.length cn, .slice ac cz.length cc] H R (fun v H' R' => ∃ a c, v = .slice a (Z6v h.gaps cz now).length c ∧ (Z6v h.gaps cz now).length ≤ c ∧ H' = H ∧ R' = RowsA a 1 (Z4 (Z6v h.gaps cz now)) :: R) := by
 refine Zg Tryz.func76 rfl Tryz.ntmps76 rfl ?_
 refine sqt 2 rfl (bx rfl rfl rfl (fun b3 => pur 1 rfl (sqt 4 rfl ?_)))
 refine Zez rfl Z0H rfl (fun o10 ho10 => ?_)
 refine pur 1 rfl ?_
 refine apO (news := Z4 now) o10 rfl Z2y rfl rfl (Z5t) (irl _) (by simp [ZR, Z4, Value.oneCell']) (by rw [irl]; simp only [List.length_nil]; omega) rfl (fun o12 => ?_)
 refine pur 1 rfl (Z0 (sqt 1 rfl (pur 1 rfl (Z3 ?_))))
 refine Zc (ι := (i : {i : Nat // i ≤ h.gaps.length}) × OSl 3 1 (Z4 (nxt h.gaps cz now (i.1)))) (fun y => ⟨[(1, .slice an now.length cn), (2, .slice ac cz.length cc), (3, .pointer (some ⟨b3, 0, none⟩)), (7, y.2.fs), (8, .int .i64 (y.1.1 : Int))], y.2.G ++ ((b3, cel 35 (htl h (h.sg ag cg) (h.ss as_ cs))) :: H), R⟩) (fun y => h.gaps.length - y.1.1) ⟨⟨0, Nat.zero_le _⟩, o12.cast (by simp [nxt, Z4])⟩ ?_ (fun y => ?_)
 exact Zj idH
 obtain ⟨⟨i, hi⟩, o⟩ := y
 dsimp only at hi o ⊢
 have hnx := Z5y h.gaps cz now i
 have hnx2 := Z5y h.gaps cz now (i + 1)
 refine Z0 (sqt 5 rfl (pur 1 rfl (sp rfl (PE.fA Z1q rfl) rfl (spL rfl rfl (lh Z79 rfl rfl) rfl (sp rfl (PE.lenSl Z6M rfl) rfl (pur 1 rfl ?_))))))
 refine Z1 rfl ?_ ?_ <;> intro hc0 <;> try simp only [cS] at hc0
 obtain ⟨g, hg⟩ : ∃ g, h.gaps[i]? = some g := ⟨_, List.getElem?_eq_getElem (by omega)⟩
 refine Zf (a := ag) (sz := 2) (rows := Zd h.gaps) (ne0 (by rw [Z0m]; omega)) (fun ba oa he => ?_)
 subst he
 refine Z2 (Z0 (Z3 (sqt 7 rfl (sp rfl (PE.fA Z1q rfl) rfl (spL rfl rfl (lh Z79 rfl rfl) rfl (pur 1 rfl (sp rfl (PE.indexAddr ZeM rfl rfl (by omega) (by omega)) rfl (spL rfl rfl (lfA Zae (row := grow g) (Z0C hg) rfl) rfl (alc rfl Z9P rfl (fun b9 => ?_))))))))))
 refine ZT (l' := grow g) rfl rfl rfl Zba rfl rfl rfl rfl (nl rfl) ?_
 refine Z0 (sqt 3 rfl (pur 2 rfl ?_))
 refine clV rfl Z2D rfl rfl (Z1b cz ac cc (i : Int) (by omega) _ _) ?_
 refine Z1 rfl ?_ ?_ <;> intro hc1 <;> try simp only [cS] at hc1
 refine Z7 (Z9 (Zn (sqr 3 rfl (pur 1 rfl (sp rfl (PE.add rfl rfl (by omega)) rfl (pur 1 rfl ?_))))))
 exact Za ⟨⟨i + 1, by omega⟩, o.cast (by rw [Z9j hg hc1])⟩ (fun w h9 => h9.del b9)
 have hop := Z9h (now := now) hg hc1
 have hx1 : (nx1 h.gaps cz now i g).length ≤ now.length + 2 * i + 1 := by unfold nx1; cases ZF now g.a && !ZF (nxt h.gaps cz now i) g.b <;> simp <;> omega
 refine Sy.heap (H' := o.G ++ ((b9, cel 110 (grow g)) :: _)) (fun w h9 => h9.perm (Zt [_] _ _)) ?_
 refine Z2 (Z0 (sqt 11 rfl (pur 1 rfl (sp rfl (PE.fA Z0s rfl) rfl (spL rfl rfl (lh sc3 rfl rfl) rfl ?_)))))
 refine clV rfl Z2D rfl rfl (Z1b now an cn g.a (by omega) _ _) ?_
 refine pur 1 rfl ?_
 refine Zq 32 rfl ?_ ?_ <;> intro g32
 refine pur 1 rfl ?_
 refine spG rfl rfl rfl rfl (PE.fA Z0L rfl) rfl ?_
 refine Z0O rfl rfl rfl rfl rfl (lh sc3 rfl rfl) rfl ?_
 refine Z2J rfl rfl rfl rfl Z2D rfl rfl (FnV.lendO o (fun v => [v, .int .i64 g.b]) (fun a5 c5 _ => by rw [irl]; exact Z1b (nxt h.gaps cz now (i)) a5 c5 g.b (by omega) _ _)) ?_
 refine pur 2 rfl ?_
 refine Z1m (ι := OSl 3 1 (Z4 (nx1 h.gaps cz now i g))) (fun o => ⟨[(1, .slice an now.length cn), (2, .slice ac cz.length cc), (3, .pointer (some ⟨b3, 0, none⟩)), (7, o.fs), (8, .int .i64 (i : Int)), (9, .pointer (some ⟨b9, 0, none⟩))], o.G ++ ((b9, cel 110 (grow g)) :: (b3, cel 35 (htl h (h.sg (some ⟨ba, oa, none⟩) cg) (h.ss as_ cs))) :: H), R⟩) ?_ ?_
 refine Z1 rfl ?_ ?_ <;> intro hc2
 refine sqr 6 rfl (pur 1 rfl (sp rfl (PE.fA Z0L rfl) rfl (spL rfl rfl (lh sc3 rfl rfl) rfl ?_)))
 refine bsl (out := [_]) rfl Z0H zl3 rfl rfl rfl rfl rfl rfl (fun b42 => ?_)
 refine apO (o) rfl Z2y rfl rfl (Z0l (row := [.int .i64 g.b]) rfl) rfl rfl ((by rw [irl]; simp only [List.length_singleton]; omega)) rfl (fun o43 => ?_)
 refine pur 1 rfl ?_
 first | exact Zz (o43.cast (by unfold nx1; simp [Z4, *])) (fun w h9 => h9.del b42) | exact Zz (o.cast (by unfold nx1; simp [Z4, *])) idH
 refine Z2 ?_
 first | exact Zz (o43.cast (by unfold nx1; simp [Z4, *])) (fun w h9 => h9.del b42) | exact Zz (o.cast (by unfold nx1; simp [Z4, *])) idH
 clear hnx2
 intro o
 dsimp only
 refine sqt 11 rfl (pur 1 rfl (sp rfl (PE.fA Z0L rfl) rfl (spL rfl rfl (lh sc3 rfl rfl) rfl ?_)))
 refine clV rfl Z2D rfl rfl (Z1b now an cn g.b (by omega) _ _) ?_
 refine pur 1 rfl ?_
 refine Zq 48 rfl ?_ ?_ <;> intro g48
 refine pur 1 rfl ?_
 refine spG rfl rfl rfl rfl (PE.fA Z0s rfl) rfl ?_
 refine Z0O rfl rfl rfl rfl rfl (lh sc3 rfl rfl) rfl ?_
 refine Z2J rfl rfl rfl rfl Z2D rfl rfl (FnV.lendO o (fun v => [v, .int .i64 g.a]) (fun a5 c5 _ => by rw [irl]; exact Z1b (nx1 h.gaps cz now i g) a5 c5 g.a (by omega) _ _)) ?_
 refine pur 2 rfl ?_
 refine Z1 rfl ?_ ?_ <;> intro hc3
 refine sqr 6 rfl (pur 1 rfl (sp rfl (PE.fA Z0s rfl) rfl (spL rfl rfl (lh sc3 rfl rfl) rfl ?_)))
 refine bsl (out := [_]) rfl Z0H zl3 rfl rfl rfl rfl rfl rfl (fun b58 => ?_)
 refine apO (o) rfl Z2y rfl rfl (Z0l (row := [.int .i64 g.a]) rfl) rfl rfl ((by rw [irl]; simp only [List.length_singleton]; omega)) rfl (fun o59 => ?_)
 refine pur 1 rfl (sqr 3 rfl (pur 1 rfl (sp rfl (PE.add rfl rfl (by omega)) rfl (pur 1 rfl ?_))))
 first | exact Zi ⟨⟨i + 1, by omega⟩, o59.cast (by rw [hop]; simp [Z4, *])⟩ (by dsimp only; omega) (fun w h9 => ((h9.del b58).del b9)) | exact Zi ⟨⟨i + 1, by omega⟩, o.cast (by rw [hop]; simp [Z4, *])⟩ (by dsimp only; omega) (fun w h9 => h9.del b9)
 refine Z2 (sqr 3 rfl (pur 1 rfl (sp rfl (PE.add rfl rfl (by omega)) rfl (pur 1 rfl ?_))))
 first | exact Zi ⟨⟨i + 1, by omega⟩, o59.cast (by rw [hop]; simp [Z4, *])⟩ (by dsimp only; omega) (fun w h9 => ((h9.del b58).del b9)) | exact Zi ⟨⟨i + 1, by omega⟩, o.cast (by rw [hop]; simp [Z4, *])⟩ (by dsimp only; omega) (fun w h9 => h9.del b9)
 refine pur 6 rfl ?_
 refine ZI rfl ?_
 refine Z2 (sqr 3 rfl (pur 1 rfl (sp rfl (PE.add rfl rfl (by omega)) rfl (pur 1 rfl ?_))))
 first | exact Zi ⟨⟨i + 1, by omega⟩, o59.cast (by rw [hop]; simp [Z4, *])⟩ (by dsimp only; omega) (fun w h9 => ((h9.del b58).del b9)) | exact Zi ⟨⟨i + 1, by omega⟩, o.cast (by rw [hop]; simp [Z4, *])⟩ (by dsimp only; omega) (fun w h9 => h9.del b9)
 refine pur 6 rfl ?_
 refine Z1m (ι := OSl 3 1 (Z4 (nx1 h.gaps cz now i g))) (fun o => ⟨[(1, .slice an now.length cn), (2, .slice ac cz.length cc), (3, .pointer (some ⟨b3, 0, none⟩)), (7, o.fs), (8, .int .i64 (i : Int)), (9, .pointer (some ⟨b9, 0, none⟩))], o.G ++ ((b9, cel 110 (grow g)) :: (b3, cel 35 (htl h (h.sg (some ⟨ba, oa, none⟩) cg) (h.ss as_ cs))) :: H), R⟩) ?_ ?_
 refine ZI rfl ?_
 refine Z2 ?_
 first | exact Zz (o43.cast (by unfold nx1; simp [Z4, *])) (fun w h9 => h9.del b42) | exact Zz (o.cast (by unfold nx1; simp [Z4, *])) idH
 clear hnx2
 intro o
 dsimp only
 refine sqt 11 rfl (pur 1 rfl (sp rfl (PE.fA Z0L rfl) rfl (spL rfl rfl (lh sc3 rfl rfl) rfl ?_)))
 refine clV rfl Z2D rfl rfl (Z1b now an cn g.b (by omega) _ _) ?_
 refine pur 1 rfl ?_
 refine Zq 48 rfl ?_ ?_ <;> intro g48
 refine pur 1 rfl ?_
 refine spG rfl rfl rfl rfl (PE.fA Z0s rfl) rfl ?_
 refine Z0O rfl rfl rfl rfl rfl (lh sc3 rfl rfl) rfl ?_
 refine Z2J rfl rfl rfl rfl Z2D rfl rfl (FnV.lendO o (fun v => [v, .int .i64 g.a]) (fun a5 c5 _ => by rw [irl]; exact Z1b (nx1 h.gaps cz now i g) a5 c5 g.a (by omega) _ _)) ?_
 refine pur 2 rfl ?_
 refine Z1 rfl ?_ ?_ <;> intro hc3
 refine sqr 6 rfl (pur 1 rfl (sp rfl (PE.fA Z0s rfl) rfl (spL rfl rfl (lh sc3 rfl rfl) rfl ?_)))
 refine bsl (out := [_]) rfl Z0H zl3 rfl rfl rfl rfl rfl rfl (fun b58 => ?_)
 refine apO (o) rfl Z2y rfl rfl (Z0l (row := [.int .i64 g.a]) rfl) rfl rfl ((by rw [irl]; simp only [List.length_singleton]; omega)) rfl (fun o59 => ?_)
 refine pur 1 rfl (sqr 3 rfl (pur 1 rfl (sp rfl (PE.add rfl rfl (by omega)) rfl (pur 1 rfl ?_))))
 first | exact Zi ⟨⟨i + 1, by omega⟩, o59.cast (by rw [hop]; simp [Z4, *])⟩ (by dsimp only; omega) (fun w h9 => ((h9.del b58).del b9)) | exact Zi ⟨⟨i + 1, by omega⟩, o.cast (by rw [hop]; simp [Z4, *])⟩ (by dsimp only; omega) (fun w h9 => h9.del b9)
 refine Z2 (sqr 3 rfl (pur 1 rfl (sp rfl (PE.add rfl rfl (by omega)) rfl (pur 1 rfl ?_))))
 first | exact Zi ⟨⟨i + 1, by omega⟩, o59.cast (by rw [hop]; simp [Z4, *])⟩ (by dsimp only; omega) (fun w h9 => ((h9.del b58).del b9)) | exact Zi ⟨⟨i + 1, by omega⟩, o.cast (by rw [hop]; simp [Z4, *])⟩ (by dsimp only; omega) (fun w h9 => h9.del b9)
 refine pur 6 rfl ?_
 refine ZI rfl ?_
 refine Z2 (sqr 3 rfl (pur 1 rfl (sp rfl (PE.add rfl rfl (by omega)) rfl (pur 1 rfl ?_))))
 first | exact Zi ⟨⟨i + 1, by omega⟩, o59.cast (by rw [hop]; simp [Z4, *])⟩ (by dsimp only; omega) (fun w h9 => ((h9.del b58).del b9)) | exact Zi ⟨⟨i + 1, by omega⟩, o.cast (by rw [hop]; simp [Z4, *])⟩ (by dsimp only; omega) (fun w h9 => h9.del b9)
 obtain rfl : i = h.gaps.length := by omega
 obtain ⟨an9, cn9, he, hcn9, hzz⟩ := (o.cast (show _ = Z4 (Z6v h.gaps cz now) from rfl)).freezeC
 rw [irl] at hcn9
 rw [show o.fs = _ from he, irl]
 refine Sy.heap (H' := _) (fun w h9 => hzz h9) ?_
 clear he hzz
 refine Z7 (Z9 (Z9 (Zn (sqt 2 rfl (pur 2 rfl (Z5 ?_))))))
 exact rtA rfl rfl rfl ⟨an9, cn9, rfl, hcn9, rfl, rfl⟩ (fun w h9 => h9.del b3)
set_option maxHeartbeats 600000 in
theorem Z99 (h : Hse) (ag as_ : Option Addr) (cg cs : Nat) (hok : h.ok) (fr cz : List Int) (af acl : Option Addr) (cf ccz : Nat) (hfr : Zy h.bins fr = 0) (hcl : ∀ x ∈ cz, 0 ≤ x) (hcll : cz.length ≤ 1000000) (H : Z8) (R : Z6) [hG : MemRows ag 2 (Zd h.gaps) R] [hF : MemRows af 1 (Z4 fr) R] [hC : MemRows acl 1 (Z4 cz) R] :
    Fn Tryz.prog 38 [h.v (h.sg ag cg) (h.ss as_ cs), .slice af fr.length cf, .slice acl cz.length ccz] H R (fun v H' R' => ∃ (a : Option Addr) (c : Nat), v = .slice a h.bins.toNat c ∧ H' = H ∧ R' = RowsA a 1 (Z4 (wkL h.gaps (msk cz) (msk fr) h.bins.toNat)) :: R) := by
 refine Zg Tryz.func38 rfl Tryz.ntmps38 rfl ?_
 refine sqt 2 rfl ?_
 have hbn := hok.bins
 have hgl := hok.gl
 obtain ⟨B, hB⟩ : ∃ B : Nat, h.bins = B := ⟨h.bins.toNat, by omega⟩
 rw [show h.bins.toNat = B by omega]
 have hlm := Lm.of (show h.bins ≤ 7 by omega) hfr
 have hfr9 := (ZA hfr).1
 have hmB : msk fr < 2 ^ B := Z0S fun x hx => by have := hfr9 x hx; omega
 have hwB : Wth h.gaps B := fun g hg => by have := hok.gaps g hg; omega
 have hg7 : ∀ g ∈ h.gaps, (0 ≤ g.a ∧ g.a < 7) ∧ 0 ≤ g.b ∧ g.b < 7 := fun g hg => by have := hok.gaps g hg; omega
 have hcb : ∀ i : Nat, ZF cz (i : Int) = (msk cz).testBit i := fun i => Z5d hcl i
 refine bx rfl rfl rfl (fun b3 => pur 1 rfl (sqt 4 rfl (sp rfl (PE.fA Z26 rfl) rfl (spL rfl rfl (lh (v := .int .i64 h.bins) sc3 rfl rfl) rfl ?_))))
 rw [hB]
 refine mkS rfl Z2y zl3 rfl rfl (Nat.le_refl _) ⟨by omega, by omega⟩ rfl (fun b14 => ?_)
 rw [Zfp, ← Z9E (-1)]
 refine pur 1 rfl (sqt 2 rfl (pur 2 rfl (Z0 (sqt 1 rfl (pur 1 rfl (Z3 ?_))))))
 refine Zc (ι := {k : Nat // k ≤ B}) (fun x => ⟨[(2, .slice acl cz.length ccz), (3, .pointer (some ⟨b3, 0, none⟩)), (7, .slice (some ⟨b14, 0, none⟩) B B), (8, .slice af fr.length cf), (9, .int .i64 (x.1 : Int))], (b14, cel 3 (Zr (fil (-1) B x.1))) :: (b3, cel 35 (htl h (h.sg ag cg) (h.ss as_ cs))) :: H, R⟩) (fun x => B - x.1) ⟨0, by omega⟩ ?_ (fun x => ?_)
 exact Zj idH
 obtain ⟨k, hk⟩ := x
 dsimp only at hk ⊢
 refine Z0 (sqt 4 rfl (pur 1 rfl (sp rfl (PE.fA Z26 rfl) rfl (spL rfl rfl (lh (v := .int .i64 h.bins) sc3 rfl rfl) rfl ?_))))
 rw [hB]
 refine pur 1 rfl ?_
 refine Z1 rfl ?_ ?_ <;> intro hc0 <;> try simp only [cS] at hc0
 refine Z2 (Z0 (Z3 (sqr 4 rfl (pur 2 rfl (sp rfl (PE.indexAddr Z1e rfl rfl (by omega) (by omega)) rfl ?_)))))
 refine ZT (l' := Zr ((fil (-1) B k).set k (-1))) rfl rfl rfl cn3 rfl rfl rfl (Z0X (by rw [Z71 hk]; omega) (by show 0 + ((k : Nat) : Int).toNat * 1 = k; omega)) (by rw [Zk, Z71 hk]; show 0 + ((k : Nat) : Int).toNat * 1 + 1 ≤ _; omega) ?_
 refine sqr 3 rfl (pur 1 rfl (sp rfl (PE.add rfl rfl (by omega)) rfl (pur 1 rfl ?_)))
 rw [Zbl (by omega)]
 exact Za ⟨k + 1, by omega⟩ idH
 obtain rfl : k = B := by omega
 rw [ZbI]
 have hst := RwI.start h.gaps (msk cz) (msk fr) k
 have hfl7 := hlm.few
 refine Z7 (Z9 (Z9 (Zn (Z0 (sqt 1 rfl (pur 1 rfl (Z3 ?_)))))))
 refine Sy.heap (fun w h9 => h9.also (f := RowsA af 1 (Z4 fr)) (fun w' hg => hg _ hF.mem)) ?_
 refine Zc (ι := {x : (Nat × List Int) × (List Int × Option Addr × Nat) // x.1.1 ≤ k ∧ Lm x.2.1 (lv h.gaps (msk cz) (msk fr) x.1.1) ∧ RwI h.gaps (msk cz) (msk fr) k (x.1.1) ([]) x.1.2}) (fun x => ⟨[(2, .slice acl cz.length ccz), (3, .pointer (some ⟨b3, 0, none⟩)), (7, .slice (some ⟨b14, 0, none⟩) k k), (8, .slice x.1.2.2.1 x.1.2.1.length x.1.2.2.2), (10, .int .i64 (x.1.1.1 : Int))], (b14, cel 3 (Zr (x.1.1.2))) :: (b3, cel 35 (htl h (h.sg ag cg) (h.ss as_ cs))) :: H, RowsA x.1.2.2.1 1 (Z4 x.1.2.1) :: R⟩) (fun x => k - x.1.1.1) ⟨((0, List.replicate k (-1)), (fr, af, cf)), Nat.zero_le _, hlm, hst⟩ ?_ (fun x => ?_)
 exact Zj idH
 obtain ⟨⟨⟨w, o⟩, ⟨now, an, cn⟩⟩, hw, hnl, hrw⟩ := x
 dsimp only at hw hnl hrw ⊢
 have hn7 := hnl.few
 have hnB := hnl.ltn (Z7l hwB hmB w)
 refine Z0 (sqt 4 rfl (pur 1 rfl (sp rfl (PE.fA Z26 rfl) rfl (spL rfl rfl (lh (v := .int .i64 h.bins) sc3 rfl rfl) rfl ?_))))
 rw [hB]
 refine pur 1 rfl ?_
 refine Z1 rfl ?_ ?_ <;> intro hc1 <;> try simp only [cS] at hc1
 refine Z2 (Z0 (Z3 (Z0 (sqt 1 rfl (pur 1 rfl (Z3 ?_))))))
 refine Zc (ι := {x : Nat × List Int // x.1 ≤ now.length ∧ RwI h.gaps (msk cz) (msk fr) k (w) (now.take x.1) x.2}) (fun x => ⟨[(2, .slice acl cz.length ccz), (3, .pointer (some ⟨b3, 0, none⟩)), (7, .slice (some ⟨b14, 0, none⟩) k k), (8, .slice an now.length cn), (10, .int .i64 (w : Int)), (11, .int .i64 (x.1.1 : Int))], (b14, cel 3 (Zr (x.1.2))) :: (b3, cel 35 (htl h (h.sg ag cg) (h.ss as_ cs))) :: H, RowsA an 1 (Z4 now) :: R⟩) (fun x => now.length - x.1.1) ⟨(0, o), Nat.zero_le _, hrw⟩ ?_ (fun x => ?_)
 exact Zj idH
 obtain ⟨⟨i, o⟩, hi, hrw⟩ := x
 dsimp only at hi hrw ⊢
 have hol := hrw.len
 refine Z0 (sqt 4 rfl (pur 2 rfl (sp rfl (PE.lenSl Zw rfl) rfl (pur 1 rfl ?_))))
 refine Z1 rfl ?_ ?_ <;> intro hc2 <;> try simp only [cS] at hc2
 obtain ⟨x, hx⟩ : ∃ x, now[i]? = some x := ⟨_, List.getElem?_eq_getElem (by omega)⟩
 have hxB := hnB x (List.mem_of_getElem? hx)
 obtain ⟨u, rfl⟩ : ∃ u : Nat, x = u := ⟨x.toNat, by omega⟩
 have htk : now.take (i + 1) = now.take i ++ [(u : Int)] := Z4f hx
 refine Zf (a := an) (sz := 1) (rows := Z4 now) (ne0 (by rw [irl]; omega)) (fun ba oa he => ?_)
 subst he
 refine Z2 (Z0 (Z3 (sqt 8 rfl (pur 3 rfl (sp rfl (PE.indexAddr Z1e rfl rfl (by omega) (by omega)) rfl (spL rfl rfl (lf0 sc3 (ZH hx) rfl) rfl (sp rfl (PE.indexAddr Z1e rfl rfl (by omega) (by omega)) rfl (spL rfl rfl (lh sc3 rfl (Z0V (w := o) (k := u) (by omega) (by show 0 + ((u : Nat) : Int).toNat * 1 = u; omega))) rfl (pur 1 rfl ?_)))))))))
 refine Z1 rfl ?_ ?_ <;> intro hc3 <;> try simp only [cS] at hc3
 have hr9 := hrw.put hxB (by rw [Int.toNat_natCast]; exact hc3)
 rw [Int.toNat_natCast, ← htk] at hr9
 refine sqr 8 rfl (pur 3 rfl (sp rfl (PE.indexAddr Z1e rfl rfl (by omega) (by omega)) rfl (spL rfl rfl (lf0 sc3 (ZH hx) rfl) rfl (pur 1 rfl (sp rfl (PE.indexAddr Z1e rfl rfl (by omega) (by omega)) rfl ?_)))))
 refine ZT (l' := Zr (o.set u (w : Int))) rfl rfl rfl cn3 rfl rfl rfl (Z0X (by omega) (by show 0 + ((u : Nat) : Int).toNat * 1 = u; omega)) (by rw [Zk, hol]; show 0 + ((u : Nat) : Int).toNat * 1 + 1 ≤ _; omega) ?_
 refine sqr 3 rfl (pur 1 rfl (sp rfl (PE.add rfl rfl (by omega)) rfl (pur 1 rfl ?_)))
 exact Za ⟨(i + 1, o.set u (w : Int)), by dsimp only; omega, hr9⟩ idH
 have hr9 := hrw.skip hxB (by rw [Int.toNat_natCast]; omega)
 rw [← htk] at hr9
 refine Z2 (sqr 3 rfl (pur 1 rfl (sp rfl (PE.add rfl rfl (by omega)) rfl (pur 1 rfl ?_))))
 exact Za ⟨(i + 1, o), by dsimp only; omega, hr9⟩ idH
 obtain rfl : i = now.length := by omega
 rw [List.take_length] at hrw
 have hrw2 := hrw.week hnl
 refine Z7 (Z9 (Z9 (Zn (sqr 5 rfl (spL rfl rfl (lhA (htl h (h.sg ag cg) (h.ss as_ cs)) Z6W rfl rfl rfl) rfl (pur 2 rfl ?_))))))
 refine cl rfl Zfl rfl rfl (Zc7 h ag as_ cg cs hgl now cz an acl cn ccz (by omega) hcll _ _) ?_
 rintro _ _ R1 ⟨a9, c9, rfl, hc9, rfl, hR1⟩
 obtain rfl := hR1.symm
 clear hR1
 refine pur 1 rfl (sqr 3 rfl (pur 1 rfl (sp rfl (PE.add rfl rfl (by omega)) rfl (pur 1 rfl ?_))))
 exact Za ⟨((w + 1, o), (Z6v h.gaps cz now, a9, c9)), by dsimp only; omega, Zbv hg7 hcb hnl, hrw2⟩ (fun w h9 => h9.facts (fun g hg => by simp only [List.mem_cons] at hg ⊢; rcases hg with h8 | h8 <;> simp [h8]))
 obtain rfl : w = k := by omega
 obtain rfl := hrw.done (by omega) (by omega) hwB hmB
 refine Sy.heap (fun w9 h9 => St.rows (sz := 1) (rows := Z4 (wkL h.gaps (msk cz) (msk fr) w)) (rest := []) (by rw [List.append_nil, show (Z4 (wkL h.gaps (msk cz) (msk fr) w)).flatten = Zr (wkL h.gaps (msk cz) (msk fr) w) from Z2h _]; exact h9) (fun r hr => by obtain ⟨x, _, rfl⟩ := List.mem_map.1 hr; rfl)) ?_
 refine Z7 (Z9 (Z9 (Zn (sqt 2 rfl (pur 2 rfl (Z5 ?_))))))
 exact rtA rfl rfl rfl ⟨_, w, rfl, rfl, rfl⟩ (fun w9 h9 => (h9.del b3).facts (fun g hg => by simp only [List.mem_cons] at hg ⊢; rcases hg with h8 | h8 <;> simp [h8]))
theorem ZfW : apT Tryz.prog 32 = some (110, 2, 16) := by kernel_rfl
theorem ZfQ : apT Tryz.prog 33 = some (111, 3, 24) := by kernel_rfl
theorem Zeo : cal Tryz.prog 140 = true := by kernel_rfl
theorem ZcJ : cal Tryz.prog 141 = true := by kernel_rfl
theorem Zfx : cal Tryz.prog 38 = true := by kernel_rfl
theorem ZeP : cal Tryz.prog 74 = true := by kernel_rfl
theorem Zfi : cal Tryz.prog 87 = true := by kernel_rfl
theorem ZeT : cal Tryz.prog 88 = true := by kernel_rfl
theorem ZfU : Z0w Tryz.prog 32 = some 1 := by kernel_rfl
theorem Zg4 : Z0w Tryz.prog 33 = some 1 := by kernel_rfl
theorem ZeW : Z0w Tryz.prog 35 = some 3 := by kernel_rfl
theorem ZeU : Tryz.prog.eqGuardType Tryz.prog.depth 67 = false := by kernel_rfl
theorem ZfV : Z1j Tryz.prog 35 = some [(0, 1), (1, 1), (2, 1)] := by kernel_rfl
theorem Zg2 : slE Tryz.prog 32 = some (110, 2) := by kernel_rfl
theorem ZfO : slE Tryz.prog 33 = some (111, 3) := by kernel_rfl
theorem Zfg : ZS Tryz.prog 111 = some ([.int .i64 0, .int .i64 0, .bool false]) := by kernel_rfl
theorem Zex : ZS Tryz.prog 35 = some ([.int .i64 0, .slice none 0 0, .slice none 0 0]) := by kernel_rfl
theorem Z9G (xs ys : List Gp) (a a2 : Option Addr) (c c2 : Nat) (hl : xs.length ≤ 9223372036854775807) (hl2 : ys.length ≤ 9223372036854775807) (H : Z8) (R : Z6) [hR : MemRows a 2 (Zd xs) R] [hR2 : MemRows a2 2 (Zd ys) R] :
    FnV Tryz.prog 140 [.slice a xs.length c, .slice a2 ys.length c2] H R (.bool (decide (xs = ys))) := by
 refine Zg Tryz.func140 rfl Tryz.ntmps140 rfl ?_
 refine sqt 1 rfl (pur 1 rfl (Z0 (sqt 5 rfl (pur 1 rfl (sp rfl (PE.lenSl Z1M rfl) rfl (pur 1 rfl (sp rfl (PE.lenSl Z1M rfl) rfl (pur 1 rfl ?_))))))))
 refine Z1 rfl ?_ ?_ <;> intro hc0
 have hne : xs ≠ ys := fun e => by subst e; simp at hc0
 refine sqt 1 rfl (pur 1 rfl (Z5 ?_))
 exact rtA rfl rfl rfl ⟨by first | (simp only [ZC]; rw [dT heq]; done) | (simp only [ZC]; rw [dF hne]), rfl, rfl⟩ idH
 have hle : xs.length = ys.length := by simp only [cS] at hc0; omega
 refine Z2 (Z0 (sqt 3 rfl (pur 1 rfl (sp rfl (PE.lenSl Z1M rfl) rfl (pur 1 rfl (Z3 ?_))))))
 refine Zc (ι := {k : Nat // k ≤ xs.length ∧ xs.take k = ys.take k}) (fun k => ⟨[(0, .slice a xs.length c), (1, .slice a2 ys.length c2), (12, .int .i64 xs.length), (13, .int .i64 k.1)], H, R⟩) (fun k => xs.length - k.1) ⟨0, by simp⟩ ?_ (fun k => ?_)
 exact Zj idH
 obtain ⟨k, hk, hn⟩ := k
 dsimp only
 refine sqt 1 rfl (pur 1 rfl (Z0 ?_))
 refine Z1 rfl ?_ ?_ <;> intro hc1
 simp only [cS] at hc1
 obtain ⟨x, hx⟩ : ∃ x, xs[k]? = some x := ⟨_, List.getElem?_eq_getElem (by omega)⟩
 obtain ⟨z, hz⟩ : ∃ z, ys[k]? = some z := ⟨_, List.getElem?_eq_getElem (by omega)⟩
 refine Zf (a := a) (sz := 2) (rows := Zd xs) (by intro h0; simp [Zd] at h0; simp [h0] at hx) (fun b off he => ?_)
 subst he
 refine Zf (a := a2) (sz := 2) (rows := Zd ys) (by intro h0; simp [Zd] at h0; simp [h0] at hz) (fun b2 off2 he => ?_)
 subst he
 refine Z2 (Z0 (Z3 (sqt 2 rfl (pur 2 rfl (Z0 ?_)))))
 refine Zo [0, 0, 3, 7, 0, 0, 48, 112, 255] (tks 0 3 (.ld 3 (tks 4 3 (.ld 7 (.tk 8 .done))))) ZG (by kernel_rfl) ?_
 refine Zx 2 rfl (tk rfl (PE.indexAddr Z6U rfl rfl (by omega) (by omega)) rfl (ld rfl rfl (lfA Z6K (row := grow x) (by simp [Zd, hx]) rfl) rfl (Zx 2 rfl (tk rfl (PE.indexAddr Z6U rfl rfl (by omega) (by omega)) rfl (ld rfl rfl (lfA Z6K (row := grow z) (by simp [Zd, hz]) rfl) rfl (tk rfl (PE.neqAgg [x.a, x.b] [z.a, z.b] (Z1G 10000 97 true 2 Zdw) ZdY rfl rfl rfl rfl) rfl ?_))))))
 refine Z1 rfl ?_ ?_ <;> intro hc2
 have hne : xs ≠ ys := fun e => by subst e; rw [hx] at hz; cases hz; simp at hc2
 refine sqt 1 rfl (pur 1 rfl (Z5 ?_))
 exact rtA rfl rfl rfl ⟨by first | (simp only [ZC]; rw [dT heq]; done) | (simp only [ZC]; rw [dF hne]), rfl, rfl⟩ idH
 have hxz : x = z := by cases x; cases z; simpa using hc2
 refine Z2 (sqr 2 rfl (sp rfl (PE.add rfl rfl (by omega)) rfl (pur 1 rfl ?_)))
 exact Za ⟨k + 1, by omega, by rw [List.take_add_one, List.take_add_one, hn, hx, hz, hxz]⟩ idH
 simp only [cS] at hc1
 obtain rfl : k = xs.length := by omega
 have heq : xs = ys := by
   rw [List.take_length] at hn
   exact hn.trans (by rw [hle]; exact List.take_length)
 refine Z7 (Z9 (Z9 (Zn (sqt 1 rfl (pur 1 rfl (Z5 ?_))))))
 exact rtA rfl rfl rfl ⟨by first | (simp only [ZC]; rw [dT heq]; done) | (simp only [ZC]; rw [dF hne]), rfl, rfl⟩ idH
def chS (P : Program) : Nat → List Field → List Bool → Bool
  | _, [], [] => true
  | o, f :: fs, b :: bs => !(f.name == "_") && Nat.beq f.offset o && (match P.underlying f.type with | some (.int _) => !b | some .bool => b | _ => false) && chS P (o + 1) fs bs
  | _, _, _ => false
def chT (P : Program) (T : Nat) (bs : List Bool) : Bool := match P.underlying T with
  | some (.struct fs) => chS P 0 fs.toList bs && !(P.stoodInHeld T)
  | _ => false
def scV (b : Bool) : Value → Bool
  | .int .i64 _ => !b
  | .bool _ => b
  | _ => false
def kOK : List Bool → List Value → Bool
  | [], [] => true
  | b :: bs, v :: vs => scV b v && kOK bs vs
  | _, _ => false
def scE : Value → Value → Bool
  | .int _ x, .int _ y => x == y
  | .bool x, .bool y => x == y
  | _, _ => false
def Z95 : List Value → List Value → Bool
  | v :: vs, w :: ws => scE v w && Z95 vs ws
  | _, _ => true
theorem Z9X {P : Program} {d e : Nat} {b : Bool} {v u : Value} (h : (match P.underlying e with | some (.int _) => !b | some .bool => b | _ => false) = true) (hv : scV b v = true) (hu : scV b u = true) (w : World) : (Op.equalIn (d + 1) e v u).run P w = .ok (scE v u) w := by
  cases b with
  | false =>
    match v, hv with
    | .int .i64 x, _ =>
      match u, hu with
      | .int .i64 y, _ =>
        cases ht : P.underlying e with
        | none => rw [ht] at h; cases h
        | some t =>
          rw [ht] at h
          cases t with
          | int k => exact run_equalIn_int w d e _ _ x y ht
          | _ => cases h
  | true =>
    match v, hv with
    | .bool x, _ =>
      match u, hu with
      | .bool y, _ =>
        cases ht : P.underlying e with
        | none => rw [ht] at h; cases h
        | some t =>
          rw [ht] at h
          cases t with
          | bool => exact run_equalIn_bool w d e x y ht
          | _ => cases h
theorem Z4z {P : Program} {e : Nat} {b : Bool} (h : (match P.underlying e with | some (.int _) => !b | some .bool => b | _ => false) = true) (pre vs : List Value) (v : Value) (w : World) : (part e (pre ++ v :: vs).toArray pre.length).run P w = .ok v w := by
  have hs : Z28 P e = true := by
    cases ht : P.underlying e with
    | none => rw [ht] at h; cases h
    | some t =>
      rw [ht] at h
      cases t with
      | int k => simp [Z28, ht]
      | bool => simp [Z28, ht]
      | _ => cases h
  unfold part
  simp only [Sem.run_bind, Z0c hs, Result.andThen]
  simp [Sem.run_pure]
theorem Z62 {P : Program} {d : Nat} : ∀ (fs : List Field) (bs : List Bool) (vs ws pre pre2 : List Value), chS P pre.length fs bs = true → kOK bs vs = true → kOK bs ws = true → pre.length = pre2.length → ∀ w,
    (Op.eqFields (d + 1) (pre ++ vs).toArray (pre2 ++ ws).toArray fs).run P w = .ok (Z95 vs ws) w
  | [], bs, vs, ws, pre, pre2, h, hv, hw, hp, w => by
    match bs, h with
    | [], _ =>
      match vs, hv with
      | [], _ => simp [Op.eqFields, Sem.run_pure, Z95]
  | f :: fs, bs, vs, ws, pre, pre2, h, hv, hw, hp, w => by
    match bs, h with
    | b :: bs, h =>
      match vs, hv with
      | v :: vs, hv =>
        match ws, hw with
        | u :: ws, hw =>
          simp only [chS, Bool.and_eq_true, Bool.not_eq_true'] at h
          obtain ⟨⟨⟨h1, h2⟩, h3⟩, h4⟩ := h
          simp only [kOK, Bool.and_eq_true] at hv hw
          have h2 := Nat.eq_of_beq_eq_true h2
          have hn' : f.name ≠ "_" := by simpa using h1
          have p1 := Z4z h3 pre vs v w
          have p2 := Z4z h3 pre2 ws u w
          have p3 := Z9X (d := d) h3 hv.1 hw.1 w
          have ih := Z62 (d := d) fs bs vs ws (pre ++ [v]) (pre2 ++ [u]) (by rw [List.length_append]; exact h4) hv.2 hw.2 (by rw [List.length_append, List.length_append, hp]; rfl) w
          rw [List.append_assoc, List.append_assoc] at ih
          simp only [List.singleton_append] at ih
          rw [← hp] at p2
          rw [← h2] at p1 p2
          simp only [Op.eqFields, hn', ne_eq, not_false_eq_true, if_true, Sem.run_bind, p1, p2, p3, Result.andThen]
          cases hc : scE v u with
          | true => simp [Z95, hc, ih]
          | false => simp [Z95, hc, Sem.run_pure]
section pe
variable {P : Program} {L : Zl} {d : Option Tmp} {ty : TypeId} {pos : String} {af : Array Edge} {g : Option (Nat × Bool)}
theorem PE.neqS {T U : Nat} {x y : Operand} (vs ws : List Value) (bs : List Bool) (hT : chT P T bs = true) (hg : P.eqGuardType P.depth T = false) (hx : ev L x = some (.agg vs.toArray)) (hy : ev L y = some (.agg ws.toArray)) (kv : kOK bs vs = true) (kw : kOK bs ws = true) :
    PE P L ⟨d, .binOp .neq T x y U, ty, pos, af, g⟩ (.bool (!(Z95 vs ws))) := fun ρ hρ w => by
  have hb : binOp .neq T (.agg vs.toArray) (.agg ws.toArray) = (do pure (.bool (!(← Op.equal T (.agg vs.toArray) (.agg ws.toArray))))) := rfl
  unfold chT at hT
  split at hT
  · rename_i fs hu
    simp only [Bool.and_eq_true, Bool.not_eq_true'] at hT
    have hf : P.fieldsOf T = fs := by simp [Program.fieldsOf, hu]
    have he : (Op.equal T (.agg vs.toArray) (.agg ws.toArray)).run P w = .ok (Z95 vs ws) w := by
      show (Op.equalIn (9999 + 1) T (.agg vs.toArray) (.agg ws.toArray)).run P w = _
      rw [run_equalIn_struct w 9999 T _ _ (by rw [hu, hf]) hT.2, hf]
      exact Z62 (d := 9998) fs.toList bs vs ws [] [] hT.1 kv kw rfl w
    simp only [execOp, hρ _ _ hx, hρ _ _ hy, Sem.run_bind, Z0n hg, hb, he, Result.andThen, Sem.run_pure]
  · cases hT
end pe
def Z6L (a b : Hse) : Bool := decide (a.bins = b.bins) && decide (a.gaps = b.gaps) && decide (a.sights = b.sights)
theorem sameH_iff {a b : Hse} : Z6L a b = true ↔ a = b := by
  unfold Z6L
  simp only [Bool.and_eq_true, decide_eq_true_eq]
  constructor
  · rintro ⟨⟨h1, h2⟩, h3⟩
    cases a; cases b; simp_all
  · rintro rfl; exact ⟨⟨rfl, rfl⟩, rfl⟩
theorem Zdh (a b : List Gp) : Zd (a ++ b) = Zd a ++ Zd b := List.map_append
def Zcs (h : Hse) : Bool := decide (14 < h.gaps.length) || decide (12 < h.sights.length)
def Zca (l : List (List Int)) : Bool := l.any (fun x => decide (14 < x.length)) || decide (14 < l.length)
theorem ZdS {l : List (List Int)} (h : ∀ x ∈ l.take l.length, ¬ 14 < x.length) : l.any (fun x => decide (14 < x.length)) = false := List.any_eq_false.2 fun x hx => by
  rw [List.take_length] at h
  simpa using h x hx
theorem ZbX {l : List (List Int)} {x : List Int} (hx : x ∈ l) (h : 14 < x.length) : l.any (fun x => decide (14 < x.length)) = true := List.any_eq_true.2 ⟨x, hx, decide_eq_true h⟩
theorem Z5W (m k : Nat) : ((m >>> k : Nat) : Int) / 2 = ((m >>> (k + 1) : Nat) : Int) := by rw [Nat.shiftRight_succ]; omega
theorem Z8N (m k : Nat) : decide (((m >>> k : Nat) : Int) % 2 = 1) = decide (m / 2 ^ k % 2 = 1) := by rw [Nat.shiftRight_eq_div_pow]; exact decide_eq_decide.2 (by omega)
theorem Zb0 {m k : Nat} (h : m < 2 ^ 10) (hp : 0 < ((m >>> k : Nat) : Int)) : k < 10 := by
  rcases Nat.lt_or_ge k 10 with h1 | h1
  · exact h1
  · have : m >>> k = 0 := by rw [Nat.shiftRight_eq_div_pow]; exact Nat.div_eq_of_lt (Nat.lt_of_lt_of_le h (Nat.pow_le_pow_right (by decide) h1))
    omega
theorem Za8 (xs ys : List Sgt) (a a2 : Option Addr) (c c2 : Nat) (hl : xs.length ≤ 9223372036854775807) (hl2 : ys.length ≤ 9223372036854775807) (H : Z8) (R : Z6) [hR : MemRows a 3 (Ze xs) R] [hR2 : MemRows a2 3 (Ze ys) R] :
    FnV Tryz.prog 141 [.slice a xs.length c, .slice a2 ys.length c2] H R (.bool (decide (xs = ys))) := by
 refine Zg Tryz.func141 rfl Tryz.ntmps141 rfl ?_
 refine sqt 1 rfl (pur 1 rfl (Z0 (sqt 5 rfl (pur 1 rfl (sp rfl (PE.lenSl Z3x rfl) rfl (pur 1 rfl (sp rfl (PE.lenSl Z3x rfl) rfl (pur 1 rfl ?_))))))))
 refine Z1 rfl ?_ ?_ <;> intro hc0
 have hne : xs ≠ ys := fun e => by subst e; simp at hc0
 refine sqt 1 rfl (pur 1 rfl (Z5 ?_))
 exact rtA rfl rfl rfl ⟨by first | (simp only [ZC]; rw [dT heq]; done) | (simp only [ZC]; rw [dF hne]), rfl, rfl⟩ idH
 have hle : xs.length = ys.length := by simp only [cS] at hc0; omega
 refine Z2 (Z0 (sqt 3 rfl (pur 1 rfl (sp rfl (PE.lenSl Z3x rfl) rfl (pur 1 rfl (Z3 ?_))))))
 refine Zc (ι := {k : Nat // k ≤ xs.length ∧ xs.take k = ys.take k}) (fun k => ⟨[(0, .slice a xs.length c), (1, .slice a2 ys.length c2), (12, .int .i64 xs.length), (13, .int .i64 k.1)], H, R⟩) (fun k => xs.length - k.1) ⟨0, by simp⟩ ?_ (fun k => ?_)
 exact Zj idH
 obtain ⟨k, hk, hn⟩ := k
 dsimp only
 refine sqt 1 rfl (pur 1 rfl (Z0 ?_))
 refine Z1 rfl ?_ ?_ <;> intro hc1
 simp only [cS] at hc1
 obtain ⟨x, hx⟩ : ∃ x, xs[k]? = some x := ⟨_, List.getElem?_eq_getElem (by omega)⟩
 obtain ⟨z, hz⟩ : ∃ z, ys[k]? = some z := ⟨_, List.getElem?_eq_getElem (by omega)⟩
 refine Zf (a := a) (sz := 3) (rows := Ze xs) (by intro h0; simp [Ze] at h0; simp [h0] at hx) (fun b off he => ?_)
 subst he
 refine Zf (a := a2) (sz := 3) (rows := Ze ys) (by intro h0; simp [Ze] at h0; simp [h0] at hz) (fun b2 off2 he => ?_)
 subst he
 refine Z2 (Z0 (Z3 (sqt 2 rfl (pur 2 rfl (Z0 ?_)))))
 refine Zo [0, 0, 3, 7, 0, 0, 48, 112, 255] (tks 0 3 (.ld 3 (tks 4 3 (.ld 7 (.tk 8 .done))))) ZG (by kernel_rfl) ?_
 refine Zx 2 rfl (tk rfl (PE.indexAddr Zem rfl rfl (by omega) (by omega)) rfl (ld rfl rfl (lfA Zbw (row := Z1S x) (by simp [Ze, hx]) rfl) rfl (Zx 2 rfl (tk rfl (PE.indexAddr Zem rfl rfl (by omega) (by omega)) rfl (ld rfl rfl (lfA Zbw (row := Z1S z) (by simp [Ze, hz]) rfl) rfl (tk rfl (PE.neqS (Z1S x) (Z1S z) [false, false, true] (by kernel_rfl) ZeU rfl rfl rfl rfl) rfl ?_))))))
 refine Z1 rfl ?_ ?_ <;> intro hc2
 have hne : xs ≠ ys := fun e => by subst e; rw [hx] at hz; cases hz; simp [Z95, scE, Z1S] at hc2
 refine sqt 1 rfl (pur 1 rfl (Z5 ?_))
 exact rtA rfl rfl rfl ⟨by first | (simp only [ZC]; rw [dT heq]; done) | (simp only [ZC]; rw [dF hne]), rfl, rfl⟩ idH
 have hxz : x = z := by cases x; cases z; simpa [Z95, scE, Z1S, and_assoc] using hc2
 refine Z2 (sqr 2 rfl (sp rfl (PE.add rfl rfl (by omega)) rfl (pur 1 rfl ?_)))
 exact Za ⟨k + 1, by omega, by rw [List.take_add_one, List.take_add_one, hn, hx, hz, hxz]⟩ idH
 simp only [cS] at hc1
 obtain rfl : k = xs.length := by omega
 have heq : xs = ys := by
   rw [List.take_length] at hn
   exact hn.trans (by rw [hle]; exact List.take_length)
 refine Z7 (Z9 (Z9 (Zn (sqt 1 rfl (pur 1 rfl (Z5 ?_))))))
 exact rtA rfl rfl rfl ⟨by first | (simp only [ZC]; rw [dT heq]; done) | (simp only [ZC]; rw [dF hne]), rfl, rfl⟩ idH
theorem Z9Y (xs ys : List Gp) (a a2 : Option Addr) (c c2 : Nat) (hl : xs.length ≤ 9223372036854775807) (hl2 : ys.length ≤ 9223372036854775807) (H : Z8) (R : Z6) [hR : MemRows a 2 (Zd xs) R] [hR2 : MemRows a2 2 (Zd ys) R] :
    FnV Tryz.prog 87 [.slice a xs.length c, .slice a2 ys.length c2] H R (.bool (decide (xs = ys))) := by
 refine Zg Tryz.func87 rfl Tryz.ntmps87 rfl ?_
 refine sqt 1 rfl (pur 1 rfl (sqt 4 rfl (pur 2 rfl ?_)))
 refine clV rfl Zeo rfl rfl (Z9G xs ys a a2 c c2 hl hl2 _ _) ?_
 refine pur 1 rfl (Z5 ?_)
 exact rtA rfl rfl rfl ⟨rfl, rfl, rfl⟩ drp
theorem Za9 (xs ys : List Sgt) (a a2 : Option Addr) (c c2 : Nat) (hl : xs.length ≤ 9223372036854775807) (hl2 : ys.length ≤ 9223372036854775807) (H : Z8) (R : Z6) [hR : MemRows a 3 (Ze xs) R] [hR2 : MemRows a2 3 (Ze ys) R] :
    FnV Tryz.prog 88 [.slice a xs.length c, .slice a2 ys.length c2] H R (.bool (decide (xs = ys))) := by
 refine Zg Tryz.func88 rfl Tryz.ntmps88 rfl ?_
 refine sqt 1 rfl (pur 1 rfl (sqt 4 rfl (pur 2 rfl ?_)))
 refine clV rfl ZcJ rfl rfl (Za8 xs ys a a2 c c2 hl hl2 _ _) ?_
 refine pur 1 rfl (Z5 ?_)
 exact rtA rfl rfl rfl ⟨rfl, rfl, rfl⟩ drp
theorem Zb8 (h : Hse) (ag as_ : Option Addr) (cg cs : Nat) (hlg : h.gaps.length ≤ 9223372036854775807) (hls : h.sights.length ≤ 9223372036854775807) (H : Z8) (R : Z6) :
    FnV Tryz.prog 28 [h.v (h.sg ag cg) (h.ss as_ cs)] H R (.bool (Zcs h)) := by
 refine Zg Tryz.func28 rfl Tryz.ntmps28 rfl ?_
 refine sqt 2 rfl (bx rfl rfl rfl (fun b1 => pur 1 rfl (sqt 11 rfl (sp rfl (PE.fA Z05 rfl) rfl (spL rfl rfl (lh Z3K rfl rfl) rfl (sp rfl (PE.lenSl Z1M rfl) rfl (pur 2 rfl ?_)))))))
 refine Zq 7 rfl ?_ ?_ <;> intro g7
 refine pur 6 rfl (Z5 ?_)
 exact rtA rfl rfl rfl ⟨congrArg Value.bool (show true = Zcs h by unfold Zcs; rw [dT (by have := of_decide_eq_true g7; omega)]; rfl), rfl, rfl⟩ (fun w h9 => h9.del b1)
 refine spG rfl rfl rfl rfl (PE.fA Z0E rfl) rfl ?_
 refine Z0O rfl rfl rfl rfl rfl (lh Z53 rfl rfl) rfl ?_
 refine spG rfl rfl rfl rfl (PE.lenSl Z3x rfl) rfl ?_
 refine pur 3 rfl (Z5 ?_)
 exact rtA rfl rfl rfl ⟨congrArg Value.bool (show _ = Zcs h by unfold Zcs; rw [dF (show ¬ 14 < h.gaps.length by have := of_decide_eq_false g7; omega), Bool.false_or]; exact decide_eq_decide.2 (by omega)), rfl, rfl⟩ (fun w h9 => h9.del b1)
theorem ZaF (pl : List PL) (ap : Option Addr) (cp : Nat) (hpl : pl.length ≤ 9223372036854775807) (hpx : ∀ x ∈ pl, x.l.length ≤ 9223372036854775807) (H : Z8) (R : Z6) [hP : MemRows ap 1 (Zm pl) R] :
    FnV Tryz.prog 10 [.slice ap pl.length cp] H R (.bool (Zca (lls pl))) := by
 refine Zg Tryz.func10 rfl Tryz.ntmps10 rfl ?_
 refine sqt 1 rfl (pur 1 rfl (Z0 (sqt 3 rfl (pur 1 rfl (sp rfl (PE.lenSl Z1E rfl) rfl (pur 1 rfl (Z3 ?_)))))))
 refine Zc (ι := {k : Nat // k ≤ pl.length ∧ ∀ x ∈ (lls pl).take k, ¬ 14 < x.length}) (fun k => ⟨[(0, .slice ap pl.length cp), (5, .slice ap pl.length cp), (6, .int .i64 pl.length), (7, .int .i64 k.1)], H, R⟩) (fun k => pl.length - k.1) ⟨0, Nat.zero_le _, by simp⟩ ?_ (fun k => ?_)
 exact Zj idH
 obtain ⟨k, hk, hn⟩ := k
 dsimp only at hk hn ⊢
 refine sqt 1 rfl (pur 1 rfl (Z0 ?_))
 refine Z1 rfl ?_ ?_ <;> intro hc0 <;> try simp only [cS] at hc0
 obtain ⟨x, hx⟩ : ∃ x, pl[k]? = some x := ⟨_, List.getElem?_eq_getElem (by omega)⟩
 have hgx := Z1J hx
 have hxl := hpx x (List.mem_of_getElem? hx)
 refine Zf (a := ap) (sz := 1) (rows := Zm pl) (ne0 (by rw [Zv]; omega)) (fun ba oa he => ?_)
 subst he
 refine Z2 (Z0 (Z3 (sqt 3 rfl (sp rfl (PE.indexAddr Z6r rfl rfl (by omega) (by omega)) rfl (spL rfl rfl (lf0 Z1L (Z1h hx) rfl) rfl (pur 1 rfl (sqt 3 rfl (pur 1 rfl (sp rfl (PE.lenSl Zw rfl) rfl (pur 1 rfl ?_))))))))))
 refine Z1 rfl ?_ ?_ <;> intro hc1 <;> try simp only [cS] at hc1
 have ha := ZbX (List.mem_of_getElem? hgx) (show 14 < x.l.length by omega)
 refine sqt 1 rfl (pur 1 rfl (Z5 ?_))
 exact rtA rfl rfl rfl ⟨congrArg Value.bool (show true = Zca (lls pl) by unfold Zca; rw [ha]; rfl), rfl, rfl⟩ drp
 refine Z2 (sqr 2 rfl (sp rfl (PE.add rfl rfl (by omega)) rfl (pur 1 rfl ?_)))
 exact Zb ⟨k + 1, by omega, fun y hy => by
   rw [List.take_add_one, hgx] at hy
   rcases List.mem_append.1 hy with h1 | h1
   · exact hn y h1
   · rw [List.mem_singleton.1 h1]; omega⟩ (by dsimp only; omega) (by repeat' first | exact Sub.nil | apply Sub.cons | rfl | (simp [lk]; omega)) idH
 obtain rfl : k = pl.length := by omega
 have hll := Z03 pl
 have ha := ZdS (l := lls pl) (by rw [hll]; exact hn)
 refine Z7 (Z9 (Z9 (Zn (sqt 4 rfl (pur 1 rfl (sp rfl (PE.lenSl Z1E rfl) rfl (pur 2 rfl (Z5 ?_))))))))
 exact rtA rfl rfl rfl ⟨congrArg Value.bool (show _ = Zca (lls pl) by unfold Zca; rw [ha, Bool.false_or]; exact decide_eq_decide.2 (by omega)), rfl, rfl⟩ drp
set_option maxHeartbeats 400000 in
theorem Z8W (h : Hse) (ag as_ : Option Addr) (cg cs : Nat) (hlg : h.gaps.length ≤ 1000000) (hls : h.sights.length ≤ 1000000) (H : Z8) (R : Z6) [hG : MemRows ag 2 (Zd h.gaps) R] [hS : MemRows as_ 3 (Ze h.sights) R] :
    Fn Tryz.prog 13 [h.v (h.sg ag cg) (h.ss as_ cs)] H R (fun v H' R' => ∃ (ax ay : Option Addr) (cx cy : Nat), v = h.v (h.sg ax cx) (h.ss ay cy) ∧ H' = H ∧ R' = RowsA ay 3 (Ze h.sights) :: RowsA ax 2 (Zd h.gaps) :: R) := by
 refine Zg Tryz.func13 rfl Tryz.ntmps13 rfl ?_
 refine sqt 2 rfl (bx rfl rfl rfl (fun b1 => alc rfl Zex rfl (fun b2 => sqt 5 rfl (sp rfl (PE.fA Z1o rfl) rfl (spL rfl rfl (lh (v := .int .i64 h.bins) sc3 rfl rfl) rfl (sp rfl (PE.build (out := htl h (.slice none 0 0) (.slice none 0 0)) ZfV Zex rfl rfl) rfl (alc rfl Zex rfl (fun b3 => ?_))))))))
 refine ZT (l' := htl h (.slice none 0 0) (.slice none 0 0)) rfl rfl rfl ZeW rfl rfl rfl rfl (nl rfl) ?_
 refine Z0 (sqt 4 rfl (sp rfl (PE.fA Z05 rfl) rfl (spL rfl rfl (lh Z3K rfl rfl) rfl (sp rfl (PE.lenSl Z1M rfl) rfl (pur 1 rfl (Z3 ?_))))))
 refine Zc (ι := (k : {k : Nat // k ≤ h.gaps.length}) × OSl 110 2 (Zd (h.gaps.take k.1))) (fun x => ⟨[(1, .pointer (some ⟨b1, 0, none⟩)), (2, .pointer (some ⟨b2, 0, none⟩)), (3, .pointer (some ⟨b3, 0, none⟩)), (12, h.sg ag cg), (13, .int .i64 h.gaps.length), (14, .int .i64 x.1.1)], x.2.G ++ ((b3, cel 35 (htl h x.2.fs (.slice none 0 0))) :: (b2, cel 35 (htl ⟨0, [], []⟩ (.slice none 0 0) (.slice none 0 0))) :: (b1, cel 25 (htl h (h.sg ag cg) (h.ss as_ cs))) :: H), R⟩) (fun x => h.gaps.length - x.1.1) ⟨⟨0, by omega⟩, OSl.nil _ _⟩ ?_ (fun x => ?_)
 exact Zj idH
 obtain ⟨⟨k, hk⟩, o⟩ := x
 dsimp only at hk o ⊢
 refine sqt 1 rfl (pur 1 rfl (Z0 ?_))
 refine Z1 rfl ?_ ?_ <;> intro hc0 <;> try simp only [cS] at hc0
 obtain ⟨x, hx⟩ : ∃ x, h.gaps[k]? = some x := ⟨_, List.getElem?_eq_getElem (by omega)⟩
 refine Zf (a := ag) (sz := 2) (rows := Zd h.gaps) (ne0 (by rw [Z0m]; omega)) (fun ba oa he => ?_)
 subst he
 refine Z2 (Z0 (Z3 (sqt 4 rfl (sp rfl (PE.indexAddr Z6U rfl rfl (by omega) (by omega)) rfl (spL rfl rfl (lfA Z6K (row := grow x) (Z0C hx) rfl) rfl (alc rfl Z51 rfl (fun b5 => ?_)))))))
 refine ZT (l' := grow x) rfl rfl rfl Zcq rfl rfl rfl rfl (nl rfl) ?_
 refine sqr 7 rfl (sp rfl (PE.fA Z1q rfl) rfl (spL rfl rfl (lh Z79 rfl rfl) rfl (spL rfl rfl (lhA (grow x) Z6K rfl rfl rfl) rfl ?_)))
 refine bsl (out := [_, _]) rfl Zg2 Z9P rfl rfl rfl rfl rfl rfl (fun b21 => ?_)
 refine apO (o) rfl ZfW rfl rfl (Z0l (row := grow x) rfl) rfl rfl ((by rw [Z0m, List.length_take]; simp only [List.length_singleton]; omega)) rfl (fun o22 => ?_)
 refine sp rfl (PE.fA Z1q rfl) rfl ?_
 refine ZT (l' := htl h o22.fs (.slice none 0 0)) rfl rfl rfl ZfU rfl (by rw [o22.cells.1]; first | done | rfl) (by rw [o22.cells.1]; simp [o22.cells.2]) (by rw [o22.cells.1]; first | done | rfl) (by rw [o22.cells.1]; first | done | exact Nat.le_of_ble_eq_true rfl) ?_
 refine sqr 2 rfl (sp rfl (PE.add rfl rfl (by omega)) rfl (pur 1 rfl ?_))
 exact Za ⟨⟨k + 1, by omega⟩, o22.cast (by rw [Z4f hx, Zdh]; rfl)⟩ (fun w h9 => (h9.del b21).del b5)
 obtain rfl : k = h.gaps.length := by omega
 obtain ⟨ax, cx, he, hcx, hf⟩ := (o.cast (show _ = Zd h.gaps by rw [List.take_length])).freezeC
 rw [Z0m] at hcx
 rw [show o.fs = _ from he, Z0m]
 refine Sy.heap (fun w h9 => hf h9) ?_
 clear he hf
 refine Z7 (Z9 (Z9 (Zn (Z0 (sqt 4 rfl (sp rfl (PE.fA Z0E rfl) rfl (spL rfl rfl (lh Z53 rfl rfl) rfl (sp rfl (PE.lenSl Z3x rfl) rfl (pur 1 rfl (Z3 ?_))))))))))
 refine Zc (ι := (k : {k : Nat // k ≤ h.sights.length}) × OSl 111 3 (Ze (h.sights.take k.1))) (fun x => ⟨[(1, .pointer (some ⟨b1, 0, none⟩)), (2, .pointer (some ⟨b2, 0, none⟩)), (3, .pointer (some ⟨b3, 0, none⟩)), (26, h.ss as_ cs), (27, .int .i64 h.sights.length), (28, .int .i64 x.1.1)], x.2.G ++ ((b3, cel 35 (htl h (.slice ax h.gaps.length cx) x.2.fs)) :: (b2, cel 35 (htl ⟨0, [], []⟩ (.slice none 0 0) (.slice none 0 0))) :: (b1, cel 25 (htl h (h.sg ag cg) (h.ss as_ cs))) :: H), RowsA ax 2 (Zd h.gaps) :: R⟩) (fun x => h.sights.length - x.1.1) ⟨⟨0, by omega⟩, OSl.nil _ _⟩ ?_ (fun x => ?_)
 exact Zj idH
 obtain ⟨⟨k, hk⟩, o⟩ := x
 dsimp only at hk o ⊢
 refine sqt 1 rfl (pur 1 rfl (Z0 ?_))
 refine Z1 rfl ?_ ?_ <;> intro hc1 <;> try simp only [cS] at hc1
 obtain ⟨x, hx⟩ : ∃ x, h.sights[k]? = some x := ⟨_, List.getElem?_eq_getElem (by omega)⟩
 refine Zf (a := as_) (sz := 3) (rows := Ze h.sights) (ne0 (by rw [Z1Y]; omega)) (fun bs os he => ?_)
 subst he
 refine Z2 (Z0 (Z3 (sqt 4 rfl (sp rfl (PE.indexAddr Zem rfl rfl (by omega) (by omega)) rfl (spL rfl rfl (lfA Zbw (row := Z1S x) (Z5F hx) rfl) rfl (alc rfl ZaX rfl (fun b7 => ?_)))))))
 refine ZT (l' := Z1S x) rfl rfl rfl ZfS rfl rfl rfl rfl (nl rfl) ?_
 refine sqr 7 rfl (sp rfl (PE.fA Z3B rfl) rfl (spL rfl rfl (lh Zec rfl rfl) rfl (spL rfl rfl (lhA (Z1S x) Zbw rfl rfl rfl) rfl ?_)))
 refine bsl (out := [_, _, _]) rfl ZfO Zfg rfl rfl rfl rfl rfl rfl (fun b35 => ?_)
 refine apO (o) rfl ZfQ rfl rfl (Z0l (row := Z1S x) rfl) rfl rfl ((by rw [Z1Y, List.length_take]; simp only [List.length_singleton]; omega)) rfl (fun o36 => ?_)
 refine sp rfl (PE.fA Z3B rfl) rfl ?_
 refine ZT (l' := htl h (.slice ax h.gaps.length cx) o36.fs) rfl rfl rfl Zg4 rfl (by rw [o36.cells.1]; first | done | rfl) (by rw [o36.cells.1]; simp [o36.cells.2]) (by rw [o36.cells.1]; first | done | rfl) (by rw [o36.cells.1]; first | done | exact Nat.le_of_ble_eq_true rfl) ?_
 refine sqr 2 rfl (sp rfl (PE.add rfl rfl (by omega)) rfl (pur 1 rfl ?_))
 exact Za ⟨⟨k + 1, by omega⟩, o36.cast (by rw [Z4f hx, Zdz]; rfl)⟩ (fun w h9 => (h9.del b35).del b7)
 obtain rfl : k = h.sights.length := by omega
 obtain ⟨ay, cy, he, hcy, hf⟩ := (o.cast (show _ = Ze h.sights by rw [List.take_length])).freezeC
 rw [Z1Y] at hcy
 rw [show o.fs = _ from he, Z1Y]
 refine Sy.heap (fun w h9 => hf h9) ?_
 clear he hf
 refine Z7 (Z9 (Z9 (Zn (sqt 2 rfl (spL rfl rfl (lhA (htl h (.slice ax h.gaps.length cx) (.slice ay h.sights.length cy)) Z6W rfl rfl rfl) rfl ?_)))))
 refine ZT (l' := htl h (.slice ax h.gaps.length cx) (.slice ay h.sights.length cy)) rfl rfl rfl ZeW rfl rfl rfl rfl (nl rfl) ?_
 refine Z5 ?_
 exact Zp (vs := [_]) rfl (.cons (RV.cell rfl (lhA (htl h (.slice ax h.gaps.length cx) (.slice ay h.sights.length cy)) Z6W rfl rfl rfl)) .nil) rfl ⟨ax, ay, cx, cy, rfl, rfl, rfl⟩ (fun w h9 => ((h9.del b3).del b2).del b1)
theorem ZdH (h q : Hse) (ag as_ ax ay : Option Addr) (cg cs cx cy : Nat) (hlg : h.gaps.length ≤ 9223372036854775807) (hls : h.sights.length ≤ 9223372036854775807) (hqg : q.gaps.length ≤ 9223372036854775807) (hqs : q.sights.length ≤ 9223372036854775807) (H : Z8) (R : Z6) [hG : MemRows ag 2 (Zd h.gaps) R] [hS : MemRows as_ 3 (Ze h.sights) R] [hX : MemRows ax 2 (Zd q.gaps) R] [hY : MemRows ay 3 (Ze q.sights) R] :
    FnV Tryz.prog 25 [h.v (h.sg ag cg) (h.ss as_ cs), q.v (q.sg ax cx) (q.ss ay cy)] H R (.bool (Z6L h q)) := by
 refine Zg Tryz.func25 rfl Tryz.ntmps25 rfl ?_
 refine sqt 3 rfl (bx rfl rfl rfl (fun b2 => bx rfl rfl rfl (fun b3 => pur 1 rfl (sqt 20 rfl (sp rfl (PE.fA Z1o rfl) rfl (spL rfl rfl (lh (v := .int .i64 h.bins) sc3 rfl rfl) rfl (sp rfl (PE.fA Z1o rfl) rfl (spL rfl rfl (lh (v := .int .i64 q.bins) sc3 rfl rfl) rfl (pur 2 rfl ?_)))))))))
 refine Zq 10 rfl ?_ ?_ <;> intro g10
 refine spG rfl rfl rfl rfl (PE.fA Z05 rfl) rfl ?_
 refine Z0O rfl rfl rfl rfl rfl (lh Z3K rfl rfl) rfl ?_
 refine spG rfl rfl rfl rfl (PE.fA Z05 rfl) rfl ?_
 refine Z0O rfl rfl rfl rfl rfl (lh Z3K rfl rfl) rfl ?_
 refine Z2J rfl rfl rfl rfl Zfi rfl rfl (Z9Y h.gaps q.gaps ag ax cg cx hlg hqg _ _) ?_
 refine pur 2 rfl ?_
 refine Zq 17 rfl ?_ ?_ <;> intro g17
 refine spG rfl rfl rfl rfl (PE.fA Z0E rfl) rfl ?_
 refine Z0O rfl rfl rfl rfl rfl (lh Z53 rfl rfl) rfl ?_
 refine spG rfl rfl rfl rfl (PE.fA Z0E rfl) rfl ?_
 refine Z0O rfl rfl rfl rfl rfl (lh Z53 rfl rfl) rfl ?_
 refine Z2J rfl rfl rfl rfl ZeT rfl rfl (Za9 h.sights q.sights as_ ay cs cy hls hqs _ _) ?_
 refine pur 2 rfl (Z5 ?_)
 exact rtA rfl rfl rfl ⟨by simp only [ZC, Z6L]; first | (rw [g10, g17]; rfl) | (rw [g10]; rfl), rfl, rfl⟩ (fun w h9 => (h9.del b3).del b2)
 refine pur 7 rfl (Z5 ?_)
 exact rtA rfl rfl rfl ⟨by simp only [ZC, Z6L]; first | (rw [g10, g17]; rfl) | (rw [g10]; rfl), rfl, rfl⟩ (fun w h9 => (h9.del b3).del b2)
 refine pur 14 rfl (Z5 ?_)
 exact rtA rfl rfl rfl ⟨by simp only [ZC, Z6L]; first | (rw [g10, g17]; rfl) | (rw [g10]; rfl), rfl, rfl⟩ (fun w h9 => (h9.del b3).del b2)
theorem Zbh (n : Nat) (hn : n ≤ 20) (H : Z8) (R : Z6) :
    FnV Tryz.prog 74 [.int .i64 (n : Int)] H R (.int .i64 ((2 ^ n : Nat) : Int)) := by
 refine Zg Tryz.func74 rfl Tryz.ntmps74 rfl ?_
 refine sqt 1 rfl (pur 1 rfl (sqt 1 rfl (pur 1 rfl (Z0 (sqt 1 rfl (pur 1 rfl (Z3 ?_)))))))
 refine Zc (ι := {k : Nat // k ≤ n}) (fun k => ⟨[(0, .int .i64 (n : Int)), (3, .int .i64 ((2 ^ k.1 : Nat) : Int)), (4, .int .i64 (k.1 : Int))], H, R⟩) (fun k => n - k.1) ⟨0, Nat.zero_le _⟩ ?_ (fun k => ?_)
 exact Zj idH
 obtain ⟨k, hk⟩ := k
 dsimp only at hk ⊢
 have hp := Nat.pow_le_pow_right (show 0 < 2 by decide) (show k ≤ 20 by omega)
 have h20 : (2 : Nat) ^ 20 = 1048576 := rfl
 have hps := Nat.pow_succ 2 k
 refine Z0 (sqt 3 rfl (pur 3 rfl ?_))
 refine Z1 rfl ?_ ?_ <;> intro hc0 <;> try simp only [cS] at hc0
 refine Z2 (Z0 (Z3 (sqr 3 rfl (pur 1 rfl (sp rfl (PE.mul rfl rfl (by omega)) rfl (pur 1 rfl (sqr 3 rfl (pur 1 rfl (sp rfl (PE.add rfl rfl (by omega)) rfl (pur 1 rfl ?_))))))))))
 rw [show (2 : Int) * ((2 ^ k : Nat) : Int) = ((2 ^ (k + 1) : Nat) : Int) by omega]
 exact Za ⟨k + 1, by omega⟩ idH
 obtain rfl : k = n := by omega
 refine Z7 (Z9 (Z9 (Zn (sqt 2 rfl (pur 2 rfl (Z5 ?_))))))
 exact rtA rfl rfl rfl ⟨rfl, rfl, rfl⟩ drp
theorem Zbu (s : Nat) (hs : s < 2 ^ 10) (H : Z8) (R : Z6) :
    Fn Tryz.prog 75 [.int .i64 (s : Int)] H R (fun v H' R' => ∃ o : OSl 3 1 (Z4 (Z1z s)), v = o.fs ∧ H' = o.G ++ H ∧ R' = R) := by
 refine Zg Tryz.func75 rfl Tryz.ntmps75 rfl ?_
 refine sqt 1 rfl ?_
 have h10 : (2 : Nat) ^ 10 = 1024 := rfl
 rw [show (s : Int) = ((s >>> 0 : Nat) : Int) from rfl]
 refine pur 1 rfl (sqt 1 rfl (pur 1 rfl (Z0 (sqt 1 rfl (pur 1 rfl (Z3 ?_))))))
 refine Zc (ι := (k : {k : Nat // k ≤ 10}) × OSl 3 1 (Z4 (Z6D s k.1))) (fun x => ⟨[(0, .int .i64 ((s >>> x.1.1 : Nat) : Int)), (3, x.2.fs), (4, .int .i64 (x.1.1 : Int))], x.2.G ++ H, R⟩) (fun x => 10 - x.1.1) ⟨⟨0, by omega⟩, OSl.nil _ _⟩ ?_ (fun x => ?_)
 exact Zj idH
 obtain ⟨⟨k, hk⟩, o⟩ := x
 dsimp only at hk o ⊢
 have hml := Z4i s k
 have hsk : s >>> k ≤ s := Nat.shiftRight_le _ _
 refine Z0 (sqt 2 rfl (pur 2 rfl ?_))
 refine Z1 rfl ?_ ?_ <;> intro hc0 <;> try simp only [cS] at hc0
 have hk4 := Zb0 hs hc0
 refine Z2 (Z0 (Z3 (Z0 (sqt 3 rfl (pur 1 rfl (sp rfl (PE.rem rfl rfl ⟨Int.natCast_nonneg _, by decide⟩) rfl (pur 1 rfl ?_)))))))
 refine Z1 rfl ?_ ?_ <;> intro hc1
 rw [Z8N] at hc1
 have eb := Z8Q (of_decide_eq_true hc1)
 refine sqr 5 rfl (pur 2 rfl ?_)
 refine bsl (out := [_]) rfl Z0H zl3 rfl rfl rfl rfl rfl rfl (fun b14 => ?_)
 refine apO (o) rfl Z2y rfl rfl (Z0l (row := [.int .i64 (k : Int)]) rfl) rfl rfl ((by rw [irl]; simp only [List.length_singleton]; omega)) rfl (fun o15 => ?_)
 refine pur 1 rfl (sqr 3 rfl (pur 1 rfl (sp rfl (PE.quo rfl rfl ⟨Int.natCast_nonneg _, by omega, by decide⟩) rfl ?_)))
 rw [Z5W]
 refine pur 1 rfl (sqr 3 rfl (pur 1 rfl (sp rfl (PE.add rfl rfl (by omega)) rfl (pur 1 rfl ?_))))
 first
   | exact Zi ⟨⟨k + 1, by omega⟩, o15.cast (by rw [eb]; simp [Z4])⟩ (by dsimp only; omega) (fun w h => h.del b14)
   | exact Zi ⟨⟨k + 1, by omega⟩, o.cast (by rw [eb])⟩ (by dsimp only; omega) idH
 rw [Z8N] at hc1
 have eb := Z3S (of_decide_eq_false hc1)
 refine Z2 (sqr 3 rfl (pur 1 rfl (sp rfl (PE.quo rfl rfl ⟨Int.natCast_nonneg _, by omega, by decide⟩) rfl ?_)))
 rw [Z5W]
 refine pur 1 rfl (sqr 3 rfl (pur 1 rfl (sp rfl (PE.add rfl rfl (by omega)) rfl (pur 1 rfl ?_))))
 first
   | exact Zi ⟨⟨k + 1, by omega⟩, o15.cast (by rw [eb]; simp [Z4])⟩ (by dsimp only; omega) (fun w h => h.del b14)
   | exact Zi ⟨⟨k + 1, by omega⟩, o.cast (by rw [eb])⟩ (by dsimp only; omega) idH
 have hz : s / 2 ^ k = 0 := by
   have h5 : s >>> k = 0 := Nat.le_zero.1 (Int.ofNat_le.1 hc0)
   rw [Nat.shiftRight_eq_div_pow] at h5; exact h5
 refine Z7 (Z9 (Z9 (Zn (sqt 2 rfl (pur 2 rfl (Z5 ?_))))))
 exact rtA rfl rfl rfl ⟨o.cast (by rw [Z8i hz (by omega)]), rfl, rfl, rfl⟩ idH
end Go.Proofs.YthbjpnmclokinaaGreat
namespace Go.Proofs.YthbjpnmclokinaaGreat
set_option linter.unusedSimpArgs false
set_option linter.unusedVariables false
def Stp1 (gs : List Gp) (K sp m c l n : Nat) : Prop := l &&& c = 0 ∧ cnt gs.length l ≤ sp ∧ spr gs (c ||| l) m &&& K = 0 ∧ ((spr gs (c ||| l) m = m ∧ n = cnt gs.length l) ∨ (spr gs (c ||| l) m ≠ m ∧ ∃ k, n = cnt gs.length l + k ∧ Lst (Pl gs K sp (spr gs (c ||| l) m) (c ||| l)) k))
def FwQ (gs : List Gp) (K sp m c : Nat) (x : Int) : Prop := (∃ n : Nat, Lst (Pl gs K sp m c) n ∧ x = n) ∨ ((∀ n, ¬ Pl gs K sp m c n) ∧ x = -1)
structure FwI (gs : List Gp) (K sp m c s : Nat) (x : Int) : Prop where
  lo : ∀ l, l < s → ∀ n, Stp1 gs K sp m c l n → 0 ≤ x ∧ x ≤ n
  is : x = -1 ∨ ∃ l n : Nat, l < s ∧ Stp1 gs K sp m c l n ∧ x = n
theorem FwI.start (gs : List Gp) (K sp m c : Nat) : FwI gs K sp m c 0 (-1) := ⟨fun l hl => absurd hl (Nat.not_lt_zero _), .inl rfl⟩
theorem FwI.skip {gs : List Gp} {K sp m c s : Nat} {x : Int} (h : FwI gs K sp m c s x) (hn : ∀ n, ¬ Stp1 gs K sp m c s n) : FwI gs K sp m c (s + 1) x := by
  refine ⟨fun l hl n hs => ?_, h.is.imp id fun ⟨l, n, h1, h2⟩ => ⟨l, n, by omega, h2⟩⟩
  rcases Nat.lt_or_ge l s with h1 | h1
  · exact h.lo l h1 n hs
  · obtain rfl : l = s := by omega
    exact absurd hs (hn n)
theorem Stp1.unique {gs : List Gp} {K sp m c l n n' : Nat} (h : Stp1 gs K sp m c l n) (h' : Stp1 gs K sp m c l n') : n = n' := by
  obtain ⟨_, _, _, h4⟩ := h
  obtain ⟨_, _, _, h5⟩ := h'
  rcases h4 with ⟨h1, h2⟩ | ⟨h1, k, h2, h3⟩ <;> rcases h5 with ⟨g1, g2⟩ | ⟨g1, k', g2, g3⟩
  · omega
  · exact absurd h1 g1
  · exact absurd g1 h1
  · rw [h2, g2, h3.unique g3]
theorem FwI.take {gs : List Gp} {K sp m c s n : Nat} {x : Int} (h : FwI gs K sp m c s x) (hs : Stp1 gs K sp m c s n) (hx : x < 0 ∨ (n : Int) < x) : FwI gs K sp m c (s + 1) n := by
  refine ⟨fun l hl n' hs' => ?_, .inr ⟨s, n, by omega, hs, rfl⟩⟩
  rcases Nat.lt_or_ge l s with h1 | h1
  · have := h.lo l h1 n' hs'
    omega
  · obtain rfl : l = s := by omega
    rw [hs'.unique hs]; omega
theorem Stp1.pl {gs : List Gp} {K sp m c l n : Nat} (hl : l < 2 ^ gs.length) (h : Stp1 gs K sp m c l n) : Pl gs K sp m c n := by
  obtain ⟨h1, h2, h3, h4⟩ := h
  rcases h4 with ⟨h5, rfl⟩ | ⟨h5, k, rfl, h6⟩
  · exact .stay hl h1 h2 h5 (by rw [h5] at h3; exact h3)
  · exact .go hl h1 h2 h5 h3 h6.1
theorem FwI.done {gs : List Gp} {K sp m c : Nat} {x : Int} (h : FwI gs K sp m c (2 ^ gs.length) x) : FwQ gs K sp m c x := by
  have key : ∀ n, Pl gs K sp m c n → ∃ l n', l < 2 ^ gs.length ∧ n' ≤ n ∧ Stp1 gs K sp m c l n' := fun n hp => by
    obtain ⟨l, h1, h2, h3, h4, h5⟩ := hp.cons_inv
    rcases h5 with ⟨h6, h7⟩ | ⟨h6, k, h7, h8⟩
    · exact ⟨l, n, h1, Nat.le_refl _, h2, h3, h4, .inl ⟨h6, h7⟩⟩
    · obtain ⟨k', h9, h10⟩ := Lst.ex h8
      exact ⟨l, cnt gs.length l + k', h1, by omega, h2, h3, h4, .inr ⟨h6, k', rfl, h9⟩⟩
  rcases h.is with h1 | ⟨l, n, h1, h2, h3⟩
  · refine .inr ⟨fun n hp => ?_, h1⟩
    obtain ⟨l, n', h2, _, h4⟩ := key n hp
    have := h.lo l h2 n' h4
    omega
  · refine .inl ⟨n, ⟨h2.pl h1, fun k hp => ?_⟩, h3⟩
    obtain ⟨l', n', g1, g2, g3⟩ := key k hp
    have := h.lo l' g1 n' g3
    omega
structure CtI (gs : List Gp) (S K s b : Nat) : Prop where
  lo : ∀ l, l < s → Shut gs l S K → b ≤ cnt gs.length l
  is : b = gs.length ∨ ∃ l, l < s ∧ Shut gs l S K ∧ cnt gs.length l = b
  le : b ≤ gs.length
theorem CtI.start (gs : List Gp) (S K : Nat) : CtI gs S K 0 gs.length := ⟨fun l hl => absurd hl (Nat.not_lt_zero _), .inl rfl, Nat.le_refl _⟩
theorem CtI.skip {gs : List Gp} {S K s b : Nat} (h : CtI gs S K s b) (hn : b ≤ cnt gs.length s ∨ ¬ Shut gs s S K) : CtI gs S K (s + 1) b := by
  refine ⟨fun l hl hs => ?_, h.is.imp id fun ⟨l, h1, h2⟩ => ⟨l, by omega, h2⟩, h.le⟩
  rcases Nat.lt_or_ge l s with h1 | h1
  · exact h.lo l h1 hs
  · obtain rfl : l = s := by omega
    exact hn.resolve_right (fun h9 => h9 hs)
theorem CtI.take {gs : List Gp} {S K s b : Nat} (h : CtI gs S K s b) (hb : cnt gs.length s < b) (hs : Shut gs s S K) : CtI gs S K (s + 1) (cnt gs.length s) := by
  refine ⟨fun l hl hs' => ?_, .inr ⟨s, by omega, hs, rfl⟩, by have := h.le; omega⟩
  rcases Nat.lt_or_ge l s with h1 | h1
  · have := h.lo l h1 hs'; omega
  · obtain rfl : l = s := by omega
    exact Nat.le_refl _
theorem CtI.done {gs : List Gp} {S K b : Nat} (ht : Two gs S K) (h : CtI gs S K (2 ^ gs.length) b) : Cut gs S K b := by
  refine ⟨?_, fun n ⟨C, h1, h2, h3⟩ => by rw [← h3]; exact h.lo C h1 h2⟩
  rcases h.is with h1 | h1
  · have hp := Nat.two_pow_pos gs.length
    refine ⟨2 ^ gs.length - 1, by omega, Z5D ht, ?_⟩
    rw [h1]
    unfold cnt
    rw [List.countP_eq_length.2, List.length_range]
    intro k hk
    rw [Nat.testBit_two_pow_sub_one]
    exact decide_eq_true (List.mem_range.1 hk)
  · obtain ⟨l, g1, g2, g3⟩ := h1
    exact ⟨l, g1, g2, g3⟩
theorem Zch {gs : List Gp} {c S K : Nat} (hw : Wth gs 7) (hS : S < 2 ^ 7) (hK : K < 2 ^ 7) : Shut gs c S K ↔ ∀ k, K.testBit k = true → wkC gs c S k < 0 := by
  constructor
  · intro hs k hk
    unfold wkC
    rcases Z0z gs c S k with ⟨t, _, h2, h3, _⟩ | ⟨h1, _⟩
    · rw [hs t k h3] at hk; cases hk
    · rw [h1, decide_eq_true (Int.le_refl _)]; decide
  · intro h t v hv
    cases hk : K.testBit v with
    | false => rfl
    | true =>
      have h1 := h v hk
      unfold wkC at h1
      have h2 : (lv gs c S 6).testBit v = true := by
        rcases Nat.lt_or_ge t 6 with h3 | h3
        · exact Z9b (by omega) hv
        · rw [Z3Y hw hS (t := 6) (by decide) h3] at hv; exact hv
      have h3 := (Z8O hw hS (t := 6) (by unfold far; decide)).2 h2
      rw [decide_eq_false (by unfold far; omega), cond_false] at h1
      have := Z5i gs c S v
      omega
end Go.Proofs.YthbjpnmclokinaaGreat
