/- Walks of the functions of the program, and the laws that join them: what the last theorem of this claim needs, in order. -/
import Derived.Test.Ythfgcnmcipcbbaawd4
namespace Go.Proofs.Ythfgcnmcipcbbaa
set_option linter.unusedSimpArgs false
set_option linter.unusedVariables false
open Go
theorem ZbA : cal Try.prog 24 = true := by kernel_rfl
def ZdU (h : Hse) (fr to_ : List Int) (H : Z7) (R : Z5) : Value → Z7 → Z5 → Prop := fun v H' R' => H' = H ∧ R' = R ∧ ((h.botE fr to_ ≠ 0 ∧ v = .tuple #[.int .i64 0, .int .i64 (h.botE fr to_)]) ∨
  (h.botE fr to_ = 0 ∧ ∃ s : Nat, s ≤ 10 ∧ (∃ n, Pl h.gaps (msk to_) s (msk fr) 0 n) ∧ (∀ s', s' < s → ∀ n, ¬ Pl h.gaps (msk to_) s' (msk fr) 0 n) ∧ v = .tuple #[.int .i64 (s : Int), .int .i64 0]))
theorem ZaO {h : Hse} {fr to_ : List Int} {s : Nat} (hb : h.botE fr to_ = 0) (hs : s ≤ 10) : h.rcE fr to_ (s : Int) = 0 := by
  have : inB (s : Int) 0 10 = true := by simp [inB]; omega
  unfold Hse.rcE; rw [hb, this]; rfl
theorem Z7j {h : Hse} {fr to_ : List Int} (hb : h.Bot fr to_) : Two h.gaps (msk fr) (msk to_) := by
  obtain ⟨q1, q2, q3, q4, q5, q6⟩ := Z1c hb
  have hok := hb.ok
  exact ⟨fun g hg => by have := hok.gaps g hg; have := hok.bins; omega, fun i g hg => by have := hok.gaps g (List.mem_of_getElem? hg); omega, Z14 fun x hx => q1 x hx, Z14 fun x hx => q2 x hx, fun v hv => by
    cases hk : (msk to_).testBit v with
    | false => rfl
    | true => exact absurd ((Zv (fun k hk => (q2 k hk).1) v).1 hk) (hb.no _ ((Zv (fun k hk => (q1 k hk).1) v).1 hv))⟩
theorem Z8h {h : Hse} {fr to_ : List Int} (hb : h.Bot fr to_) : ∃ n, Pl h.gaps (msk to_) 10 (msk fr) 0 n := by
  have ht := Z7j hb
  have hp := Nat.two_pow_pos h.gaps.length
  exact ⟨_, Pl.once ht.w ht.s (show 2 ^ h.gaps.length - 1 < 2 ^ h.gaps.length by omega) (Z8x ht) (Nat.le_trans (Z3q _ _) hb.ok.gl)⟩
set_option maxHeartbeats 400000 in
theorem Za4 (h : Hse) (ag as_ : Option Addr) (cg cs : Nat) (hlg : h.gaps.length ≤ 9223372036854775807) (hls : h.sights.length ≤ 9223372036854775807) (fr to_ : List Int) (af at_ : Option Addr) (cf ct : Nat) (hlf : fr.length ≤ 1000000) (hlt : to_.length ≤ 1000000) (hfc : fr.length ≤ cf) (htc : to_.length ≤ ct) (H : Z7) (R : Z5) [hG : MemRows ag 2 (Zg h.gaps) R] [hS : MemRows as_ 3 (Zc h.sights) R] [hF : MemRows af 1 (Z6 fr) R] [hT : MemRows at_ 1 (Z6 to_) R] :
    Fn Try.prog 22 [h.v (h.sg ag cg) (h.ss as_ cs), .slice af fr.length cf, .slice at_ to_.length ct] H R (ZdU h fr to_ H R) := by
 refine Zh Try.func22 rfl Try.ntmps22 rfl ?_
 refine sqt 3 rfl (bx rfl rfl rfl (fun b3 => pur 2 rfl (Z0 (sqt 5 rfl (spL rfl rfl (lhA (htl h (h.sg ag cg) (h.ss as_ cs)) ZF rfl rfl rfl) rfl (pur 2 rfl ?_))))))
 refine clV rfl Z8E rfl rfl (Z5v h ag as_ cg cs hlg hls fr to_ af at_ cf ct (by omega) (by omega) hfc htc _ _) ?_
 refine pur 1 rfl (sqt 2 rfl (pur 2 rfl ?_))
 refine Z1 rfl ?_ ?_ <;> intro hc0
 have hbe : h.botE fr to_ ≠ 0 := of_decide_eq_true hc0
 refine sqt 3 rfl (pur 3 rfl (Z3 ?_))
 exact rtB rfl rfl rfl rfl ⟨rfl, rfl, .inl ⟨hbe, rfl⟩⟩ (fun w h9 => h9.del b3)
 ·
  have hbe : h.botE fr to_ = 0 := Classical.byContradiction fun e => by rw [decide_eq_true e] at hc0; cases hc0
  have hb := Z3v hbe
  obtain ⟨n0, hn0⟩ := Z8h hb
  refine Z2 (sqt 1 rfl (pur 1 rfl (Z4 ?_)))
  refine Zf (ι := {s : Nat // s ≤ 10 ∧ ∀ s', s' < s → ∀ n, ¬ Pl h.gaps (msk to_) s' (msk fr) 0 n}) (fun s => ⟨[(1, .slice af fr.length cf), (2, .slice at_ to_.length ct), (3, .pointer (some ⟨b3, 0, none⟩)), (9, .int .i64 (s.1 : Int))], (b3, cel 26 (htl h (h.sg ag cg) (h.ss as_ cs))) :: H, R⟩) (fun s => 11 - s.1) ⟨0, by omega, fun s' h9 => absurd h9 (Nat.not_lt_zero _)⟩ ?_ (fun s => ?_)
  exact Zn idH
  ·
   obtain ⟨s, hs, hno⟩ := s
   dsimp only at hs hno ⊢
   have hrz := ZaO hbe hs
   refine Z0 (Z4 (sqt 10 rfl (spL rfl rfl (lhA (htl h (h.sg ag cg) (h.ss as_ cs)) ZF rfl rfl rfl) rfl (pur 3 rfl ?_))))
   refine cl rfl ZbA rfl rfl (Z9d h ag as_ cg cs hlg hls fr to_ af at_ cf ct hlf hlt hfc htc (s : Int) _ _) ?_
   rintro _ _ R1 ⟨rfl, hq⟩
   rcases hq with ⟨h9, _⟩ | ⟨_, hnp, rfl, hR1⟩ | ⟨_, ls, pl, a, c, _, _, _, _, _, hls2, rfl, hR1⟩
   · exact absurd hrz h9
   all_goals obtain rfl := hR1.symm
   all_goals clear hR1
   all_goals rw [Int.toNat_natCast] at *
   refine pur 5 rfl (sqt 2 rfl (pur 2 rfl ?_))
   refine Z1 rfl ?_ ?_ <;> intro hc1
   exact absurd hc1 (by decide)
   have hs10 : s ≠ 10 := fun e => hnp n0 (by rw [e]; exact hn0)
   refine Z2 (sqr 3 rfl (pur 1 rfl (sp rfl (PE.add rfl rfl (by omega)) rfl (pur 1 rfl ?_))))
   exact Z8 ⟨s + 1, by omega, fun s' h9 => (Nat.lt_succ_iff_lt_or_eq.1 h9).elim (hno s') (fun e => by subst e; exact hnp)⟩ idH
   refine pur 5 rfl (sqt 2 rfl (pur 2 rfl ?_))
   refine Z1 rfl ?_ ?_ <;> intro hc1
   refine sqt 3 rfl (pur 3 rfl (Z3 ?_))
   exact rtB rfl rfl rfl rfl ⟨rfl, rfl, .inr ⟨hbe, s, hs, ⟨_, hls2.1⟩, hno, rfl⟩⟩ (fun w h9 => St.sub (h9.del b3))
   exact absurd hc1 (by decide)
theorem Zds : cal Try.prog 98 = true := by kernel_rfl
theorem ik3 : Z9p Try.prog 3 = some .i64 := by kernel_rfl
section steps
variable {P : Program} {r : Option Nat} {ops : Array Oper} {n : Nat} {L : Zi} {D : List Deferred} {H : Z7} {R : Z5} {K : Act → World → Prop}
  {i d : Nat} {ty : TypeId} {pos : String} {af : Array Edge}
theorem Ze0 {t tn e sz by_ k : Nat} {kq kn : IntKind} {s x : Operand} {zl : List Value} (ho : ops[i]? = some ⟨some d, .call { callee := .builtin .append, args := #[s, x], argTypes := #[t, tn] }, ty, pos, af, none⟩)
    (ht : apT P t = some (e, sz, by_)) (htn : Z9p P tn = some kn) (hz : ZR P e = some zl) (hs : ev L s = some (.slice none 0 0)) (hx : ev L x = some (.int kq k))
    (hk : 0 < k) (hs0 : 0 < sz) (hb : k * by_ ≤ 140737488355328 ∧ k ≤ 9223372036854775807) (hd : Nat.blt d n = true)
    (h : ∀ (b' cap' : Nat) (junk : List Value), k ≤ cap' → cap' ≤ 9223372036854775807 → k * sz + junk.length = cap' * sz → Sy n ((d, .slice (some ⟨b', 0, none⟩) k cap') :: L) D ((b', cel e (Z1n k zl ++ junk)) :: H) R K) : Sy n L D H R (stp P r ops i K) := fun a w ha hD hw => by
  unfold apT at ht
  split at ht
  case h_2 => cases ht
  rename_i e' hu
  split at ht
  case h_2 => cases ht
  rename_i ie hi
  split at ht
  case h_2 => cases ht
  rename_i z hzz
  cases hzs : Nat.beq z.cells.size ie.size with
  | false => rw [hzs] at ht; cases ht
  | true =>
  rw [hzs, cond_true] at ht
  cases ht
  have hzs := Nat.eq_of_beq_eq_true hzs
  have hzl : z.cells.toList = zl := by
    have : ZR P e = some z.cells.toList := by simp [ZR, hi, hzz]
    rw [this] at hz; exact Option.some.inj hz
  have hun : P.underlying tn = some (.int kn) := by
    unfold Z9p at htn
    split at htn
    · rename_i q hq; cases htn; exact hq
    · cases htn
  have hold : (Builtin.firstCells ie.size 0 (.slice none 0 0)).run P w.drew = .ok ([] : List Value).toArray w.drew := by
    simp [Builtin.firstCells, Sem.run_pure]
  have h2 := Lib.run_append_grow_zeros (P := P) w t tn ty e ie z kq kn hu hun hi hzz none 0 0 [] hold k hk hs0 (by omega) (by omega) (by omega) (growslice_fits (by omega) (by rw [Nat.zero_add]; exact hb.1))
  rw [Nat.zero_add] at h2
  have hge := grownCap_ge w k 0 e
  have hcm : grownCap w k 0 e ≤ maxLen := grownCap_le_maxLen w _ 0 e (by simp only [maxLen]; omega)
  have hrep : ∀ q, (Builtin.zeroCells z.cells q).toList = Z1n q zl := fun q => by rw [← hzl]; simp [Builtin.zeroCells, Z1n]
  have e1 : (.cells (([] : List Value).toArray ++ Builtin.zeroCells z.cells k ++ Builtin.zeroCells z.cells (grownCap w k 0 e - k)) e : Obj) = cel e (Z1n k zl ++ (Builtin.zeroCells z.cells (grownCap w k 0 e - k)).toList) := by
    unfold cel; congr 1; apply Array.toList_inj.1; simp [hrep]
  refine Zp ho (Zd _ rfl _) (v := .slice (some ⟨w.heap.size, 0, none⟩) k (grownCap w k 0 e)) (w' := w.drew.alloc (cel e (Z1n k zl ++ (Builtin.zeroCells z.cells (grownCap w k 0 e - k)).toList))) ?_
    (h w.heap.size (grownCap w k 0 e) (Builtin.zeroCells z.cells (grownCap w k 0 e - k)).toList hge (by simp only [maxLen] at hcm; omega) ?_ _ _ (ha.put (by simpa using hd) _) hD (hw.drew.alloc _))
  · simp only [execOp, resolve, invoke, builtin, Sem.run_bind, Sem.run_pure, Result.andThen, List.map_toArray, List.map_cons, List.map_nil, ha.reads _ _ hs, ha.reads _ _ hx]
    rw [e1] at h2
    rw [h2]
  · simp only [Array.length_toList, size_zeroCells, hzs, ← Nat.add_mul]
    congr 1; omega
end steps
theorem Z6H {k : Nat} {v : Value} : (Z1n k [v]).length = k := by simp [Z1n]
def Z3u (pl : List PL) (k : Nat) : List Int := (lls (pl.take k)).flatten
theorem Z2R {pl : List PL} {k : Nat} {x : PL} (h : pl[k]? = some x) : Z3u pl (k + 1) = Z3u pl k ++ x.l := by
  unfold Z3u lls
  rw [List.take_add_one, h, Option.toList_some, List.map_append, List.flatten_append]; simp
theorem Z26 (pl : List PL) : ∀ k, (Z3u pl k).length ≤ (lls pl).flatten.length := fun k => by
  unfold Z3u lls
  have h : pl.map (·.l) = (pl.take k).map (·.l) ++ (pl.drop k).map (·.l) := by rw [← List.map_append, List.take_append_drop]
  rw [h, List.flatten_append, List.length_append]; omega
theorem ZaU (k : Nat) (hk : k ≤ 1000000) (H : Z7) (R : Z5) :
    Fn Try.prog 98 [.slice none 0 0, .int .i64 (k : Int)] H R (fun v H' R' => ∃ o : OSl 3 1 [], v = o.fs ∧ H' = o.G ++ H ∧ R' = R) := by
 refine Zh Try.func98 rfl Try.ntmps98 rfl ?_
 refine sqt 1 rfl (pur 1 rfl (Z0 (sqt 2 rfl (pur 2 rfl ?_))))
 refine Z1 rfl ?_ ?_ <;> intro hc0
 simp only [decide_eq_true_eq] at hc0
 omega
 refine Z2 (Z0 (sqt 8 rfl (pur 2 rfl (sp rfl (PE.capSl ZK rfl) rfl (pur 1 rfl (sp rfl (PE.lenSl ZK rfl) rfl (sp rfl (PE.sub rfl rfl (by omega)) rfl (sp rfl (PE.sub rfl rfl (by omega)) rfl ?_))))))))
 rw [show (k : Int) - (((0 : Nat) : Int) - ((0 : Nat) : Int)) = (k : Int) by omega]
 refine pur 1 rfl (sqt 2 rfl (pur 2 rfl ?_))
 refine Z1 rfl ?_ ?_ <;> intro hc1
 try simp only [cS] at hc1
 refine sqr 10 rfl (pur 2 rfl (sp rfl (PE.capSl ZK rfl) rfl (sp rfl (PE.slHi (h := 0) Z18 rfl rfl (by omega)) rfl (pur 1 rfl ?_))))
 refine Ze0 rfl Z45 ik3 zl3 rfl rfl (by omega) (by omega) (by omega) rfl (fun b2 cap2 jk2 hc1 hc2 hc3 => ?_)
 refine pur 1 rfl (sp rfl (PE.lenSl ZK rfl) rfl (sp rfl (PE.slHi (h := 0) Z18 rfl rfl (by omega)) rfl (pur 1 rfl (sqt 2 rfl (pur 2 rfl (Z3 ?_))))))
 exact rtA rfl rfl rfl ⟨⟨.slice (some ⟨b2, 0, none⟩) 0 cap2, [(b2, cel 3 (Z1n k [.int .i64 0] ++ jk2))], by simp, .inr ⟨b2, cap2, Z1n k [.int .i64 0] ++ jk2, rfl, rfl, by rw [List.length_append, Z6H]; simp only [List.length_nil]; omega, Nat.zero_le _, hc2⟩⟩, rfl, rfl, rfl⟩ idH
 refine Z2 (sqt 2 rfl (pur 2 rfl (Z3 ?_)))
 exact rtA rfl rfl rfl ⟨OSl.nil _ _, rfl, rfl, rfl⟩ idH
set_option maxHeartbeats 400000 in
theorem Z2x (pl : List PL) (ap : Option Addr) (cp : Nat) (hpl : pl.length ≤ 1000000) (htl : (lls pl).flatten.length ≤ 1000000) (H : Z7) (R : Z5) [hP : MemRows ap 1 (ZG pl) R] [hI : MemF (Inn pl) R] :
    Fn Try.prog 66 [.slice ap pl.length cp] H R (fun v H' R' => ∃ o : OSl 3 1 (Z6 (lls pl).flatten), v = o.fs ∧ H' = o.G ++ H ∧ R' = R) := by
 refine Zh Try.func66 rfl Try.ntmps66 rfl ?_
 refine sqt 1 rfl (pur 1 rfl (sqt 1 rfl (pur 1 rfl (Z0 (sqt 3 rfl (pur 1 rfl (sp rfl (PE.lenSl Z6l rfl) rfl (pur 1 rfl (Z4 ?_)))))))))
 refine Zf (ι := {k : Nat // k ≤ pl.length}) (fun k => ⟨[(0, .slice ap pl.length cp), (3, .int .i64 ((Z3u pl k.1).length : Nat)), (9, .slice ap pl.length cp), (10, .int .i64 pl.length), (11, .int .i64 k.1)], H, R⟩) (fun k => pl.length - k.1) ⟨0, Nat.zero_le _⟩ ?_ (fun k => ?_)
 exact Zn idH
 obtain ⟨k, hk⟩ := k
 dsimp only at hk ⊢
 have hcl := Z26 pl k
 have hcl2 := Z26 pl (k + 1)
 refine sqt 1 rfl (pur 1 rfl (Z0 ?_))
 refine Z1 rfl ?_ ?_ <;> intro hc0 <;> try simp only [cS] at hc0
 obtain ⟨x, hx⟩ : ∃ x, pl[k]? = some x := ⟨_, List.getElem?_eq_getElem (by omega)⟩
 have hst := congrArg List.length (Z2R hx)
 rw [List.length_append] at hst
 refine Zl (a := ap) (sz := 1) (rows := ZG pl) (ne0 (by rw [Z0n]; omega)) (fun ba oa he => ?_)
 subst he
 refine Z2 (Z0 (Z4 (sqt 3 rfl (sp rfl (PE.indexAddr Zc6 rfl rfl (by omega) (by omega)) rfl (spL rfl rfl (lf0 Z3a (Z7v hx) rfl) rfl (pur 1 rfl (sqt 5 rfl (pur 2 rfl (sp rfl (PE.lenSl ZK rfl) rfl (sp rfl (PE.add rfl rfl (by omega)) rfl ?_))))))))))
 rw [show ((Z3u pl k).length : Int) + (x.l.length : Int) = ((Z3u pl (k + 1)).length : Int) by omega]
 refine pur 1 rfl (sqt 2 rfl (pur 2 rfl ?_))
 refine Z1 rfl ?_ ?_ <;> intro hc1
 simp only [decide_eq_true_eq] at hc1
 omega
 refine Z2 (sqr 2 rfl (sp rfl (PE.add rfl rfl (by omega)) rfl (pur 1 rfl ?_)))
 exact Z8 ⟨k + 1, by omega⟩ idH
 obtain rfl : k = pl.length := by omega
 refine Z9 (Za (Za (Zm (sqt 3 rfl (pur 1 rfl ?_)))))
 refine cl rfl Zds rfl rfl (ZaU (Z3u pl pl.length).length (by omega) _ _) ?_
 rintro _ _ R1 ⟨o0, rfl, rfl, hR1⟩
 obtain rfl := hR1.symm
 clear hR1
 refine pur 1 rfl (Z0 (sqt 3 rfl (pur 1 rfl (sp rfl (PE.lenSl Z6l rfl) rfl (pur 1 rfl (Z4 ?_))))))
 refine Zf (ι := (k : {k : Nat // k ≤ pl.length}) × OSl 3 1 (Z6 (Z3u pl k.1))) (fun y => ⟨[(6, y.2.fs), (25, .slice ap pl.length cp), (26, .int .i64 pl.length), (27, .int .i64 y.1.1)], y.2.G ++ H, R⟩) (fun y => pl.length - y.1.1) ⟨⟨0, Nat.zero_le _⟩, o0⟩ ?_ (fun y => ?_)
 exact Zn idH
 obtain ⟨⟨k, hk⟩, o⟩ := y
 dsimp only at hk o ⊢
 have hcl := Z26 pl k
 have hcl2 := Z26 pl (k + 1)
 refine sqt 1 rfl (pur 1 rfl (Z0 ?_))
 refine Z1 rfl ?_ ?_ <;> intro hc2 <;> try simp only [cS] at hc2
 obtain ⟨x, hx⟩ : ∃ x, pl[k]? = some x := ⟨_, List.getElem?_eq_getElem (by omega)⟩
 have hst := Z2R hx
 have hsl := congrArg List.length hst
 rw [List.length_append] at hsl
 refine Zl (a := ap) (sz := 1) (rows := ZG pl) (ne0 (by rw [Z0n]; omega)) (fun ba oa he => ?_)
 subst he
 refine Sy.heap (fun w h => St.inn (x := x) h (List.mem_of_getElem? hx)) ?_
 refine Z2 (Z0 (Z4 (sqt 3 rfl (sp rfl (PE.indexAddr Zc6 rfl rfl (by omega) (by omega)) rfl (spL rfl rfl (lf0 Z3a (Z7v hx) rfl) rfl (pur 1 rfl (sqr 4 rfl (pur 2 rfl ?_))))))))
 refine apO (news := Z6 x.l) o rfl Z45 rfl rfl (Z8J) (irl _) (by simp [Z0a, Z6, Value.oneCell']) (by rw [irl, irl]; omega) rfl (fun o33 => ?_)
 refine pur 1 rfl (sqr 2 rfl (sp rfl (PE.add rfl rfl (by omega)) rfl (pur 1 rfl ?_)))
 exact Z8 ⟨⟨k + 1, by omega⟩, o33.cast (by rw [hst]; simp [Z6])⟩ (fun w h => h.ftail)
 obtain rfl : k = pl.length := by omega
 refine Z9 (Za (Za (Zm (sqt 2 rfl (pur 2 rfl (Z3 ?_))))))
 exact rtA rfl rfl rfl ⟨o.cast (by unfold Z3u; rw [List.take_length]), rfl, rfl, rfl⟩ idH
theorem Z8b : cal Try.prog 66 = true := by kernel_rfl
def Ze7 (h : Hse) (fr to_ : List Int) (spd : Int) (H : Z7) (R : Z5) : Value → Z7 → Z5 → Prop := fun v H' R' => H' = H ∧ R' = R ∧ ((h.rcE fr to_ spd ≠ 0 ∧ v = .tuple #[.int .i64 0, .int .i64 (h.rcE fr to_ spd)]) ∨
  (h.rcE fr to_ spd = 0 ∧ (∀ n, ¬ Pl h.gaps (msk to_) spd.toNat (msk fr) 0 n) ∧ v = .tuple #[.int .i64 0, .int .i64 6]) ∨
  (h.rcE fr to_ spd = 0 ∧ ∃ n : Nat, n ≤ 10 ∧ Lst (Pl h.gaps (msk to_) spd.toNat (msk fr) 0) n ∧ v = .tuple #[.int .i64 (n : Int), .int .i64 0]))
theorem Z5O {gs : List Gp} (hg : gs.length ≤ 10) : ∀ {ls : List Nat}, (∀ l ∈ ls, l < 2 ^ gs.length) → ((ls.map Z1Q).flatten).length = Z88 gs ls
  | [], _ => rfl
  | l :: ls, h => by
    rw [List.map_cons, List.flatten_cons, List.length_append, Z5O hg (fun x hx => h x (List.mem_cons_of_mem _ hx)), Z5W (h l (by simp)) hg]; rfl
theorem St.norows9 {sz : Nat} {H : Z7} {R : Z5} {w : World} (h : St H R w) : St H (Inn [] :: RowsA none sz (ZG []) :: R) w := St.inn0 (St.norows (sz := sz) h)
set_option maxHeartbeats 400000 in
theorem Z8S (h : Hse) (ag as_ : Option Addr) (cg cs : Nat) (hlg : h.gaps.length ≤ 9223372036854775807) (hls : h.sights.length ≤ 9223372036854775807) (fr to_ : List Int) (af at_ : Option Addr) (cf ct : Nat) (hlf : fr.length ≤ 1000000) (hlt : to_.length ≤ 1000000) (hfc : fr.length ≤ cf) (htc : to_.length ≤ ct) (spd : Int) (H : Z7) (R : Z5) [hG : MemRows ag 2 (Zg h.gaps) R] [hS : MemRows as_ 3 (Zc h.sights) R] [hF : MemRows af 1 (Z6 fr) R] [hT : MemRows at_ 1 (Z6 to_) R] :
    Fn Try.prog 25 [h.v (h.sg ag cg) (h.ss as_ cs), .slice af fr.length cf, .slice at_ to_.length ct, .int .i64 spd] H R (Ze7 h fr to_ spd H R) := by
 refine Zh Try.func25 rfl Try.ntmps25 rfl ?_
 refine sqt 3 rfl (bx rfl rfl rfl (fun b4 => pur 2 rfl (sqt 10 rfl (spL rfl rfl (lhA (htl h (h.sg ag cg) (h.ss as_ cs)) ZF rfl rfl rfl) rfl (pur 3 rfl ?_)))))
 refine cl rfl ZbA rfl rfl (Z9d h ag as_ cg cs hlg hls fr to_ af at_ cf ct hlf hlt hfc htc spd _ _) ?_
 rintro _ _ R1 ⟨rfl, hq⟩
 rcases hq with ⟨h9, rfl, hR1⟩ | ⟨h9, hnp, rfl, hR1⟩ | ⟨h9, ls, pl, a, c, hll, hpk, hpc, hlb, hrun, hlst, rfl, hR1⟩
 all_goals obtain rfl := hR1.symm
 all_goals clear hR1
 refine pur 5 rfl (sqt 6 rfl ?_)
 refine Sy.heap (fun w h => St.norows9 (sz := 1) h) ?_
 refine pur 1 rfl ?_
 refine cl rfl Z8b rfl rfl (Z2x [] none 0 (by decide) (by decide) _ _) ?_
 rintro _ _ R1 ⟨o, rfl, rfl, hR1⟩
 obtain rfl := hR1.symm
 clear hR1
 obtain ⟨ao, co, heo, hfz⟩ := o.freeze
 rw [heo, irl]
 refine Sy.heap (fun w h => hfz h) ?_
 clear hfz heo
 refine sp rfl (PE.lenSl ZK rfl) rfl (pur 3 rfl (Z3 ?_))
 exact rtB rfl rfl rfl rfl ⟨rfl, rfl, .inl ⟨h9, rfl⟩⟩ (fun w h9 => St.sub (h9.del b4))
 refine pur 5 rfl (sqt 6 rfl ?_)
 refine Sy.heap (fun w h => St.norows9 (sz := 1) h) ?_
 refine pur 1 rfl ?_
 refine cl rfl Z8b rfl rfl (Z2x [] none 0 (by decide) (by decide) _ _) ?_
 rintro _ _ R1 ⟨o, rfl, rfl, hR1⟩
 obtain rfl := hR1.symm
 clear hR1
 obtain ⟨ao, co, heo, hfz⟩ := o.freeze
 rw [heo, irl]
 refine Sy.heap (fun w h => hfz h) ?_
 clear hfz heo
 refine sp rfl (PE.lenSl ZK rfl) rfl (pur 3 rfl (Z3 ?_))
 exact rtB rfl rfl rfl rfl ⟨rfl, rfl, .inr (.inl ⟨h9, hnp, rfl⟩)⟩ (fun w h9 => St.sub (h9.del b4))
 refine pur 5 rfl (sqt 6 rfl ?_)
 have hgl := (Zc0 h9).1.ok.gl
 have hlen : (lls pl).flatten.length = Z88 h.gaps ls := by rw [hll]; exact Z5O hgl hlb
 have hs10 := hlst.1.few
 have hpl : pl.length = ls.length := by have := congrArg List.length hll; rw [Z4O, List.length_map] at this; exact this
 refine pur 1 rfl ?_
 refine cl rfl Z8b rfl rfl (Z2x pl a c (by omega) (by omega) _ _) ?_
 rintro _ _ R1 ⟨o, rfl, rfl, hR1⟩
 obtain rfl := hR1.symm
 clear hR1
 obtain ⟨ao, co, heo, hfz⟩ := o.freeze
 rw [heo, irl, hlen]
 refine Sy.heap (fun w h => hfz h) ?_
 clear hfz heo
 refine sp rfl (PE.lenSl ZK rfl) rfl (pur 3 rfl (Z3 ?_))
 exact rtB rfl rfl rfl rfl ⟨rfl, rfl, .inr (.inr ⟨h9, Z88 h.gaps ls, by omega, hlst, rfl⟩)⟩ (fun w h9 => St.sub (h9.del b4))
theorem ZbY : cal Try.prog 107 = true := by kernel_rfl
theorem Zb6 : cal Try.prog 108 = true := by kernel_rfl
theorem Zbm : cal Try.prog 116 = true := by kernel_rfl
theorem ZdA : cal Try.prog 55 = true := by kernel_rfl
theorem Zda : cal Try.prog 88 = true := by kernel_rfl
theorem Zdn : cal Try.prog 89 = true := by kernel_rfl
theorem ZcL : cal Try.prog 90 = true := by kernel_rfl
def Hse.ledE (h : Hse) (fr to_ : List Int) (ls : List (List Int)) : Int := bif decide (h.botE fr to_ ≠ 0) then h.botE fr to_ else bif decide (Z0h h.gaps.length ls.flatten ≠ 0) then Z0h h.gaps.length ls.flatten else bif !(ls.all fun l => Z87 h.gaps 0 fr to_ l) then 8 else 0
def Hse.ledR (h : Hse) (fr to_ : List Int) (ls : List (List Int)) : Int := bif decide (h.ledE fr to_ ls = 0) then ls.length else 0
theorem Z7M (pl : List PL) (p : List Int → Bool) : (pl.all fun x => p x.l) = (lls pl).all p := by unfold lls; rw [List.all_map]; rfl
theorem Z5d {h : Hse} {fr to_ : List Int} {ls : List (List Int)} {e : Int} (he : h.ledE fr to_ ls = e) (h0 : e ≠ 0) : h.ledR fr to_ ls = 0 := by unfold Hse.ledR; rw [he, decide_eq_false h0]; rfl
theorem Z6Q (xs : List PL) (a : Option Addr) (c g : Nat) (fst cap : List Value) (p : PL → Bool) (hg : cal Try.prog g = true) (hl : xs.length ≤ 9223372036854775807) (H : Z7) (R : Z5) [hR : MemRows a 1 (ZG xs) R] (hp : ∀ x, x ∈ xs → FnV Try.prog g (fst ++ [.slice x.a x.l.length x.c] ++ cap) H R (.bool (p x))) :
    FnV Try.prog 116 [.slice a xs.length c, .func (.func g) fst.toArray cap.toArray] H R (.int .i64 (match xs.findIdx? p with | some k => (k : Int) | none => -1)) := by
 refine Zh Try.func116 rfl Try.ntmps116 rfl ?_
 refine sqt 1 rfl (pur 1 rfl (Z0 (sqt 3 rfl (pur 1 rfl (sp rfl (PE.lenSl Z6l rfl) rfl (pur 1 rfl (Z4 ?_)))))))
 refine Zf (ι := {k : Nat // k ≤ xs.length ∧ ∀ x ∈ xs.take k, p x = false}) (fun k => ⟨[(0, .slice a xs.length c), (1, .func (.func g) fst.toArray cap.toArray), (7, .int .i64 xs.length), (8, .int .i64 k.1)], H, R⟩) (fun k => xs.length - k.1) ⟨0, by simp⟩ ?_ (fun k => ?_)
 exact Zn idH
 obtain ⟨k, hk, hn⟩ := k
 dsimp only
 refine sqt 1 rfl (pur 1 rfl (Z0 ?_))
 refine Z1 rfl ?_ ?_ <;> intro hc0
 simp only [cS] at hc0
 obtain ⟨x, hx⟩ : ∃ x, xs[k]? = some x := ⟨_, List.getElem?_eq_getElem (by omega)⟩
 have hxm := List.mem_of_getElem? hx
 refine Zl (a := a) (sz := 1) (rows := ZG xs) (by cases xs <;> simp_all [ZG]) (fun b off he => ?_)
 subst he
 refine Z2 (Z0 (Z4 (sqt 2 rfl (pur 2 rfl (sqt 6 rfl (pur 3 rfl (sp rfl (PE.indexAddr Zc6 rfl rfl (by omega) (by omega)) rfl (spL rfl rfl (lf0 Z3a (by simp [ZG, hx]; rfl) rfl) rfl ?_))))))))
 refine Z6w rfl rfl (hg) rfl rfl (hp x hxm) ?_
 refine Z1 rfl ?_ ?_ <;> intro hc1
 refine sqt 2 rfl (pur 2 rfl (Z3 ?_))
 first | (exact rtA rfl rfl rfl ⟨by rw [Z0c hx hn hc1]; rfl, rfl, rfl⟩ idH) | (exact rtA rfl rfl rfl ⟨by rw [ZU (by simpa using hn)]; rfl, rfl, rfl⟩ idH)
 refine Z2 (sqr 2 rfl (sp rfl (PE.add rfl rfl (by omega)) rfl (pur 1 rfl ?_)))
 exact Z8 ⟨k + 1, by omega, Z1e hx hn hc1⟩ idH
 simp only [cS] at hc0
 obtain rfl : k = xs.length := by omega
 refine Z9 (Za (Za (Zm (sqt 1 rfl (pur 1 rfl (Z3 ?_))))))
 first | (exact rtA rfl rfl rfl ⟨by rw [Z0c hx hn hc1]; rfl, rfl, rfl⟩ idH) | (exact rtA rfl rfl rfl ⟨by rw [ZU (by simpa using hn)]; rfl, rfl, rfl⟩ idH)
theorem Z6F (xs : List PL) (a : Option Addr) (c g : Nat) (fst cap : List Value) (p : PL → Bool) (hg : cal Try.prog g = true) (hl : xs.length ≤ 9223372036854775807) (H : Z7) (R : Z5) [hR : MemRows a 1 (ZG xs) R] (hp : ∀ x, x ∈ xs → FnV Try.prog g (fst ++ [.slice x.a x.l.length x.c] ++ cap) H R (.bool (p x))) :
    FnV Try.prog 107 [.slice a xs.length c, .func (.func g) fst.toArray cap.toArray] H R (.bool (xs.any p)) := by
 refine Zh Try.func107 rfl Try.ntmps107 rfl ?_
 refine sqt 1 rfl (pur 1 rfl (sqt 5 rfl (pur 2 rfl ?_)))
 refine clV rfl Zbm rfl rfl (Z6Q xs a c g fst cap p hg hl _ _ hp) ?_
 refine pur 2 rfl (Z3 ?_)
 exact rtA rfl rfl rfl ⟨by simp only [Z0d]; exact Z2U _ _, rfl, rfl⟩ drp
theorem Z74 (x : PL) (g bf : Nat) (fst cap : List Value) (p : Bool) (hg : cal Try.prog g = true) (H : Z7) (R : Z5) [hM : Mem1 bf (cel 67 [.func (.func g) fst.toArray cap.toArray]) H] (hp : FnV Try.prog g (fst ++ [.slice x.a x.l.length x.c] ++ cap) H R (.bool p)) :
    FnV Try.prog 108 [.slice x.a x.l.length x.c, .pointer (some ⟨bf, 0, none⟩)] H R (.bool !p) := by
 refine Zh Try.func108 rfl Try.ntmps108 rfl ?_
 refine sqt 1 rfl (pur 1 rfl (sqt 5 rfl (spL rfl rfl (lh ZdK rfl rfl) rfl (pur 1 rfl ?_))))
 refine Z6w rfl rfl (hg) rfl rfl (hp) ?_
 refine pur 2 rfl (Z3 ?_)
 exact rtA rfl rfl rfl ⟨rfl, rfl, rfl⟩ drp
theorem Z5i (xs : List PL) (a : Option Addr) (c g : Nat) (fst cap : List Value) (p : PL → Bool) (hg : cal Try.prog g = true) (hl : xs.length ≤ 9223372036854775807) (H : Z7) (R : Z5) [hR : MemRows a 1 (ZG xs) R] (hp : ∀ b x, x ∈ xs → FnV Try.prog g (fst ++ [.slice x.a x.l.length x.c] ++ cap) ((b, cel 67 [.func (.func g) fst.toArray cap.toArray]) :: H) R (.bool (p x))) :
    FnV Try.prog 88 [.slice a xs.length c, .func (.func g) fst.toArray cap.toArray] H R (.bool (xs.all p)) := by
 refine Zh Try.func88 rfl Try.ntmps88 rfl ?_
 refine sqt 2 rfl (bx rfl rfl rfl (fun b3 => pur 1 rfl (sqt 5 rfl (pur 1 rfl (sp rfl (PE.makeFunc rfl rfl) rfl ?_)))))
 refine clV rfl ZbY rfl rfl (Z6F xs a c 108 [] [_] (fun x => !p x) Zb6 hl _ _ (hp := fun x hx => Z74 x g _ fst cap (p x) hg _ _ (hp := hp _ x hx))) ?_
 refine pur 2 rfl (Z3 ?_)
 exact rtA rfl rfl rfl ⟨by simp only [Z0d]; rw [Z0U], rfl, rfl⟩ drp
theorem Z8W (h : Hse) (ag as_ : Option Addr) (cg cs : Nat) (hok : h.ok) (fr to_ : List Int) (af at_ : Option Addr) (cf ct b4 b5 b6 : Nat) (hfr : ∀ x ∈ fr, 0 ≤ x ∧ x < 7) (hfl : fr.length ≤ 1000) (hnt : to_.length ≤ 1000000) (x : PL) (pl : List PL) (hxm : x ∈ pl) (hp : ∀ k ∈ x.l, 0 ≤ k) (hpl : x.l.length ≤ 1000000) (H : Z7) (R : Z5) [hG : MemRows ag 2 (Zg h.gaps) R] [hS : MemRows as_ 3 (Zc h.sights) R] [hF : MemRows af 1 (Z6 fr) R] [hT : MemRows at_ 1 (Z6 to_) R] [m4 : Mem1 b4 (cel 26 (htl h (h.sg ag cg) (h.ss as_ cs))) H] [m5 : Mem1 b5 (cel 27 [.slice af fr.length cf]) H] [m6 : Mem1 b6 (cel 27 [.slice at_ to_.length ct]) H] [hI : MemF (Inn pl) R] :
    FnV Try.prog 89 [.slice x.a x.l.length x.c, .pointer (some ⟨b4, 0, none⟩), .pointer (some ⟨b5, 0, none⟩), .pointer (some ⟨b6, 0, none⟩)] H R (.bool (Z87 h.gaps 0 fr to_ x.l)) := by
 refine Zh Try.func89 rfl Try.ntmps89 rfl ?_
 refine sqt 1 rfl ?_
 refine Sy.heap (fun w h => St.inn (x := x) h hxm) ?_
 refine pur 1 rfl (Z0 ?_)
 refine Ze [0, 1, 0, 0, 0, 31, 63] (.ld 0 (.ld 2 (.ld 3 (.tk 4 (.big 1 (.big 5 (.tk 6 .done))))))) Zw (by kernel_rfl) ?_
 refine ld rfl rfl (lhA (htl h (h.sg ag cg) (h.ss as_ cs)) ZF rfl rfl rfl) rfl (ld rfl rfl (lh Z3a rfl rfl) rfl (ld rfl rfl (lh Z3a rfl rfl) rfl (Zq 1 rfl ?_)))
 refine cl rfl Z6m rfl rfl (Z6b h ag as_ cg cs _ _) ?_
 rintro _ _ _ ⟨bd, rfl, rfl, rfl⟩
 refine bg (fun w hs => ⟨(lh Z3a rfl rfl) w hs, (lh Z3a rfl rfl) w hs, trivial, trivial⟩) ?_
 refine clV rfl ZcL rfl rfl (Z9N (dkA h ag as_ cg cs bd) (Z0w h ag as_ cg cs hok bd) fr to_ x.l af at_ x.a cf ct x.c hfr hfl hnt hp hpl _ _) ?_
 refine bgT (Zq 1 rfl (Z3 ?_))
 exact rtA rfl rfl rfl ⟨rfl, rfl, rfl⟩ (fun w h9 => h9.ftail.ftail)
set_option maxHeartbeats 400000 in
theorem Z9E (h : Hse) (ag as_ : Option Addr) (cg cs : Nat) (hlg : h.gaps.length ≤ 9223372036854775807) (hls : h.sights.length ≤ 9223372036854775807) (fr to_ : List Int) (af at_ : Option Addr) (cf ct : Nat) (hlf : fr.length ≤ 1000000) (hlt : to_.length ≤ 1000000) (hfc : fr.length ≤ cf) (htc : to_.length ≤ ct) (pl : List PL) (ap : Option Addr) (cp : Nat) (hpl : pl.length ≤ 1000000) (htot : (lls pl).flatten.length ≤ 1000000) (H : Z7) (R : Z5) [hG : MemRows ag 2 (Zg h.gaps) R] [hS : MemRows as_ 3 (Zc h.sights) R] [hF : MemRows af 1 (Z6 fr) R] [hT : MemRows at_ 1 (Z6 to_) R] [hP : MemRows ap 1 (ZG pl) R] [hI : MemF (Inn pl) R] :
    FnV Try.prog 48 [h.v (h.sg ag cg) (h.ss as_ cs), .slice af fr.length cf, .slice at_ to_.length ct, .slice ap pl.length cp] H R (.tuple #[.int .i64 (h.ledR fr to_ (lls pl)), .int .i64 (h.ledE fr to_ (lls pl))]) := by
 refine Zh Try.func48 rfl Try.ntmps48 rfl ?_
 refine sqt 5 rfl (bx rfl rfl rfl (fun b4 => bx rfl rfl rfl (fun b5 => bx rfl rfl rfl (fun b6 => pur 2 rfl (Z0 (sqt 5 rfl (spL rfl rfl (lhA (htl h (h.sg ag cg) (h.ss as_ cs)) ZF rfl rfl rfl) rfl (spL rfl rfl (lh Z3a rfl rfl) rfl (spL rfl rfl (lh Z3a rfl rfl) rfl ?_)))))))))
 refine clV rfl Z8E rfl rfl (Z5v h ag as_ cg cs hlg hls fr to_ af at_ cf ct (by omega) (by omega) hfc htc _ _) ?_
 refine pur 1 rfl (sqt 2 rfl (pur 2 rfl ?_))
 refine Z1 rfl ?_ ?_ <;> intro hc0
 have hbe : h.botE fr to_ ≠ 0 := of_decide_eq_true hc0
 have e : h.ledE fr to_ (lls pl) = h.botE fr to_ := by unfold Hse.ledE; rw [dT hbe]; rfl
 refine sqt 3 rfl (pur 3 rfl (Z3 ?_))
 exact rtB rfl rfl rfl rfl ⟨by rw [Z5d e (by assumption), e] <;> rfl, rfl, rfl⟩ drp
 have hbe : h.botE fr to_ = 0 := Classical.byContradiction fun e => by rw [decide_eq_true e] at hc0; cases hc0
 have hb := Z3v hbe
 obtain ⟨q1, q2, q3, q4, q5, q6⟩ := Z1c hb
 have hok := hb.ok
 refine Z2 (Z0 (Z0 ?_))
 refine Ze [0, 1, 0, 4, 15, 31] (.tk 0 (.ld 2 (.tk 3 (.big 1 (.big 4 (.tk 5 .done)))))) Zw (by kernel_rfl) ?_
 refine Zq 1 rfl (ld rfl rfl (lhA (htl h (h.sg ag cg) (h.ss as_ cs)) ZF rfl rfl rfl) rfl (tk rfl (PE.makeFunc rfl rfl) rfl ?_))
 refine cl rfl Z8b rfl rfl (Z2x pl ap cp hpl htot _ _) ?_
 rintro _ _ R1 ⟨o, rfl, rfl, hR1⟩
 obtain rfl := hR1.symm
 clear hR1
 obtain ⟨ac, cc, heo, hcc, hfz⟩ := o.freezeC
 rw [irl] at hcc
 rw [heo, irl]
 refine Sy.heap (fun w h => hfz h) ?_
 clear hfz heo
 refine bg (fun w hs => ⟨(lhA (htl h (h.sg ag cg) (h.ss as_ cs)) ZF rfl rfl rfl) w hs, trivial⟩) ?_
 refine clV rfl Zak rfl rfl (Z43 (lls pl).flatten ac cc 55 [h.v (h.sg ag cg) (h.ss as_ cs)] [] (fun k => inB k 0 ((h.gaps.length : Int) - 1)) ZdA (by omega) hcc _ _ (fun _ z _ => ZcQ h (by have := hok.gl; omega) ag cg (h.ss as_ cs) z _ _)) ?_
 refine bgT (Zq 1 rfl (sqt 2 rfl (pur 2 rfl ?_)))
 refine Z1 rfl ?_ ?_ <;> intro hc1
 have hle : Z0h h.gaps.length (lls pl).flatten ≠ 0 := of_decide_eq_true hc1
 have e : h.ledE fr to_ (lls pl) = Z0h h.gaps.length (lls pl).flatten := by unfold Hse.ledE; rw [hbe, dT hle]; rfl
 refine sqt 3 rfl (pur 3 rfl (Z3 ?_))
 exact rtB rfl rfl rfl rfl ⟨by rw [Z5d e (by assumption), e] <;> rfl, rfl, rfl⟩ (fun w h9 => St.sub (((h9.del b6).del b5).del b4))
 have hle : Z0h h.gaps.length (lls pl).flatten = 0 := Classical.byContradiction fun e => by rw [show decide (Z9i (fun k => inB k 0 ((h.gaps.length : Int) - 1)) (lls pl).flatten ≠ 0) = true from decide_eq_true e] at hc1; cases hc1
 have hlx := (Z1r hle).1
 have hin : ∀ x ∈ pl, (∀ k ∈ x.l, 0 ≤ k) ∧ x.l.length ≤ 1000000 := fun x hx => by
   have hm : x.l ∈ lls pl := List.mem_map.2 ⟨x, hx, rfl⟩
   refine ⟨fun k hk => (hlx k (List.mem_flatten.2 ⟨_, hm, hk⟩)).1, ?_⟩
   have := List.Sublist.length_le (List.sublist_flatten_of_mem hm)
   omega
 refine Z2 (Z0 (sqt 4 rfl (pur 1 rfl (sp rfl (PE.makeFunc rfl rfl) rfl ?_))))
 refine clV rfl Zda rfl rfl (Z5i pl ap cp 89 [] [_, _, _] (fun x => Z87 h.gaps 0 fr to_ x.l) Zdn (by omega) _ _ (fun _ x hx => Z8W h ag as_ cg cs hok fr to_ af at_ cf ct b4 b5 b6 q1 (by omega) hlt x pl hx (hin x hx).1 (hin x hx).2 _ _)) ?_
 refine pur 1 rfl ?_
 refine Z1 rfl ?_ ?_ <;> intro hc2
 have hc9 : (!(pl.all fun x => Z87 h.gaps 0 fr to_ x.l)) = true := hc2
 rw [Z7M pl (fun l => Z87 h.gaps 0 fr to_ l)] at hc9
 have h8 : (8 : Int) ≠ 0 := by decide
 have e : h.ledE fr to_ (lls pl) = 8 := by unfold Hse.ledE; rw [hbe, hle, hc9]; rfl
 refine sqt 2 rfl (pur 2 rfl (Z3 ?_))
 exact rtB rfl rfl rfl rfl ⟨by rw [Z5d e (by assumption), e] <;> rfl, rfl, rfl⟩ (fun w h9 => St.sub (((h9.del b6).del b5).del b4))
 have hc9 : (!(pl.all fun x => Z87 h.gaps 0 fr to_ x.l)) = false := hc2
 rw [Z7M pl (fun l => Z87 h.gaps 0 fr to_ l)] at hc9
 have e : h.ledE fr to_ (lls pl) = 0 := by unfold Hse.ledE; rw [hbe, hle, hc9]; rfl
 have er : h.ledR fr to_ (lls pl) = pl.length := by unfold Hse.ledR; rw [e, Z4O]; rfl
 refine Z2 (sqt 4 rfl (pur 1 rfl (sp rfl (PE.lenSl Z6l rfl) rfl (pur 2 rfl (Z3 ?_)))))
 exact rtB rfl rfl rfl rfl ⟨by rw [er, e] <;> rfl, rfl, rfl⟩ (fun w h9 => St.sub (((h9.del b6).del b5).del b4))
theorem Z1u : Z0t Try.prog 26 = some 3 := by kernel_rfl
theorem Z3y : Z1a Try.prog 26 = some [(0, 1), (1, 1), (2, 1)] := by kernel_rfl
theorem Z9U : Z1a Try.prog 38 = some [(0, 1), (1, 1), (2, 1)] := by kernel_rfl
theorem Zcu : slE Try.prog 23 = some (46, 2) := by kernel_rfl
theorem Z1l : ZR Try.prog 26 = some ([.int .i64 0, .slice none 0 0, .slice none 0 0]) := by kernel_rfl
def Z6y : List Gp := [⟨0, 1⟩, ⟨0, 2⟩, ⟨1, 3⟩, ⟨2, 3⟩, ⟨3, 4⟩, ⟨4, 5⟩, ⟨1, 2⟩]
def sixS : List Sgt := [⟨2, 3, true⟩, ⟨1, 1, false⟩, ⟨2, 4, false⟩]
abbrev six (k : Nat) : Hse := ⟨6, Z6y, sixS.take k⟩
theorem Z6h (l : List Sgt) (k : Nat) : (Zc l).take k = Zc (l.take k) := (List.map_take).symm
theorem Z9C {k : Nat} (hk : k ≤ 3) : (six k).sights.length = k := by
  show (sixS.take k).length = k
  rw [List.length_take]; show min k 3 = k; omega
set_option maxHeartbeats 400000 in
theorem Z4t (k : Nat) (hk : k ≤ 3) (H : Z7) (R : Z5) :
    Fn Try.prog 47 [.int .i64 (k : Int)] H R (fun v H' R' => ∃ (ag as_ : Option Addr) (cg cs : Nat), v = (six k).v ((six k).sg ag cg) ((six k).ss as_ cs) ∧ k ≤ cs ∧ H' = H ∧ R' = RowsA ag 2 (Zg (six k).gaps) :: RowsA as_ 3 (Zc (six k).sights) :: R) := by
 refine Zh Try.func47 rfl Try.ntmps47 rfl ?_
 refine sqt 1 rfl (alc rfl Z1l rfl (fun b2 => sqt 5 rfl (sp rfl (PE.build (out := [_, _, _]) Z9U Z3b rfl rfl) rfl (sp rfl (PE.build (out := [_, _, _]) Z9U Z3b rfl rfl) rfl (sp rfl (PE.build (out := [_, _, _]) Z9U Z3b rfl rfl) rfl ?_)))))
 refine bsl (out := [_, _, _, _, _, _, _, _, _]) rfl Z6B Z3b rfl rfl rfl rfl rfl rfl (fun b7 => ?_)
 refine pur 1 rfl (sqt 17 rfl (sp rfl (PE.build (out := [_, _]) Z89 Z3c rfl rfl) rfl (sp rfl (PE.build (out := [_, _]) Z89 Z3c rfl rfl) rfl (sp rfl (PE.build (out := [_, _]) Z89 Z3c rfl rfl) rfl (sp rfl (PE.build (out := [_, _]) Z89 Z3c rfl rfl) rfl (sp rfl (PE.build (out := [_, _]) Z89 Z3c rfl rfl) rfl (sp rfl (PE.build (out := [_, _]) Z89 Z3c rfl rfl) rfl (sp rfl (PE.build (out := [_, _]) Z89 Z3c rfl rfl) rfl ?_))))))))
 refine bsl (out := [_, _, _, _, _, _, _, _, _, _, _, _, _, _]) rfl Zcu Z3c rfl rfl rfl rfl rfl rfl (fun b15 => ?_)
 refine pur 3 rfl (sp rfl (PE.lenSl Z3W rfl) rfl (sp rfl (PE.min rfl rfl) rfl (sp rfl (PE.max rfl rfl) rfl ?_)))
 rw [show max (0 : Int) (min (k : Int) ((3 : Nat) : Int)) = (k : Int) by omega]
 refine sp rfl (PE.slHi (h := k) Z6B rfl rfl (by omega)) rfl (sp rfl (PE.build (out := [_, _, _]) Z3y Z1l rfl rfl) rfl ?_)
 refine Zu (l' := [.int .i64 6, .slice (some ⟨b15, 0, none⟩) 7 7, .slice (some ⟨b7, 0, none⟩) k 3]) rfl rfl rfl Z1u rfl rfl rfl rfl (nl rfl) ?_
 refine Z3 ?_
 refine Sy.heap (fun w h9 => St.rows (sz := 3) (rows := Zc sixS) (rest := []) (h9.pull b7) (by simp [Zc, sixS, Z0D])) ?_
 refine Sy.heap (fun w h9 => St.rows (sz := 2) (rows := Zg Z6y) (rest := []) (h9.pull b15) (by simp [Zg, Z6y, Z1z])) ?_
 refine Sy.heap (fun w h9 => (show St _ (RowsA (some ⟨b7, 0, none⟩) 3 (Zc (sixS.take k)) :: _) w from Z6h sixS k ▸ St.rowsTake (a := some ⟨b7, 0, none⟩) (sz := 3) (rows := Zc sixS) h9 k)) ?_
 exact Zb (vs := [_]) rfl (.cons (RV.cell rfl (lhA [_, _, _] ZF rfl rfl rfl)) .nil) rfl ⟨some ⟨b15, 0, none⟩, some ⟨b7, 0, none⟩, 7, 3, by unfold Hse.v Hse.sg Hse.ss htl; rw [Z9C hk]; rfl, hk, rfl, rfl⟩ (fun w h9 => St.sub (h9.del b2))
theorem ZcH : cal Try.prog 91 = true := by kernel_rfl
theorem Z3V : Wth Z6y 7 := by
  intro g hg
  simp only [Z6y, List.mem_cons, List.not_mem_nil, or_false] at hg
  rcases hg with rfl | rfl | rfl | rfl | rfl | rfl | rfl <;> decide
theorem six_w : ((six 0).weeksR [0]).1 = [0, 1, 1, 2, 3, 4] ∧ ((six 0).weeksR [0]).2 = 0 := ⟨by kernel_rfl, by kernel_rfl⟩
theorem six_o : ((six 2).orgR).1 = [4] ∧ ((six 2).orgR).2 = 0 := ⟨by kernel_rfl, by kernel_rfl⟩
theorem six_s : ((six 2).surR 1).1 = [4, 5] ∧ ((six 2).surR 1).2 = 0 := ⟨by kernel_rfl, by kernel_rfl⟩
theorem six_c : ((six 3).claR).1 = [0, 1, 2] ∧ ((six 3).claR).2 = 0 := ⟨by kernel_rfl, by kernel_rfl⟩
theorem six_l : (six 0).ledR [0] [3] [[0, 2], [1, 3]] = 2 ∧ (six 0).ledE [0] [3] [[0, 2], [1, 3]] = 0 := ⟨by kernel_rfl, by kernel_rfl⟩
theorem six_b : (six 0).botE [0] [5] = 0 ∧ (six 0).botE [0] [3] = 0 ∧ (six 0).rcE [0] [1] 1 = 0 := ⟨by kernel_rfl, by kernel_rfl, by kernel_rfl⟩
theorem Zcc : plD Z6y 2 1 8 1 0 3 = true := by kernel_rfl
theorem Zcl : plD Z6y 2 1 8 1 0 2 = false := by kernel_rfl
theorem Zbg : plD Z6y 8 0 8 1 0 10 = false := by kernel_rfl
theorem Zbr : plD Z6y 8 1 8 1 0 10 = true := by kernel_rfl
theorem Zbd : plD Z6y 32 10 8 1 0 1 = true := by kernel_rfl
theorem Zbs : plD Z6y 32 10 8 1 0 0 = false := by kernel_rfl
theorem six_few : Lst (Pl (six 0).gaps (msk [1]) (1 : Int).toNat (msk [0]) 0) 3 := Z7C Z3V (by decide) Zcc Zcl
theorem Z9D : Lst (Pl (six 0).gaps (msk [5]) 10 (msk [0]) 0) 1 := Z7C Z3V (by decide) Zbd Zbs
theorem Z9K {s : Nat} (h1 : ∃ n, Pl (six 0).gaps (msk [3]) s (msk [0]) 0 n) (h2 : ∀ s', s' < s → ∀ n, ¬ Pl (six 0).gaps (msk [3]) s' (msk [0]) 0 n) : s = 1 := by
  rcases Nat.lt_trichotomy s 1 with h3 | h3 | h3
  · obtain rfl : s = 0 := by omega
    obtain ⟨n, hn⟩ := h1
    have hf := hn.few
    have h4 := Z55 (n := 10) (f := 8) Z3V (by decide) (by omega) hn (by have : (six 0).gaps.length = 7 := rfl; omega)
    have h5 : plD Z6y 8 0 8 1 0 10 = true := h4
    rw [Zbg] at h5
    cases h5
  · exact h3
  · obtain ⟨k, _, hk⟩ := Z3Y Zbr
    exact absurd hk (h2 1 h3 k)
theorem Z6i {f : Nat → Int} {V : List (Nat × Int)} (hf : Flw f (msk [0]) (msk [5]) (six 0).gaps) (hs : Shn (six 0).gaps (fun _ => true) f (msk [0]) (msk [5]) V) : (Z1y (Z1w V) (six 0).gaps).length = 1 := by
  have hc := (hs.cut (Z7j (Z3v six_b.1)) hf).1
  have hl : (Z1y (Z1w V) (six 0).gaps).length ≤ 7 := by
    unfold Z1y
    rw [List.length_map]
    exact Nat.le_trans (List.length_filter_le _ _) (by decide)
  exact (Cut.plan (sp := 10) Z3V (by decide) hc (by omega)).unique Z9D
theorem Z8l (xs ys : List Int) (a a2 : Option Addr) (c c2 : Nat) (hl : xs.length ≤ 9223372036854775807) (hl2 : ys.length ≤ 9223372036854775807) (H : Z7) (R : Z5) [hR : MemRows a 1 (Z6 xs) R] [hR2 : MemRows a2 1 (Z6 ys) R] :
    FnV Try.prog 91 [.slice a xs.length c, .slice a2 ys.length c2] H R (.bool (decide (xs = ys))) := by
 refine Zh Try.func91 rfl Try.ntmps91 rfl ?_
 refine sqt 1 rfl (pur 1 rfl (Z0 (sqt 5 rfl (pur 1 rfl (sp rfl (PE.lenSl ZK rfl) rfl (pur 1 rfl (sp rfl (PE.lenSl ZK rfl) rfl (pur 1 rfl ?_))))))))
 refine Z1 rfl ?_ ?_ <;> intro hc0
 have hne : xs ≠ ys := fun e => by subst e; simp at hc0
 refine sqt 1 rfl (pur 1 rfl (Z3 ?_))
 exact rtA rfl rfl rfl ⟨by first | (simp only [Z0d]; rw [dT heq]; done) | (simp only [Z0d]; rw [dF hne]), rfl, rfl⟩ idH
 have hle : xs.length = ys.length := by simp only [cS] at hc0; omega
 refine Z2 (Z0 (sqt 3 rfl (pur 1 rfl (sp rfl (PE.lenSl ZK rfl) rfl (pur 1 rfl (Z4 ?_))))))
 refine Zf (ι := {k : Nat // k ≤ xs.length ∧ xs.take k = ys.take k}) (fun k => ⟨[(0, .slice a xs.length c), (1, .slice a2 ys.length c2), (12, .int .i64 xs.length), (13, .int .i64 k.1)], H, R⟩) (fun k => xs.length - k.1) ⟨0, by simp⟩ ?_ (fun k => ?_)
 exact Zn idH
 obtain ⟨k, hk, hn⟩ := k
 dsimp only
 refine sqt 1 rfl (pur 1 rfl (Z0 ?_))
 refine Z1 rfl ?_ ?_ <;> intro hc1
 simp only [cS] at hc1
 obtain ⟨x, hx⟩ : ∃ x, xs[k]? = some x := ⟨_, List.getElem?_eq_getElem (by omega)⟩
 obtain ⟨z, hz⟩ : ∃ z, ys[k]? = some z := ⟨_, List.getElem?_eq_getElem (by omega)⟩
 refine Zl (a := a) (sz := 1) (rows := Z6 xs) (by intro h0; simp [Z6] at h0; simp [h0] at hx) (fun b off he => ?_)
 subst he
 refine Zl (a := a2) (sz := 1) (rows := Z6 ys) (by intro h0; simp [Z6] at h0; simp [h0] at hz) (fun b2 off2 he => ?_)
 subst he
 refine Z2 (Z0 (Z4 (sqt 2 rfl (pur 2 rfl (Z0 ?_)))))
 refine Ze [0, 0, 3, 7, 0, 0, 48, 112, 255] (tks 0 3 (.ld 3 (tks 4 3 (.ld 7 (.tk 8 .done))))) Zw (by kernel_rfl) ?_
 refine Zq 2 rfl (tk rfl (PE.indexAddr Z1C rfl rfl (by omega) (by omega)) rfl (ld rfl rfl (lf0 sc3 (by simp [Z6, hx]; rfl) rfl) rfl (Zq 2 rfl (tk rfl (PE.indexAddr Z1C rfl rfl (by omega) (by omega)) rfl (ld rfl rfl (lf0 sc3 (by simp [Z6, hz]; rfl) rfl) rfl (Zq 1 rfl ?_))))))
 refine Z1 rfl ?_ ?_ <;> intro hc2
 have hne : xs ≠ ys := fun e => by subst e; rw [hx] at hz; cases hz; simp at hc2
 refine sqt 1 rfl (pur 1 rfl (Z3 ?_))
 exact rtA rfl rfl rfl ⟨by first | (simp only [Z0d]; rw [dT heq]; done) | (simp only [Z0d]; rw [dF hne]), rfl, rfl⟩ idH
 have hxz : x = z := by simpa using hc2
 refine Z2 (sqr 2 rfl (sp rfl (PE.add rfl rfl (by omega)) rfl (pur 1 rfl ?_)))
 exact Z8 ⟨k + 1, by omega, by rw [List.take_add_one, List.take_add_one, hn, hx, hz, hxz]⟩ idH
 simp only [cS] at hc1
 obtain rfl : k = xs.length := by omega
 have heq : xs = ys := by
   rw [List.take_length] at hn
   exact hn.trans (by rw [hle]; exact List.take_length)
 refine Z9 (Za (Za (Zm (sqt 1 rfl (pur 1 rfl (Z3 ?_))))))
 exact rtA rfl rfl rfl ⟨by first | (simp only [Z0d]; rw [dT heq]; done) | (simp only [Z0d]; rw [dF hne]), rfl, rfl⟩ idH
theorem Z2v (xs ys : List Int) (a a2 : Option Addr) (c c2 : Nat) (hl : xs.length ≤ 9223372036854775807) (hl2 : ys.length ≤ 9223372036854775807) (H : Z7) (R : Z5) [hR : MemRows a 1 (Z6 xs) R] [hR2 : MemRows a2 1 (Z6 ys) R] :
    FnV Try.prog 49 [.slice a xs.length c, .slice a2 ys.length c2] H R (.bool (decide (xs = ys))) := by
 refine Zh Try.func49 rfl Try.ntmps49 rfl ?_
 refine sqt 1 rfl (pur 1 rfl (sqt 4 rfl (pur 2 rfl ?_)))
 refine clV rfl ZcH rfl rfl (Z8l xs ys a a2 c c2 hl hl2 _ _) ?_
 refine pur 1 rfl (Z3 ?_)
 exact rtA rfl rfl rfl ⟨rfl, rfl, rfl⟩ drp
theorem ZcR : cal Try.prog 12 = true := by kernel_rfl
theorem ZaW : cal Try.prog 14 = true := by kernel_rfl
theorem Za8 : cal Try.prog 15 = true := by kernel_rfl
theorem Zd7 : cal Try.prog 18 = true := by kernel_rfl
theorem Zdq : cal Try.prog 22 = true := by kernel_rfl
theorem ZcT : cal Try.prog 23 = true := by kernel_rfl
theorem ZcV : cal Try.prog 25 = true := by kernel_rfl
theorem Z4k : cal Try.prog 47 = true := by kernel_rfl
theorem ZcX : cal Try.prog 48 = true := by kernel_rfl
theorem Z8F : cal Try.prog 49 = true := by kernel_rfl
set_option maxHeartbeats 1000000 in
theorem Za9 (H : Z7) (R : Z5) :
    FnV Try.prog 16 [] H R (.bool true) := by
 refine Zh Try.func16 rfl Try.ntmps16 rfl ?_
 refine sqt 1 rfl (pur 1 rfl (sqt 8 rfl ?_))
 refine cl rfl Z4k rfl rfl (Z4t 0 (by decide) _ _) ?_
 rintro _ _ R1 ⟨ag18, as18, cg18, cs18, rfl, _, rfl, hR1⟩
 obtain rfl := hR1.symm
 clear hR1
 refine bsl (out := [_]) rfl Z18 zl3 rfl rfl rfl rfl rfl rfl (fun b19 => ?_)
 refine Sy.heap (fun w h9 => St.rows (sz := 1) (rows := Z6 [0]) (rest := []) (h9.pull b19) (by simp)) ?_
 refine cl rfl Zd7 rfl rfl (Za2 (six 0) ag18 as18 cg18 cs18 (by decide) (by decide) [0] (some ⟨b19, 0, none⟩) 1 (by decide) (by decide) _ _) ?_
 rintro _ _ R1 ⟨a1, c1, _, rfl, rfl, hR1⟩
 obtain rfl := hR1.symm
 clear hR1
 rw [six_w.1, six_w.2]
 refine pur 5 rfl (sqt 7 rfl ?_)
 refine cl rfl Z4k rfl rfl (Z4t 2 (by decide) _ _) ?_
 rintro _ _ R1 ⟨ag24, as24, cg24, cs24, rfl, _, rfl, hR1⟩
 obtain rfl := hR1.symm
 clear hR1
 refine cl rfl ZaW rfl rfl (Z2Q (six 2) ag24 as24 cg24 cs24 (by decide) (by decide) _ _) ?_
 rintro _ _ R1 ⟨a2, c2, _, rfl, rfl, hR1⟩
 obtain rfl := hR1.symm
 clear hR1
 rw [six_o.1, six_o.2]
 refine pur 5 rfl (sqt 7 rfl ?_)
 refine cl rfl Z4k rfl rfl (Z4t 2 (by decide) _ _) ?_
 rintro _ _ R1 ⟨ag29, as29, cg29, cs29, rfl, _, rfl, hR1⟩
 obtain rfl := hR1.symm
 clear hR1
 refine cl rfl Za8 rfl rfl (Z3I (six 2) ag29 as29 cg29 cs29 (by decide) (by decide) 1 _ _) ?_
 rintro _ _ R1 ⟨a3, c3, _, rfl, rfl, hR1⟩
 obtain rfl := hR1.symm
 clear hR1
 rw [six_s.1, six_s.2]
 refine pur 5 rfl (sqt 7 rfl ?_)
 refine cl rfl Z4k rfl rfl (Z4t 3 (by decide) _ _) ?_
 rintro _ _ R1 ⟨ag34, as34, cg34, cs34, rfl, _, rfl, hR1⟩
 obtain rfl := hR1.symm
 clear hR1
 refine cl rfl ZcR rfl rfl (ZaV (six 3) ag34 as34 cg34 cs34 (by decide) (by decide) _ _) ?_
 rintro _ _ R1 ⟨a4, c4, _, rfl, rfl, hR1⟩
 obtain rfl := hR1.symm
 clear hR1
 rw [six_c.1, six_c.2]
 refine pur 5 rfl (sqt 9 rfl ?_)
 refine cl rfl Z4k rfl rfl (Z4t 0 (by decide) _ _) ?_
 rintro _ _ R1 ⟨ag39, as39, cg39, cs39, rfl, _, rfl, hR1⟩
 obtain rfl := hR1.symm
 clear hR1
 refine bsl (out := [_]) rfl Z18 zl3 rfl rfl rfl rfl rfl rfl (fun b40 => ?_)
 refine bsl (out := [_]) rfl Z18 zl3 rfl rfl rfl rfl rfl rfl (fun b41 => ?_)
 refine Sy.heap (fun w h9 => St.rows (sz := 1) (rows := Z6 [0]) (rest := []) (h9.pull b40) (by simp)) ?_
 refine Sy.heap (fun w h9 => St.rows (sz := 1) (rows := Z6 [1]) (rest := []) (h9.pull b41) (by simp)) ?_
 refine cl rfl ZcV rfl rfl (Z8S (six 0) ag39 as39 cg39 cs39 (by decide) (by decide) [0] [1] (some ⟨b40, 0, none⟩) (some ⟨b41, 0, none⟩) 1 1 (by decide) (by decide) (by decide) (by decide) 1 _ _) ?_
 rintro _ _ R1 ⟨rfl, hR1, hq⟩
 obtain rfl := hR1.symm
 clear hR1
 rcases hq with ⟨h9, _⟩ | ⟨_, hn, _⟩ | ⟨_, n, _, hn, rfl⟩
 · exact absurd six_b.2.2 h9
 · exact absurd six_few.1 (hn 3)
 obtain rfl := hn.unique six_few
 refine pur 5 rfl (sqt 12 rfl ?_)
 refine cl rfl Z4k rfl rfl (Z4t 0 (by decide) _ _) ?_
 rintro _ _ R1 ⟨Z5L, as46, cg46, cs46, rfl, _, rfl, hR1⟩
 obtain rfl := hR1.symm
 clear hR1
 refine bsl (out := [_]) rfl Z18 zl3 rfl rfl rfl rfl rfl rfl (fun b47 => ?_)
 refine bsl (out := [_]) rfl Z18 zl3 rfl rfl rfl rfl rfl rfl (fun b48 => ?_)
 refine bsl (out := [_, _]) rfl Z18 zl3 rfl rfl rfl rfl rfl rfl (fun b49 => ?_)
 refine bsl (out := [_, _]) rfl Z18 zl3 rfl rfl rfl rfl rfl rfl (fun b50 => ?_)
 refine bsl (out := [_, _]) rfl Zcz ZaT rfl rfl rfl rfl rfl rfl (fun b51 => ?_)
 refine Sy.heap (fun w h9 => St.rows (sz := 1) (rows := Z6 [0]) (rest := []) (h9.pull b47) (by simp)) ?_
 refine Sy.heap (fun w h9 => St.rows (sz := 1) (rows := Z6 [3]) (rest := []) (h9.pull b48) (by simp)) ?_
 refine Sy.heap (fun w h9 => St.rows (sz := 1) (rows := Z6 [0, 2]) (rest := []) (h9.pull b49) (by simp)) ?_
 refine Sy.heap (fun w h9 => St.rows (sz := 1) (rows := Z6 [1, 3]) (rest := []) (h9.pull b50) (by simp)) ?_
 refine Sy.heap (fun w h9 => St.rows (sz := 1) (rows := ZG [⟨some ⟨b49, 0, none⟩, 2, [0, 2]⟩, ⟨some ⟨b50, 0, none⟩, 2, [1, 3]⟩]) (rest := []) (h9.pull b51) (by simp [ZG, Z6r])) ?_
 refine Sy.heap (fun w h9 => St.inn0 h9) ?_
 refine Sy.heap (fun w h9 => (show St _ (Inn [⟨some ⟨b49, 0, none⟩, 2, [0, 2]⟩] :: _) w from St.innSnoc (l := []) ⟨some ⟨b49, 0, none⟩, 2, [0, 2]⟩ h9)) ?_
 refine Sy.heap (fun w h9 => (show St _ (Inn [⟨some ⟨b49, 0, none⟩, 2, [0, 2]⟩, ⟨some ⟨b50, 0, none⟩, 2, [1, 3]⟩] :: _) w from St.innSnoc (l := [⟨some ⟨b49, 0, none⟩, 2, [0, 2]⟩]) ⟨some ⟨b50, 0, none⟩, 2, [1, 3]⟩ h9)) ?_
 refine cl rfl ZcX rfl rfl (Z9E (six 0) Z5L as46 cg46 cs46 (by decide) (by decide) [0] [3] (some ⟨b47, 0, none⟩) (some ⟨b48, 0, none⟩) 1 1 (by decide) (by decide) (by decide) (by decide) [⟨some ⟨b49, 0, none⟩, 2, [0, 2]⟩, ⟨some ⟨b50, 0, none⟩, 2, [1, 3]⟩] (some ⟨b51, 0, none⟩) 2 (by show 2 ≤ 1000000; decide) (by show 4 ≤ 1000000; decide) _ _) ?_
 rintro _ _ _ ⟨rfl, rfl, rfl⟩
 rw [show lls [⟨some ⟨b49, 0, none⟩, 2, [0, 2]⟩, ⟨some ⟨b50, 0, none⟩, 2, [1, 3]⟩] = [[0, 2], [1, 3]] from rfl, six_l.1, six_l.2]
 refine pur 5 rfl (sqt 9 rfl ?_)
 refine cl rfl Z4k rfl rfl (Z4t 0 (by decide) _ _) ?_
 rintro _ _ R1 ⟨ag56, as56, cg56, cs56, rfl, _, rfl, hR1⟩
 obtain rfl := hR1.symm
 clear hR1
 refine bsl (out := [_]) rfl Z18 zl3 rfl rfl rfl rfl rfl rfl (fun b57 => ?_)
 refine bsl (out := [_]) rfl Z18 zl3 rfl rfl rfl rfl rfl rfl (fun b58 => ?_)
 refine Sy.heap (fun w h9 => St.rows (sz := 1) (rows := Z6 [0]) (rest := []) (h9.pull b57) (by simp)) ?_
 refine Sy.heap (fun w h9 => St.rows (sz := 1) (rows := Z6 [5]) (rest := []) (h9.pull b58) (by simp)) ?_
 refine cl rfl ZcT rfl rfl (ZcK (six 0) ag56 as56 cg56 cs56 (by decide) (by decide) [0] [5] (some ⟨b57, 0, none⟩) (some ⟨b58, 0, none⟩) 1 1 (by decide) (by decide) (by decide) (by decide) _ _) ?_
 rintro _ _ R1 ⟨rfl, hq⟩
 rcases hq with ⟨h9, _⟩ | ⟨_, f, V, a5, c5, hf, hs, _, rfl, hR1⟩
 · exact absurd six_b.1 h9
 obtain rfl := hR1.symm
 clear hR1
 rw [Z6i hf hs]
 refine pur 5 rfl (sqt 9 rfl ?_)
 refine cl rfl Z4k rfl rfl (Z4t 0 (by decide) _ _) ?_
 rintro _ _ R1 ⟨ag63, as63, cg63, cs63, rfl, _, rfl, hR1⟩
 obtain rfl := hR1.symm
 clear hR1
 refine bsl (out := [_]) rfl Z18 zl3 rfl rfl rfl rfl rfl rfl (fun b64 => ?_)
 refine bsl (out := [_]) rfl Z18 zl3 rfl rfl rfl rfl rfl rfl (fun b65 => ?_)
 refine Sy.heap (fun w h9 => St.rows (sz := 1) (rows := Z6 [0]) (rest := []) (h9.pull b64) (by simp)) ?_
 refine Sy.heap (fun w h9 => St.rows (sz := 1) (rows := Z6 [3]) (rest := []) (h9.pull b65) (by simp)) ?_
 refine cl rfl Zdq rfl rfl (Za4 (six 0) ag63 as63 cg63 cs63 (by decide) (by decide) [0] [3] (some ⟨b64, 0, none⟩) (some ⟨b65, 0, none⟩) 1 1 (by decide) (by decide) (by decide) (by decide) _ _) ?_
 rintro _ _ R1 ⟨rfl, hR1, hq⟩
 obtain rfl := hR1.symm
 clear hR1
 rcases hq with ⟨h9, _⟩ | ⟨_, n, _, hn1, hn2, rfl⟩
 · exact absurd six_b.2.1 h9
 obtain rfl := Z9K hn1 hn2
 refine pur 5 rfl (sqt 68 rfl (pur 3 rfl ?_))
 refine ZA 71 rfl ?_ ?_ <;> intro g71
 refine pur 4 rfl ?_
 refine ZA 75 rfl ?_ ?_ <;> intro g75
 refine pur 4 rfl ?_
 refine ZA 79 rfl ?_ ?_ <;> intro g79
 refine pur 4 rfl ?_
 refine ZA 83 rfl ?_ ?_ <;> intro g83
 refine pur 4 rfl ?_
 refine ZA 87 rfl ?_ ?_ <;> intro g87
 refine pur 4 rfl ?_
 refine ZA 91 rfl ?_ ?_ <;> intro g91
 refine pur 4 rfl ?_
 refine ZA 95 rfl ?_ ?_ <;> intro g95
 refine pur 4 rfl ?_
 refine ZA 99 rfl ?_ ?_ <;> intro g99
 refine pur 1 rfl ?_
 refine Zcy (out := [_, _, _, _, _, _]) rfl rfl rfl rfl Z18 zl3 rfl rfl rfl rfl rfl rfl (fun b101 => ?_)
 refine Sy.heap (fun w h9 => St.rows (sz := 1) (rows := Z6 [0, 1, 1, 2, 3, 4]) (rest := []) (h9.pull b101) (by simp)) ?_
 refine Za1 rfl rfl rfl rfl Z8F rfl rfl (Z2v [0, 1, 1, 2, 3, 4] [0, 1, 1, 2, 3, 4] a1 (some ⟨b101, 0, none⟩) c1 6 (by decide) (by decide) _ _) ?_
 refine pur 2 rfl ?_
 refine ZA 104 rfl ?_ ?_ <;> intro g104
 refine pur 1 rfl ?_
 refine Zcy (out := [_]) rfl rfl rfl rfl Z18 zl3 rfl rfl rfl rfl rfl rfl (fun b106 => ?_)
 refine Sy.heap (fun w h9 => St.rows (sz := 1) (rows := Z6 [4]) (rest := []) (h9.pull b106) (by simp)) ?_
 refine Za1 rfl rfl rfl rfl Z8F rfl rfl (Z2v [4] [4] a2 (some ⟨b106, 0, none⟩) c2 1 (by decide) (by decide) _ _) ?_
 refine pur 2 rfl ?_
 refine ZA 109 rfl ?_ ?_ <;> intro g109
 refine pur 1 rfl ?_
 refine Zcy (out := [_, _]) rfl rfl rfl rfl Z18 zl3 rfl rfl rfl rfl rfl rfl (fun b111 => ?_)
 refine Sy.heap (fun w h9 => St.rows (sz := 1) (rows := Z6 [4, 5]) (rest := []) (h9.pull b111) (by simp)) ?_
 refine Za1 rfl rfl rfl rfl Z8F rfl rfl (Z2v [4, 5] [4, 5] a3 (some ⟨b111, 0, none⟩) c3 2 (by decide) (by decide) _ _) ?_
 refine pur 2 rfl ?_
 refine ZA 114 rfl ?_ ?_ <;> intro g114
 refine pur 1 rfl ?_
 refine Zcy (out := [_, _, _]) rfl rfl rfl rfl Z18 zl3 rfl rfl rfl rfl rfl rfl (fun b116 => ?_)
 refine Sy.heap (fun w h9 => St.rows (sz := 1) (rows := Z6 [0, 1, 2]) (rest := []) (h9.pull b116) (by simp)) ?_
 refine Za1 rfl rfl rfl rfl Z8F rfl rfl (Z2v [0, 1, 2] [0, 1, 2] a4 (some ⟨b116, 0, none⟩) c4 3 (by decide) (by decide) _ _) ?_
 refine pur 2 rfl ?_
 refine ZA 119 rfl ?_ ?_ <;> intro g119
 refine pur 4 rfl ?_
 refine ZA 123 rfl ?_ ?_ <;> intro g123
 refine pur 4 rfl ?_
 refine ZA 127 rfl ?_ ?_ <;> intro g127
 refine pur 1 rfl ?_
 refine spG rfl rfl rfl rfl (PE.lenSl ZK rfl) rfl ?_
 refine pur 3 rfl ?_
 refine ZA 132 rfl ?_ ?_ <;> intro g132
 refine pur 4 rfl (Z3 ?_)
 exact rtA rfl rfl rfl ⟨rfl, rfl, rfl⟩ (fun w h9 => St.sub h9)
 exact absurd g132 (by decide)
 exact absurd g127 (by decide)
 exact absurd g123 (by decide)
 exact absurd g119 (by decide)
 exact absurd g114 (by decide)
 exact absurd g109 (by decide)
 exact absurd g104 (by decide)
 exact absurd g99 (by decide)
 exact absurd g95 (by decide)
 exact absurd g91 (by decide)
 exact absurd g87 (by decide)
 exact absurd g83 (by decide)
 exact absurd g79 (by decide)
 exact absurd g75 (by decide)
 exact absurd g71 (by decide)
theorem ZcE : apT Try.prog 23 = some (46, 2, 16) := by kernel_rfl
theorem Z2S : cal Try.prog 36 = true := by kernel_rfl
theorem ZcO : cal Try.prog 77 = true := by kernel_rfl
theorem ZcF : Z0t Try.prog 70 = some 1 := by kernel_rfl
theorem Ze8 : elN Try.prog 22 = some 1 := by kernel_rfl
theorem Z5K : Z2a Try.prog 72 0 = some 0 := by kernel_rfl
theorem Z2M : Z2a Try.prog 72 1 = some 1 := by kernel_rfl
theorem Z0z : Z2a Try.prog 72 2 = some 2 := by kernel_rfl
theorem ZdI : Z9p Try.prog 70 = some .u32 := by kernel_rfl
theorem Z8L : Z5z Try.prog 22 = true := by kernel_rfl
theorem ZdY : Z1a Try.prog 72 = some [(0, 1), (1, 1), (2, 1)] := by kernel_rfl
theorem Zcw : Z2m Try.prog 22 = true := by kernel_rfl
theorem sc5 : Z2m Try.prog 5 = true := by kernel_rfl
theorem Z6J : Z2m Try.prog 70 = true := by kernel_rfl
theorem us3 : (Try.prog.underlying 3).isSome = true := by kernel_rfl
theorem us5 : (Try.prog.underlying 5).isSome = true := by kernel_rfl
theorem Zcv : (Try.prog.underlying 70).isSome = true := by kernel_rfl
theorem Ze9 : ZR Try.prog 72 = some ([.slice none 0 0, .int .i64 0, .int .u32 0]) := by kernel_rfl
def Z99 (x : Int) : List Value := [.int .u8 x]
def Z2G (l : List Int) : List (List Value) := l.map Z99
theorem Z97 (g : List Int) (ag : Option Addr) (cg : Nat) (hgl : g.length ≤ 9223372036854775807) (H : Z7) (R : Z5) :
    Fn Try.prog 10 [.slice ag g.length cg] H R (fun v H' R' => ∃ bk, ∃ mx : Int, (0 ≤ mx ∧ mx ≤ 4294967295) ∧ v = .pointer (some ⟨bk, 0, none⟩) ∧ H' = (bk, cel 72 [.slice ag g.length cg, .int .i64 (0), .int .u32 (mx)]) :: H ∧ R' = R) := by
 refine Zh Try.func10 rfl Try.ntmps10 rfl ?_
 refine sqt 1 rfl (pur 1 rfl (sqt 8 rfl (pur 2 rfl (sp rfl (PE.lenSl Z8L rfl) rfl ?_))))
 refine spE rfl (PE.convU us3 ZdI rfl) rfl ?_
 rintro _ ⟨u6, rfl, hu6⟩
 refine spE rfl (PE.xorU rfl rfl) rfl ?_
 rintro _ ⟨u7, rfl, hu7⟩
 refine sp rfl (PE.build (out := [_, _, _]) ZdY Ze9 rfl rfl) rfl (bx rfl rfl rfl (fun b9 => pur 1 rfl (Z3 ?_)))
 exact rtA rfl rfl rfl ⟨b9, u7, hu7, rfl, rfl, rfl⟩ idH
theorem Z7a (g : List Int) (ag : Option Addr) (cg bk : Nat) (hgl : g.length ≤ 9223372036854775807) (tq mx : Int) (htq : 0 ≤ tq ∧ tq ≤ 1000000000) (hmx : 0 ≤ mx ∧ mx ≤ 4294967295) (H : Z7) (R : Z5) [hG : MemRows ag 1 (Z2G g) R] :
    Fn Try.prog 77 [.pointer (some ⟨bk, 0, none⟩)] ((bk, cel 72 [.slice ag g.length cg, .int .i64 (tq), .int .u32 (mx)]) :: H) R (fun v H' R' => ∃ x m' : Int, (0 ≤ x ∧ x ≤ 65535) ∧ v = .int .i64 x ∧ (0 ≤ m' ∧ m' ≤ 4294967295) ∧ H' = (bk, cel 72 [.slice ag g.length cg, .int .i64 (tq + 1), .int .u32 (m')]) :: H ∧ R' = R) := by
 refine Zh Try.func77 rfl Try.ntmps77 rfl ?_
 refine sqt 1 rfl (pur 1 rfl (Z0 (sqt 6 rfl (pur 1 rfl (sp rfl (PE.nilCheck rfl) rfl (sp rfl (PE.fA Z5K rfl) rfl (spL rfl rfl (lh Zcw rfl rfl) rfl (sp rfl (PE.lenSl Z8L rfl) rfl (pur 1 rfl (sqt 2 rfl (pur 2 rfl ?_)))))))))))
 refine Z1 rfl ?_ ?_ <;> intro hc0 <;> try simp only [cS] at hc0
 obtain ⟨y, hy⟩ : ∃ y, g[(tq % g.length).toNat]? = some y := ⟨_, List.getElem?_eq_getElem (by have := Int.emod_lt_of_pos tq hc0; have := Int.emod_nonneg tq (show (g.length : Int) ≠ 0 by omega); omega)⟩
 refine Zl (a := ag) (sz := 1) (rows := Z2G g) (by intro h0; simp [Z2G] at h0; simp [h0] at hy) (fun bgr ogr he => ?_)
 subst he
 refine Ze [0, 0, 2, 6, 14, 0, 32, 96, 224, 0, 512, 1536, 3584, 0, 15872, 32736, 65504, 131040, 262142, 524286, 1048575, 2097151, 4194303] (tks 0 4 (.ld 4 (tks 5 3 (.ld 8 (tks 9 3 (.ld 12 (tks 13 3 (.ld 16 (tks 17 5 (.big 22 .done)))))))))) Zw (by kernel_rfl) ?_
 refine Zq 2 rfl (tk rfl (PE.nilCheck rfl) rfl (tk rfl (PE.fA Z0z rfl) rfl (ld rfl rfl (lh Z6J rfl rfl) rfl (Zq 1 rfl (tk rfl (PE.nilCheck rfl) rfl (tk rfl (PE.fA Z5K rfl) rfl (ld rfl rfl (lh Zcw rfl rfl) rfl (Zq 1 rfl (tk rfl (PE.nilCheck rfl) rfl (tk rfl (PE.fA Z2M rfl) rfl (ld rfl rfl (lh sc3 rfl rfl) rfl (Zq 1 rfl (tk rfl (PE.rem rfl rfl (by omega)) rfl (tk rfl (PE.indexAddr Ze8 rfl rfl (by exact Int.emod_nonneg tq (by omega)) (by exact Int.emod_lt_of_pos tq hc0)) rfl (ld rfl rfl (lf0 (x := .int .u8 y) sc5 (by simp [Z2G, Z99, hy]; rfl) rfl) rfl ?_)))))))))))))))
 refine tkE rfl (PE.convU us5 ZdI rfl) rfl ?_
 rintro _ ⟨u28, rfl, hu28⟩
 refine tkE rfl (PE.xorU rfl rfl) rfl ?_
 rintro _ ⟨u29, rfl, hu29⟩
 refine tkE rfl (PE.mulU rfl rfl) rfl ?_
 rintro _ ⟨u30, rfl, hu30⟩
 refine tk rfl (PE.nilCheck rfl) rfl (tk rfl (PE.fA Z0z rfl) rfl ?_)
 refine sto rfl rfl rfl ZcF rfl rfl rfl rfl ?_
 refine bgT (sqt 8 rfl (pur 1 rfl (sp rfl (PE.nilCheck rfl) rfl (sp rfl (PE.fA Z2M rfl) rfl (spL rfl rfl (lh sc3 rfl rfl) rfl (sp rfl (PE.add rfl rfl (by omega)) rfl (sp rfl (PE.nilCheck rfl) rfl (sp rfl (PE.fA Z2M rfl) rfl ?_))))))))
 refine sto rfl rfl rfl cn3 rfl rfl rfl rfl ?_
 refine Z0 (Z0 ?_)
 refine Ze [0, 1, 3, 7, 0, 16, 48, 112, 240, 511] (tks 0 3 (.ld 3 (tks 4 3 (.ld 7 (.tk 8 (.tk 9 .done)))))) Zw (by kernel_rfl) ?_
 refine Zq 1 rfl (tk rfl (PE.nilCheck rfl) rfl (tk rfl (PE.fA Z2M rfl) rfl (ld rfl rfl (lh sc3 rfl rfl) rfl (Zq 1 rfl (tk rfl (PE.nilCheck rfl) rfl (tk rfl (PE.fA Z5K rfl) rfl (ld rfl rfl (lh Zcw rfl rfl) rfl (tk rfl (PE.lenSl Z8L rfl) rfl (Zq 1 rfl ?_)))))))))
 refine Z1 rfl ?_ ?_ <;> intro hc1 <;> try simp only [cS] at hc1
 refine sqr 10 rfl (pur 2 rfl (sp rfl (PE.nilCheck rfl) rfl (sp rfl (PE.fA Z0z rfl) rfl (spL rfl rfl (lh Z6J rfl rfl) rfl ?_))))
 refine spE rfl (PE.mulU rfl rfl) rfl ?_
 rintro _ ⟨u55, rfl, hu55⟩
 refine spE rfl (PE.addU rfl rfl) rfl ?_
 rintro _ ⟨u56, rfl, hu56⟩
 refine sp rfl (PE.nilCheck rfl) rfl (sp rfl (PE.fA Z0z rfl) rfl ?_)
 refine sto rfl rfl rfl ZcF rfl rfl rfl rfl ?_
 refine Z0 ?_
 refine Ze [0, 1, 3, 7, 0, 16, 48, 112, 240, 511, 1023, 2047, 4095, 8191] (tks 0 3 (.ld 3 (tks 4 3 (.ld 7 (tks 8 6 .done))))) Zw (by kernel_rfl) ?_
 refine Zq 1 rfl (tk rfl (PE.nilCheck rfl) rfl (tk rfl (PE.fA Z0z rfl) rfl (ld rfl rfl (lh Z6J rfl rfl) rfl (Zq 1 rfl (tk rfl (PE.nilCheck rfl) rfl (tk rfl (PE.fA Z0z rfl) rfl (ld rfl rfl (lh Z6J rfl rfl) rfl ?_)))))))
 refine tkE rfl (PE.shrU rfl rfl (by decide) (by omega) (by omega)) rfl ?_
 rintro _ ⟨u67, rfl, hu67⟩
 refine tkE rfl (PE.xorU rfl rfl) rfl ?_
 rintro _ ⟨u68, rfl, hu68⟩
 refine tkE rfl (PE.shrU rfl rfl (by decide) (by omega) (by omega)) rfl ?_
 rintro _ ⟨u69, rfl, hu69⟩
 refine tkE rfl (PE.andU rfl rfl (by decide) (by decide)) rfl ?_
 rintro _ ⟨u70, rfl, hu70⟩
 refine tk rfl (PE.conv64 Zcv ik3 rfl (by omega)) rfl (Zq 1 rfl (Z3 ?_))
 first
   | exact rtA rfl rfl rfl ⟨u70, _, hu70, rfl, hu56, rfl, rfl⟩ idH
   | exact rtA rfl rfl rfl ⟨u70, _, hu70, rfl, hu30, rfl, rfl⟩ idH
   | exact rtA rfl rfl rfl ⟨u70, _, hu70, rfl, hmx, rfl, rfl⟩ idH
 refine Z2 (Z0 ?_)
 refine Ze [0, 1, 3, 7, 0, 16, 48, 112, 240, 511, 1023, 2047, 4095, 8191] (tks 0 3 (.ld 3 (tks 4 3 (.ld 7 (tks 8 6 .done))))) Zw (by kernel_rfl) ?_
 refine Zq 1 rfl (tk rfl (PE.nilCheck rfl) rfl (tk rfl (PE.fA Z0z rfl) rfl (ld rfl rfl (lh Z6J rfl rfl) rfl (Zq 1 rfl (tk rfl (PE.nilCheck rfl) rfl (tk rfl (PE.fA Z0z rfl) rfl (ld rfl rfl (lh Z6J rfl rfl) rfl ?_)))))))
 refine tkE rfl (PE.shrU rfl rfl (by decide) (by omega) (by omega)) rfl ?_
 rintro _ ⟨u67, rfl, hu67⟩
 refine tkE rfl (PE.xorU rfl rfl) rfl ?_
 rintro _ ⟨u68, rfl, hu68⟩
 refine tkE rfl (PE.shrU rfl rfl (by decide) (by omega) (by omega)) rfl ?_
 rintro _ ⟨u69, rfl, hu69⟩
 refine tkE rfl (PE.andU rfl rfl (by decide) (by decide)) rfl ?_
 rintro _ ⟨u70, rfl, hu70⟩
 refine tk rfl (PE.conv64 Zcv ik3 rfl (by omega)) rfl (Zq 1 rfl (Z3 ?_))
 first
   | exact rtA rfl rfl rfl ⟨u70, _, hu70, rfl, hu56, rfl, rfl⟩ idH
   | exact rtA rfl rfl rfl ⟨u70, _, hu70, rfl, hu30, rfl, rfl⟩ idH
   | exact rtA rfl rfl rfl ⟨u70, _, hu70, rfl, hmx, rfl, rfl⟩ idH
 refine Z2 (sqt 8 rfl (pur 1 rfl (sp rfl (PE.nilCheck rfl) rfl (sp rfl (PE.fA Z2M rfl) rfl (spL rfl rfl (lh sc3 rfl rfl) rfl (sp rfl (PE.add rfl rfl (by omega)) rfl (sp rfl (PE.nilCheck rfl) rfl (sp rfl (PE.fA Z2M rfl) rfl ?_))))))))
 refine sto rfl rfl rfl cn3 rfl rfl rfl rfl ?_
 refine Z0 (Z0 ?_)
 refine Ze [0, 1, 3, 7, 0, 16, 48, 112, 240, 511] (tks 0 3 (.ld 3 (tks 4 3 (.ld 7 (.tk 8 (.tk 9 .done)))))) Zw (by kernel_rfl) ?_
 refine Zq 1 rfl (tk rfl (PE.nilCheck rfl) rfl (tk rfl (PE.fA Z2M rfl) rfl (ld rfl rfl (lh sc3 rfl rfl) rfl (Zq 1 rfl (tk rfl (PE.nilCheck rfl) rfl (tk rfl (PE.fA Z5K rfl) rfl (ld rfl rfl (lh Zcw rfl rfl) rfl (tk rfl (PE.lenSl Z8L rfl) rfl (Zq 1 rfl ?_)))))))))
 refine Z1 rfl ?_ ?_ <;> intro hc1 <;> try simp only [cS] at hc1
 refine sqr 10 rfl (pur 2 rfl (sp rfl (PE.nilCheck rfl) rfl (sp rfl (PE.fA Z0z rfl) rfl (spL rfl rfl (lh Z6J rfl rfl) rfl ?_))))
 refine spE rfl (PE.mulU rfl rfl) rfl ?_
 rintro _ ⟨u55, rfl, hu55⟩
 refine spE rfl (PE.addU rfl rfl) rfl ?_
 rintro _ ⟨u56, rfl, hu56⟩
 refine sp rfl (PE.nilCheck rfl) rfl (sp rfl (PE.fA Z0z rfl) rfl ?_)
 refine sto rfl rfl rfl ZcF rfl rfl rfl rfl ?_
 refine Z0 ?_
 refine Ze [0, 1, 3, 7, 0, 16, 48, 112, 240, 511, 1023, 2047, 4095, 8191] (tks 0 3 (.ld 3 (tks 4 3 (.ld 7 (tks 8 6 .done))))) Zw (by kernel_rfl) ?_
 refine Zq 1 rfl (tk rfl (PE.nilCheck rfl) rfl (tk rfl (PE.fA Z0z rfl) rfl (ld rfl rfl (lh Z6J rfl rfl) rfl (Zq 1 rfl (tk rfl (PE.nilCheck rfl) rfl (tk rfl (PE.fA Z0z rfl) rfl (ld rfl rfl (lh Z6J rfl rfl) rfl ?_)))))))
 refine tkE rfl (PE.shrU rfl rfl (by decide) (by omega) (by omega)) rfl ?_
 rintro _ ⟨u67, rfl, hu67⟩
 refine tkE rfl (PE.xorU rfl rfl) rfl ?_
 rintro _ ⟨u68, rfl, hu68⟩
 refine tkE rfl (PE.shrU rfl rfl (by decide) (by omega) (by omega)) rfl ?_
 rintro _ ⟨u69, rfl, hu69⟩
 refine tkE rfl (PE.andU rfl rfl (by decide) (by decide)) rfl ?_
 rintro _ ⟨u70, rfl, hu70⟩
 refine tk rfl (PE.conv64 Zcv ik3 rfl (by omega)) rfl (Zq 1 rfl (Z3 ?_))
 first
   | exact rtA rfl rfl rfl ⟨u70, _, hu70, rfl, hu56, rfl, rfl⟩ idH
   | exact rtA rfl rfl rfl ⟨u70, _, hu70, rfl, hu30, rfl, rfl⟩ idH
   | exact rtA rfl rfl rfl ⟨u70, _, hu70, rfl, hmx, rfl, rfl⟩ idH
 refine Z2 (Z0 ?_)
 refine Ze [0, 1, 3, 7, 0, 16, 48, 112, 240, 511, 1023, 2047, 4095, 8191] (tks 0 3 (.ld 3 (tks 4 3 (.ld 7 (tks 8 6 .done))))) Zw (by kernel_rfl) ?_
 refine Zq 1 rfl (tk rfl (PE.nilCheck rfl) rfl (tk rfl (PE.fA Z0z rfl) rfl (ld rfl rfl (lh Z6J rfl rfl) rfl (Zq 1 rfl (tk rfl (PE.nilCheck rfl) rfl (tk rfl (PE.fA Z0z rfl) rfl (ld rfl rfl (lh Z6J rfl rfl) rfl ?_)))))))
 refine tkE rfl (PE.shrU rfl rfl (by decide) (by omega) (by omega)) rfl ?_
 rintro _ ⟨u67, rfl, hu67⟩
 refine tkE rfl (PE.xorU rfl rfl) rfl ?_
 rintro _ ⟨u68, rfl, hu68⟩
 refine tkE rfl (PE.shrU rfl rfl (by decide) (by omega) (by omega)) rfl ?_
 rintro _ ⟨u69, rfl, hu69⟩
 refine tkE rfl (PE.andU rfl rfl (by decide) (by decide)) rfl ?_
 rintro _ ⟨u70, rfl, hu70⟩
 refine tk rfl (PE.conv64 Zcv ik3 rfl (by omega)) rfl (Zq 1 rfl (Z3 ?_))
 first
   | exact rtA rfl rfl rfl ⟨u70, _, hu70, rfl, hu56, rfl, rfl⟩ idH
   | exact rtA rfl rfl rfl ⟨u70, _, hu70, rfl, hu30, rfl, rfl⟩ idH
   | exact rtA rfl rfl rfl ⟨u70, _, hu70, rfl, hmx, rfl, rfl⟩ idH
theorem Z0x (g : List Int) (ag : Option Addr) (cg bk : Nat) (hgl : g.length ≤ 9223372036854775807) (tq mx : Int) (htq : 0 ≤ tq ∧ tq ≤ 1000000000) (hmx : 0 ≤ mx ∧ mx ≤ 4294967295) (n : Int) (H : Z7) (R : Z5) [hG : MemRows ag 1 (Z2G g) R] :
    Fn Try.prog 36 [.pointer (some ⟨bk, 0, none⟩), .int .i64 n] ((bk, cel 72 [.slice ag g.length cg, .int .i64 (tq), .int .u32 (mx)]) :: H) R (fun v H' R' => ∃ x m' : Int, (0 ≤ x ∧ x < max 1 n) ∧ v = .int .i64 x ∧ (0 ≤ m' ∧ m' ≤ 4294967295) ∧ H' = (bk, cel 72 [.slice ag g.length cg, .int .i64 (tq + 1), .int .u32 (m')]) :: H ∧ R' = R) := by
 refine Zh Try.func36 rfl Try.ntmps36 rfl ?_
 refine sqt 1 rfl (pur 1 rfl (sqt 6 rfl (pur 1 rfl ?_)))
 refine cl rfl ZcO rfl rfl (Z7a g ag cg bk hgl tq mx htq hmx _ _) ?_
 rintro _ _ _ ⟨x, m', hx, rfl, hm', rfl, rfl⟩
 refine pur 1 rfl (sp rfl (PE.max rfl rfl) rfl (sp rfl (PE.rem rfl rfl (by omega)) rfl (pur 1 rfl (Z3 ?_))))
 exact rtA rfl rfl rfl ⟨_, m', ⟨Int.emod_nonneg _ (by omega), Int.emod_lt_of_pos _ (by omega)⟩, rfl, hm', rfl, rfl⟩ idH
theorem Z9I (g : List Int) (ag : Option Addr) (cg bk : Nat) (hgl : g.length ≤ 9223372036854775807) (tq mx : Int) (htq : 0 ≤ tq ∧ tq ≤ 1000000000) (hmx : 0 ≤ mx ∧ mx ≤ 4294967295) (lo hi : Int) (hb : -1000000 ≤ lo ∧ lo ≤ 1000000 ∧ -1000000 ≤ hi ∧ hi ≤ 1000000) (H : Z7) (R : Z5) [hG : MemRows ag 1 (Z2G g) R] :
    Fn Try.prog 35 [.pointer (some ⟨bk, 0, none⟩), .int .i64 lo, .int .i64 hi] ((bk, cel 72 [.slice ag g.length cg, .int .i64 (tq), .int .u32 (mx)]) :: H) R (fun v H' R' => ∃ x m' : Int, (lo ≤ x ∧ x < lo + max 1 (hi - lo + 1)) ∧ v = .int .i64 x ∧ (0 ≤ m' ∧ m' ≤ 4294967295) ∧ H' = (bk, cel 72 [.slice ag g.length cg, .int .i64 (tq + 1), .int .u32 (m')]) :: H ∧ R' = R) := by
 refine Zh Try.func35 rfl Try.ntmps35 rfl ?_
 refine sqt 1 rfl (pur 1 rfl (sqt 9 rfl (pur 4 rfl (sp rfl (PE.sub rfl rfl (by omega)) rfl (sp rfl (PE.add rfl rfl (by omega)) rfl ?_)))))
 refine cl rfl Z2S rfl rfl (Z0x g ag cg bk hgl tq mx htq hmx (hi - lo + 1) _ _) ?_
 rintro _ _ _ ⟨x, m', hx, rfl, hm', rfl, rfl⟩
 refine sp rfl (PE.add rfl rfl (by omega)) rfl (pur 1 rfl (Z3 ?_))
 exact rtA rfl rfl rfl ⟨lo + x, m', ⟨by omega, by omega⟩, rfl, hm', rfl, rfl⟩ idH
theorem Z7Z (g : List Int) (ag : Option Addr) (cg bk : Nat) (hgl : g.length ≤ 9223372036854775807) (tq mx : Int) (htq : 0 ≤ tq ∧ tq ≤ 1000000000) (hmx : 0 ≤ mx ∧ mx ≤ 4294967295) (n : Int) (H : Z7) (R : Z5) [hG : MemRows ag 1 (Z2G g) R] :
    Fn Try.prog 13 [.pointer (some ⟨bk, 0, none⟩), .int .i64 n] ((bk, cel 72 [.slice ag g.length cg, .int .i64 (tq), .int .u32 (mx)]) :: H) R (fun v H' R' => ∃ (x : Bool) (m' : Int), v = .bool x ∧ (0 ≤ m' ∧ m' ≤ 4294967295) ∧ H' = (bk, cel 72 [.slice ag g.length cg, .int .i64 (tq + 1), .int .u32 (m')]) :: H ∧ R' = R) := by
 refine Zh Try.func13 rfl Try.ntmps13 rfl ?_
 refine sqt 1 rfl (pur 1 rfl (sqt 5 rfl (pur 2 rfl ?_)))
 refine cl rfl Z2S rfl rfl (Z0x g ag cg bk hgl tq mx htq hmx n _ _) ?_
 rintro _ _ _ ⟨x, m', hx, rfl, hm', rfl, rfl⟩
 refine pur 2 rfl (Z3 ?_)
 exact rtA rfl rfl rfl ⟨_, m', rfl, hm', rfl, rfl⟩ idH
theorem Zah : cal Try.prog 13 = true := by kernel_rfl
theorem Zdj : cal Try.prog 35 = true := by kernel_rfl
theorem ZdN : Z0t Try.prog 23 = some 1 := by kernel_rfl
theorem Z6f {p q : Nat → Bool} {k : Nat} (h : ∀ j < k, p j = q j) : Z0M p k = Z0M q k := by
  unfold Z0M
  rw [List.filter_congr fun j hj => h j (List.mem_range.1 hj)]
theorem Z65 (p : Nat → Bool) (k : Nat) (b : Bool) : Z0M (fun j => bif decide (j = k) then b else p j) (k + 1) = Z0M p k ++ bif b then [(k : Int)] else [] := by
  rw [Z2D, Z6f (q := p) fun j hj => by rw [decide_eq_false (show ¬ j = k by omega)]; rfl, decide_eq_true rfl]; rfl
theorem fltK_mem {p : Nat → Bool} {n : Nat} {j : Int} : j ∈ Z0M p n ↔ ∃ k : Nat, k < n ∧ p k = true ∧ j = k := by
  unfold Z0M
  rw [List.mem_map]
  constructor
  · rintro ⟨k, h1, h2⟩
    rw [List.mem_filter, List.mem_range] at h1
    exact ⟨k, h1.1, h1.2, h2.symm⟩
  · rintro ⟨k, h1, h2, rfl⟩; exact ⟨k, List.mem_filter.2 ⟨List.mem_range.2 h1, h2⟩, rfl⟩
theorem Z8p (p : Nat → Bool) (n : Nat) : (Z0M p n).Pairwise (· < ·) := (List.pairwise_lt_range.filter _).map _ fun a b h => by omega
theorem Z6g (p : Nat → Bool) (n : Nat) : (Z0M p n).Nodup := List.nodup_iff_pairwise_ne.2 ((Z8p p n).imp fun h => by omega)
theorem Z7l (p : Nat → Bool) {n : Int} (hn : 0 ≤ n) : ∀ x ∈ Z0M p n.toNat, 0 ≤ x ∧ x < n := fun x hx => by
  obtain ⟨k, h1, _, rfl⟩ := fltK_mem.1 hx; omega
theorem Z9B (p : Nat → Bool) {n : Int} (hn : 0 ≤ n) : Z0h n (Z0M p n.toNat) = 0 := Z8o (Z7l p hn) (Z6g p _)
structure MadeW (h : Hse) (nb ng : Int) : Prop where
  bins : 2 ≤ h.bins ∧ h.bins ≤ nb
  gl : (h.gaps.length : Int) ≤ ng
  gaps : ∀ g ∈ h.gaps, (0 ≤ g.a ∧ g.a < h.bins) ∧ (0 ≤ g.b ∧ g.b < h.bins) ∧ g.a ≠ g.b
  none : h.sights = []
theorem MadeW.ok {h : Hse} {nb ng : Int} (hm : MadeW h nb ng) (h1 : nb ≤ 7) (h2 : ng ≤ 10) : h.ok := ⟨by have := hm.bins; omega, by have := hm.gl; omega, by rw [hm.none]; exact Nat.zero_le _, hm.gaps, by rw [hm.none]; simp⟩
def ini (f : Nat → Int) (n k : Nat) : List Int := (List.range n).map fun j => bif decide (j < k) then f j else 0
theorem ZQ (f : Nat → Int) (n k : Nat) : (ini f n k).length = n := by simp [ini]
theorem Z63 {f : Nat → Int} {n k j : Nat} (hj : j < n) : na (ini f n k) j = bif decide (j < k) then f j else 0 := by
  unfold na ini
  rw [List.getD_eq_getElem?_getD, List.getElem?_map, List.getElem?_range hj]; rfl
theorem Z93 (f : Nat → Int) (n : Nat) : List.replicate n 0 = ini f n 0 := by
  apply List.ext_getElem?
  intro j
  rcases Nat.lt_or_ge j n with h | h
  · rw [Z0e (l := ini f n 0) (by rw [ZQ]; exact h), Z63 h, List.getElem?_replicate, if_pos h]; rfl
  · rw [List.getElem?_eq_none (by simpa using h), List.getElem?_eq_none (by rw [ZQ]; exact h)]
theorem Z86 {f : Nat → Int} {n k : Nat} (hk : k < n) {v : Int} (hv : f k = v) : (ini f n k).set k v = ini f n (k + 1) := by
  apply List.ext_getElem?
  intro j
  rcases Nat.lt_or_ge j n with hj | hj
  · rw [Z0e (l := (ini f n k).set k _) (by rw [List.length_set, ZQ]; exact hj), Z0e (by rw [ZQ]; exact hj), Z1U (by rw [ZQ]; exact hk), Z63 hj, Z63 hj]
    by_cases e : k = j
    · subst e; rw [decide_eq_true rfl, decide_eq_true (Nat.lt_succ_self k), ← hv]; rfl
    · rw [decide_eq_false e, show decide (j < k + 1) = decide (j < k) from decide_eq_decide.2 (by omega)]; rfl
  · rw [List.getElem?_eq_none (by rw [List.length_set, ZQ]; exact hj), List.getElem?_eq_none (by rw [ZQ]; exact hj)]
def clP (pl : List PL) (t : Nat) : Nat := msk (Z3u pl (t + 1))
def in0 (fr : List Int) (j : Nat) : Int := bif Z2F fr j then 0 else 100
theorem Z5f {l : List Int} (h : ∀ x ∈ l, 0 ≤ x) (j : Nat) : Z2F l (j : Int) = (msk l).testBit j := by rw [Bool.eq_iff_iff, hasI_iff, Zv h]
theorem FolI.start {gs : List Gp} {cl : Nat → Nat} {fr : List Int} (h : ∀ x ∈ fr, 0 ≤ x) (n : Nat) : FolI gs cl (msk fr) n 0 (Z2u gs (cl 0) (lvp gs cl (msk fr) 0) 0) (ini (in0 fr) n n) := ⟨ZQ _ _ _, fun k hk => by
  rw [Z63 hk, decide_eq_true hk, cond_true]
  unfold in0
  rw [Z5f h]
  show _ = bif (msk fr).testBit k then fol gs cl (msk fr) 0 k else bif (msk fr).testBit k then _ else 100
  cases hb : (msk fr).testBit k with
  | false => rfl
  | true =>
    rw [cond_true, cond_true]
    exact (Z5Q (t := 0) (Nat.le_refl _) hb (fun i hi => absurd hi (Nat.not_lt_zero _))).symm⟩
def Zdf (s acc : Nat) (g : Gp) : Nat → Nat
  | 0 => acc
  | 1 => acc ||| (bif s.testBit g.a.toNat then 2 ^ g.b.toNat else 0)
  | _ => (acc ||| (bif s.testBit g.a.toNat then 2 ^ g.b.toNat else 0)) ||| (bif s.testBit g.b.toNat then 2 ^ g.a.toNat else 0)
def ZdO (g : Gp) : List Value := [.int .i64 g.a, .int .i64 g.b, .int .i64 g.b, .int .i64 g.a]
theorem Zas {s acc n : Nat} {g : Gp} (ha : 0 ≤ g.a ∧ g.a < n) (hb : 0 ≤ g.b ∧ g.b < n) {j : Nat} (hj : j < 2) : ∃ u v : Nat, ∃ rest : List Value, u < n ∧ v < n ∧ (ZdO g).drop (j * 2) = [.int .i64 u, .int .i64 v] ++ rest ∧ Zdf s acc g (j + 1) = Zdf s acc g j ||| (bif s.testBit u then 2 ^ v else 0) := by
  have h1 : ((g.a.toNat : Nat) : Int) = g.a := by omega
  have h2 : ((g.b.toNat : Nat) : Int) = g.b := by omega
  match j, hj with
  | 0, _ => exact ⟨g.a.toNat, g.b.toNat, [.int .i64 g.b, .int .i64 g.a], by omega, by omega, by rw [h1, h2]; rfl, rfl⟩
  | 1, _ => exact ⟨g.b.toNat, g.a.toNat, [], by omega, by omega, by rw [h1, h2]; rfl, rfl⟩
theorem Z5t {pl : List PL} {k : Nat} (h : pl.length ≤ k) : Z3u pl (k + 1) = Z3u pl k := by unfold Z3u; rw [List.take_of_length_le (by omega), List.take_of_length_le h]
theorem Z5w {pl : List PL} {k : Nat} {x : Int} (h : x ∈ Z3u pl k) : x ∈ (lls pl).flatten := by
  unfold Z3u at h
  obtain ⟨l, h1, h2⟩ := List.mem_flatten.1 h
  obtain ⟨y, h3, rfl⟩ := List.mem_map.1 h1
  exact List.mem_flatten.2 ⟨_, List.mem_map_of_mem (List.mem_of_mem_take h3), h2⟩
theorem ZbV (l0 : List Int) (a0 : Option Addr) (c0 bk : Nat) (hgl : l0.length ≤ 9223372036854775807) (tq mx : Int) (htq : 0 ≤ tq ∧ tq ≤ 1000000) (hmx : 0 ≤ mx ∧ mx ≤ 4294967295) (nb ng : Int) (hnb : 2 ≤ nb ∧ nb ≤ 7) (hng : 0 ≤ ng ∧ ng ≤ 10) (H : Z7) (R : Z5) [hG : MemRows a0 1 (Z2G l0) R] :
    Fn Try.prog 9 [.pointer (some ⟨bk, 0, none⟩), .int .i64 nb, .int .i64 ng] ((bk, cel 72 [.slice a0 l0.length c0, .int .i64 (tq), .int .u32 (mx)]) :: H) R (fun v H' R' => ∃ (h : Hse) (p : Nat → Bool) (ag ar : Option Addr) (cg cr : Nat) (tq' mx' : Int), MadeW h nb ng ∧ h.gaps.length ≤ cg ∧ (Z0M p h.bins.toNat).length ≤ cr ∧ v = .tuple #[h.v (h.sg ag cg) (h.ss none 0), .slice ar (Z0M p h.bins.toNat).length cr] ∧ (tq ≤ tq' ∧ tq' ≤ tq + 100) ∧ (0 ≤ mx' ∧ mx' ≤ 4294967295) ∧ H' = (bk, cel 72 [.slice a0 l0.length c0, .int .i64 (tq'), .int .u32 (mx')]) :: H ∧ R' = RowsA none 3 (Zc h.sights) :: RowsA ar 1 (Z6 (Z0M p h.bins.toNat)) :: RowsA ag 2 (Zg h.gaps) :: R) := by
 refine Zh Try.func9 rfl Try.ntmps9 rfl ?_
 refine sqt 2 rfl (alc rfl Z1l rfl (fun b6 => pur 1 rfl (sqt 6 rfl (pur 2 rfl ?_))))
 refine Zz bk ?_
 refine cl rfl Zdj rfl rfl (Z9I l0 a0 c0 bk hgl _ _ (by omega) (by assumption) (2) (nb) (by first | omega | (dsimp only; omega)) _ _) ?_
 rintro _ _ R1 ⟨x15, m15, hx15, rfl, hm15, rfl, hR1⟩
 obtain rfl := hR1.symm
 refine sp rfl (PE.build (out := htl ⟨x15, [], []⟩ (.slice none 0 0) (.slice none 0 0)) Z3y Z1l rfl rfl) rfl (alc rfl Z1l rfl (fun b8 => ?_))
 refine sto rfl rfl rfl Z1u rfl rfl rfl rfl ?_
 refine Z0 (sqt 5 rfl ?_)
 refine Zz bk ?_
 refine pur 2 rfl (sp rfl (PE.add rfl rfl (by omega)) rfl ?_)
 refine cl rfl Z2S rfl rfl (Z0x l0 a0 c0 bk hgl _ _ (by omega) (by assumption) (ng + 1) _ _) ?_
 rintro _ _ R1 ⟨x20, m20, hx20, rfl, hm20, rfl, hR1⟩
 obtain rfl := hR1.symm
 refine pur 1 rfl (Z4 ?_)
 obtain ⟨n20, rfl⟩ : ∃ n : Nat, x20 = n := ⟨x20.toNat, by omega⟩
 refine Zf (ι := (x : {x : Nat × List Gp × Int × Int // x.1 ≤ n20 ∧ (x.2.1.length = x.1 ∧ ∀ g ∈ x.2.1, ((0 ≤ g.a ∧ g.a < x15) ∧ (0 ≤ g.b ∧ g.b < x15) ∧ g.a ≠ g.b)) ∧ (tq ≤ x.2.2.1 ∧ x.2.2.1 ≤ tq + 2 + 2 * x.1) ∧ (0 ≤ x.2.2.2 ∧ x.2.2.2 ≤ 4294967295)}) × OSl 46 2 (Zg x.1.2.1)) (fun x => ⟨[(0, .pointer (some ⟨bk, 0, none⟩)), (6, .pointer (some ⟨b6, 0, none⟩)), (8, .pointer (some ⟨b8, 0, none⟩)), (20, .int .i64 n20), (21, .int .i64 x.1.1.1)],
   (bk, cel 72 [.slice a0 l0.length c0, .int .i64 (x.1.1.2.2.1), .int .u32 (x.1.1.2.2.2)]) :: (x.2.G ++ (b8, cel 26 (htl ⟨x15, x.1.1.2.1, []⟩ x.2.fs (.slice none 0 0))) :: (b6, cel 26 [.int .i64 0, .slice none 0 0, .slice none 0 0]) :: H), R⟩) (fun x => n20 - x.1.1.1) ⟨⟨(0, [], tq + 1 + 1, m20), by omega, ⟨rfl, by simp⟩, by dsimp only; omega, by assumption⟩, OSl.nil _ _⟩ ?_ (fun x => ?_)
 exact Zn idH
 ·
  obtain ⟨⟨⟨k, l, tq2, mx2⟩, hk, ⟨hll, hlg⟩, htq2, hmx2⟩, o⟩ := x
  dsimp only at hk hll hlg htq2 hmx2 o ⊢
  refine sqt 1 rfl (pur 1 rfl (Z0 ?_))
  refine Z1 rfl ?_ ?_ <;> intro hc0 <;> try simp only [cS] at hc0
  ·
   have hrm : 0 ≤ (k : Int) % x15 ∧ (k : Int) % x15 < x15 := ⟨Int.emod_nonneg _ (by omega), Int.emod_lt_of_pos _ (by omega)⟩
   refine Z2 (Z0 (Z4 (sqt 2 rfl (pur 2 rfl (Z0 ?_)))))
   refine Ze [0, 0, 2, 7, 0, 0, 32, 112, 255, 0, 1023] (.tk 0 (.tk 1 (.ld 2 (tks 3 3 (.ld 6 (.any (.alt 7 (.tk 8 (.big 9 (.big 10 .done))) (.alt 9 (.big 7 (.tk 8 (.big 10 .done))) .stop)))))))) Zw (by kernel_rfl) ?_
   refine Zq 1 rfl (tk rfl (PE.fA Z0f rfl) rfl (ld rfl rfl (lh (v := .int .i64 x15) sc3 rfl rfl) rfl (tk rfl (PE.rem rfl rfl (by omega)) rfl (Zq 1 rfl (tk rfl (PE.fA Z0f rfl) rfl (ld rfl rfl (lh (v := .int .i64 x15) sc3 rfl rfl) rfl ?_))))))
   refine ZH ?_ ?_
   ·
    refine Zz bk ?_
    refine cl rfl Z2S rfl rfl (Z0x l0 a0 c0 bk hgl _ _ (by omega) (by assumption) (x15) _ _) ?_
    rintro _ _ R1 ⟨x31, m31, hx31, rfl, hm31, rfl, hR1⟩
    obtain rfl := hR1.symm
    refine bg (fun w hs => ⟨trivial, (lh (v := .int .i64 x15) sc3 rfl rfl) w hs, trivial⟩) ?_
    refine tk rfl (PE.build (out := [.int .i64 ((k : Int) % x15), .int .i64 x31]) Z89 Z3c rfl rfl) rfl (alc rfl Z3c rfl (fun b10 => ?_))
    refine bg (fun w hs => ⟨(lh (v := .int .i64 x15) sc3 rfl rfl) w hs, trivial⟩) ?_
    refine sto rfl rfl rfl Z9o rfl rfl rfl rfl ?_
    refine bgT (Z0 (sqt 5 rfl (sp rfl (PE.fA ZP rfl) rfl (spL rfl rfl (lh sc3 rfl rfl) rfl (sp rfl (PE.fA ZE rfl) rfl (spL rfl rfl (lh sc3 rfl rfl) rfl (pur 1 rfl ?_)))))))
    refine Z36 (ι := {x : Int × Int // ((0 ≤ x.1 ∧ x.1 < x15) ∧ (0 ≤ x.2 ∧ x.2 < x15) ∧ x.1 ≠ x.2)}) (fun x => ⟨[(0, .pointer (some ⟨bk, 0, none⟩)), (6, .pointer (some ⟨b6, 0, none⟩)), (8, .pointer (some ⟨b8, 0, none⟩)), (10, .pointer (some ⟨b10, 0, none⟩)), (20, .int .i64 n20), (21, .int .i64 k)], (b10, cel 46 [.int .i64 (x.1.1), .int .i64 (x.1.2)]) :: (bk, cel 72 [.slice a0 l0.length c0, .int .i64 (tq2 + 1), .int .u32 (m31)]) :: (o.G ++ (b8, cel 26 (htl ⟨x15, l, []⟩ o.fs (.slice none 0 0))) :: (b6, cel 26 [.int .i64 0, .slice none 0 0, .slice none 0 0]) :: H), R⟩) ?_ ?_
    ·
     refine Z1 rfl ?_ ?_ <;> intro hc1 <;> try simp only [cS] at hc1
     ·
      have hr2 : 0 ≤ (x31 + 1) % x15 ∧ (x31 + 1) % x15 < x15 := ⟨Int.emod_nonneg _ (by omega), Int.emod_lt_of_pos _ (by omega)⟩
      have hne : (x31 + 1) % x15 ≠ x31 := by
        rcases Int.lt_or_le (x31 + 1) x15 with h9 | h9
        · rw [Int.emod_eq_of_lt (by omega) h9]; omega
        · rw [show x31 + 1 = x15 by omega, Int.emod_self]; omega
      refine sqr 8 rfl (sp rfl (PE.fA ZE rfl) rfl (spL rfl rfl (lh sc3 rfl rfl) rfl (sp rfl (PE.add rfl rfl (by omega)) rfl (sp rfl (PE.fA Z0f rfl) rfl (spL rfl rfl (lh (v := .int .i64 x15) sc3 rfl rfl) rfl (sp rfl (PE.rem rfl rfl (by omega)) rfl (sp rfl (PE.fA ZE rfl) rfl ?_)))))))
      refine Zu (l' := [.int .i64 ((k : Int) % x15), .int .i64 ((x31 + 1) % x15)]) rfl rfl rfl cn3 rfl rfl rfl rfl (nl rfl) ?_
      exact ZC ⟨((k : Int) % x15, (x31 + 1) % x15), ⟨hrm, hr2, by dsimp only; omega⟩⟩ (fun w h9 => h9.perm (by first | exact .refl _ | exact List.Perm.swap _ _ _))
     ·
      refine Z2 ?_
      exact ZC ⟨((k : Int) % x15, x31), ⟨hrm, by dsimp only; omega, by dsimp only; omega⟩⟩ (fun w h9 => h9.perm (by first | exact .refl _ | exact List.Perm.swap _ _ _))
    rintro ⟨⟨ga, gb⟩, hgo⟩
    dsimp only at hgo ⊢
    refine Z0 (sqt 2 rfl ?_)
    refine Zz bk ?_
    refine pur 1 rfl ?_
    refine cl rfl Zah rfl rfl (Z7Z l0 a0 c0 bk hgl _ _ (by omega) (by assumption) (2) _ _) ?_
    rintro _ _ R1 ⟨x46, m46, rfl, hm46, rfl, hR1⟩
    obtain rfl := hR1.symm
    refine Z36 (ι := {x : Int × Int // ((0 ≤ x.1 ∧ x.1 < x15) ∧ (0 ≤ x.2 ∧ x.2 < x15) ∧ x.1 ≠ x.2)}) (fun x => ⟨[(0, .pointer (some ⟨bk, 0, none⟩)), (6, .pointer (some ⟨b6, 0, none⟩)), (8, .pointer (some ⟨b8, 0, none⟩)), (10, .pointer (some ⟨b10, 0, none⟩)), (20, .int .i64 n20), (21, .int .i64 k)], (bk, cel 72 [.slice a0 l0.length c0, .int .i64 (tq2 + 1 + 1), .int .u32 (m46)]) :: (b10, cel 46 [.int .i64 (x.1.1), .int .i64 (x.1.2)]) :: (o.G ++ (b8, cel 26 (htl ⟨x15, l, []⟩ o.fs (.slice none 0 0))) :: (b6, cel 26 [.int .i64 0, .slice none 0 0, .slice none 0 0]) :: H), R⟩) ?_ ?_
    refine Z1 rfl ?_ ?_ <;> intro hc2
    refine sqr 8 rfl (sp rfl (PE.fA ZE rfl) rfl (spL rfl rfl (lh sc3 rfl rfl) rfl (sp rfl (PE.fA ZP rfl) rfl (spL rfl rfl (lh sc3 rfl rfl) rfl (sp rfl (PE.fA ZP rfl) rfl ?_)))))
    refine Zu (l' := [.int .i64 (gb), .int .i64 (gb)]) rfl rfl rfl cn3 rfl rfl rfl rfl (nl rfl) ?_
    refine sp rfl (PE.fA ZE rfl) rfl ?_
    refine Zu (l' := [.int .i64 (gb), .int .i64 (ga)]) rfl rfl rfl cn3 rfl rfl rfl rfl (nl rfl) ?_
    first | exact ZC ⟨(gb, ga), ⟨hgo.2.1, hgo.1, Ne.symm hgo.2.2⟩⟩ idH | exact ZC ⟨(ga, gb), hgo⟩ idH
    refine Z2 ?_
    first | exact ZC ⟨(gb, ga), ⟨hgo.2.1, hgo.1, Ne.symm hgo.2.2⟩⟩ idH | exact ZC ⟨(ga, gb), hgo⟩ idH
    rintro ⟨⟨ua, ub⟩, hgo2⟩
    dsimp only at hgo2 ⊢
    refine sqr 7 rfl (sp rfl (PE.fA Z07 rfl) rfl (spL rfl rfl (lh Z3g rfl rfl) rfl (spL rfl rfl (lhA [.int .i64 ua, .int .i64 ub] Z5L rfl rfl rfl) rfl ?_)))
    refine bsl (out := [_, _]) rfl Zcu Z3c rfl rfl rfl rfl rfl rfl (fun b56 => ?_)
    refine apO (o) rfl ZcE rfl rfl (Z03 (row := Z1z ⟨ua, ub⟩) rfl) rfl rfl ((by rw [ZB]; simp only [List.length_singleton]; omega)) rfl (fun o57 => ?_)
    refine sp rfl (PE.fA Z07 rfl) rfl ?_
    refine Zu (l' := htl ⟨x15, l ++ [⟨ua, ub⟩], []⟩ o57.fs (.slice none 0 0)) rfl rfl rfl ZdN rfl (by rw [o57.cells.1]; first | done | rfl) (by rw [o57.cells.1]; simp [o57.cells.2]) (by rw [o57.cells.1]; first | done | rfl) (by rw [o57.cells.1]; first | done | exact Nat.le_of_ble_eq_true rfl) ?_
    refine sqr 2 rfl (sp rfl (PE.add rfl rfl (by omega)) rfl (pur 1 rfl ?_))
    exact Z8 ⟨⟨(k + 1, l ++ [⟨ua, ub⟩], tq2 + 1 + 1, m46), by dsimp only; omega, ⟨by simp [hll], fun g hg => (List.mem_append.1 hg).elim (hlg g) (fun h9 => by rw [List.mem_singleton.1 h9]; exact hgo2)⟩, by dsimp only; omega, by assumption⟩, o57.cast (by simp [Zg])⟩ (fun w h9 => ((h9.del b56).del b10).perm (by first | exact .refl _ | exact (Zj _ [_] _).symm))
   refine ZH ?_ ?_
   ·
    refine alc rfl Z3c rfl (fun b10 => ?_)
    refine bg (fun w hs => ⟨(lh (v := .int .i64 x15) sc3 rfl rfl) w hs, (lh (v := .int .i64 x15) sc3 rfl rfl) w hs, trivial⟩) ?_
    refine Zz bk ?_
    refine cl rfl Z2S rfl rfl (Z0x l0 a0 c0 bk hgl _ _ (by omega) (by assumption) (x15) _ _) ?_
    rintro _ _ R1 ⟨x31, m31, hx31, rfl, hm31, rfl, hR1⟩
    obtain rfl := hR1.symm
    refine bg (fun w hs => ⟨trivial, (lh (v := .int .i64 x15) sc3 rfl rfl) w hs, trivial⟩) ?_
    refine tk rfl (PE.build (out := [.int .i64 ((k : Int) % x15), .int .i64 x31]) Z89 Z3c rfl rfl) rfl ?_
    refine sto rfl rfl rfl Z9o rfl rfl rfl rfl ?_
    refine bgT (Z0 (sqt 5 rfl (sp rfl (PE.fA ZP rfl) rfl (spL rfl rfl (lh sc3 rfl rfl) rfl (sp rfl (PE.fA ZE rfl) rfl (spL rfl rfl (lh sc3 rfl rfl) rfl (pur 1 rfl ?_)))))))
    refine Z36 (ι := {x : Int × Int // ((0 ≤ x.1 ∧ x.1 < x15) ∧ (0 ≤ x.2 ∧ x.2 < x15) ∧ x.1 ≠ x.2)}) (fun x => ⟨[(0, .pointer (some ⟨bk, 0, none⟩)), (6, .pointer (some ⟨b6, 0, none⟩)), (8, .pointer (some ⟨b8, 0, none⟩)), (10, .pointer (some ⟨b10, 0, none⟩)), (20, .int .i64 n20), (21, .int .i64 k)], (b10, cel 46 [.int .i64 (x.1.1), .int .i64 (x.1.2)]) :: (bk, cel 72 [.slice a0 l0.length c0, .int .i64 (tq2 + 1), .int .u32 (m31)]) :: (o.G ++ (b8, cel 26 (htl ⟨x15, l, []⟩ o.fs (.slice none 0 0))) :: (b6, cel 26 [.int .i64 0, .slice none 0 0, .slice none 0 0]) :: H), R⟩) ?_ ?_
    ·
     refine Z1 rfl ?_ ?_ <;> intro hc1 <;> try simp only [cS] at hc1
     ·
      have hr2 : 0 ≤ (x31 + 1) % x15 ∧ (x31 + 1) % x15 < x15 := ⟨Int.emod_nonneg _ (by omega), Int.emod_lt_of_pos _ (by omega)⟩
      have hne : (x31 + 1) % x15 ≠ x31 := by
        rcases Int.lt_or_le (x31 + 1) x15 with h9 | h9
        · rw [Int.emod_eq_of_lt (by omega) h9]; omega
        · rw [show x31 + 1 = x15 by omega, Int.emod_self]; omega
      refine sqr 8 rfl (sp rfl (PE.fA ZE rfl) rfl (spL rfl rfl (lh sc3 rfl rfl) rfl (sp rfl (PE.add rfl rfl (by omega)) rfl (sp rfl (PE.fA Z0f rfl) rfl (spL rfl rfl (lh (v := .int .i64 x15) sc3 rfl rfl) rfl (sp rfl (PE.rem rfl rfl (by omega)) rfl (sp rfl (PE.fA ZE rfl) rfl ?_)))))))
      refine Zu (l' := [.int .i64 ((k : Int) % x15), .int .i64 ((x31 + 1) % x15)]) rfl rfl rfl cn3 rfl rfl rfl rfl (nl rfl) ?_
      exact ZC ⟨((k : Int) % x15, (x31 + 1) % x15), ⟨hrm, hr2, by dsimp only; omega⟩⟩ (fun w h9 => h9.perm (by first | exact .refl _ | exact List.Perm.swap _ _ _))
     ·
      refine Z2 ?_
      exact ZC ⟨((k : Int) % x15, x31), ⟨hrm, by dsimp only; omega, by dsimp only; omega⟩⟩ (fun w h9 => h9.perm (by first | exact .refl _ | exact List.Perm.swap _ _ _))
    rintro ⟨⟨ga, gb⟩, hgo⟩
    dsimp only at hgo ⊢
    refine Z0 (sqt 2 rfl ?_)
    refine Zz bk ?_
    refine pur 1 rfl ?_
    refine cl rfl Zah rfl rfl (Z7Z l0 a0 c0 bk hgl _ _ (by omega) (by assumption) (2) _ _) ?_
    rintro _ _ R1 ⟨x46, m46, rfl, hm46, rfl, hR1⟩
    obtain rfl := hR1.symm
    refine Z36 (ι := {x : Int × Int // ((0 ≤ x.1 ∧ x.1 < x15) ∧ (0 ≤ x.2 ∧ x.2 < x15) ∧ x.1 ≠ x.2)}) (fun x => ⟨[(0, .pointer (some ⟨bk, 0, none⟩)), (6, .pointer (some ⟨b6, 0, none⟩)), (8, .pointer (some ⟨b8, 0, none⟩)), (10, .pointer (some ⟨b10, 0, none⟩)), (20, .int .i64 n20), (21, .int .i64 k)], (bk, cel 72 [.slice a0 l0.length c0, .int .i64 (tq2 + 1 + 1), .int .u32 (m46)]) :: (b10, cel 46 [.int .i64 (x.1.1), .int .i64 (x.1.2)]) :: (o.G ++ (b8, cel 26 (htl ⟨x15, l, []⟩ o.fs (.slice none 0 0))) :: (b6, cel 26 [.int .i64 0, .slice none 0 0, .slice none 0 0]) :: H), R⟩) ?_ ?_
    refine Z1 rfl ?_ ?_ <;> intro hc2
    refine sqr 8 rfl (sp rfl (PE.fA ZE rfl) rfl (spL rfl rfl (lh sc3 rfl rfl) rfl (sp rfl (PE.fA ZP rfl) rfl (spL rfl rfl (lh sc3 rfl rfl) rfl (sp rfl (PE.fA ZP rfl) rfl ?_)))))
    refine Zu (l' := [.int .i64 (gb), .int .i64 (gb)]) rfl rfl rfl cn3 rfl rfl rfl rfl (nl rfl) ?_
    refine sp rfl (PE.fA ZE rfl) rfl ?_
    refine Zu (l' := [.int .i64 (gb), .int .i64 (ga)]) rfl rfl rfl cn3 rfl rfl rfl rfl (nl rfl) ?_
    first | exact ZC ⟨(gb, ga), ⟨hgo.2.1, hgo.1, Ne.symm hgo.2.2⟩⟩ idH | exact ZC ⟨(ga, gb), hgo⟩ idH
    refine Z2 ?_
    first | exact ZC ⟨(gb, ga), ⟨hgo.2.1, hgo.1, Ne.symm hgo.2.2⟩⟩ idH | exact ZC ⟨(ga, gb), hgo⟩ idH
    rintro ⟨⟨ua, ub⟩, hgo2⟩
    dsimp only at hgo2 ⊢
    refine sqr 7 rfl (sp rfl (PE.fA Z07 rfl) rfl (spL rfl rfl (lh Z3g rfl rfl) rfl (spL rfl rfl (lhA [.int .i64 ua, .int .i64 ub] Z5L rfl rfl rfl) rfl ?_)))
    refine bsl (out := [_, _]) rfl Zcu Z3c rfl rfl rfl rfl rfl rfl (fun b56 => ?_)
    refine apO (o) rfl ZcE rfl rfl (Z03 (row := Z1z ⟨ua, ub⟩) rfl) rfl rfl ((by rw [ZB]; simp only [List.length_singleton]; omega)) rfl (fun o57 => ?_)
    refine sp rfl (PE.fA Z07 rfl) rfl ?_
    refine Zu (l' := htl ⟨x15, l ++ [⟨ua, ub⟩], []⟩ o57.fs (.slice none 0 0)) rfl rfl rfl ZdN rfl (by rw [o57.cells.1]; first | done | rfl) (by rw [o57.cells.1]; simp [o57.cells.2]) (by rw [o57.cells.1]; first | done | rfl) (by rw [o57.cells.1]; first | done | exact Nat.le_of_ble_eq_true rfl) ?_
    refine sqr 2 rfl (sp rfl (PE.add rfl rfl (by omega)) rfl (pur 1 rfl ?_))
    exact Z8 ⟨⟨(k + 1, l ++ [⟨ua, ub⟩], tq2 + 1 + 1, m46), by dsimp only; omega, ⟨by simp [hll], fun g hg => (List.mem_append.1 hg).elim (hlg g) (fun h9 => by rw [List.mem_singleton.1 h9]; exact hgo2)⟩, by dsimp only; omega, by assumption⟩, o57.cast (by simp [Zg])⟩ (fun w h9 => ((h9.del b56).del b10).perm (by first | exact .refl _ | exact (Zj _ [_] _).symm))
   exact Z0j
  obtain rfl : k = n20 := by omega
  obtain ⟨ag, cg, he, hcg, hf⟩ := o.freezeC
  rw [ZB] at hcg
  rw [he, ZB]
  refine Zz bk ?_
  refine Sy.heap (H' := _) (fun w h9 => hf (h9.perm (List.perm_middle (l₁ := o.G) (a := _)).symm)) ?_
  clear he hf
  obtain ⟨B, rfl⟩ : ∃ B : Nat, x15 = B := ⟨x15.toNat, by omega⟩
  refine Z9 (Za (Za (Zm (sqt 1 rfl (pur 1 rfl (Z0 (sqt 3 rfl (sp rfl (PE.fA Z0f rfl) rfl (spL rfl rfl (lh sc3 rfl rfl) rfl (pur 1 rfl (Z4 ?_)))))))))))
  refine Zf (ι := (x : {x : Nat × (Nat → Bool) × Int × Int // x.1 ≤ B ∧ (tq ≤ x.2.2.1 ∧ x.2.2.1 ≤ tq + 40 + x.1) ∧ (0 ≤ x.2.2.2 ∧ x.2.2.2 ≤ 4294967295)}) × OSl 3 1 (Z6 (Z0M x.1.2.1 x.1.1))) (fun x => ⟨[(0, .pointer (some ⟨bk, 0, none⟩)), (6, .pointer (some ⟨b6, 0, none⟩)), (8, .pointer (some ⟨b8, 0, none⟩)), (11, x.2.fs), (61, .int .i64 B), (62, .int .i64 x.1.1.1)],
    (bk, cel 72 [.slice a0 l0.length c0, .int .i64 (x.1.1.2.2.1), .int .u32 (x.1.1.2.2.2)]) :: (x.2.G ++ (b8, cel 26 (htl ⟨B, l, []⟩ (.slice ag l.length cg) (.slice none 0 0))) :: (b6, cel 26 [.int .i64 0, .slice none 0 0, .slice none 0 0]) :: H), RowsA ag 2 (Zg l) :: R⟩) (fun x => B - x.1.1.1) ⟨⟨(0, fun _ => false, tq2, mx2), by omega, by dsimp only; omega, by assumption⟩, OSl.nil _ _⟩ ?_ (fun x => ?_)
  exact Zn idH
  obtain ⟨⟨⟨i, p, tq3, mx3⟩, hi, htq3, hmx3⟩, o2⟩ := x
  dsimp only at hi htq3 hmx3 o2 ⊢
  have hfl := Z0Z p i
  refine sqt 1 rfl (pur 1 rfl (Z0 ?_))
  refine Z1 rfl ?_ ?_ <;> intro hc3 <;> try simp only [cS] at hc3
  refine Z2 (Z0 (Z4 (sqt 2 rfl (pur 2 rfl (sqt 2 rfl ?_)))))
  refine Zz bk ?_
  refine pur 1 rfl ?_
  refine cl rfl Zah rfl rfl (Z7Z l0 a0 c0 bk hgl _ _ (by omega) (by assumption) (3) _ _) ?_
  rintro _ _ R1 ⟨x66, m66, rfl, hm66, rfl, hR1⟩
  obtain rfl := hR1.symm
  refine Z1 rfl ?_ ?_ <;> intro hc4 <;> try simp only [cS] at hc4
  refine sqr 5 rfl (pur 2 rfl ?_)
  refine bsl (out := [_]) rfl Z18 zl3 rfl rfl rfl rfl rfl rfl (fun b69 => ?_)
  refine apO (o2) rfl Z45 rfl rfl (Z03 (row := [.int .i64 i]) rfl) rfl rfl ((by rw [irl]; simp only [List.length_singleton]; omega)) rfl (fun o70 => ?_)
  refine pur 1 rfl (sqr 2 rfl (sp rfl (PE.add rfl rfl (by omega)) rfl (pur 1 rfl ?_)))
  have hput := Z65 p i true
  exact Z8 ⟨⟨(i + 1, fun j => bif decide (j = i) then true else p j, tq3 + 1, m66), by dsimp only; omega, by dsimp only; omega, by assumption⟩, o70.cast (by rw [hput]; simp [Z6])⟩ (fun w h9 => (h9.del b69).perm (by first | exact .refl _ | exact (Zj _ [_] _).symm))
  refine Z2 (sqr 2 rfl (sp rfl (PE.add rfl rfl (by omega)) rfl (pur 1 rfl ?_)))
  have hput := Z65 p i false
  exact Z8 ⟨⟨(i + 1, fun j => bif decide (j = i) then false else p j, tq3 + 1, m66), by dsimp only; omega, by dsimp only; omega, by assumption⟩, o2.cast (by rw [hput]; simp [Z6])⟩ idH
  obtain rfl : i = B := by omega
  obtain ⟨ar, cr, he, hcr, hf⟩ := o2.freezeC
  rw [irl] at hcr
  rw [he, irl]
  refine Zz bk ?_
  refine Sy.heap (H' := _) (fun w h9 => hf (h9.perm (List.perm_middle (l₁ := o2.G) (a := _)).symm)) ?_
  clear he hf
  refine Z9 (Za (Za (Zm (sqt 4 rfl (spL rfl rfl (lhA (htl ⟨(i : Int), l, []⟩ (.slice ag l.length cg) (.slice none 0 0)) ZF rfl rfl rfl) rfl (pur 1 rfl ?_))))))
  refine Zu (l' := htl ⟨(i : Int), l, []⟩ (.slice ag l.length cg) (.slice none 0 0)) rfl rfl rfl Z1u rfl rfl rfl rfl (Nat.le_refl _) ?_
  refine pur 1 rfl (Z3 ?_)
  exact Zb (vs := [_, _]) rfl (.cons (RV.cell rfl (lhA [_, _, _] ZF rfl rfl rfl)) (.cons (RV.tmp rfl) .nil)) rfl ⟨⟨(i : Int), l, []⟩, p, ag, ar, cg, cr, tq3, mx3, ⟨by dsimp only; omega, by dsimp only; omega, hlg, rfl⟩, hcg, hcr, rfl, by omega, by assumption, rfl, rfl⟩ (fun w h9 => St.norows ((h9.del b8).del b6))
theorem ZdP : Z4K Try.prog 93 = some 2 := by kernel_rfl
theorem Zb2 : arN Try.prog 93 = some (2, 1) := by kernel_rfl
theorem Ze5 : Z0t Try.prog 93 = some 2 := by kernel_rfl
theorem ZdW : elN Try.prog 94 = some 2 := by kernel_rfl
theorem ZcS : Z5z Try.prog 94 = true := by kernel_rfl
theorem Ze6 : slE Try.prog 94 = some (93, 2) := by kernel_rfl
theorem Zct : ZR Try.prog 93 = some ([.int .i64 0, .int .i64 0]) := by kernel_rfl
theorem FnV.lendO {P : Program} {f : FuncId} {v : Value} {e sz : Nat} {rows : List (List Value)} (o : OSl e sz rows) (mk : Value → List Value) {T : Z7} {R : Z5}
    (h : ∀ (a : Option Addr) (c : Nat) (B : World → Prop), FnV P f (mk (.slice a rows.length c)) T (RowsA a sz rows :: B :: R) v) : FnV P f (mk o.fs) (o.G ++ T) R v := fun w hw => by
  obtain ⟨fs, G, hl, his⟩ := o
  rcases his with ⟨rfl, rfl, rfl⟩ | ⟨b, cap, junk, rfl, rfl, h1, h2, h3⟩
  · have h3 : St T (RowsA none sz [] :: (fun _ => True) :: R) w := St.also (St.also hw (f := fun _ => True) (fun _ _ => trivial)) (fun w' _ i row hi => by simp at hi)
    refine CallsIn.mono (h none 0 _ w h3) ?_
    rintro e' w' ⟨u, H', R', ⟨rfl, rfl, rfl⟩, he, hs'⟩
    exact ⟨_, _, R, ⟨rfl, rfl, rfl⟩, he, hs'.ftail.ftail⟩
  · exact FnV.lend (H := (b, cel e (rows.flatten ++ junk)) :: T) (b := b) (e := e) (sz := sz) (rows := rows) (junk := junk) hl (fun B => h _ cap B) w hw
set_option maxHeartbeats 1000000 in
theorem Z5S (h : Hse) (ag as_ : Option Addr) (cg cs : Nat) (hok : h.ok) (fr : List Int) (af : Option Addr) (cf : Nat) (hfl0 : fr.length ≤ 1000000) (hfr : ∀ x ∈ fr, 0 ≤ x) (pl : List PL) (ap : Option Addr) (cp : Nat) (hpl : pl.length ≤ 1000000) (hpt : (lls pl).flatten.length ≤ 1000000) (hpx : ∀ x ∈ (lls pl).flatten, 0 ≤ x) (H : Z7) (R : Z5) [hG : MemRows ag 2 (Zg h.gaps) R] [hF : MemRows af 1 (Z6 fr) R] [hP : MemRows ap 1 (ZG pl) R] [hI : MemF (Inn pl) R] :
    Fn Try.prog 19 [h.v (h.sg ag cg) (h.ss as_ cs), .slice af fr.length cf, .slice ap pl.length cp] H R (fun v H' R' => ∃ (a : Option Addr) (c : Nat), v = .slice a h.bins.toNat c ∧ H' = H ∧ R' = RowsA a 1 (Z6 (Z2g h.gaps (clP pl) (msk fr) h.bins.toNat)) :: R) := by
 refine Zh Try.func19 rfl Try.ntmps19 rfl ?_
 refine sqt 2 rfl ?_
 have hbn := hok.bins
 have hgn := hok.gl
 obtain ⟨B, hB⟩ : ∃ B : Nat, h.bins = B := ⟨h.bins.toNat, by omega⟩
 rw [show h.bins.toNat = B by omega]
 refine bx rfl rfl rfl (fun b3 => pur 1 rfl (sqt 4 rfl (sp rfl (PE.fA Z0f rfl) rfl (spL rfl rfl (lh (v := .int .i64 h.bins) sc3 rfl rfl) rfl ?_))))
 rw [hB]
 refine mkS rfl Z45 zl3 rfl rfl (Nat.le_refl _) ⟨by omega, by omega⟩ rfl (fun b17 => ?_)
 rw [Zde, Z93 (in0 fr)]
 refine pur 1 rfl (Z0 (sqt 3 rfl (pur 1 rfl (sp rfl (PE.lenSl ZK rfl) rfl (pur 1 rfl (Z4 ?_))))))
 refine Zf (ι := {k : Nat // k ≤ B}) (fun x => ⟨[(0, h.v (h.sg ag cg) (h.ss as_ cs)), (1, .slice af fr.length cf), (2, .slice ap pl.length cp), (3, .pointer (some ⟨b3, 0, none⟩)), (7, .slice (some ⟨b17, 0, none⟩) B B), (19, .int .i64 B), (20, .int .i64 x.1)], (b17, cel 3 (Zo (ini (in0 fr) B x.1))) :: (b3, cel 26 (htl h (h.sg ag cg) (h.ss as_ cs))) :: H, R⟩) (fun x => B - x.1) ⟨0, by omega⟩ ?_ (fun x => ?_)
 exact Zn idH
 obtain ⟨k, hk⟩ := x
 dsimp only at hk ⊢
 refine sqt 1 rfl (pur 1 rfl (Z0 ?_))
 refine Z1 rfl ?_ ?_ <;> intro hc0 <;> try simp only [cS] at hc0
 refine Z2 (Z0 (Z4 (sqt 2 rfl (pur 2 rfl (sqt 4 rfl (pur 2 rfl (sp rfl (PE.indexAddr Z1C rfl rfl (by omega) (by omega)) rfl ?_)))))))
 refine Zu (l' := Zo ((ini (in0 fr) B k).set k 100)) rfl rfl rfl cn3 rfl rfl rfl (Z1g (by rw [ZQ]; omega) (by show 0 + ((k : Nat) : Int).toNat * 1 = k; omega)) (by rw [Zk]; (first | rw [ZQ] | rw [List.length_set, ZQ] | rw [hfl]); show 0 + ((k : Nat) : Int).toNat * 1 + 1 ≤ _; omega) ?_
 refine sqt 3 rfl (pur 2 rfl ?_)
 refine clV rfl Z3Q rfl rfl (Zs fr af cf (k : Int) (by omega) _ _) ?_
 refine Z1 rfl ?_ ?_ <;> intro hc1 <;> try simp only [cS] at hc1
 refine sqr 4 rfl (pur 2 rfl (sp rfl (PE.indexAddr Z1C rfl rfl (by omega) (by omega)) rfl ?_))
 refine Zu (l' := Zo (((ini (in0 fr) B k).set k 100).set k 0)) rfl rfl rfl cn3 rfl rfl rfl (Z1g (by rw [List.length_set, ZQ]; omega) (by show 0 + ((k : Nat) : Int).toNat * 1 = k; omega)) (by rw [Zk]; (first | rw [ZQ] | rw [List.length_set, ZQ] | rw [hfl]); show 0 + ((k : Nat) : Int).toNat * 1 + 1 ≤ _; omega) ?_
 refine sqr 2 rfl (sp rfl (PE.add rfl rfl (by omega)) rfl (pur 1 rfl ?_))
 rw [Z5x, Z86 (k := k) (by omega) (by unfold in0; rw [show Z2F fr (k : Int) = _ from hc1]; rfl)]
 exact Z8 ⟨k + 1, by omega⟩ idH
 refine Z2 (sqr 2 rfl (sp rfl (PE.add rfl rfl (by omega)) rfl (pur 1 rfl ?_)))
 rw [Z86 (k := k) (by omega) (by unfold in0; rw [show Z2F fr (k : Int) = _ from hc1]; rfl)]
 exact Z8 ⟨k + 1, by omega⟩ idH
 obtain rfl : k = B := by omega
 have hst := FolI.start (gs := h.gaps) (cl := (clP pl)) hfr k
 refine Z9 (Za (Za (Zm (sqt 1 rfl (pur 1 rfl (Z0 (sqt 1 rfl (pur 1 rfl (Z4 ?_)))))))))
 refine Zf (ι := (x : {x : Nat × List Int // x.1 ≤ 20 ∧ FolI h.gaps (clP pl) (msk fr) k x.1 (Z2u h.gaps ((clP pl) x.1) (lvp h.gaps (clP pl) (msk fr) x.1) 0) x.2}) × OSl 3 1 (Z6 (Z3u pl x.1.1))) (fun x => ⟨[(0, h.v (h.sg ag cg) (h.ss as_ cs)), (1, .slice af fr.length cf), (2, .slice ap pl.length cp), (3, .pointer (some ⟨b3, 0, none⟩)), (7, .slice (some ⟨b17, 0, none⟩) k k), (9, x.2.fs), (33, .int .i64 x.1.1.1)], x.2.G ++ ((b17, cel 3 (Zo (x.1.1.2))) :: (b3, cel 26 (htl h (h.sg ag cg) (h.ss as_ cs))) :: H), R⟩) (fun x => 20 - x.1.1.1) ⟨⟨(0, ini (in0 fr) k k), by omega, hst⟩, OSl.nil _ _⟩ ?_ (fun x => ?_)
 exact Zn idH
 obtain ⟨⟨⟨w, o⟩, hw, hfo⟩, oc⟩ := x
 dsimp only at hw hfo oc ⊢
 have hcl := Z26 pl w
 have hcl2 := Z26 pl (w + 1)
 refine sqt 1 rfl (pur 1 rfl (Z0 ?_))
 refine Z1 rfl ?_ ?_ <;> intro hc2 <;> try simp only [cS] at hc2
 refine Z2 (Z0 (Z4 (sqt 2 rfl (pur 2 rfl (Z0 (sqt 4 rfl (pur 2 rfl (sp rfl (PE.lenSl Z6l rfl) rfl (pur 1 rfl ?_)))))))))
 refine Z36 (ι := OSl 3 1 (Z6 (Z3u pl (w + 1)))) (fun oc => ⟨[(0, h.v (h.sg ag cg) (h.ss as_ cs)), (1, .slice af fr.length cf), (2, .slice ap pl.length cp), (3, .pointer (some ⟨b3, 0, none⟩)), (7, .slice (some ⟨b17, 0, none⟩) k k), (9, oc.fs), (10, .int .i64 w), (33, .int .i64 w)], oc.G ++ ((b17, cel 3 (Zo (o))) :: (b3, cel 26 (htl h (h.sg ag cg) (h.ss as_ cs))) :: H), R⟩) ?_ ?_
 refine Z1 rfl ?_ ?_ <;> intro hc3 <;> try simp only [cS] at hc3
 obtain ⟨x, hx⟩ : ∃ x, pl[w]? = some x := ⟨_, List.getElem?_eq_getElem (by omega)⟩
 have hst := Z2R hx
 have hsl := congrArg List.length hst
 rw [List.length_append] at hsl
 refine Zl (a := ap) (sz := 1) (rows := ZG pl) (ne0 (by rw [Z0n]; omega)) (fun ba oa he => ?_)
 subst he
 refine Sy.heap (fun w h9 => St.inn (x := x) h9 (List.mem_of_getElem? hx)) ?_
 refine sqr 7 rfl (pur 3 rfl (sp rfl (PE.indexAddr Zc6 rfl rfl (by omega) (by omega)) rfl (spL rfl rfl (lf0 Z3a (Z7v hx) rfl) rfl ?_)))
 refine apO (news := Z6 x.l) oc rfl Z45 rfl rfl (Z8J) (irl _) (by simp [Z0a, Z6, Value.oneCell']) (by rw [irl, irl]; omega) rfl (fun o45 => ?_)
 refine pur 1 rfl ?_
 first | exact ZC (o45.cast (by rw [hst]; simp [Z6])) (fun w h9 => h9.ftail) | exact ZC (oc.cast (by rw [Z5t (by omega)])) idH
 refine Z2 ?_
 first | exact ZC (o45.cast (by rw [hst]; simp [Z6])) (fun w h9 => h9.ftail) | exact ZC (oc.cast (by rw [Z5t (by omega)])) idH
 intro oc
 dsimp only
 refine sqt 4 rfl (sp rfl (PE.fA Z07 rfl) rfl (spL rfl rfl (lh Z3g rfl rfl) rfl (sp rfl (PE.lenSl Z4f rfl) rfl (pur 1 rfl (Z4 ?_)))))
 refine Zf (ι := {x : Nat × List Int // x.1 ≤ h.gaps.length ∧ FolI h.gaps (clP pl) (msk fr) k w (Z2u h.gaps ((clP pl) w) (lvp h.gaps (clP pl) (msk fr) w) (x.1)) x.2}) (fun x => ⟨[(0, h.v (h.sg ag cg) (h.ss as_ cs)), (1, .slice af fr.length cf), (2, .slice ap pl.length cp), (3, .pointer (some ⟨b3, 0, none⟩)), (7, .slice (some ⟨b17, 0, none⟩) k k), (9, oc.fs), (10, .int .i64 w), (33, .int .i64 w), (47, h.sg ag cg), (48, .int .i64 h.gaps.length), (49, .int .i64 x.1.1)], oc.G ++ ((b17, cel 3 (Zo (x.1.2))) :: (b3, cel 26 (htl h (h.sg ag cg) (h.ss as_ cs))) :: H), R⟩) (fun x => h.gaps.length - x.1.1) ⟨(0, o), by omega, hfo⟩ ?_ (fun x => ?_)
 exact Zn idH
 obtain ⟨⟨i, o⟩, hi, hfo⟩ := x
 dsimp only at hi hfo ⊢
 refine sqt 1 rfl (pur 1 rfl (Z0 ?_))
 refine Z1 rfl ?_ ?_ <;> intro hc4 <;> try simp only [cS] at hc4
 obtain ⟨gg, hg⟩ : ∃ g, h.gaps[i]? = some g := ⟨_, List.getElem?_eq_getElem (by omega)⟩
 have hgo := hok.gaps gg (List.mem_of_getElem? hg)
 refine Zl (a := ag) (sz := 2) (rows := Zg h.gaps) (ne0 (by rw [ZB]; omega)) (fun ba oa he => ?_)
 subst he
 refine Z2 (Z0 (Z4 (sqt 6 rfl (pur 1 rfl (sp rfl (PE.indexAddr Z8a rfl rfl (by omega) (by omega)) rfl (spL rfl rfl (lfA Z5L (row := Z1z gg) (Z1E hg) rfl) rfl (alc rfl Z3c rfl (fun b12 => pur 1 rfl ?_))))))))
 refine Zu (l' := Z1z gg) rfl rfl rfl Z9o rfl rfl rfl rfl (nl rfl) ?_
 refine Z0 (sqt 3 rfl (pur 2 rfl ?_))
 refine Sy.heap (H' := oc.G ++ ((b12, cel 46 (Z1z gg)) :: _)) (fun w h9 => h9.perm (Zj [_] _ _)) ?_
 refine clV rfl Z3Q rfl rfl (FnV.lendO oc (fun v => [v, .int .i64 i]) (fun a5 c5 _ => by rw [irl]; exact Zs (Z3u pl (w + 1)) a5 c5 (i : Int) (by omega) _ _)) ?_
 refine Z1 rfl ?_ ?_ <;> intro hc5 <;> try simp only [cS] at hc5
 have hcb : (clP pl w).testBit i = true := by unfold clP; rw [← Z5f (fun x hx => hpx x (Z5w hx))]; exact hc5
 refine Z9 (Za (Zm (sqr 2 rfl (sp rfl (PE.add rfl rfl (by omega)) rfl (pur 1 rfl ?_)))))
 exact Z8 ⟨(i + 1, o), by dsimp only; omega, hfo.shut hcb⟩ (fun w h9 => h9.del b12)
 have hcb : (clP pl w).testBit i = false := by unfold clP; rw [← Z5f (fun x hx => hpx x (Z5w hx))]; exact hc5
 refine Z2 (sqt 13 rfl (sp rfl (PE.fA ZP rfl) rfl (spL rfl rfl (lh sc3 rfl rfl) rfl (sp rfl (PE.fA ZE rfl) rfl (spL rfl rfl (lh sc3 rfl rfl) rfl (sp rfl (PE.buildArr (out := [_, _]) Zb2 Zct rfl rfl) rfl (sp rfl (PE.fA ZE rfl) rfl (spL rfl rfl (lh sc3 rfl rfl) rfl (sp rfl (PE.fA ZP rfl) rfl (spL rfl rfl (lh sc3 rfl rfl) rfl (sp rfl (PE.buildArr (out := [_, _]) Zb2 Zct rfl rfl) rfl ?_)))))))))))
 refine bsl (out := [_, _, _, _]) rfl Ze6 Zct rfl rfl rfl rfl rfl rfl (fun b67 => ?_)
 refine sp rfl (PE.lenSl ZcS rfl) rfl (pur 1 rfl (Z4 ?_))
 refine Zf (ι := {x : Nat × List Int // x.1 ≤ 2 ∧ FolI h.gaps (clP pl) (msk fr) k w (Zdf (lvp h.gaps (clP pl) (msk fr) w) (Z2u h.gaps ((clP pl) w) (lvp h.gaps (clP pl) (msk fr) w) (i)) gg x.1) x.2}) (fun x => ⟨[(0, h.v (h.sg (some ⟨ba, oa, none⟩) cg) (h.ss as_ cs)), (1, .slice af fr.length cf), (2, .slice ap pl.length cp), (3, .pointer (some ⟨b3, 0, none⟩)), (7, .slice (some ⟨b17, 0, none⟩) k k), (9, oc.fs), (10, .int .i64 w), (33, .int .i64 w), (47, h.sg (some ⟨ba, oa, none⟩) cg), (48, .int .i64 h.gaps.length), (49, .int .i64 i), (67, .slice (some ⟨b67, 0, none⟩) 2 2), (68, .int .i64 2), (69, .int .i64 x.1.1)], (b67, cel 93 (ZdO gg)) :: (oc.G ++ ((b12, cel 46 (Z1z gg)) :: (b17, cel 3 (Zo (x.1.2))) :: (b3, cel 26 (htl h (h.sg (some ⟨ba, oa, none⟩) cg) (h.ss as_ cs))) :: H)), R⟩) (fun x => 2 - x.1.1) ⟨(0, o), by omega, hfo⟩ ?_ (fun x => ?_)
 exact Zn idH
 obtain ⟨⟨j, o⟩, hj, hfo⟩ := x
 dsimp only at hj hfo ⊢
 have hfl := hfo.len
 refine sqt 1 rfl (pur 1 rfl (Z0 ?_))
 refine Z1 rfl ?_ ?_ <;> intro hc6 <;> try simp only [cS] at hc6
 obtain ⟨u, v, rest, hu, hv, hdr, hacc⟩ := Zas (s := (lvp h.gaps (clP pl) (msk fr) w)) (acc := (Z2u h.gaps ((clP pl) w) (lvp h.gaps (clP pl) (msk fr) w) (i))) (n := k) (show 0 ≤ gg.a ∧ gg.a < (k : Int) by omega) (show 0 ≤ gg.b ∧ gg.b < (k : Int) by omega) (show j < 2 by omega)
 have hbu := hfo.bd (by omega) hu
 have hbv := hfo.bd (by omega) hv
 refine Z2 (Z0 (Z4 (sqt 4 rfl (sp rfl (PE.indexAddr ZdW rfl rfl (by omega) (by omega)) rfl (spL rfl rfl (lhA [.int .i64 (u : Int), .int .i64 (v : Int)] ZdP rfl (rest := rest) (by rw [← hdr]; congr 1; show 0 + ((j : Nat) : Int).toNat * 2 = j * 2; omega) rfl) rfl (alc rfl Zct rfl (fun b14 => ?_)))))))
 refine Zu (l' := [.int .i64 (u : Int), .int .i64 (v : Int)]) rfl rfl rfl Ze5 rfl rfl rfl rfl (nl rfl) ?_
 refine sqt 16 rfl (pur 1 rfl (sp rfl (PE.indexArr Zb2 rfl rfl (by omega) (by omega)) rfl (spL rfl rfl (lh sc3 rfl rfl) rfl (sp rfl (PE.indexAddr Z1C rfl rfl (by omega) (by omega)) rfl (spL rfl rfl (lh sc3 rfl (Z0B (w := o) (k := u) (by omega) (by show 0 + ((u : Nat) : Int).toNat * 1 = u; omega))) rfl (pur 3 rfl ?_))))))
 refine ZA 80 rfl ?_ ?_ <;> intro g80
 simp only [decide_eq_true_eq] at g80
 refine pur 1 rfl ?_
 refine spG rfl rfl rfl rfl (PE.indexArr Zb2 rfl rfl (by omega) (by omega)) rfl ?_
 refine Z2A rfl rfl rfl rfl rfl (lh sc3 rfl rfl) rfl ?_
 refine spG rfl rfl rfl rfl (PE.indexAddr Z1C rfl rfl (by omega) (by omega)) rfl ?_
 refine Z2A rfl rfl rfl rfl rfl (lh sc3 rfl (Z0B (w := o) (k := v) (by omega) (by show 0 + ((v : Nat) : Int).toNat * 1 = v; omega))) rfl (pur 3 rfl ?_)
 refine Z1 rfl ?_ ?_ <;> intro hc7 <;> try simp only [cS] at hc7
 refine Ze [0, 0, 2, 0, 0, 16, 56, 120, 0, 256, 1016, 2047, 4095] (.tk 0 (.tk 1 (.ld 2 (.tk 3 (.tk 4 (.ld 5 (.tk 6 (.ld 7 (tks 8 4 (.big 12 .done)))))))))) Zw (by kernel_rfl) ?_
 refine Zq 1 rfl (tk rfl (PE.indexArr Zb2 rfl rfl (by omega) (by omega)) rfl (ld rfl rfl (lh sc3 rfl rfl) rfl (Zq 1 rfl (tk rfl (PE.indexArr Zb2 rfl rfl (by omega) (by omega)) rfl (ld rfl rfl (lh sc3 rfl rfl) rfl (tk rfl (PE.indexAddr Z1C rfl rfl (by omega) (by omega)) rfl (ld rfl rfl (lh sc3 rfl (Z0B (w := o) (k := v) (by omega) (by show 0 + ((v : Nat) : Int).toNat * 1 = v; omega))) rfl (Zq 1 rfl (tk rfl (PE.add rfl rfl (by omega)) rfl (tk rfl (PE.min rfl rfl) rfl (tk rfl (PE.indexAddr Z1C rfl rfl (by omega) (by omega)) rfl ?_)))))))))))
 refine Zu (l' := Zo (o.set v (min (na o v) ((w : Int) + 1)))) rfl rfl rfl cn3 rfl rfl rfl (Z1g (by omega) (by show 0 + ((v : Nat) : Int).toNat * 1 = v; omega)) (by rw [Zk]; (first | rw [ZQ] | rw [List.length_set, ZQ] | rw [hfl]); show 0 + ((v : Nat) : Int).toNat * 1 + 1 ≤ _; omega) ?_
 refine bgT (sqr 2 rfl (sp rfl (PE.add rfl rfl (by omega)) rfl (pur 1 rfl ?_)))
 exact Z8 ⟨(j + 1, o.set v (min (na o v) ((w : Int) + 1))), by dsimp only; omega, by dsimp only; rw [hacc]; exact hfo.way (by omega) hu hv (by omega) (by omega)⟩ (fun w h9 => h9.del b14)
 refine Z2 (sqr 2 rfl (sp rfl (PE.add rfl rfl (by omega)) rfl (pur 1 rfl ?_)))
 exact Z8 ⟨(j + 1, o), by dsimp only; omega, by dsimp only; rw [hacc]; exact hfo.same (by omega) hu hv (fun h9 => by omega)⟩ (fun w h9 => h9.del b14)
 simp only [decide_eq_false_iff_not] at g80
 refine pur 8 rfl ?_
 refine ZW rfl ?_
 refine Z2 (sqr 2 rfl (sp rfl (PE.add rfl rfl (by omega)) rfl (pur 1 rfl ?_)))
 exact Z8 ⟨(j + 1, o), by dsimp only; omega, by dsimp only; rw [hacc]; exact hfo.same (by omega) hu hv (fun h9 => by omega)⟩ (fun w h9 => h9.del b14)
 obtain rfl : j = 2 := by omega
 refine Z9 (Za (Za (Zm (sqr 2 rfl (sp rfl (PE.add rfl rfl (by omega)) rfl (pur 1 rfl ?_))))))
 exact Z8 ⟨(i + 1, o), by dsimp only; omega, hfo.gap hg hcb⟩ (fun w h9 => (h9.del b67).del b12)
 obtain rfl : i = h.gaps.length := by omega
 have hwk := hfo.week
 refine Z9 (Za (Za (Zm (sqr 2 rfl (sp rfl (PE.add rfl rfl (by omega)) rfl (pur 1 rfl ?_))))))
 exact Z8 ⟨⟨(w + 1, o), by dsimp only; omega, hwk⟩, oc⟩ idH
 obtain rfl : w = 20 := by omega
 obtain rfl := hfo.done rfl
 refine Sy.heap (H' := _ :: (oc.G ++ _)) (fun w h9 => h9.perm (List.perm_middle (l₁ := oc.G) (a := _))) ?_
 refine Sy.heap (fun w h9 => St.rows (sz := 1) (rows := Z6 (Z2g h.gaps (clP pl) (msk fr) k)) (rest := []) (by rw [List.append_nil, show (Z6 (Z2g h.gaps (clP pl) (msk fr) k)).flatten = Zo (Z2g h.gaps (clP pl) (msk fr) k) from Z21 _]; exact h9) (fun r hr => by obtain ⟨x, _, rfl⟩ := List.mem_map.1 hr; rfl)) ?_
 refine Z9 (Za (Za (Zm (sqt 2 rfl (pur 2 rfl (Z3 ?_))))))
 exact rtA rfl rfl rfl ⟨_, k, rfl, rfl, rfl⟩ (fun w h9 => (St.drop (G := oc.G) h9).del b3)
theorem Z79 : cal Try.prog 57 = true := by kernel_rfl
theorem Z0s (xs : List Gp) (a : Option Addr) (c : Nat) (hl : xs.length ≤ 1000000) (H : Z7) (R : Z5) [hR : MemRows a 2 (Zg xs) R] :
    Fn Try.prog 57 [.slice a xs.length c] H R (fun v H' R' => ∃ o : OSl 46 2 (Zg xs), v = o.fs ∧ H' = o.G ++ H ∧ R' = R ∧ (a.isSome = true → o.here)) := by
 refine Zh Try.func57 rfl Try.ntmps57 rfl ?_
 refine sqt 1 rfl (pur 1 rfl (Z0 (sqt 2 rfl (pur 1 rfl (sp rfl (PE.eqlNil Z4f rfl rfl) rfl ?_)))))
 refine Z1 rfl ?_ ?_ <;> intro hc0
 refine Sy.pre (fun w h => Z5q (h.now hR.mem) hc0) (fun hnil => ?_)
 obtain rfl : xs = [] := by simpa [Zg] using hnil
 refine sqt 1 rfl (pur 1 rfl (Z3 ?_))
 first
   | exact rtA rfl rfl rfl ⟨o2.cast (by simp), rfl, rfl, rfl, fun _ => ho2⟩ idH
   | exact rtA rfl rfl rfl ⟨OSl.nil _ _, rfl, rfl, rfl, fun h => by cases a <;> simp_all⟩ idH
 refine Z2 (sqt 4 rfl ?_)
 refine Zcx rfl Zcu rfl (fun o5 ho5 => ?_)
 refine pur 1 rfl ?_
 refine ZdM (news := Zg xs) o5 rfl ZcE rfl rfl (Z8J) (by simp [Zg]) (by simp [Z0a, Zg, Z1z, Value.oneCell']) ⟨by simp [Zg]; omega, by simp [Zg]; omega⟩ rfl ho5 (fun o2 ho2 => ?_)
 refine pur 1 rfl (Z3 ?_)
 first
   | exact rtA rfl rfl rfl ⟨o2.cast (by simp), rfl, rfl, rfl, fun _ => ho2⟩ idH
   | exact rtA rfl rfl rfl ⟨OSl.nil _ _, rfl, rfl, rfl, fun h => by cases a <;> simp_all⟩ idH
theorem St.norows2 {s t : Nat} {H : Z7} {R : Z5} {w : World} (h : St H R w) : St H (RowsA none s [] :: RowsA none t [] :: R) w := St.norows (St.norows h)
theorem Zcd : cal Try.prog 10 = true := by kernel_rfl
theorem ZdF : cal Try.prog 16 = true := by kernel_rfl
theorem ZbM : cal Try.prog 19 = true := by kernel_rfl
theorem ZdT : cal Try.prog 9 = true := by kernel_rfl
theorem ZdE : Z0t Try.prog 24 = some 1 := by kernel_rfl
theorem ZcB : Z0t Try.prog 38 = some 3 := by kernel_rfl
theorem cn4 : Z0t Try.prog 4 = some 1 := by kernel_rfl
theorem Tru.nil (h : Hse) (l : List Int) : Tru h l [] := ⟨(fun s hs => by cases hs), rfl⟩
set_option maxHeartbeats 400000 in
theorem Zao (l0 : List Int) (a0 : Option Addr) (c0 bk : Nat) (hgl : l0.length ≤ 9223372036854775807) (tq mx : Int) (htq : 0 ≤ tq ∧ tq ≤ 1000000) (hmx : 0 ≤ mx ∧ mx ≤ 4294967295) (h : Hse) (ag : Option Addr) (cg : Nat) (hok : h.ok) (hss : h.sights = []) (fr : List Int) (af : Option Addr) (cf : Nat) (hfl0 : fr.length ≤ 1000000) (hfr : ∀ x ∈ fr, 0 ≤ x ∧ x < h.bins) (most : Int) (hmost : 0 ≤ most ∧ most ≤ 8) (H : Z7) (R : Z5) [hG : MemRows a0 1 (Z2G l0) R] [hG : MemRows ag 2 (Zg h.gaps) R] [hF : MemRows af 1 (Z6 fr) R] :
    Fn Try.prog 11 [.pointer (some ⟨bk, 0, none⟩), h.v (h.sg ag cg) (h.ss none 0), .slice af fr.length cf, .int .i64 most] ((bk, cel 72 [.slice a0 l0.length c0, .int .i64 (tq), .int .u32 (mx)]) :: H) R (fun v H' R' => ∃ (ss : List Sgt) (o : OSl 38 3 (Zc ss)) (tq' mx' : Int), Tru h fr ss ∧ (ss.length : Int) ≤ most ∧ v = Hse.v ⟨h.bins, h.gaps, ss⟩ (h.sg ag cg) o.fs ∧ (tq ≤ tq' ∧ tq' ≤ tq + 20) ∧ (0 ≤ mx' ∧ mx' ≤ 4294967295) ∧ H' = (bk, cel 72 [.slice a0 l0.length c0, .int .i64 (tq'), .int .u32 (mx')]) :: (o.G ++ H) ∧ R' = R) := by
 refine Zh Try.func11 rfl Try.ntmps11 rfl ?_
 refine sqt 2 rfl ?_
 have hbn := hok.bins
 refine bx rfl rfl rfl (fun b5 => alc rfl Z1l rfl (fun b8 => sqt 4 rfl (spL rfl rfl (lhA (htl h (h.sg ag cg) (h.ss none 0)) ZF rfl rfl rfl) rfl (pur 1 rfl ?_))))
 refine Sy.heap (fun w h9 => St.norows9 (sz := 1) h9) ?_
 refine cl rfl ZbM rfl rfl (Z5S h ag none cg 0 hok fr af cf hfl0 (fun x hx => (hfr x hx).1) [] none 0 (by decide) (by decide) (by simp [lls]) _ _) ?_
 rintro _ _ R1 ⟨af2, cf2, rfl, rfl, hR1⟩
 obtain rfl := hR1.symm
 clear hR1
 refine pur 1 rfl (Z0 (sqt 5 rfl ?_))
 refine Zz bk ?_
 refine pur 2 rfl (sp rfl (PE.add rfl rfl (by omega)) rfl ?_)
 refine cl rfl Z2S rfl rfl (Z0x l0 a0 c0 bk hgl _ _ (by omega) (by assumption) (most + 1) _ _) ?_
 rintro _ _ R1 ⟨x17, m17, hx17, rfl, hm17, rfl, hR1⟩
 obtain rfl := hR1.symm
 obtain ⟨n17, rfl⟩ : ∃ n : Nat, x17 = n := ⟨x17.toNat, by omega⟩
 refine pur 1 rfl (Z4 ?_)
 refine Sy.heap (H' := (bk, cel 72 [.slice a0 l0.length c0, .int .i64 (tq + 1), .int .u32 (m17)]) :: (b5, cel 26 (htl ⟨h.bins, h.gaps, []⟩ (h.sg ag cg) (.slice none 0 0))) :: (b8, cel 26 [.int .i64 0, .slice none 0 0, .slice none 0 0]) :: H) (fun w h9 => by
   have e : (htl h (h.sg ag cg) (h.ss none 0)) = (htl ⟨h.bins, h.gaps, []⟩ (h.sg ag cg) (.slice none 0 0)) := by unfold Hse.ss; rw [hss]; rfl
   rw [← e]
   exact h9.perm (by first | exact .refl _ | exact List.Perm.cons _ (List.Perm.swap _ _ _))) ?_
 refine Zf (ι := (x : {x : Nat × List Sgt × Int × Int // x.1 ≤ n17 ∧ (x.2.1.length = x.1 ∧ Tru h fr x.2.1) ∧ (tq ≤ x.2.2.1 ∧ x.2.2.1 ≤ tq + 1 + 2 * x.1) ∧ (0 ≤ x.2.2.2 ∧ x.2.2.2 ≤ 4294967295)}) × OSl 38 3 (Zc x.1.2.1)) (fun x => ⟨[(0, .pointer (some ⟨bk, 0, none⟩)), (5, .pointer (some ⟨b5, 0, none⟩)), (8, .pointer (some ⟨b8, 0, none⟩)), (9, .slice af2 h.bins.toNat cf2), (17, .int .i64 n17), (18, .int .i64 x.1.1.1)],
   (bk, cel 72 [.slice a0 l0.length c0, .int .i64 (x.1.1.2.2.1), .int .u32 (x.1.1.2.2.2)]) :: (x.2.G ++ (b5, cel 26 (htl ⟨h.bins, h.gaps, x.1.1.2.1⟩ (h.sg ag cg) x.2.fs)) :: (b8, cel 26 [.int .i64 0, .slice none 0 0, .slice none 0 0]) :: H), RowsA af2 1 (Z6 (Z2g h.gaps (clP []) (msk fr) h.bins.toNat)) :: R⟩) (fun x => n17 - x.1.1.1) ⟨⟨(0, [], tq + 1, m17), by omega, ⟨rfl, Tru.nil _ _⟩, by dsimp only; omega, by assumption⟩, OSl.nil _ _⟩ ?_ (fun x => ?_)
 exact Zn (fun w h9 => h9.facts (fun g hg => by simp only [List.mem_cons] at hg ⊢; rcases hg with h8 | h8 <;> simp [h8]))
 obtain ⟨⟨⟨k, ss, tq2, mx2⟩, hk, ⟨hsl, htr⟩, htq2, hmx2⟩, o⟩ := x
 dsimp only at hk hsl htr htq2 hmx2 o ⊢
 refine sqt 1 rfl (pur 1 rfl (Z0 ?_))
 refine Z1 rfl ?_ ?_ <;> intro hc0 <;> try simp only [cS] at hc0
 refine Z2 (Z0 (Z4 (Z0 ?_)))
 refine Ze [0, 1, 0, 0, 8, 31, 63, 0, 255] (.tk 0 (.tk 2 (.tk 3 (.ld 4 (.any (.alt 1 (.any (.alt 5 (.tk 6 (.big 7 (.big 8 .done))) (.alt 7 (.big 5 (.tk 6 (.big 8 .done))) .stop))) (.alt 7 (.big 1 (.big 5 (.tk 6 (.big 8 .done)))) .stop))))))) Zw (by kernel_rfl) ?_
 refine Zq 2 rfl (tk rfl (PE.fA Z0f rfl) rfl (ld rfl rfl (lh (v := .int .i64 h.bins) sc3 rfl rfl) rfl ?_))
 refine ZH ?_ ?_
 refine Zz bk ?_
 refine cl rfl Z2S rfl rfl (Z0x l0 a0 c0 bk hgl _ _ (by omega) (by assumption) (5) _ _) ?_
 rintro _ _ R1 ⟨x21, m21, hx21, rfl, hm21, rfl, hR1⟩
 obtain rfl := hR1.symm
 refine bg (fun w hs => ⟨(lh (v := .int .i64 h.bins) sc3 rfl rfl) w hs, trivial⟩) ?_
 refine ZH ?_ ?_
 refine Zz bk ?_
 refine cl rfl Z2S rfl rfl (Z0x l0 a0 c0 bk hgl _ _ (by omega) (by assumption) (h.bins) _ _) ?_
 rintro _ _ R1 ⟨x25, m25, hx25, rfl, hm25, rfl, hR1⟩
 obtain rfl := hR1.symm
 refine bgT (tk rfl (PE.build (out := [.int .i64 x21, .int .i64 x25, .bool (false)]) Z9U Z3b rfl rfl) rfl (alc rfl Z3b rfl (fun b10 => bgT ?_)))
 refine sto rfl rfl rfl ZcB rfl rfl rfl rfl ?_
 refine bgT (Z0 ?_)
 refine Ze [0, 0, 2, 7, 15, 0, 32, 127, 255, 511] (.tk 0 (.tk 1 (.ld 2 (.tk 3 (.ld 4 (.tk 5 (.ld 6 (.tk 7 (.tk 8 (.big 9 .done)))))))))) Zw (by kernel_rfl) ?_
 have hgf := Z0e (l := (Z2g h.gaps (clP []) (msk fr) h.bins.toNat)) (k := x25.toNat) (by rw [Z0k]; omega)
 have hft := Z3K (gs := h.gaps) (cl := clP []) (m := msk fr) (n := h.bins.toNat) (k := x25.toNat) (by omega)
 generalize hfv : na (Z2g h.gaps (clP []) (msk fr) h.bins.toNat) x25.toNat = fv at *
 have hes : exS h.gaps (msk fr) ⟨x21, x25, decide (fv ≤ x21)⟩ = true := Z41 hok hfr (s := ⟨x21, x25, decide (fv ≤ x21)⟩) (by dsimp only; omega) (by dsimp only; rw [hft]; rfl)
 refine Zl (a := af2) (sz := 1) (rows := Z6 (Z2g h.gaps (clP []) (msk fr) h.bins.toNat)) (by intro h0; have := congrArg List.length h0; rw [irl, Z0k] at this; simp only [List.length_nil] at this; omega) (fun bf bfo hebf => ?_)
 subst hebf
 refine Zq 1 rfl (tk rfl (PE.fA Z38 rfl) rfl (ld rfl rfl (lh sc3 rfl rfl) rfl (tk rfl (PE.indexAddr Z1C rfl rfl (by omega) (by omega)) rfl (ld rfl rfl (lf0 sc3 (Z06 hgf) rfl) rfl (tk rfl (PE.fA Z2L rfl) rfl (ld rfl rfl (lh sc3 rfl rfl) rfl (Zq 1 rfl (tk rfl (PE.fA Z3t rfl) rfl ?_))))))))
 refine Zu (l' := [.int .i64 x21, .int .i64 x25, .bool (decide (fv ≤ x21))]) rfl rfl rfl cn4 rfl rfl rfl rfl (nl rfl) ?_
 refine bgT (sqr 7 rfl (sp rfl (PE.fA ZO rfl) rfl (spL rfl rfl (lh Z3x rfl rfl) rfl (spL rfl rfl (lhA [.int .i64 x21, .int .i64 x25, .bool (decide (fv ≤ x21))] Z6x rfl rfl rfl) rfl ?_))))
 refine bsl (out := [_, _, _]) rfl Z6B Z3b rfl rfl rfl rfl rfl rfl (fun b39 => ?_)
 refine apO (o) rfl Z6v rfl rfl (Z03 (row := Z0D ⟨x21, x25, decide (fv ≤ x21)⟩) rfl) rfl rfl ((by rw [Zr]; simp only [List.length_singleton]; omega)) rfl (fun o40 => ?_)
 refine sp rfl (PE.fA ZO rfl) rfl ?_
 refine Zu (l' := htl ⟨h.bins, h.gaps, ss ++ [⟨x21, x25, decide (fv ≤ x21)⟩]⟩ (h.sg ag cg) o40.fs) rfl rfl rfl ZdE rfl (by rw [o40.cells.1]; first | done | rfl) (by rw [o40.cells.1]; simp [o40.cells.2]) (by rw [o40.cells.1]; first | done | rfl) (by rw [o40.cells.1]; first | done | exact Nat.le_of_ble_eq_true rfl) ?_
 refine sqr 2 rfl (sp rfl (PE.add rfl rfl (by omega)) rfl (pur 1 rfl ?_))
 exact Z8 ⟨⟨(k + 1, ss ++ [⟨x21, x25, decide (fv ≤ x21)⟩], tq2 + 1 + 1, m25), by dsimp only; omega, ⟨by simp [hsl], htr.snoc (by dsimp only; omega) hes⟩, by dsimp only; omega, by assumption⟩, o40.cast (by simp [Zc])⟩ (fun w h9 => ((h9.del b39).del b10).perm (by first | exact .refl _ | exact (Zj _ [_] _).symm))
 refine ZH ?_ ?_
 refine alc rfl Z3b rfl (fun b10 => ?_)
 refine bg (fun w hs => ⟨(lh (v := .int .i64 h.bins) sc3 rfl rfl) w hs, trivial⟩) ?_
 refine Zz bk ?_
 refine cl rfl Z2S rfl rfl (Z0x l0 a0 c0 bk hgl _ _ (by omega) (by assumption) (h.bins) _ _) ?_
 rintro _ _ R1 ⟨x25, m25, hx25, rfl, hm25, rfl, hR1⟩
 obtain rfl := hR1.symm
 refine bgT (tk rfl (PE.build (out := [.int .i64 x21, .int .i64 x25, .bool (false)]) Z9U Z3b rfl rfl) rfl ?_)
 refine sto rfl rfl rfl ZcB rfl rfl rfl rfl ?_
 refine bgT (Z0 ?_)
 refine Ze [0, 0, 2, 7, 15, 0, 32, 127, 255, 511] (.tk 0 (.tk 1 (.ld 2 (.tk 3 (.ld 4 (.tk 5 (.ld 6 (.tk 7 (.tk 8 (.big 9 .done)))))))))) Zw (by kernel_rfl) ?_
 have hgf := Z0e (l := (Z2g h.gaps (clP []) (msk fr) h.bins.toNat)) (k := x25.toNat) (by rw [Z0k]; omega)
 have hft := Z3K (gs := h.gaps) (cl := clP []) (m := msk fr) (n := h.bins.toNat) (k := x25.toNat) (by omega)
 generalize hfv : na (Z2g h.gaps (clP []) (msk fr) h.bins.toNat) x25.toNat = fv at *
 have hes : exS h.gaps (msk fr) ⟨x21, x25, decide (fv ≤ x21)⟩ = true := Z41 hok hfr (s := ⟨x21, x25, decide (fv ≤ x21)⟩) (by dsimp only; omega) (by dsimp only; rw [hft]; rfl)
 refine Zl (a := af2) (sz := 1) (rows := Z6 (Z2g h.gaps (clP []) (msk fr) h.bins.toNat)) (by intro h0; have := congrArg List.length h0; rw [irl, Z0k] at this; simp only [List.length_nil] at this; omega) (fun bf bfo hebf => ?_)
 subst hebf
 refine Zq 1 rfl (tk rfl (PE.fA Z38 rfl) rfl (ld rfl rfl (lh sc3 rfl rfl) rfl (tk rfl (PE.indexAddr Z1C rfl rfl (by omega) (by omega)) rfl (ld rfl rfl (lf0 sc3 (Z06 hgf) rfl) rfl (tk rfl (PE.fA Z2L rfl) rfl (ld rfl rfl (lh sc3 rfl rfl) rfl (Zq 1 rfl (tk rfl (PE.fA Z3t rfl) rfl ?_))))))))
 refine Zu (l' := [.int .i64 x21, .int .i64 x25, .bool (decide (fv ≤ x21))]) rfl rfl rfl cn4 rfl rfl rfl rfl (nl rfl) ?_
 refine bgT (sqr 7 rfl (sp rfl (PE.fA ZO rfl) rfl (spL rfl rfl (lh Z3x rfl rfl) rfl (spL rfl rfl (lhA [.int .i64 x21, .int .i64 x25, .bool (decide (fv ≤ x21))] Z6x rfl rfl rfl) rfl ?_))))
 refine bsl (out := [_, _, _]) rfl Z6B Z3b rfl rfl rfl rfl rfl rfl (fun b39 => ?_)
 refine apO (o) rfl Z6v rfl rfl (Z03 (row := Z0D ⟨x21, x25, decide (fv ≤ x21)⟩) rfl) rfl rfl ((by rw [Zr]; simp only [List.length_singleton]; omega)) rfl (fun o40 => ?_)
 refine sp rfl (PE.fA ZO rfl) rfl ?_
 refine Zu (l' := htl ⟨h.bins, h.gaps, ss ++ [⟨x21, x25, decide (fv ≤ x21)⟩]⟩ (h.sg ag cg) o40.fs) rfl rfl rfl ZdE rfl (by rw [o40.cells.1]; first | done | rfl) (by rw [o40.cells.1]; simp [o40.cells.2]) (by rw [o40.cells.1]; first | done | rfl) (by rw [o40.cells.1]; first | done | exact Nat.le_of_ble_eq_true rfl) ?_
 refine sqr 2 rfl (sp rfl (PE.add rfl rfl (by omega)) rfl (pur 1 rfl ?_))
 exact Z8 ⟨⟨(k + 1, ss ++ [⟨x21, x25, decide (fv ≤ x21)⟩], tq2 + 1 + 1, m25), by dsimp only; omega, ⟨by simp [hsl], htr.snoc (by dsimp only; omega) hes⟩, by dsimp only; omega, by assumption⟩, o40.cast (by simp [Zc])⟩ (fun w h9 => ((h9.del b39).del b10).perm (by first | exact .refl _ | exact (Zj _ [_] _).symm))
 exact Z0j
 refine ZH ?_ ?_
 refine alc rfl Z3b rfl (fun b10 => ?_)
 refine bg (fun w hs => ⟨(lh (v := .int .i64 h.bins) sc3 rfl rfl) w hs, trivial⟩) ?_
 refine Zz bk ?_
 refine cl rfl Z2S rfl rfl (Z0x l0 a0 c0 bk hgl _ _ (by omega) (by assumption) (5) _ _) ?_
 rintro _ _ R1 ⟨x21, m21, hx21, rfl, hm21, rfl, hR1⟩
 obtain rfl := hR1.symm
 refine bg (fun w hs => ⟨(lh (v := .int .i64 h.bins) sc3 rfl rfl) w hs, trivial⟩) ?_
 refine Zz bk ?_
 refine cl rfl Z2S rfl rfl (Z0x l0 a0 c0 bk hgl _ _ (by omega) (by assumption) (h.bins) _ _) ?_
 rintro _ _ R1 ⟨x25, m25, hx25, rfl, hm25, rfl, hR1⟩
 obtain rfl := hR1.symm
 refine bgT (tk rfl (PE.build (out := [.int .i64 x21, .int .i64 x25, .bool (false)]) Z9U Z3b rfl rfl) rfl ?_)
 refine sto rfl rfl rfl ZcB rfl rfl rfl rfl ?_
 refine bgT (Z0 ?_)
 refine Ze [0, 0, 2, 7, 15, 0, 32, 127, 255, 511] (.tk 0 (.tk 1 (.ld 2 (.tk 3 (.ld 4 (.tk 5 (.ld 6 (.tk 7 (.tk 8 (.big 9 .done)))))))))) Zw (by kernel_rfl) ?_
 have hgf := Z0e (l := (Z2g h.gaps (clP []) (msk fr) h.bins.toNat)) (k := x25.toNat) (by rw [Z0k]; omega)
 have hft := Z3K (gs := h.gaps) (cl := clP []) (m := msk fr) (n := h.bins.toNat) (k := x25.toNat) (by omega)
 generalize hfv : na (Z2g h.gaps (clP []) (msk fr) h.bins.toNat) x25.toNat = fv at *
 have hes : exS h.gaps (msk fr) ⟨x21, x25, decide (fv ≤ x21)⟩ = true := Z41 hok hfr (s := ⟨x21, x25, decide (fv ≤ x21)⟩) (by dsimp only; omega) (by dsimp only; rw [hft]; rfl)
 refine Zl (a := af2) (sz := 1) (rows := Z6 (Z2g h.gaps (clP []) (msk fr) h.bins.toNat)) (by intro h0; have := congrArg List.length h0; rw [irl, Z0k] at this; simp only [List.length_nil] at this; omega) (fun bf bfo hebf => ?_)
 subst hebf
 refine Zq 1 rfl (tk rfl (PE.fA Z38 rfl) rfl (ld rfl rfl (lh sc3 rfl rfl) rfl (tk rfl (PE.indexAddr Z1C rfl rfl (by omega) (by omega)) rfl (ld rfl rfl (lf0 sc3 (Z06 hgf) rfl) rfl (tk rfl (PE.fA Z2L rfl) rfl (ld rfl rfl (lh sc3 rfl rfl) rfl (Zq 1 rfl (tk rfl (PE.fA Z3t rfl) rfl ?_))))))))
 refine Zu (l' := [.int .i64 x21, .int .i64 x25, .bool (decide (fv ≤ x21))]) rfl rfl rfl cn4 rfl rfl rfl rfl (nl rfl) ?_
 refine bgT (sqr 7 rfl (sp rfl (PE.fA ZO rfl) rfl (spL rfl rfl (lh Z3x rfl rfl) rfl (spL rfl rfl (lhA [.int .i64 x21, .int .i64 x25, .bool (decide (fv ≤ x21))] Z6x rfl rfl rfl) rfl ?_))))
 refine bsl (out := [_, _, _]) rfl Z6B Z3b rfl rfl rfl rfl rfl rfl (fun b39 => ?_)
 refine apO (o) rfl Z6v rfl rfl (Z03 (row := Z0D ⟨x21, x25, decide (fv ≤ x21)⟩) rfl) rfl rfl ((by rw [Zr]; simp only [List.length_singleton]; omega)) rfl (fun o40 => ?_)
 refine sp rfl (PE.fA ZO rfl) rfl ?_
 refine Zu (l' := htl ⟨h.bins, h.gaps, ss ++ [⟨x21, x25, decide (fv ≤ x21)⟩]⟩ (h.sg ag cg) o40.fs) rfl rfl rfl ZdE rfl (by rw [o40.cells.1]; first | done | rfl) (by rw [o40.cells.1]; simp [o40.cells.2]) (by rw [o40.cells.1]; first | done | rfl) (by rw [o40.cells.1]; first | done | exact Nat.le_of_ble_eq_true rfl) ?_
 refine sqr 2 rfl (sp rfl (PE.add rfl rfl (by omega)) rfl (pur 1 rfl ?_))
 exact Z8 ⟨⟨(k + 1, ss ++ [⟨x21, x25, decide (fv ≤ x21)⟩], tq2 + 1 + 1, m25), by dsimp only; omega, ⟨by simp [hsl], htr.snoc (by dsimp only; omega) hes⟩, by dsimp only; omega, by assumption⟩, o40.cast (by simp [Zc])⟩ (fun w h9 => ((h9.del b39).del b10).perm (by first | exact .refl _ | exact (Zj _ [_] _).symm))
 exact Z0j
 obtain rfl : k = n17 := by omega
 refine Z9 (Za (Za (Zm (sqt 2 rfl (spL rfl rfl (lhA (htl ⟨h.bins, h.gaps, ss⟩ (h.sg ag cg) o.fs) ZF rfl rfl rfl) rfl ?_)))))
 refine Zu (l' := htl ⟨h.bins, h.gaps, ss⟩ (h.sg ag cg) o.fs) rfl rfl rfl Z1u rfl rfl (by show (htl _ _ o.fs).all (·.oneCell') = true; simp only [htl, List.all_cons, List.all_nil, o.cells.2, Bool.and_true]; rfl) rfl (Nat.le_refl _) ?_
 refine Z3 ?_
 exact Zb (vs := [_]) rfl (.cons (RV.cell rfl (lhA [_, _, _] ZF rfl rfl rfl)) .nil) rfl ⟨ss, o, tq2, mx2, htr, by omega, rfl, by omega, by assumption, rfl, rfl⟩ (fun w h9 => St.ftail ((h9.del b8).del b5))
theorem Zd5 : cal Try.prog 11 = true := by kernel_rfl
theorem Z29 (a b : List Sgt) : Zc (a ++ b) = Zc a ++ Zc b := List.map_append
theorem Z70 (l : List Sgt) : (Zc l).flatten.length = l.length * 3 := by rw [Z0b (Z42 l), Zr]
def Zbj {e sz : Nat} {rows : List (List Value)} (b cap n : Nat) (junk : List Value) (hl : ∀ r ∈ rows, r.length = sz) (hn : n = rows.length) (h1 : rows.length * sz + junk.length = cap * sz) (h2 : rows.length ≤ cap) (h3 : cap ≤ 9223372036854775807) : OSl e sz rows :=
  ⟨.slice (some ⟨b, 0, none⟩) n cap, [(b, cel e (rows.flatten ++ junk))], hl, .inr ⟨b, cap, junk, by rw [hn], rfl, h1, h2, h3⟩⟩
def Hse.add (h : Hse) (s : Sgt) : Hse := ⟨h.bins, h.gaps, h.sights ++ [s]⟩
def Hse.seeE (h : Hse) (s : Sgt) : Int := bif decide (h.check ≠ 0) then h.check else bif decide (h.sights.length = 8) then 9 else (h.add s).check
def Hse.seeH (h : Hse) (s : Sgt) : Hse := bif decide (h.seeE s = 0) then h.add s else ⟨0, [], []⟩
theorem Z1D {h : Hse} {s : Sgt} {e : Int} (he : h.seeE s = e) (h0 : e ≠ 0) : h.seeH s = ⟨0, [], []⟩ := by unfold Hse.seeH; rw [he, decide_eq_false h0]; rfl
theorem Z0T {h : Hse} {s : Sgt} (he : h.seeE s = 0) : h.seeH s = h.add s := by unfold Hse.seeH; rw [he]; rfl
theorem ZaG {h : Hse} {s : Sgt} (hc : h.check ≠ 0) : h.seeE s = h.check := by unfold Hse.seeE; rw [decide_eq_true hc]; rfl
theorem Z7H {h : Hse} {s : Sgt} (hc : h.check = 0) (hl : h.sights.length = 8) : h.seeE s = 9 := by unfold Hse.seeE; rw [decide_eq_false (fun e => e hc), decide_eq_true hl]; rfl
theorem Z6S {h : Hse} {s : Sgt} (hc : h.check = 0) (hl : h.sights.length ≠ 8) : h.seeE s = (h.add s).check := by unfold Hse.seeE; rw [decide_eq_false (fun e => e hc), decide_eq_false hl]; rfl
theorem Z4I (n : Nat) (a b c : Value) : (Z1n n [a, b, c]).length = n * 3 := by simp [Z1n]
theorem ZaJ (l : List Sgt) : (Zc l).flatten.all (·.oneCell') = true := List.all_eq_true.2 fun v hv => by
  obtain ⟨r, hr, h2⟩ := List.mem_flatten.1 hv
  obtain ⟨x, _, rfl⟩ := List.mem_map.1 hr
  simp only [Z0D, List.mem_cons, List.not_mem_nil, or_false] at h2
  rcases h2 with rfl | rfl | rfl <;> rfl
theorem Z7J (l : List Sgt) (a b c : Value) : spl (Z1n (l.length + 1) [a, b, c]) 0 (Zc l).flatten = (Zc l).flatten ++ (Z1n (l.length + 1) [a, b, c]).drop (l.length * 3) := by
  unfold spl
  rw [List.take_zero, List.nil_append, Nat.zero_add, Z70]
set_option maxHeartbeats 600000 in
theorem Zdh (h : Hse) (ag as_ : Option Addr) (cg cs : Nat) (hlg : h.gaps.length ≤ 1000000) (hls : h.sights.length ≤ 1000000) (s : Sgt) (H : Z7) (R : Z5) [hG : MemRows ag 2 (Zg h.gaps) R] [hS : MemRows as_ 3 (Zc h.sights) R] :
    Fn Try.prog 26 [h.v (h.sg ag cg) (h.ss as_ cs), .agg (Z0D s).toArray] H R (fun v H' R' => ∃ (ax ay : Option Addr) (cx cy : Nat), ((h.seeH s).gaps.length ≤ cx ∧ (h.seeH s).sights.length ≤ cy) ∧ v = .tuple #[(h.seeH s).v ((h.seeH s).sg ax cx) ((h.seeH s).ss ay cy), .int .i64 (h.seeE s)] ∧ H' = H ∧ R' = RowsA ax 2 (Zg (h.seeH s).gaps) :: RowsA ay 3 (Zc (h.seeH s).sights) :: R) := by
 refine Zh Try.func26 rfl Try.ntmps26 rfl ?_
 refine sqt 4 rfl (bx rfl rfl rfl (fun b2 => bx rfl rfl rfl (fun b3 => alc rfl Z1l rfl (fun b4 => pur 1 rfl (Z0 (sqt 3 rfl (spL rfl rfl (lhA (htl h (h.sg ag cg) (h.ss as_ cs)) ZF rfl rfl rfl) rfl ?_)))))))
 refine clV rfl Z1I rfl rfl (Z01 h ag as_ cg cs (by omega) (by omega) _ _) ?_
 refine pur 1 rfl (sqt 2 rfl (pur 2 rfl ?_))
 refine Z1 rfl ?_ ?_ <;> intro hc0
 have h0 : h.check ≠ 0 := of_decide_eq_true hc0
 have he := ZaG (s := s) h0
 refine sqt 4 rfl (sp rfl (PE.build (out := htl ⟨0, [], []⟩ (.slice none 0 0) (.slice none 0 0)) Z3y Z1l rfl rfl) rfl (pur 1 rfl ?_))
 refine Zu (l' := htl ⟨0, [], []⟩ (.slice none 0 0) (.slice none 0 0)) rfl rfl rfl Z1u rfl rfl rfl rfl (nl rfl) ?_
 refine pur 1 rfl (Z3 ?_)
 rw [Z1D he h0, he]
 exact Zb (vs := [_, _]) rfl (.cons (RV.cell rfl (lhA [_, _, _] ZF rfl rfl rfl)) (.cons (RV.tmp rfl) .nil)) rfl ⟨none, none, 0, 0, ⟨Nat.le_refl _, Nat.le_refl _⟩, rfl, rfl, rfl⟩ (fun w h9 => St.norows2 (St.sub (((h9.del b4).del b3).del b2)))
 have hck : h.check = 0 := Classical.byContradiction fun e => by rw [decide_eq_true e] at hc0; cases hc0
 have hok := hse_ok.1 hck
 have hgl := hok.gl
 have hsl := hok.sl
 refine Z2 (Z0 (sqt 4 rfl (sp rfl (PE.fA ZO rfl) rfl (spL rfl rfl (lh Z3x rfl rfl) rfl (sp rfl (PE.lenSl Z3W rfl) rfl (pur 1 rfl ?_))))))
 refine Z1 rfl ?_ ?_ <;> intro hc1 <;> try simp only [cS] at hc1
 have h0 : (9 : Int) ≠ 0 := by decide
 have he := Z7H (s := s) hck (by omega)
 refine sqt 3 rfl (sp rfl (PE.build (out := htl ⟨0, [], []⟩ (.slice none 0 0) (.slice none 0 0)) Z3y Z1l rfl rfl) rfl ?_)
 refine Zu (l' := htl ⟨0, [], []⟩ (.slice none 0 0) (.slice none 0 0)) rfl rfl rfl Z1u rfl rfl rfl rfl (nl rfl) ?_
 refine pur 1 rfl (Z3 ?_)
 rw [Z1D he h0, he]
 exact Zb (vs := [_, _]) rfl (.cons (RV.cell rfl (lhA [_, _, _] ZF rfl rfl rfl)) (.cons (RV.tmp rfl) .nil)) rfl ⟨none, none, 0, 0, ⟨Nat.le_refl _, Nat.le_refl _⟩, rfl, rfl, rfl⟩ (fun w h9 => St.norows2 (St.sub (((h9.del b4).del b3).del b2)))
 have hgo := Z6S (s := s) hck (by omega)
 refine Z2 (sqt 9 rfl (sp rfl (PE.fA ZO rfl) rfl (spL rfl rfl (lh Z3x rfl rfl) rfl (sp rfl (PE.lenSl Z3W rfl) rfl (sp rfl (PE.fA ZO rfl) rfl (spL rfl rfl (lh Z3x rfl rfl) rfl (sp rfl (PE.lenSl Z3W rfl) rfl (sp rfl (PE.add rfl rfl (by omega)) rfl ?_))))))))
 rw [show ((h.sights.length : Int) + 1) = ((h.sights.length + 1 : Nat) : Int) from by omega]
 refine mkS rfl Z6v Z3b rfl rfl (by omega) ⟨by omega, by omega⟩ rfl (fun b28 => ?_)
 refine pur 1 rfl (sqt 4 rfl (pur 1 rfl (sp rfl (PE.fA ZO rfl) rfl (spL rfl rfl (lh Z3x rfl rfl) rfl ?_))))
 refine Ze2 (rows := Zc h.sights) rfl Z6B rfl (by rw [Zr]; rfl) (Z42 _) (by rw [Zr]; omega) (ZaJ _) (by rw [Z70, Z4I]; omega) rfl ?_
 rw [Z7J]
 obtain ⟨junk, hjk⟩ : ∃ junk, junk = (Z1n (h.sights.length + 1) [Value.int .i64 0, .int .i64 0, .bool false]).drop (h.sights.length * 3) := ⟨_, rfl⟩
 rw [← hjk]
 obtain ⟨o28, ho1, ho2⟩ : ∃ o : OSl 38 3 (Zc h.sights), o.fs = .slice (some ⟨b28, 0, none⟩) h.sights.length (h.sights.length + 1) ∧ o.G = [(b28, cel 38 ((Zc h.sights).flatten ++ junk))] := ⟨Zbj b28 (h.sights.length + 1) h.sights.length junk (Z42 _) (Zr _).symm (by rw [Zr, hjk, List.length_drop, Z4I]; omega) (by rw [Zr]; omega) (by omega), rfl, rfl⟩
 rw [← ho1]
 refine Sy.heap (H' := o28.G ++ _) (fun w h9 => by rw [ho2]; exact h9) ?_
 clear ho1 ho2 hjk
 refine Z0 ?_
 refine Ze [0, 1, 0, 4, 12, 0, 0, 64, 252, 511, 0, 2047] (.tk 0 (.ld 1 (.tk 2 (.ld 3 (.tk 5 (.ld 6 (.any (.alt 4 (.any (.alt 7 (.any (.alt 8 (.tk 9 (.big 10 (.big 11 .done))) (.alt 10 (.big 8 (.tk 9 (.big 11 .done))) .stop))) (.alt 10 (.big 7 (.big 8 (.tk 9 (.big 11 .done)))) .stop))) (.alt 7 (.any (.alt 4 (.any (.alt 8 (.tk 9 (.big 10 (.big 11 .done))) (.alt 10 (.big 8 (.tk 9 (.big 11 .done))) .stop))) (.alt 10 (.big 4 (.big 8 (.tk 9 (.big 11 .done)))) .stop))) (.alt 10 (.any (.alt 4 (.big 7 (.big 8 (.tk 9 (.big 11 .done)))) (.alt 7 (.big 4 (.big 8 (.tk 9 (.big 11 .done)))) .stop))) .stop)))))))))) Zw (by kernel_rfl) ?_
 refine tk rfl (PE.fA Z0f rfl) rfl (ld rfl rfl (lh sc3 rfl rfl) rfl (tk rfl (PE.fA Z07 rfl) rfl (ld rfl rfl (lh Z3g rfl rfl) rfl (Zq 1 rfl (ld rfl rfl (lhA (Z0D s) Z6x rfl rfl rfl) rfl ?_)))))
 refine ZH ?_ ?_
 refine cl rfl Z79 rfl rfl (Z0s h.gaps ag cg (by omega) _ _) ?_
 rintro _ _ R1 ⟨og, rfl, rfl, hR1, _⟩
 obtain rfl := hR1.symm
 clear hR1
 refine bg (fun w hs => ⟨(lhA (Z0D s) Z6x rfl rfl rfl) w hs, trivial, (lh sc3 rfl rfl) w hs, trivial⟩) ?_
 refine ZH ?_ ?_
 refine bsl (out := [_, _, _]) rfl Z6B Z3b rfl rfl rfl rfl rfl rfl (fun b40 => ?_)
 refine bg (fun w hs => ⟨trivial, (lh sc3 rfl rfl) w hs, trivial⟩) ?_
 refine ZH ?_ ?_
 refine apO (o28) rfl Z6v rfl rfl (Z03 (row := Z0D s) rfl) rfl rfl ((by rw [Zr]; simp only [List.length_singleton]; omega)) rfl (fun o41 => ?_)
 refine bg (fun w hs => ⟨(lh sc3 rfl rfl) w hs, trivial⟩) ?_
 refine tk rfl (PE.build (out := htl (h.add s) og.fs o41.fs) Z3y Z1l rfl (by simp only [Z1x, og.cells.1, o41.cells.1, List.getElem?_cons_zero, List.getElem?_cons_succ]; rfl)) rfl ?_
 refine alc rfl Z1l rfl (fun b8 => ?_)
 refine bg (fun w hs => ⟨(lh sc3 rfl rfl) w hs, trivial⟩) ?_
 refine Zu (l' := htl (h.add s) og.fs o41.fs) rfl rfl rfl Z1u rfl rfl (by show (htl _ og.fs o41.fs).all (·.oneCell') = true; simp only [htl, List.all_cons, List.all_nil, og.cells.2, o41.cells.2, Bool.and_true]; rfl) rfl (nl rfl) ?_
 refine bgT (Z0 (sqt 3 rfl ?_))
 obtain ⟨ax, cx, he1, hcx, hz1⟩ := og.freezeC
 obtain ⟨ay, cy, he2, hcy, hz2⟩ := (o41.cast (show Zc h.sights ++ [Z0D s] = Zc (h.add s).sights from by unfold Hse.add; rw [Z29]; rfl)).freezeC
 rw [show o41.fs = _ from he2, Zr, he1, ZB]
 rw [ZB] at hcx
 rw [Zr] at hcy
 refine Sy.heap (fun w h9 => h9.del b40) ?_
 first | refine Sy.heap (H' := _) (fun w h9 => hz1 (h9.perm (List.perm_middle (l₁ := og.G) (a := _)).symm)) ?_ | refine Sy.heap (H' := _) (fun w h9 => hz1 h9) ?_
 refine Sy.heap (H' := _) (fun w h9 => hz2 (h9.perm (List.perm_middle (l₁ := o41.G) (a := _)).symm)) ?_
 clear he1 he2 hz1 hz2
 refine spL rfl rfl (lhA (htl (h.add s) (.slice ax h.gaps.length cx) (.slice ay (h.add s).sights.length cy)) ZF rfl rfl rfl) rfl ?_
 refine clV rfl Z1I rfl rfl (Z01 (h.add s) ax ay cx cy (by show h.gaps.length ≤ _; omega) (by unfold Hse.add; simp only [List.length_append, List.length_singleton]; omega) _ _) ?_
 refine pur 1 rfl (sqt 2 rfl (pur 2 rfl ?_))
 refine Z1 rfl ?_ ?_ <;> intro hc2
 have h0 : (h.add s).check ≠ 0 := of_decide_eq_true hc2
 have he := hgo
 refine sqt 4 rfl (sp rfl (PE.build (out := htl ⟨0, [], []⟩ (.slice none 0 0) (.slice none 0 0)) Z3y Z1l rfl rfl) rfl (pur 1 rfl ?_))
 refine Zu (l' := htl ⟨0, [], []⟩ (.slice none 0 0) (.slice none 0 0)) rfl rfl rfl Z1u rfl rfl rfl rfl (nl rfl) ?_
 refine pur 1 rfl (Z3 ?_)
 rw [Z1D he h0, he]
 exact Zb (vs := [_, _]) rfl (.cons (RV.cell rfl (lhA [_, _, _] ZF rfl rfl rfl)) (.cons (RV.tmp rfl) .nil)) rfl ⟨none, none, 0, 0, ⟨Nat.le_refl _, Nat.le_refl _⟩, rfl, rfl, rfl⟩ (fun w h9 => St.norows2 (St.sub ((h9.del b8).del b4 |>.del b3 |>.del b2)))
 have h0 : (h.add s).check = 0 := Classical.byContradiction fun e => by rw [decide_eq_true e] at hc2; cases hc2
 have he := hgo.trans h0
 refine Z2 (sqt 3 rfl (spL rfl rfl (lhA (htl (h.add s) (.slice ax h.gaps.length cx) (.slice ay (h.add s).sights.length cy)) ZF rfl rfl rfl) rfl ?_))
 refine Zu (l' := htl (h.add s) (.slice ax h.gaps.length cx) (.slice ay (h.add s).sights.length cy)) rfl rfl rfl Z1u rfl rfl rfl rfl (nl rfl) ?_
 refine pur 1 rfl (Z3 ?_)
 rw [Z0T he, he]
 exact Zb (vs := [_, _]) rfl (.cons (RV.cell rfl (lhA [_, _, _] ZF rfl rfl rfl)) (.cons (RV.tmp rfl) .nil)) rfl ⟨ax, ay, cx, cy, ⟨hcx, hcy⟩, rfl, rfl, rfl⟩ (fun w h9 => ((h9.del b8).del b4 |>.del b3 |>.del b2).facts (fun g hg => by simp only [List.mem_cons] at hg ⊢; rcases hg with h8 | h8 | h8 <;> simp [h8, Hse.add]))
 refine ZH ?_ ?_
 refine alc rfl Z1l rfl (fun b8 => ?_)
 refine bg (fun w hs => ⟨(lh sc3 rfl rfl) w hs, trivial⟩) ?_
 refine apO (o28) rfl Z6v rfl rfl (Z03 (row := Z0D s) rfl) rfl rfl ((by rw [Zr]; simp only [List.length_singleton]; omega)) rfl (fun o41 => ?_)
 refine bg (fun w hs => ⟨(lh sc3 rfl rfl) w hs, trivial⟩) ?_
 refine tk rfl (PE.build (out := htl (h.add s) og.fs o41.fs) Z3y Z1l rfl (by simp only [Z1x, og.cells.1, o41.cells.1, List.getElem?_cons_zero, List.getElem?_cons_succ]; rfl)) rfl ?_
 refine Zu (l' := htl (h.add s) og.fs o41.fs) rfl rfl rfl Z1u rfl rfl (by show (htl _ og.fs o41.fs).all (·.oneCell') = true; simp only [htl, List.all_cons, List.all_nil, og.cells.2, o41.cells.2, Bool.and_true]; rfl) rfl (nl rfl) ?_
 refine bgT (Z0 (sqt 3 rfl ?_))
 obtain ⟨ax, cx, he1, hcx, hz1⟩ := og.freezeC
 obtain ⟨ay, cy, he2, hcy, hz2⟩ := (o41.cast (show Zc h.sights ++ [Z0D s] = Zc (h.add s).sights from by unfold Hse.add; rw [Z29]; rfl)).freezeC
 rw [show o41.fs = _ from he2, Zr, he1, ZB]
 rw [ZB] at hcx
 rw [Zr] at hcy
 refine Sy.heap (fun w h9 => h9.del b40) ?_
 first | refine Sy.heap (H' := _) (fun w h9 => hz1 (h9.perm (List.perm_middle (l₁ := og.G) (a := _)).symm)) ?_ | refine Sy.heap (H' := _) (fun w h9 => hz1 h9) ?_
 refine Sy.heap (H' := _) (fun w h9 => hz2 (h9.perm (List.perm_middle (l₁ := o41.G) (a := _)).symm)) ?_
 clear he1 he2 hz1 hz2
 refine spL rfl rfl (lhA (htl (h.add s) (.slice ax h.gaps.length cx) (.slice ay (h.add s).sights.length cy)) ZF rfl rfl rfl) rfl ?_
 refine clV rfl Z1I rfl rfl (Z01 (h.add s) ax ay cx cy (by show h.gaps.length ≤ _; omega) (by unfold Hse.add; simp only [List.length_append, List.length_singleton]; omega) _ _) ?_
 refine pur 1 rfl (sqt 2 rfl (pur 2 rfl ?_))
 refine Z1 rfl ?_ ?_ <;> intro hc2
 have h0 : (h.add s).check ≠ 0 := of_decide_eq_true hc2
 have he := hgo
 refine sqt 4 rfl (sp rfl (PE.build (out := htl ⟨0, [], []⟩ (.slice none 0 0) (.slice none 0 0)) Z3y Z1l rfl rfl) rfl (pur 1 rfl ?_))
 refine Zu (l' := htl ⟨0, [], []⟩ (.slice none 0 0) (.slice none 0 0)) rfl rfl rfl Z1u rfl rfl rfl rfl (nl rfl) ?_
 refine pur 1 rfl (Z3 ?_)
 rw [Z1D he h0, he]
 exact Zb (vs := [_, _]) rfl (.cons (RV.cell rfl (lhA [_, _, _] ZF rfl rfl rfl)) (.cons (RV.tmp rfl) .nil)) rfl ⟨none, none, 0, 0, ⟨Nat.le_refl _, Nat.le_refl _⟩, rfl, rfl, rfl⟩ (fun w h9 => St.norows2 (St.sub ((h9.del b8).del b4 |>.del b3 |>.del b2)))
 have h0 : (h.add s).check = 0 := Classical.byContradiction fun e => by rw [decide_eq_true e] at hc2; cases hc2
 have he := hgo.trans h0
 refine Z2 (sqt 3 rfl (spL rfl rfl (lhA (htl (h.add s) (.slice ax h.gaps.length cx) (.slice ay (h.add s).sights.length cy)) ZF rfl rfl rfl) rfl ?_))
 refine Zu (l' := htl (h.add s) (.slice ax h.gaps.length cx) (.slice ay (h.add s).sights.length cy)) rfl rfl rfl Z1u rfl rfl rfl rfl (nl rfl) ?_
 refine pur 1 rfl (Z3 ?_)
 rw [Z0T he, he]
 exact Zb (vs := [_, _]) rfl (.cons (RV.cell rfl (lhA [_, _, _] ZF rfl rfl rfl)) (.cons (RV.tmp rfl) .nil)) rfl ⟨ax, ay, cx, cy, ⟨hcx, hcy⟩, rfl, rfl, rfl⟩ (fun w h9 => ((h9.del b8).del b4 |>.del b3 |>.del b2).facts (fun g hg => by simp only [List.mem_cons] at hg ⊢; rcases hg with h8 | h8 | h8 <;> simp [h8, Hse.add]))
 exact Z0j
 refine ZH ?_ ?_
 refine alc rfl Z1l rfl (fun b8 => ?_)
 refine bg (fun w hs => ⟨(lhA (Z0D s) Z6x rfl rfl rfl) w hs, (lh sc3 rfl rfl) w hs, trivial⟩) ?_
 refine bsl (out := [_, _, _]) rfl Z6B Z3b rfl rfl rfl rfl rfl rfl (fun b40 => ?_)
 refine bg (fun w hs => ⟨trivial, (lh sc3 rfl rfl) w hs, trivial⟩) ?_
 refine apO (o28) rfl Z6v rfl rfl (Z03 (row := Z0D s) rfl) rfl rfl ((by rw [Zr]; simp only [List.length_singleton]; omega)) rfl (fun o41 => ?_)
 refine bg (fun w hs => ⟨(lh sc3 rfl rfl) w hs, trivial⟩) ?_
 refine tk rfl (PE.build (out := htl (h.add s) og.fs o41.fs) Z3y Z1l rfl (by simp only [Z1x, og.cells.1, o41.cells.1, List.getElem?_cons_zero, List.getElem?_cons_succ]; rfl)) rfl ?_
 refine Zu (l' := htl (h.add s) og.fs o41.fs) rfl rfl rfl Z1u rfl rfl (by show (htl _ og.fs o41.fs).all (·.oneCell') = true; simp only [htl, List.all_cons, List.all_nil, og.cells.2, o41.cells.2, Bool.and_true]; rfl) rfl (nl rfl) ?_
 refine bgT (Z0 (sqt 3 rfl ?_))
 obtain ⟨ax, cx, he1, hcx, hz1⟩ := og.freezeC
 obtain ⟨ay, cy, he2, hcy, hz2⟩ := (o41.cast (show Zc h.sights ++ [Z0D s] = Zc (h.add s).sights from by unfold Hse.add; rw [Z29]; rfl)).freezeC
 rw [show o41.fs = _ from he2, Zr, he1, ZB]
 rw [ZB] at hcx
 rw [Zr] at hcy
 refine Sy.heap (fun w h9 => h9.del b40) ?_
 first | refine Sy.heap (H' := _) (fun w h9 => hz1 (h9.perm (List.perm_middle (l₁ := og.G) (a := _)).symm)) ?_ | refine Sy.heap (H' := _) (fun w h9 => hz1 h9) ?_
 refine Sy.heap (H' := _) (fun w h9 => hz2 (h9.perm (List.perm_middle (l₁ := o41.G) (a := _)).symm)) ?_
 clear he1 he2 hz1 hz2
 refine spL rfl rfl (lhA (htl (h.add s) (.slice ax h.gaps.length cx) (.slice ay (h.add s).sights.length cy)) ZF rfl rfl rfl) rfl ?_
 refine clV rfl Z1I rfl rfl (Z01 (h.add s) ax ay cx cy (by show h.gaps.length ≤ _; omega) (by unfold Hse.add; simp only [List.length_append, List.length_singleton]; omega) _ _) ?_
 refine pur 1 rfl (sqt 2 rfl (pur 2 rfl ?_))
 refine Z1 rfl ?_ ?_ <;> intro hc2
 have h0 : (h.add s).check ≠ 0 := of_decide_eq_true hc2
 have he := hgo
 refine sqt 4 rfl (sp rfl (PE.build (out := htl ⟨0, [], []⟩ (.slice none 0 0) (.slice none 0 0)) Z3y Z1l rfl rfl) rfl (pur 1 rfl ?_))
 refine Zu (l' := htl ⟨0, [], []⟩ (.slice none 0 0) (.slice none 0 0)) rfl rfl rfl Z1u rfl rfl rfl rfl (nl rfl) ?_
 refine pur 1 rfl (Z3 ?_)
 rw [Z1D he h0, he]
 exact Zb (vs := [_, _]) rfl (.cons (RV.cell rfl (lhA [_, _, _] ZF rfl rfl rfl)) (.cons (RV.tmp rfl) .nil)) rfl ⟨none, none, 0, 0, ⟨Nat.le_refl _, Nat.le_refl _⟩, rfl, rfl, rfl⟩ (fun w h9 => St.norows2 (St.sub ((h9.del b8).del b4 |>.del b3 |>.del b2)))
 have h0 : (h.add s).check = 0 := Classical.byContradiction fun e => by rw [decide_eq_true e] at hc2; cases hc2
 have he := hgo.trans h0
 refine Z2 (sqt 3 rfl (spL rfl rfl (lhA (htl (h.add s) (.slice ax h.gaps.length cx) (.slice ay (h.add s).sights.length cy)) ZF rfl rfl rfl) rfl ?_))
 refine Zu (l' := htl (h.add s) (.slice ax h.gaps.length cx) (.slice ay (h.add s).sights.length cy)) rfl rfl rfl Z1u rfl rfl rfl rfl (nl rfl) ?_
 refine pur 1 rfl (Z3 ?_)
 rw [Z0T he, he]
 exact Zb (vs := [_, _]) rfl (.cons (RV.cell rfl (lhA [_, _, _] ZF rfl rfl rfl)) (.cons (RV.tmp rfl) .nil)) rfl ⟨ax, ay, cx, cy, ⟨hcx, hcy⟩, rfl, rfl, rfl⟩ (fun w h9 => ((h9.del b8).del b4 |>.del b3 |>.del b2).facts (fun g hg => by simp only [List.mem_cons] at hg ⊢; rcases hg with h8 | h8 | h8 <;> simp [h8, Hse.add]))
 exact Z0j
 refine ZH ?_ ?_
 refine bsl (out := [_, _, _]) rfl Z6B Z3b rfl rfl rfl rfl rfl rfl (fun b40 => ?_)
 refine bg (fun w hs => ⟨trivial, (lh Z3g rfl rfl) w hs, (lh sc3 rfl rfl) w hs, trivial⟩) ?_
 refine ZH ?_ ?_
 refine cl rfl Z79 rfl rfl (Z0s h.gaps ag cg (by omega) _ _) ?_
 rintro _ _ R1 ⟨og, rfl, rfl, hR1, _⟩
 obtain rfl := hR1.symm
 clear hR1
 refine bg (fun w hs => ⟨trivial, (lh sc3 rfl rfl) w hs, trivial⟩) ?_
 refine ZH ?_ ?_
 refine apO (o28) rfl Z6v rfl rfl (Z03 (row := Z0D s) rfl) rfl rfl ((by rw [Zr]; simp only [List.length_singleton]; omega)) rfl (fun o41 => ?_)
 refine bg (fun w hs => ⟨(lh sc3 rfl rfl) w hs, trivial⟩) ?_
 refine tk rfl (PE.build (out := htl (h.add s) og.fs o41.fs) Z3y Z1l rfl (by simp only [Z1x, og.cells.1, o41.cells.1, List.getElem?_cons_zero, List.getElem?_cons_succ]; rfl)) rfl ?_
 refine alc rfl Z1l rfl (fun b8 => ?_)
 refine bg (fun w hs => ⟨(lh sc3 rfl rfl) w hs, trivial⟩) ?_
 refine Zu (l' := htl (h.add s) og.fs o41.fs) rfl rfl rfl Z1u rfl rfl (by show (htl _ og.fs o41.fs).all (·.oneCell') = true; simp only [htl, List.all_cons, List.all_nil, og.cells.2, o41.cells.2, Bool.and_true]; rfl) rfl (nl rfl) ?_
 refine bgT (Z0 (sqt 3 rfl ?_))
 obtain ⟨ax, cx, he1, hcx, hz1⟩ := og.freezeC
 obtain ⟨ay, cy, he2, hcy, hz2⟩ := (o41.cast (show Zc h.sights ++ [Z0D s] = Zc (h.add s).sights from by unfold Hse.add; rw [Z29]; rfl)).freezeC
 rw [show o41.fs = _ from he2, Zr, he1, ZB]
 rw [ZB] at hcx
 rw [Zr] at hcy
 refine Sy.heap (fun w h9 => h9.del b40) ?_
 first | refine Sy.heap (H' := _) (fun w h9 => hz1 (h9.perm (List.perm_middle (l₁ := og.G) (a := _)).symm)) ?_ | refine Sy.heap (H' := _) (fun w h9 => hz1 h9) ?_
 refine Sy.heap (H' := _) (fun w h9 => hz2 (h9.perm (List.perm_middle (l₁ := o41.G) (a := _)).symm)) ?_
 clear he1 he2 hz1 hz2
 refine spL rfl rfl (lhA (htl (h.add s) (.slice ax h.gaps.length cx) (.slice ay (h.add s).sights.length cy)) ZF rfl rfl rfl) rfl ?_
 refine clV rfl Z1I rfl rfl (Z01 (h.add s) ax ay cx cy (by show h.gaps.length ≤ _; omega) (by unfold Hse.add; simp only [List.length_append, List.length_singleton]; omega) _ _) ?_
 refine pur 1 rfl (sqt 2 rfl (pur 2 rfl ?_))
 refine Z1 rfl ?_ ?_ <;> intro hc2
 have h0 : (h.add s).check ≠ 0 := of_decide_eq_true hc2
 have he := hgo
 refine sqt 4 rfl (sp rfl (PE.build (out := htl ⟨0, [], []⟩ (.slice none 0 0) (.slice none 0 0)) Z3y Z1l rfl rfl) rfl (pur 1 rfl ?_))
 refine Zu (l' := htl ⟨0, [], []⟩ (.slice none 0 0) (.slice none 0 0)) rfl rfl rfl Z1u rfl rfl rfl rfl (nl rfl) ?_
 refine pur 1 rfl (Z3 ?_)
 rw [Z1D he h0, he]
 exact Zb (vs := [_, _]) rfl (.cons (RV.cell rfl (lhA [_, _, _] ZF rfl rfl rfl)) (.cons (RV.tmp rfl) .nil)) rfl ⟨none, none, 0, 0, ⟨Nat.le_refl _, Nat.le_refl _⟩, rfl, rfl, rfl⟩ (fun w h9 => St.norows2 (St.sub ((h9.del b8).del b4 |>.del b3 |>.del b2)))
 have h0 : (h.add s).check = 0 := Classical.byContradiction fun e => by rw [decide_eq_true e] at hc2; cases hc2
 have he := hgo.trans h0
 refine Z2 (sqt 3 rfl (spL rfl rfl (lhA (htl (h.add s) (.slice ax h.gaps.length cx) (.slice ay (h.add s).sights.length cy)) ZF rfl rfl rfl) rfl ?_))
 refine Zu (l' := htl (h.add s) (.slice ax h.gaps.length cx) (.slice ay (h.add s).sights.length cy)) rfl rfl rfl Z1u rfl rfl rfl rfl (nl rfl) ?_
 refine pur 1 rfl (Z3 ?_)
 rw [Z0T he, he]
 exact Zb (vs := [_, _]) rfl (.cons (RV.cell rfl (lhA [_, _, _] ZF rfl rfl rfl)) (.cons (RV.tmp rfl) .nil)) rfl ⟨ax, ay, cx, cy, ⟨hcx, hcy⟩, rfl, rfl, rfl⟩ (fun w h9 => ((h9.del b8).del b4 |>.del b3 |>.del b2).facts (fun g hg => by simp only [List.mem_cons] at hg ⊢; rcases hg with h8 | h8 | h8 <;> simp [h8, Hse.add]))
 refine ZH ?_ ?_
 refine alc rfl Z1l rfl (fun b8 => ?_)
 refine bg (fun w hs => ⟨(lh sc3 rfl rfl) w hs, trivial⟩) ?_
 refine apO (o28) rfl Z6v rfl rfl (Z03 (row := Z0D s) rfl) rfl rfl ((by rw [Zr]; simp only [List.length_singleton]; omega)) rfl (fun o41 => ?_)
 refine bg (fun w hs => ⟨(lh sc3 rfl rfl) w hs, trivial⟩) ?_
 refine tk rfl (PE.build (out := htl (h.add s) og.fs o41.fs) Z3y Z1l rfl (by simp only [Z1x, og.cells.1, o41.cells.1, List.getElem?_cons_zero, List.getElem?_cons_succ]; rfl)) rfl ?_
 refine Zu (l' := htl (h.add s) og.fs o41.fs) rfl rfl rfl Z1u rfl rfl (by show (htl _ og.fs o41.fs).all (·.oneCell') = true; simp only [htl, List.all_cons, List.all_nil, og.cells.2, o41.cells.2, Bool.and_true]; rfl) rfl (nl rfl) ?_
 refine bgT (Z0 (sqt 3 rfl ?_))
 obtain ⟨ax, cx, he1, hcx, hz1⟩ := og.freezeC
 obtain ⟨ay, cy, he2, hcy, hz2⟩ := (o41.cast (show Zc h.sights ++ [Z0D s] = Zc (h.add s).sights from by unfold Hse.add; rw [Z29]; rfl)).freezeC
 rw [show o41.fs = _ from he2, Zr, he1, ZB]
 rw [ZB] at hcx
 rw [Zr] at hcy
 refine Sy.heap (fun w h9 => h9.del b40) ?_
 first | refine Sy.heap (H' := _) (fun w h9 => hz1 (h9.perm (List.perm_middle (l₁ := og.G) (a := _)).symm)) ?_ | refine Sy.heap (H' := _) (fun w h9 => hz1 h9) ?_
 refine Sy.heap (H' := _) (fun w h9 => hz2 (h9.perm (List.perm_middle (l₁ := o41.G) (a := _)).symm)) ?_
 clear he1 he2 hz1 hz2
 refine spL rfl rfl (lhA (htl (h.add s) (.slice ax h.gaps.length cx) (.slice ay (h.add s).sights.length cy)) ZF rfl rfl rfl) rfl ?_
 refine clV rfl Z1I rfl rfl (Z01 (h.add s) ax ay cx cy (by show h.gaps.length ≤ _; omega) (by unfold Hse.add; simp only [List.length_append, List.length_singleton]; omega) _ _) ?_
 refine pur 1 rfl (sqt 2 rfl (pur 2 rfl ?_))
 refine Z1 rfl ?_ ?_ <;> intro hc2
 have h0 : (h.add s).check ≠ 0 := of_decide_eq_true hc2
 have he := hgo
 refine sqt 4 rfl (sp rfl (PE.build (out := htl ⟨0, [], []⟩ (.slice none 0 0) (.slice none 0 0)) Z3y Z1l rfl rfl) rfl (pur 1 rfl ?_))
 refine Zu (l' := htl ⟨0, [], []⟩ (.slice none 0 0) (.slice none 0 0)) rfl rfl rfl Z1u rfl rfl rfl rfl (nl rfl) ?_
 refine pur 1 rfl (Z3 ?_)
 rw [Z1D he h0, he]
 exact Zb (vs := [_, _]) rfl (.cons (RV.cell rfl (lhA [_, _, _] ZF rfl rfl rfl)) (.cons (RV.tmp rfl) .nil)) rfl ⟨none, none, 0, 0, ⟨Nat.le_refl _, Nat.le_refl _⟩, rfl, rfl, rfl⟩ (fun w h9 => St.norows2 (St.sub ((h9.del b8).del b4 |>.del b3 |>.del b2)))
 have h0 : (h.add s).check = 0 := Classical.byContradiction fun e => by rw [decide_eq_true e] at hc2; cases hc2
 have he := hgo.trans h0
 refine Z2 (sqt 3 rfl (spL rfl rfl (lhA (htl (h.add s) (.slice ax h.gaps.length cx) (.slice ay (h.add s).sights.length cy)) ZF rfl rfl rfl) rfl ?_))
 refine Zu (l' := htl (h.add s) (.slice ax h.gaps.length cx) (.slice ay (h.add s).sights.length cy)) rfl rfl rfl Z1u rfl rfl rfl rfl (nl rfl) ?_
 refine pur 1 rfl (Z3 ?_)
 rw [Z0T he, he]
 exact Zb (vs := [_, _]) rfl (.cons (RV.cell rfl (lhA [_, _, _] ZF rfl rfl rfl)) (.cons (RV.tmp rfl) .nil)) rfl ⟨ax, ay, cx, cy, ⟨hcx, hcy⟩, rfl, rfl, rfl⟩ (fun w h9 => ((h9.del b8).del b4 |>.del b3 |>.del b2).facts (fun g hg => by simp only [List.mem_cons] at hg ⊢; rcases hg with h8 | h8 | h8 <;> simp [h8, Hse.add]))
 exact Z0j
 refine ZH ?_ ?_
 refine alc rfl Z1l rfl (fun b8 => ?_)
 refine bg (fun w hs => ⟨(lh Z3g rfl rfl) w hs, (lh sc3 rfl rfl) w hs, trivial⟩) ?_
 refine cl rfl Z79 rfl rfl (Z0s h.gaps ag cg (by omega) _ _) ?_
 rintro _ _ R1 ⟨og, rfl, rfl, hR1, _⟩
 obtain rfl := hR1.symm
 clear hR1
 refine bg (fun w hs => ⟨trivial, (lh sc3 rfl rfl) w hs, trivial⟩) ?_
 refine apO (o28) rfl Z6v rfl rfl (Z03 (row := Z0D s) rfl) rfl rfl ((by rw [Zr]; simp only [List.length_singleton]; omega)) rfl (fun o41 => ?_)
 refine bg (fun w hs => ⟨(lh sc3 rfl rfl) w hs, trivial⟩) ?_
 refine tk rfl (PE.build (out := htl (h.add s) og.fs o41.fs) Z3y Z1l rfl (by simp only [Z1x, og.cells.1, o41.cells.1, List.getElem?_cons_zero, List.getElem?_cons_succ]; rfl)) rfl ?_
 refine Zu (l' := htl (h.add s) og.fs o41.fs) rfl rfl rfl Z1u rfl rfl (by show (htl _ og.fs o41.fs).all (·.oneCell') = true; simp only [htl, List.all_cons, List.all_nil, og.cells.2, o41.cells.2, Bool.and_true]; rfl) rfl (nl rfl) ?_
 refine bgT (Z0 (sqt 3 rfl ?_))
 obtain ⟨ax, cx, he1, hcx, hz1⟩ := og.freezeC
 obtain ⟨ay, cy, he2, hcy, hz2⟩ := (o41.cast (show Zc h.sights ++ [Z0D s] = Zc (h.add s).sights from by unfold Hse.add; rw [Z29]; rfl)).freezeC
 rw [show o41.fs = _ from he2, Zr, he1, ZB]
 rw [ZB] at hcx
 rw [Zr] at hcy
 refine Sy.heap (fun w h9 => h9.del b40) ?_
 first | refine Sy.heap (H' := _) (fun w h9 => hz1 (h9.perm (List.perm_middle (l₁ := og.G) (a := _)).symm)) ?_ | refine Sy.heap (H' := _) (fun w h9 => hz1 h9) ?_
 refine Sy.heap (H' := _) (fun w h9 => hz2 (h9.perm (List.perm_middle (l₁ := o41.G) (a := _)).symm)) ?_
 clear he1 he2 hz1 hz2
 refine spL rfl rfl (lhA (htl (h.add s) (.slice ax h.gaps.length cx) (.slice ay (h.add s).sights.length cy)) ZF rfl rfl rfl) rfl ?_
 refine clV rfl Z1I rfl rfl (Z01 (h.add s) ax ay cx cy (by show h.gaps.length ≤ _; omega) (by unfold Hse.add; simp only [List.length_append, List.length_singleton]; omega) _ _) ?_
 refine pur 1 rfl (sqt 2 rfl (pur 2 rfl ?_))
 refine Z1 rfl ?_ ?_ <;> intro hc2
 have h0 : (h.add s).check ≠ 0 := of_decide_eq_true hc2
 have he := hgo
 refine sqt 4 rfl (sp rfl (PE.build (out := htl ⟨0, [], []⟩ (.slice none 0 0) (.slice none 0 0)) Z3y Z1l rfl rfl) rfl (pur 1 rfl ?_))
 refine Zu (l' := htl ⟨0, [], []⟩ (.slice none 0 0) (.slice none 0 0)) rfl rfl rfl Z1u rfl rfl rfl rfl (nl rfl) ?_
 refine pur 1 rfl (Z3 ?_)
 rw [Z1D he h0, he]
 exact Zb (vs := [_, _]) rfl (.cons (RV.cell rfl (lhA [_, _, _] ZF rfl rfl rfl)) (.cons (RV.tmp rfl) .nil)) rfl ⟨none, none, 0, 0, ⟨Nat.le_refl _, Nat.le_refl _⟩, rfl, rfl, rfl⟩ (fun w h9 => St.norows2 (St.sub ((h9.del b8).del b4 |>.del b3 |>.del b2)))
 have h0 : (h.add s).check = 0 := Classical.byContradiction fun e => by rw [decide_eq_true e] at hc2; cases hc2
 have he := hgo.trans h0
 refine Z2 (sqt 3 rfl (spL rfl rfl (lhA (htl (h.add s) (.slice ax h.gaps.length cx) (.slice ay (h.add s).sights.length cy)) ZF rfl rfl rfl) rfl ?_))
 refine Zu (l' := htl (h.add s) (.slice ax h.gaps.length cx) (.slice ay (h.add s).sights.length cy)) rfl rfl rfl Z1u rfl rfl rfl rfl (nl rfl) ?_
 refine pur 1 rfl (Z3 ?_)
 rw [Z0T he, he]
 exact Zb (vs := [_, _]) rfl (.cons (RV.cell rfl (lhA [_, _, _] ZF rfl rfl rfl)) (.cons (RV.tmp rfl) .nil)) rfl ⟨ax, ay, cx, cy, ⟨hcx, hcy⟩, rfl, rfl, rfl⟩ (fun w h9 => ((h9.del b8).del b4 |>.del b3 |>.del b2).facts (fun g hg => by simp only [List.mem_cons] at hg ⊢; rcases hg with h8 | h8 | h8 <;> simp [h8, Hse.add]))
 exact Z0j
 refine ZH ?_ ?_
 refine alc rfl Z1l rfl (fun b8 => ?_)
 refine bg (fun w hs => ⟨(lhA (Z0D s) Z6x rfl rfl rfl) w hs, (lh Z3g rfl rfl) w hs, (lh sc3 rfl rfl) w hs, trivial⟩) ?_
 refine ZH ?_ ?_
 refine cl rfl Z79 rfl rfl (Z0s h.gaps ag cg (by omega) _ _) ?_
 rintro _ _ R1 ⟨og, rfl, rfl, hR1, _⟩
 obtain rfl := hR1.symm
 clear hR1
 refine bg (fun w hs => ⟨(lhA (Z0D s) Z6x rfl rfl rfl) w hs, trivial, (lh sc3 rfl rfl) w hs, trivial⟩) ?_
 refine bsl (out := [_, _, _]) rfl Z6B Z3b rfl rfl rfl rfl rfl rfl (fun b40 => ?_)
 refine bg (fun w hs => ⟨trivial, (lh sc3 rfl rfl) w hs, trivial⟩) ?_
 refine apO (o28) rfl Z6v rfl rfl (Z03 (row := Z0D s) rfl) rfl rfl ((by rw [Zr]; simp only [List.length_singleton]; omega)) rfl (fun o41 => ?_)
 refine bg (fun w hs => ⟨(lh sc3 rfl rfl) w hs, trivial⟩) ?_
 refine tk rfl (PE.build (out := htl (h.add s) og.fs o41.fs) Z3y Z1l rfl (by simp only [Z1x, og.cells.1, o41.cells.1, List.getElem?_cons_zero, List.getElem?_cons_succ]; rfl)) rfl ?_
 refine Zu (l' := htl (h.add s) og.fs o41.fs) rfl rfl rfl Z1u rfl rfl (by show (htl _ og.fs o41.fs).all (·.oneCell') = true; simp only [htl, List.all_cons, List.all_nil, og.cells.2, o41.cells.2, Bool.and_true]; rfl) rfl (nl rfl) ?_
 refine bgT (Z0 (sqt 3 rfl ?_))
 obtain ⟨ax, cx, he1, hcx, hz1⟩ := og.freezeC
 obtain ⟨ay, cy, he2, hcy, hz2⟩ := (o41.cast (show Zc h.sights ++ [Z0D s] = Zc (h.add s).sights from by unfold Hse.add; rw [Z29]; rfl)).freezeC
 rw [show o41.fs = _ from he2, Zr, he1, ZB]
 rw [ZB] at hcx
 rw [Zr] at hcy
 refine Sy.heap (fun w h9 => h9.del b40) ?_
 first | refine Sy.heap (H' := _) (fun w h9 => hz1 (h9.perm (List.perm_middle (l₁ := og.G) (a := _)).symm)) ?_ | refine Sy.heap (H' := _) (fun w h9 => hz1 h9) ?_
 refine Sy.heap (H' := _) (fun w h9 => hz2 (h9.perm (List.perm_middle (l₁ := o41.G) (a := _)).symm)) ?_
 clear he1 he2 hz1 hz2
 refine spL rfl rfl (lhA (htl (h.add s) (.slice ax h.gaps.length cx) (.slice ay (h.add s).sights.length cy)) ZF rfl rfl rfl) rfl ?_
 refine clV rfl Z1I rfl rfl (Z01 (h.add s) ax ay cx cy (by show h.gaps.length ≤ _; omega) (by unfold Hse.add; simp only [List.length_append, List.length_singleton]; omega) _ _) ?_
 refine pur 1 rfl (sqt 2 rfl (pur 2 rfl ?_))
 refine Z1 rfl ?_ ?_ <;> intro hc2
 have h0 : (h.add s).check ≠ 0 := of_decide_eq_true hc2
 have he := hgo
 refine sqt 4 rfl (sp rfl (PE.build (out := htl ⟨0, [], []⟩ (.slice none 0 0) (.slice none 0 0)) Z3y Z1l rfl rfl) rfl (pur 1 rfl ?_))
 refine Zu (l' := htl ⟨0, [], []⟩ (.slice none 0 0) (.slice none 0 0)) rfl rfl rfl Z1u rfl rfl rfl rfl (nl rfl) ?_
 refine pur 1 rfl (Z3 ?_)
 rw [Z1D he h0, he]
 exact Zb (vs := [_, _]) rfl (.cons (RV.cell rfl (lhA [_, _, _] ZF rfl rfl rfl)) (.cons (RV.tmp rfl) .nil)) rfl ⟨none, none, 0, 0, ⟨Nat.le_refl _, Nat.le_refl _⟩, rfl, rfl, rfl⟩ (fun w h9 => St.norows2 (St.sub ((h9.del b8).del b4 |>.del b3 |>.del b2)))
 have h0 : (h.add s).check = 0 := Classical.byContradiction fun e => by rw [decide_eq_true e] at hc2; cases hc2
 have he := hgo.trans h0
 refine Z2 (sqt 3 rfl (spL rfl rfl (lhA (htl (h.add s) (.slice ax h.gaps.length cx) (.slice ay (h.add s).sights.length cy)) ZF rfl rfl rfl) rfl ?_))
 refine Zu (l' := htl (h.add s) (.slice ax h.gaps.length cx) (.slice ay (h.add s).sights.length cy)) rfl rfl rfl Z1u rfl rfl rfl rfl (nl rfl) ?_
 refine pur 1 rfl (Z3 ?_)
 rw [Z0T he, he]
 exact Zb (vs := [_, _]) rfl (.cons (RV.cell rfl (lhA [_, _, _] ZF rfl rfl rfl)) (.cons (RV.tmp rfl) .nil)) rfl ⟨ax, ay, cx, cy, ⟨hcx, hcy⟩, rfl, rfl, rfl⟩ (fun w h9 => ((h9.del b8).del b4 |>.del b3 |>.del b2).facts (fun g hg => by simp only [List.mem_cons] at hg ⊢; rcases hg with h8 | h8 | h8 <;> simp [h8, Hse.add]))
 refine ZH ?_ ?_
 refine bsl (out := [_, _, _]) rfl Z6B Z3b rfl rfl rfl rfl rfl rfl (fun b40 => ?_)
 refine bg (fun w hs => ⟨trivial, (lh Z3g rfl rfl) w hs, (lh sc3 rfl rfl) w hs, trivial⟩) ?_
 refine cl rfl Z79 rfl rfl (Z0s h.gaps ag cg (by omega) _ _) ?_
 rintro _ _ R1 ⟨og, rfl, rfl, hR1, _⟩
 obtain rfl := hR1.symm
 clear hR1
 refine bg (fun w hs => ⟨trivial, (lh sc3 rfl rfl) w hs, trivial⟩) ?_
 refine apO (o28) rfl Z6v rfl rfl (Z03 (row := Z0D s) rfl) rfl rfl ((by rw [Zr]; simp only [List.length_singleton]; omega)) rfl (fun o41 => ?_)
 refine bg (fun w hs => ⟨(lh sc3 rfl rfl) w hs, trivial⟩) ?_
 refine tk rfl (PE.build (out := htl (h.add s) og.fs o41.fs) Z3y Z1l rfl (by simp only [Z1x, og.cells.1, o41.cells.1, List.getElem?_cons_zero, List.getElem?_cons_succ]; rfl)) rfl ?_
 refine Zu (l' := htl (h.add s) og.fs o41.fs) rfl rfl rfl Z1u rfl rfl (by show (htl _ og.fs o41.fs).all (·.oneCell') = true; simp only [htl, List.all_cons, List.all_nil, og.cells.2, o41.cells.2, Bool.and_true]; rfl) rfl (nl rfl) ?_
 refine bgT (Z0 (sqt 3 rfl ?_))
 obtain ⟨ax, cx, he1, hcx, hz1⟩ := og.freezeC
 obtain ⟨ay, cy, he2, hcy, hz2⟩ := (o41.cast (show Zc h.sights ++ [Z0D s] = Zc (h.add s).sights from by unfold Hse.add; rw [Z29]; rfl)).freezeC
 rw [show o41.fs = _ from he2, Zr, he1, ZB]
 rw [ZB] at hcx
 rw [Zr] at hcy
 refine Sy.heap (fun w h9 => h9.del b40) ?_
 first | refine Sy.heap (H' := _) (fun w h9 => hz1 (h9.perm (List.perm_middle (l₁ := og.G) (a := _)).symm)) ?_ | refine Sy.heap (H' := _) (fun w h9 => hz1 h9) ?_
 refine Sy.heap (H' := _) (fun w h9 => hz2 (h9.perm (List.perm_middle (l₁ := o41.G) (a := _)).symm)) ?_
 clear he1 he2 hz1 hz2
 refine spL rfl rfl (lhA (htl (h.add s) (.slice ax h.gaps.length cx) (.slice ay (h.add s).sights.length cy)) ZF rfl rfl rfl) rfl ?_
 refine clV rfl Z1I rfl rfl (Z01 (h.add s) ax ay cx cy (by show h.gaps.length ≤ _; omega) (by unfold Hse.add; simp only [List.length_append, List.length_singleton]; omega) _ _) ?_
 refine pur 1 rfl (sqt 2 rfl (pur 2 rfl ?_))
 refine Z1 rfl ?_ ?_ <;> intro hc2
 have h0 : (h.add s).check ≠ 0 := of_decide_eq_true hc2
 have he := hgo
 refine sqt 4 rfl (sp rfl (PE.build (out := htl ⟨0, [], []⟩ (.slice none 0 0) (.slice none 0 0)) Z3y Z1l rfl rfl) rfl (pur 1 rfl ?_))
 refine Zu (l' := htl ⟨0, [], []⟩ (.slice none 0 0) (.slice none 0 0)) rfl rfl rfl Z1u rfl rfl rfl rfl (nl rfl) ?_
 refine pur 1 rfl (Z3 ?_)
 rw [Z1D he h0, he]
 exact Zb (vs := [_, _]) rfl (.cons (RV.cell rfl (lhA [_, _, _] ZF rfl rfl rfl)) (.cons (RV.tmp rfl) .nil)) rfl ⟨none, none, 0, 0, ⟨Nat.le_refl _, Nat.le_refl _⟩, rfl, rfl, rfl⟩ (fun w h9 => St.norows2 (St.sub ((h9.del b8).del b4 |>.del b3 |>.del b2)))
 have h0 : (h.add s).check = 0 := Classical.byContradiction fun e => by rw [decide_eq_true e] at hc2; cases hc2
 have he := hgo.trans h0
 refine Z2 (sqt 3 rfl (spL rfl rfl (lhA (htl (h.add s) (.slice ax h.gaps.length cx) (.slice ay (h.add s).sights.length cy)) ZF rfl rfl rfl) rfl ?_))
 refine Zu (l' := htl (h.add s) (.slice ax h.gaps.length cx) (.slice ay (h.add s).sights.length cy)) rfl rfl rfl Z1u rfl rfl rfl rfl (nl rfl) ?_
 refine pur 1 rfl (Z3 ?_)
 rw [Z0T he, he]
 exact Zb (vs := [_, _]) rfl (.cons (RV.cell rfl (lhA [_, _, _] ZF rfl rfl rfl)) (.cons (RV.tmp rfl) .nil)) rfl ⟨ax, ay, cx, cy, ⟨hcx, hcy⟩, rfl, rfl, rfl⟩ (fun w h9 => ((h9.del b8).del b4 |>.del b3 |>.del b2).facts (fun g hg => by simp only [List.mem_cons] at hg ⊢; rcases hg with h8 | h8 | h8 <;> simp [h8, Hse.add]))
 exact Z0j
 exact Z0j
theorem Zae {y : List Nat} {n : Nat} (hp : y.Pairwise (· < ·)) (hn : ∀ j ∈ y, j < n) : cnt n (msk (y.map fun (j : Nat) => (j : Int))) = y.length := by
  rw [← Z1m]
  congr 1
  refine Z3S (List.pairwise_lt_range.filter _) hp fun x => ?_
  rw [List.mem_filter, List.mem_range, Zv (fun j hj => by obtain ⟨k, _, rfl⟩ := List.mem_map.1 hj; omega)]
  constructor
  · rintro ⟨_, h⟩
    obtain ⟨k, hk, e⟩ := List.mem_map.1 h
    obtain rfl : k = x := by omega
    exact hk
  · intro h; exact ⟨hn x h, List.mem_map.2 ⟨x, h, rfl⟩⟩
theorem Z8H {n m : Nat} (h : m < 2 ^ n) : msk (((List.range n).filter fun i => m.testBit i).map fun (j : Nat) => (j : Int)) = m := Z05 fun k => by
  rw [Bool.eq_iff_iff, Zv (fun j hj => by obtain ⟨k, _, rfl⟩ := List.mem_map.1 hj; omega)]
  constructor
  · intro h1
    obtain ⟨j, hj, e⟩ := List.mem_map.1 h1
    obtain rfl : j = k := by omega
    exact (List.mem_filter.1 hj).2
  · intro h1; exact List.mem_map.2 ⟨k, List.mem_filter.2 ⟨List.mem_range.2 (Z1h h h1), h1⟩, rfl⟩
structure Org (h : Hse) (few : List Int) : Prop where
  lt : ∀ x ∈ few, 0 ≤ x ∧ x < h.bins
  srt : few.Pairwise (· < ·)
  ex : Z1A h.gaps (msk few) h.sights = true
  len : few.length = cnt h.bins.toNat (msk few)
  min : ∀ m, m < 2 ^ h.bins.toNat → Z1A h.gaps m h.sights = true → few.length ≤ cnt h.bins.toNat m
theorem Z9v {h : Hse} (hk : h.ok) (ha : h.agr h.sights = true) : ∃ few, h.orgR = (few, 0) ∧ Org h few := by
  have hb := hk.bins
  obtain ⟨m, hm, he⟩ := (Z3J hk hk.sights).1 ha
  have hset : ∀ m, m < 2 ^ h.bins.toNat → Z1A h.gaps m h.sights = true → (fun l => Z1A h.gaps (msk l) h.sights) (((List.range h.bins.toNat).filter fun i => m.testBit i).map fun (j : Nat) => (j : Int)) = true := fun m hm he => by
    dsimp only; rw [Z8H hm]; exact he
  obtain ⟨x, hx⟩ := Z6u (has := fun l => Z1A h.gaps (msk l) h.sights) (n := h.bins.toNat) (y := (List.range h.bins.toNat).filter fun i => m.testBit i) (List.pairwise_lt_range.filter _) (fun j hj => List.mem_range.1 (List.mem_filter.1 hj).1) (hset m hm he)
  refine ⟨x, ?_, ?_⟩
  · unfold Hse.orgR
    rw [hse_ok.2 hk, ha, hx]; rfl
  · obtain ⟨⟨y, rfl, h1, h2, h3⟩, h4⟩ := Z57 hx
    refine ⟨fun z hz => ?_, h1.map _ (fun a b hab => by omega), h3, by rw [Zae h1 h2, List.length_map], fun m' hm' he' => ?_⟩
    · obtain ⟨j, hj, rfl⟩ := List.mem_map.1 hz
      have := h2 j hj; omega
    · have h5 := h4 ((List.range h.bins.toNat).filter fun i => m'.testBit i) (Nat.le_trans (List.length_filter_le _ _) (by simp)) (List.pairwise_lt_range.filter _) (fun j hj => List.mem_range.1 (List.mem_filter.1 hj).1) (hset m' hm' he')
      unfold ahB at h5
      rw [List.length_map, List.length_map, Z1m] at h5
      rw [List.length_map]
      rcases Nat.lt_or_ge (cnt h.bins.toNat m') y.length with h6 | h6
      · rw [decide_eq_true (show cnt h.bins.toNat m' ≠ y.length by omega), decide_eq_true h6] at h5; cases h5
      · exact h6
theorem Z5N {h : Hse} (hk : h.ok) (ha : h.agr h.sights = true) {w : Int} (hw : 0 ≤ w ∧ w ≤ 9) : (h.surR w).2 = 0 ∧ ∀ x : Int, x ∈ (h.surR w).1 ↔ ∃ k : Nat, k < h.bins.toNat ∧ x = k ∧ ∀ m, m < 2 ^ h.bins.toNat → Z1A h.gaps m h.sights = true → (lv h.gaps 0 m w.toNat).testBit k = true := by
  have hi : (!inB w 0 9) = false := by simp [inB]; omega
  have e := Z7k (Z5I (hse_ok.2 hk) hi ha)
  rw [e]
  refine ⟨rfl, fun x => ?_⟩
  dsimp only
  rw [fltK_mem]
  refine exists_congr fun k => ?_
  have h1 := Z8r hk hk.sights (k := k) hw
  unfold Hse.surB
  constructor
  · rintro ⟨h2, h3, h4⟩; exact ⟨h2, h4, h1.1 (by simpa using h3)⟩
  · rintro ⟨h2, h4, h3⟩; exact ⟨h2, by rw [h1.2 h3]; rfl, h4⟩
theorem Z5n {h : Hse} (hk : h.ok) (ha : h.agr h.sights = true) {w : Int} (hw : 0 ≤ w ∧ w ≤ 9) : (h.perR w).2 = 0 ∧ ∀ x : Int, x ∈ (h.perR w).1 ↔ ∃ k : Nat, k < h.bins.toNat ∧ x = k ∧ ∃ m, m < 2 ^ h.bins.toNat ∧ Z1A h.gaps m h.sights = true ∧ (lv h.gaps 0 m w.toNat).testBit k = true := by
  have hi : (!inB w 0 9) = false := by simp [inB]; omega
  have e := Z75 (Z5I (hse_ok.2 hk) hi ha)
  have hl := hk.lt
  rw [e]
  refine ⟨rfl, fun x => ?_⟩
  dsimp only
  rw [fltK_mem]
  refine exists_congr fun k => ?_
  have h1 := Z8e hk hk.sights ha (k := k) (week := w)
  have h5 := Z7P (k := k) hk.wth (Zcq (Hse.ok.lt h hk).1 (Z4o hk (ss := h.sights) (but := -1) (week := 0))) (cl := 0) (t := w.toNat) (by unfold far; omega)
  rw [show ((w.toNat : Nat) : Int) = w by omega] at h5
  unfold Hse.perB
  constructor
  · rintro ⟨h2, h3, h4⟩; exact ⟨h2, h4, h1.1 (h5.1 (of_decide_eq_true h3))⟩
  · rintro ⟨h2, h4, h3⟩; exact ⟨h2, decide_eq_true (h5.2 (h1.2 h3)), h4⟩
theorem Z7r (h : Hse) (w : Int) : (h.surR w).1.length ≤ h.bins.toNat := by
  unfold Hse.surR
  cases decide (h.wkE w = 0) with
  | true => exact Z0Z _ _
  | false => exact Nat.zero_le _
theorem Z76 (h : Hse) (w : Int) : (h.perR w).1.length ≤ h.bins.toNat := by
  unfold Hse.perR
  cases decide (h.wkE w = 0) with
  | true => exact Z0Z _ _
  | false => exact Nat.zero_le _
theorem Zdu : cal Try.prog 26 = true := by kernel_rfl
theorem Zc1 : cal Try.prog 27 = true := by kernel_rfl
theorem Z5a {h : Hse} {s : Sgt} {m : Nat} (he : Z1A (h.add s).gaps m (h.add s).sights = true) : Z1A h.gaps m h.sights = true := Z8P (fun x hx => List.mem_append_left _ hx) he
theorem Z7w {h : Hse} {s : Sgt} {w : Int} (hk : h.ok) (hk2 : (h.add s).ok) (ha : h.agr h.sights = true) (ha2 : (h.add s).agr (h.add s).sights = true) (hw : 0 ≤ w ∧ w ≤ 9) : ∀ x ∈ (h.surR w).1, Z2F ((h.add s).surR w).1 x = true := fun x hx => by
  rw [hasI_iff, (Z5N hk2 ha2 hw).2]
  obtain ⟨k, h1, h2, h3⟩ := ((Z5N hk ha hw).2 x).1 hx
  exact ⟨k, h1, h2, fun m hm he => h3 m hm (Z5a he)⟩
theorem Z8G {h : Hse} {s : Sgt} {w : Int} (hk : h.ok) (hk2 : (h.add s).ok) (ha : h.agr h.sights = true) (ha2 : (h.add s).agr (h.add s).sights = true) (hw : 0 ≤ w ∧ w ≤ 9) : ∀ x ∈ ((h.add s).perR w).1, Z2F (h.perR w).1 x = true := fun x hx => by
  rw [hasI_iff, (Z5n hk ha hw).2]
  obtain ⟨k, h1, h2, m, h3, h4, h5⟩ := ((Z5n hk2 ha2 hw).2 x).1 hx
  exact ⟨k, h1, h2, m, h3, Z5a h4, h5⟩
theorem Z8c {h : Hse} {s : Sgt} {few now : List Int} (hf : Org h few) (hn : Org (h.add s) now) : few.length ≤ now.length := by
  rw [hn.len]
  exact hf.min _ (Z14 fun x hx => by have := hn.lt x hx; show 0 ≤ x ∧ x < ((h.bins.toNat : Nat) : Int); have : x < h.bins := this.2; omega) (Z5a hn.ex)
set_option maxHeartbeats 1000000 in
theorem Z4m (l0 : List Int) (a0 : Option Addr) (c0 : Nat) (hl0 : l0.length ≤ 9223372036854775807) (l1 : List Int) (a1 : Option Addr) (c1 : Nat) (hl1 : l1.length ≤ 9223372036854775807) (n2 n3 n4 : Int) (hn2 : 0 ≤ n2 ∧ n2 ≤ 255) (hn3 : 0 ≤ n3 ∧ n3 ≤ 255) (hn4 : 0 ≤ n4 ∧ n4 ≤ 255) (H : Z7) (R : Z5) [hG0 : MemRows a0 1 (Z2G l0) R] [hG1 : MemRows a1 1 (Z2G l1) R] :
    Fn Try.prog 6 [.slice a0 l0.length c0, .slice a1 l1.length c1, .int .u8 n2, .int .u8 n3, .int .u8 n4] H R (fun v H' R' => v = .bool true ∧ H' = H ∧ R' = R) := by
 refine Zh Try.func6 rfl Try.ntmps6 rfl ?_
 refine sqt 1 rfl (pur 1 rfl (sqt 9 rfl (pur 1 rfl ?_)))
 refine cl rfl Zcd rfl rfl (Z97 l0 a0 c0 hl0 _ _) ?_
 rintro _ _ R1 ⟨bk, mk, hmk, rfl, rfl, hR1⟩
 obtain rfl := hR1.symm
 clear hR1
 refine cl rfl ZdT rfl rfl (ZbV l0 a0 c0 bk hl0 0 mk (by omega) hmk 7 10 (by omega) (by omega) _ _) ?_
 rintro _ _ R1 ⟨h, p, ag, ar, cg, cr, tqb, mxb, hmd, hcg, hcr, rfl, htqb, hmxb, rfl, hR1⟩
 obtain rfl := hR1.symm
 clear hR1
 have hok := hmd.ok (by omega) (by omega)
 have hck := hse_ok.2 hok
 have hbn := hok.bins
 have hgl := hok.gl
 have hsl := hok.sl
 have hnb := hmd.bins
 have hng := hmd.gl
 have hss := hmd.none
 obtain ⟨B, hB⟩ : ∃ B : Nat, h.bins = B := ⟨h.bins.toNat, by omega⟩
 have hBt : h.bins.toNat = B := by omega
 have hfb := Z0Z p h.bins.toNat
 have hfr := Z7l p (show 0 ≤ h.bins by omega)
 have hfe := Z9B p (show 0 ≤ h.bins by omega)
 have hm7 : msk (Z0M p h.bins.toNat) < 2 ^ 7 := Z14 fun x hx => by have := hfr x hx; omega
 refine pur 3 rfl (alc rfl Z1l rfl (fun b11 => ?_))
 refine Zu (l' := htl h (h.sg ag cg) (h.ss none 0)) rfl rfl rfl Z1u rfl rfl rfl rfl (nl rfl) ?_
 refine pur 1 rfl (Z0 ?_)
 refine Ze [0, 1, 0, 0, 15, 31] (.tk 0 (.ld 2 (.tk 3 (.big 1 (.big 4 (.big 5 .done)))))) Zw (by kernel_rfl) ?_
 refine Zq 1 rfl (ld rfl rfl (lhA (htl h (h.sg ag cg) (h.ss none 0)) ZF rfl rfl rfl) rfl (Zq 1 rfl ?_))
 refine cl rfl Zcd rfl rfl (Z97 l1 a1 c1 hl1 _ _) ?_
 rintro _ _ R1 ⟨bq, mq, hmq, rfl, rfl, hR1⟩
 obtain rfl := hR1.symm
 clear hR1
 refine bg (fun w hs => ⟨(lhA (htl h (h.sg ag cg) (h.ss none 0)) ZF rfl rfl rfl) w hs, trivial⟩) ?_
 refine Zz bq ?_
 refine cl rfl Zd5 rfl rfl (Zao l1 a1 c1 bq hl1 0 mq (by omega) hmq h ag cg hok hss (Z0M p h.bins.toNat) ar cr (by omega) hfr 7 (by omega) _ _) ?_
 rintro _ _ R1 ⟨ss, o, tqc, mxc, htr, hsn, rfl, htqc, hmxc, rfl, hR1⟩
 obtain rfl := hR1.symm
 clear hR1
 obtain ⟨aS, cSg, he, hcS, hzz⟩ := o.freezeC
 rw [Zr] at hcS
 rw [he, Zr]
 refine Sy.heap (H' := _) (fun w h9 => hzz (h9.perm (List.perm_middle (l₁ := o.G) (a := _)).symm)) ?_
 clear he hzz
 obtain ⟨q, hq⟩ : ∃ q : Hse, q = ⟨h.bins, h.gaps, ss⟩ := ⟨_, rfl⟩
 obtain ⟨fr, hfq⟩ : ∃ fr, fr = Z0M p h.bins.toNat := ⟨_, rfl⟩
 rw [show Hse.v ⟨h.bins, h.gaps, ss⟩ (h.sg ag cg) (.slice aS ss.length cSg) = q.v (q.sg ag cg) (q.ss aS cSg) from by rw [hq]; rfl, show Zc ss = Zc q.sights from by rw [hq], show RowsA ag 2 (Zg h.gaps) = RowsA ag 2 (Zg q.gaps) from by rw [hq], ← hfq]
 rw [← hfq] at hfr hfe hm7 hcr hfb htr
 have hokq : q.ok := by rw [hq]; exact Z4H hok (by omega) htr.ok
 have hqgl := hokq.gl
 have hqsl := hokq.sl
 have hqb : q.bins = h.bins := by rw [hq]
 have hqg : q.gaps = h.gaps := by rw [hq]
 have hqs : (q.sights.length : Int) ≤ 7 := by rw [hq]; exact hsn
 have hqf : fr = Z0M p q.bins.toNat := by rw [hqb]; exact hfq
 have htq : Tru q fr q.sights := by rw [hq]; exact ⟨htr.ok, htr.ex⟩
 have hfrq : ∀ x ∈ fr, 0 ≤ x ∧ x < q.bins := by rw [hqb]; exact hfr
 have hfrl : fr.length ≤ 7 := by omega
 have hqbn := hokq.bins
 have haq : q.agr q.sights = true := htq.agr hokq hfrq
 refine bgT ?_
 refine Zu (l' := htl q (q.sg ag cg) (q.ss aS cSg)) rfl rfl rfl Z1u rfl rfl rfl rfl (nl rfl) ?_
 refine bgT (sqt 11 rfl (pur 1 rfl (sp rfl (PE.conv64 us5 ik3 rfl (by omega)) rfl (sp rfl (PE.rem rfl rfl (by omega)) rfl (pur 1 rfl (sp rfl (PE.conv64 us5 ik3 rfl (by omega)) rfl (sp rfl (PE.fA Z0f rfl) rfl (spL rfl rfl (lh (v := .int .i64 q.bins) sc3 rfl rfl) rfl (sp rfl (PE.rem rfl rfl (by omega)) rfl (sp rfl (PE.build (out := [.int .i64 (n3 % 10), .int .i64 (n2 % q.bins), .bool (false)]) Z9U Z3b rfl rfl) rfl (alc rfl Z3b rfl (fun b13 => ?_))))))))))))
 refine Zu (l' := [.int .i64 (n3 % 10), .int .i64 (n2 % q.bins), .bool (false)]) rfl rfl rfl ZcB rfl rfl rfl rfl (nl rfl) ?_
 have hw9 : 0 ≤ n3 % 10 ∧ n3 % 10 < 10 := ⟨Int.emod_nonneg _ (by decide), Int.emod_lt_of_pos _ (by decide)⟩
 have hb9 : 0 ≤ n2 % q.bins ∧ n2 % q.bins < q.bins := ⟨Int.emod_nonneg _ (by omega), Int.emod_lt_of_pos _ (by omega)⟩
 refine Z0 ?_
 refine Ze [0, 0, 3, 0, 8, 31, 63, 0, 128, 511, 1023, 2047] (.ld 0 (.tk 1 (.tk 3 (.ld 4 (.tk 7 (.ld 8 (.big 2 (.tk 5 (.ld 6 (.tk 9 (.tk 10 (.big 11 .done)))))))))))) Zw (by kernel_rfl) ?_
 refine ld rfl rfl (lhA (htl q (q.sg ag cg) (q.ss aS cSg)) ZF rfl rfl rfl) rfl (Zq 1 rfl (tk rfl (PE.fA Z38 rfl) rfl (ld rfl rfl (lh sc3 rfl rfl) rfl (tk rfl (PE.fA Z2L rfl) rfl (ld rfl rfl (lh sc3 rfl rfl) rfl ?_)))))
 refine Sy.heap (fun w h9 => St.norows9 (sz := 1) h9) ?_
 refine cl rfl ZbM rfl rfl (Z5S q ag aS cg cSg hokq fr ar cr (by omega) (fun x hx => (hfr x hx).1) [] none 0 (by decide) (by decide) (by simp [lls]) _ _) ?_
 rintro _ _ R1 ⟨af, cf, rfl, rfl, hR1⟩
 obtain rfl := hR1.symm
 clear hR1
 refine Sy.heap (R' := RowsA af 1 (Z6 (Z2g q.gaps (clP []) (msk fr) q.bins.toNat)) :: RowsA aS 3 (Zc q.sights) :: RowsA none 3 (Zc h.sights) :: RowsA ar 1 (Z6 fr) :: RowsA ag 2 (Zg q.gaps) :: R) (fun w h9 => h9.facts (fun g hg => by simp only [List.mem_cons] at hg ⊢; rcases hg with h8 | h8 | h8 | h8 | h8 | h8 <;> simp [h8])) ?_
 have hgf := Z0e (l := (Z2g q.gaps (clP []) (msk fr) q.bins.toNat)) (k := (n2 % q.bins).toNat) (by rw [Z0k]; omega)
 have hft := Z3K (gs := q.gaps) (cl := clP []) (m := msk fr) (n := q.bins.toNat) (k := (n2 % q.bins).toNat) (by omega)
 generalize hfv : na (Z2g q.gaps (clP []) (msk fr) q.bins.toNat) (n2 % q.bins).toNat = fv at *
 have hes : exS q.gaps (msk fr) ⟨n3 % 10, n2 % q.bins, decide (fv ≤ n3 % 10)⟩ = true := Z41 hokq hfrq (s := ⟨n3 % 10, n2 % q.bins, decide (fv ≤ n3 % 10)⟩) (by dsimp only; omega) (by dsimp only; rw [hft]; rfl)
 have htr2 := htq.snoc (s := ⟨n3 % 10, n2 % q.bins, decide (fv ≤ n3 % 10)⟩) (by dsimp only; omega) hes
 obtain ⟨r, hr⟩ : ∃ r : Hse, r = q.add ⟨n3 % 10, n2 % q.bins, decide (fv ≤ n3 % 10)⟩ := ⟨_, rfl⟩
 have hokr : r.ok := by rw [hr]; exact Z4H hokq (by rw [List.length_append]; simp only [List.length_singleton]; omega) htr2.ok
 have har : r.agr r.sights = true := by rw [hr]; have h9 := htr2.agr hokq hfrq; exact h9
 have hrgl := hokr.gl
 have hrsl := hokr.sl
 have hseE : q.seeE ⟨n3 % 10, n2 % q.bins, decide (fv ≤ n3 % 10)⟩ = 0 := by rw [Z6S (hse_ok.2 hokq) (by omega), ← hr]; exact hse_ok.2 hokr
 have hseH : q.seeH ⟨n3 % 10, n2 % q.bins, decide (fv ≤ n3 % 10)⟩ = r := by rw [Z0T hseE, hr]
 have hrsn : r.sights.length = q.sights.length + 1 := by rw [hr]; unfold Hse.add; simp
 refine Zl (a := af) (sz := 1) (rows := Z6 (Z2g q.gaps (clP []) (msk fr) q.bins.toNat)) (by intro h0; have := congrArg List.length h0; rw [irl] at this; simp only [List.length_nil] at this; rw [Z0k] at this; omega) (fun bf bfo hebf => ?_)
 subst hebf
 refine bg (fun w hs => ⟨(lh sc3 rfl rfl) w hs, (lh sc3 rfl rfl) w hs, trivial, trivial⟩) ?_
 refine tk rfl (PE.indexAddr Z1C rfl rfl (by omega) (by omega)) rfl (ld rfl rfl (lf0 sc3 (Z06 hgf) rfl) rfl (Zq 1 rfl (tk rfl (PE.fA Z3t rfl) rfl ?_)))
 refine Zu (l' := [.int .i64 (n3 % 10), .int .i64 (n2 % q.bins), .bool (decide (fv ≤ n3 % 10))]) rfl rfl rfl cn4 rfl rfl rfl rfl (nl rfl) ?_
 refine bgT (sqt 9 rfl (spL rfl rfl (lhA (htl q (q.sg ag cg) (q.ss aS cSg)) ZF rfl rfl rfl) rfl (spL rfl rfl (lhA [.int .i64 (n3 % 10), .int .i64 (n2 % q.bins), .bool (decide (fv ≤ n3 % 10))] Z6x rfl rfl rfl) rfl ?_)))
 refine cl rfl Zdu rfl rfl (Zdh q ag aS cg cSg (by omega) (by omega) ⟨n3 % 10, n2 % q.bins, decide (fv ≤ n3 % 10)⟩ _ _) ?_
 rintro _ _ R1 ⟨ax, ay, cx, cy, ⟨hcx, hcy⟩, rfl, rfl, hR1⟩
 obtain rfl := hR1.symm
 clear hR1
 rw [hseE, hseH]
 refine pur 3 rfl (alc rfl Z1l rfl (fun b14 => ?_))
 refine Zu (l' := htl r (r.sg ax cx) (r.ss ay cy)) rfl rfl rfl Z1u rfl rfl rfl rfl (nl rfl) ?_
 refine pur 1 rfl (Z0 (sqt 12 rfl (pur 3 rfl ?_)))
 refine ZA 71 rfl ?_ ?_ <;> intro g71
 exact absurd g71 (by simp)
 refine spG rfl rfl rfl rfl (PE.fA ZO rfl) rfl ?_
 refine Z2A rfl rfl rfl rfl rfl (lh Z3x rfl rfl) rfl ?_
 refine spG rfl rfl rfl rfl (PE.lenSl Z3W rfl) rfl ?_
 refine spG rfl rfl rfl rfl (PE.fA ZO rfl) rfl ?_
 refine Z2A rfl rfl rfl rfl rfl (lh Z3x rfl rfl) rfl ?_
 refine spG rfl rfl rfl rfl (PE.lenSl Z3W rfl) rfl ?_
 refine spG rfl rfl rfl rfl (PE.add rfl rfl (by omega)) rfl ?_
 refine pur 2 rfl ?_
 refine Z1 rfl ?_ ?_ <;> intro hc0
 exact absurd hc0 (by simp; omega)
 refine Z2 (sqt 4 rfl (pur 1 rfl (sp rfl (PE.conv64 us5 ik3 rfl (by omega)) rfl (sp rfl (PE.rem rfl rfl (by omega)) rfl (pur 1 rfl (sqt 8 rfl ?_))))))
 have hsq := Z7r q (n4 % 10)
 have hsr := Z7r r (n4 % 10)
 have hpq := Z76 q (n4 % 10)
 have hpr := Z76 r (n4 % 10)
 have hrbn := hokr.bins
 have hw4 : 0 ≤ n4 % 10 ∧ n4 % 10 ≤ 9 := ⟨Int.emod_nonneg _ (by decide), by have := Int.emod_lt_of_pos n4 (show (0 : Int) < 10 by decide); omega⟩
 have hms := hr ▸ Z7w hokq (hr ▸ hokr) haq (hr ▸ har) hw4
 have hmc := hr ▸ Z8G hokq (hr ▸ hokr) haq (hr ▸ har) hw4
 refine spL rfl rfl (lhA (htl q (q.sg ag cg) (q.ss aS cSg)) ZF rfl rfl rfl) rfl (pur 1 rfl ?_)
 refine cl rfl Za8 rfl rfl (Z3I q ag aS cg cSg (by omega) (by omega) (n4 % 10) _ _) ?_
 rintro _ _ R1 ⟨as1, cs1, hcs19, rfl, rfl, hR1⟩
 obtain rfl := hR1.symm
 clear hR1
 rw [(Z5N hokq haq hw4).1]
 refine pur 5 rfl (sqt 8 rfl (spL rfl rfl (lhA (htl r (r.sg ax cx) (r.ss ay cy)) ZF rfl rfl rfl) rfl (pur 1 rfl ?_)))
 refine cl rfl Za8 rfl rfl (Z3I r ax ay cx cy (by omega) (by omega) (n4 % 10) _ _) ?_
 rintro _ _ R1 ⟨as2, cs2, hcs29, rfl, rfl, hR1⟩
 obtain rfl := hR1.symm
 clear hR1
 rw [(Z5N hokr har hw4).1]
 refine pur 5 rfl (sqt 8 rfl (spL rfl rfl (lhA (htl q (q.sg ag cg) (q.ss aS cSg)) ZF rfl rfl rfl) rfl (pur 1 rfl ?_)))
 refine cl rfl Zc1 rfl rfl (Z4G q ag aS cg cSg (by omega) (by omega) (n4 % 10) _ _) ?_
 rintro _ _ R1 ⟨ap1, cp1, hcp19, rfl, rfl, hR1⟩
 obtain rfl := hR1.symm
 clear hR1
 rw [(Z5n hokq haq hw4).1]
 refine pur 5 rfl (sqt 8 rfl (spL rfl rfl (lhA (htl r (r.sg ax cx) (r.ss ay cy)) ZF rfl rfl rfl) rfl (pur 1 rfl ?_)))
 refine cl rfl Zc1 rfl rfl (Z4G r ax ay cx cy (by omega) (by omega) (n4 % 10) _ _) ?_
 rintro _ _ R1 ⟨ap2, cp2, hcp29, rfl, rfl, hR1⟩
 obtain rfl := hR1.symm
 clear hR1
 rw [(Z5n hokr har hw4).1]
 refine pur 5 rfl (sqt 7 rfl (spL rfl rfl (lhA (htl q (q.sg ag cg) (q.ss aS cSg)) ZF rfl rfl rfl) rfl ?_))
 refine cl rfl ZaW rfl rfl (Z2Q q ag aS cg cSg (by omega) (by omega) _ _) ?_
 rintro _ _ R1 ⟨ao1, co1, hco19, rfl, rfl, hR1⟩
 obtain rfl := hR1.symm
 clear hR1
 obtain ⟨few, hfew, horg⟩ := Z9v hokq haq
 rw [hfew]
 refine pur 5 rfl (sqt 7 rfl (spL rfl rfl (lhA (htl r (r.sg ax cx) (r.ss ay cy)) ZF rfl rfl rfl) rfl ?_))
 refine cl rfl ZaW rfl rfl (Z2Q r ax ay cx cy (by omega) (by omega) _ _) ?_
 rintro _ _ R1 ⟨ao2, co2, hco29, rfl, rfl, hR1⟩
 obtain rfl := hR1.symm
 clear hR1
 obtain ⟨now, hnow, horn⟩ := Z9v hokr har
 rw [hnow]
 have hfn : few.length ≤ now.length := Z8c horg (hr ▸ horn)
 refine pur 5 rfl (Z0 (sqt 29 rfl (pur 3 rfl ?_)))
 refine ZA 120 rfl ?_ ?_ <;> intro g120
 exact absurd g120 (by simp)
 refine pur 4 rfl ?_
 refine ZA 124 rfl ?_ ?_ <;> intro g124
 exact absurd g124 (by simp)
 refine pur 4 rfl ?_
 refine ZA 128 rfl ?_ ?_ <;> intro g128
 exact absurd g128 (by simp)
 refine pur 4 rfl ?_
 refine ZA 132 rfl ?_ ?_ <;> intro g132
 exact absurd g132 (by simp)
 refine pur 4 rfl ?_
 refine ZA 136 rfl ?_ ?_ <;> intro g136
 exact absurd g136 (by simp)
 refine pur 4 rfl ?_
 refine ZA 140 rfl ?_ ?_ <;> intro g140
 exact absurd g140 (by simp)
 refine pur 1 rfl ?_
 refine spG rfl rfl rfl rfl (PE.lenSl ZK rfl) rfl ?_
 refine pur 1 rfl ?_
 refine spG rfl rfl rfl rfl (PE.lenSl ZK rfl) rfl ?_
 refine pur 2 rfl ?_
 refine Z1 rfl ?_ ?_ <;> intro hc1
 exact absurd hc1 (by simp; omega)
 refine Z2 (Z0 (sqt 3 rfl (pur 1 rfl (sp rfl (PE.lenSl ZK rfl) rfl (pur 1 rfl (Z4 ?_))))))
 refine Zf (ι := {k : Nat // k ≤ (q.surR (n4 % 10)).1.length}) (fun k => ⟨[(18, .slice as2 (r.surR (n4 % 10)).1.length cs2), (20, .slice ap1 (q.perR (n4 % 10)).1.length cp1), (22, .slice ap2 (r.perR (n4 % 10)).1.length cp2), (147, .slice as1 (q.surR (n4 % 10)).1.length cs1), (148, .int .i64 (q.surR (n4 % 10)).1.length), (149, .int .i64 k.1)], (b14, cel 26 (htl r (r.sg ax cx) (r.ss ay cy))) :: (b13, cel 38 [.int .i64 (n3 % 10), .int .i64 (n2 % q.bins), .bool (decide (fv ≤ n3 % 10))]) :: (bq, cel 72 [.slice a1 l1.length c1, .int .i64 (tqc), .int .u32 (mxc)]) :: (b11, cel 26 (htl q (q.sg ag cg) (q.ss aS cSg))) :: (bk, cel 72 [.slice a0 l0.length c0, .int .i64 (tqb), .int .u32 (mxb)]) :: H, RowsA ao2 1 (Z6 r.orgR.1) :: RowsA ao1 1 (Z6 q.orgR.1) :: RowsA ap2 1 (Z6 (r.perR (n4 % 10)).1) :: RowsA ap1 1 (Z6 (q.perR (n4 % 10)).1) :: RowsA as2 1 (Z6 (r.surR (n4 % 10)).1) :: RowsA as1 1 (Z6 (q.surR (n4 % 10)).1) :: RowsA ax 2 (Zg r.gaps) :: RowsA ay 3 (Zc r.sights) :: RowsA (some ⟨bf, bfo, none⟩) 1 (Z6 (Z2g q.gaps (clP []) (msk fr) q.bins.toNat)) :: RowsA aS 3 (Zc q.sights) :: RowsA none 3 (Zc h.sights) :: RowsA ar 1 (Z6 fr) :: RowsA ag 2 (Zg q.gaps) :: R⟩) (fun k => (q.surR (n4 % 10)).1.length - k.1) ⟨0, Nat.zero_le _⟩ ?_ (fun k => ?_)
 exact Zn (fun w h9 => by rw [hfew, hnow]; exact h9)
 obtain ⟨k, hk⟩ := k
 dsimp only at hk ⊢
 refine sqt 1 rfl (pur 1 rfl (Z0 ?_))
 refine Z1 rfl ?_ ?_ <;> intro hc2 <;> try simp only [cS] at hc2
 obtain ⟨z, hz⟩ : ∃ z, (q.surR (n4 % 10)).1[k]? = some z := ⟨_, List.getElem?_eq_getElem (by omega)⟩
 have hzs := hms z (List.mem_of_getElem? hz)
 have hsl2 : (r.surR (n4 % 10)).1.length ≤ 9223372036854775807 := by omega
 refine Zl (a := as1) (sz := 1) (rows := Z6 (q.surR (n4 % 10)).1) (ne0 (by rw [irl]; omega)) (fun b1 b1o heb1 => ?_)
 subst heb1
 refine Z2 (Z0 (Z4 (sqt 3 rfl (sp rfl (PE.indexAddr Z1C rfl rfl (by omega) (by omega)) rfl (spL rfl rfl (lf0 sc3 (Z06 hz) rfl) rfl (pur 1 rfl (sqt 4 rfl (pur 2 rfl ?_))))))))
 refine clV rfl Z3Q rfl rfl (Zs (r.surR (n4 % 10)).1 as2 cs2 z hsl2 _ _) ?_
 refine pur 1 rfl ?_
 refine Z1 rfl ?_ ?_ <;> intro hc3
 exact absurd hc3 (by rw [show (List.any _ _) = true from hzs]; simp)
 refine Z2 (sqr 2 rfl (sp rfl (PE.add rfl rfl (by omega)) rfl (pur 1 rfl ?_)))
 exact Z8 ⟨k + 1, by omega⟩ idH
 refine Z9 (Za (Za (Zm (Z0 (sqt 3 rfl (pur 1 rfl (sp rfl (PE.lenSl ZK rfl) rfl (pur 1 rfl (Z4 ?_)))))))))
 refine Zf (ι := {k : Nat // k ≤ (r.perR (n4 % 10)).1.length}) (fun k => ⟨[(20, .slice ap1 (q.perR (n4 % 10)).1.length cp1), (158, .slice ap2 (r.perR (n4 % 10)).1.length cp2), (159, .int .i64 (r.perR (n4 % 10)).1.length), (160, .int .i64 k.1)], (b14, cel 26 (htl r (r.sg ax cx) (r.ss ay cy))) :: (b13, cel 38 [.int .i64 (n3 % 10), .int .i64 (n2 % q.bins), .bool (decide (fv ≤ n3 % 10))]) :: (bq, cel 72 [.slice a1 l1.length c1, .int .i64 (tqc), .int .u32 (mxc)]) :: (b11, cel 26 (htl q (q.sg ag cg) (q.ss aS cSg))) :: (bk, cel 72 [.slice a0 l0.length c0, .int .i64 (tqb), .int .u32 (mxb)]) :: H, RowsA ao2 1 (Z6 r.orgR.1) :: RowsA ao1 1 (Z6 q.orgR.1) :: RowsA ap2 1 (Z6 (r.perR (n4 % 10)).1) :: RowsA ap1 1 (Z6 (q.perR (n4 % 10)).1) :: RowsA as2 1 (Z6 (r.surR (n4 % 10)).1) :: RowsA as1 1 (Z6 (q.surR (n4 % 10)).1) :: RowsA ax 2 (Zg r.gaps) :: RowsA ay 3 (Zc r.sights) :: RowsA (some ⟨bf, bfo, none⟩) 1 (Z6 (Z2g q.gaps (clP []) (msk fr) q.bins.toNat)) :: RowsA aS 3 (Zc q.sights) :: RowsA none 3 (Zc h.sights) :: RowsA ar 1 (Z6 fr) :: RowsA ag 2 (Zg q.gaps) :: R⟩) (fun k => (r.perR (n4 % 10)).1.length - k.1) ⟨0, Nat.zero_le _⟩ ?_ (fun k => ?_)
 exact Zn idH
 obtain ⟨k, hk⟩ := k
 dsimp only at hk ⊢
 refine sqt 1 rfl (pur 1 rfl (Z0 ?_))
 refine Z1 rfl ?_ ?_ <;> intro hc4 <;> try simp only [cS] at hc4
 obtain ⟨z, hz⟩ : ∃ z, (r.perR (n4 % 10)).1[k]? = some z := ⟨_, List.getElem?_eq_getElem (by omega)⟩
 have hzs := hmc z (List.mem_of_getElem? hz)
 refine Zl (a := ap2) (sz := 1) (rows := Z6 (r.perR (n4 % 10)).1) (ne0 (by rw [irl]; omega)) (fun b1 b1o heb1 => ?_)
 subst heb1
 refine Z2 (Z0 (Z4 (sqt 3 rfl (sp rfl (PE.indexAddr Z1C rfl rfl (by omega) (by omega)) rfl (spL rfl rfl (lf0 sc3 (Z06 hz) rfl) rfl (pur 1 rfl (sqt 4 rfl (pur 2 rfl ?_))))))))
 refine clV rfl Z3Q rfl rfl (Zs (q.perR (n4 % 10)).1 ap1 cp1 z (by omega) _ _) ?_
 refine pur 1 rfl ?_
 refine Z1 rfl ?_ ?_ <;> intro hc5
 exact absurd hc5 (by rw [show (List.any _ _) = true from hzs]; simp)
 refine Z2 (sqr 2 rfl (sp rfl (PE.add rfl rfl (by omega)) rfl (pur 1 rfl ?_)))
 exact Z8 ⟨k + 1, by omega⟩ idH
 refine Z9 (Za (Za (Zm (sqt 2 rfl ?_))))
 refine clV rfl ZdF rfl rfl (Za9 _ _) ?_
 refine pur 1 rfl (Z3 ?_)
 exact rtA rfl rfl rfl ⟨rfl, rfl, rfl⟩ (fun w h9 => (((((h9.del b14).del b13).del bq).del b11).del bk).sub)
end Go.Proofs.Ythfgcnmcipcbbaa
