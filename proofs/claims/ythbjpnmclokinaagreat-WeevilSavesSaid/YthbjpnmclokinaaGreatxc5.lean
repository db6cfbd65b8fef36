/- Walks of the functions of the program, and the laws that join them: what the last theorem of this claim needs, in order. -/
import Derived.Test.YthbjpnmclokinaaGreatxc4
namespace Go.Proofs.YthbjpnmclokinaaGreat
set_option linter.unusedSimpArgs false
set_option linter.unusedVariables false
open Go
theorem Zcs : cal Tryz.prog 21 = true := by kernel_rfl
def ZfR (h : Hse) (fr to_ : List Int) (H : Z9) (R : Z6) : Value → Z9 → Z6 → Prop := fun v H' R' => H' = H ∧ R' = R ∧ ((h.botE fr to_ ≠ 0 ∧ v = .tuple #[.int .i64 0, .int .i64 (h.botE fr to_)]) ∨
  (h.botE fr to_ = 0 ∧ ∃ s : Nat, s ≤ 10 ∧ (∃ n, Pl h.gaps (msk to_) s (msk fr) 0 n) ∧ (∀ s', s' < s → ∀ n, ¬ Pl h.gaps (msk to_) s' (msk fr) 0 n) ∧ v = .tuple #[.int .i64 (s : Int), .int .i64 0]))
theorem Z7N {h : Hse} {fr to_ : List Int} {s : Nat} (hb : h.botE fr to_ = 0) (hs : s ≤ 10) : h.rcE fr to_ (s : Int) = 0 := by
  have : inB (s : Int) 0 10 = true := by simp [inB]; omega
  unfold Hse.rcE; rw [hb, this]; rfl
theorem Z8J {h : Hse} {fr to_ : List Int} (hb : h.Bot fr to_) : Two h.gaps (msk fr) (msk to_) := by
  obtain ⟨q1, q2, q3, q4, q5, q6⟩ := Z0i hb
  have hok := hb.ok
  exact ⟨fun g hg => by have := hok.gaps g hg; have := hok.bins; omega, fun i g hg => by have := hok.gaps g (List.mem_of_getElem? hg); omega, Z08 fun x hx => q1 x hx, Z08 fun x hx => q2 x hx, fun v hv => by
    cases hk : (msk to_).testBit v with
    | false => rfl
    | true => exact absurd ((Zt (fun k hk => (q2 k hk).1) v).1 hk) (hb.no _ ((Zt (fun k hk => (q1 k hk).1) v).1 hv))⟩
theorem Z4l {h : Hse} {fr to_ : List Int} (hb : h.Bot fr to_) : ∃ n, Pl h.gaps (msk to_) 10 (msk fr) 0 n := by
  have ht := Z8J hb
  have hp := Nat.two_pow_pos h.gaps.length
  exact ⟨_, Pl.once ht.w ht.s (show 2 ^ h.gaps.length - 1 < 2 ^ h.gaps.length by omega) (Z6r ht) (Nat.le_trans (Z1p _ _) hb.ok.gl)⟩
set_option maxHeartbeats 400000 in
theorem Z91 (h : Hse) (ag as_ : Option Addr) (cg cs : Nat) (hlg : h.gaps.length ≤ 9223372036854775807) (hls : h.sights.length ≤ 9223372036854775807) (fr to_ : List Int) (af at_ : Option Addr) (cf ct : Nat) (hlf : fr.length ≤ 1000000) (hlt : to_.length ≤ 1000000) (hfc : fr.length ≤ cf) (htc : to_.length ≤ ct) (H : Z9) (R : Z6) [hG : MemRows ag 2 (Zd h.gaps) R] [hS : MemRows as_ 3 (Zf h.sights) R] [hF : MemRows af 1 (Z4 fr) R] [hT : MemRows at_ 1 (Z4 to_) R] :
    Fn Tryz.prog 24 [h.v (h.sg ag cg) (h.ss as_ cs), .slice af fr.length cf, .slice at_ to_.length ct] H R (ZfR h fr to_ H R) := by
 refine Zi Tryz.func24 rfl Tryz.ntmps24 rfl ?_
 refine sqt 3 rfl (bx rfl rfl rfl (fun b3 => pur 2 rfl (Z0 (sqt 5 rfl (spL rfl rfl (lhA (htl h (h.sg ag cg) (h.ss as_ cs)) Z0F rfl rfl rfl) rfl (pur 2 rfl ?_))))))
 refine clV rfl Zai rfl rfl (Z5W h ag as_ cg cs hlg hls fr to_ af at_ cf ct (by omega) (by omega) hfc htc _ _) ?_
 refine pur 1 rfl (sqt 2 rfl (pur 2 rfl ?_))
 refine Z1 rfl ?_ ?_ <;> intro hc0
 have hbe : h.botE fr to_ ≠ 0 := of_decide_eq_true hc0
 refine sqt 3 rfl (pur 3 rfl (Z5 ?_))
 exact rtB rfl rfl rfl rfl ⟨rfl, rfl, .inl ⟨hbe, rfl⟩⟩ (fun w h9 => h9.del b3)
 ·
  have hbe : h.botE fr to_ = 0 := Classical.byContradiction fun e => by rw [decide_eq_true e] at hc0; cases hc0
  have hb := Z1N hbe
  obtain ⟨n0, hn0⟩ := Z4l hb
  refine Z2 (sqt 1 rfl (pur 1 rfl (Z3 ?_)))
  refine Ze (ι := {s : Nat // s ≤ 10 ∧ ∀ s', s' < s → ∀ n, ¬ Pl h.gaps (msk to_) s' (msk fr) 0 n}) (fun s => ⟨[(1, .slice af fr.length cf), (2, .slice at_ to_.length ct), (3, .pointer (some ⟨b3, 0, none⟩)), (9, .int .i64 (s.1 : Int))], (b3, cel 25 (htl h (h.sg ag cg) (h.ss as_ cs))) :: H, R⟩) (fun s => 11 - s.1) ⟨0, by omega, fun s' h9 => absurd h9 (Nat.not_lt_zero _)⟩ ?_ (fun s => ?_)
  exact Zk idH
  ·
   obtain ⟨s, hs, hno⟩ := s
   dsimp only at hs hno ⊢
   have hrz := Z7N hbe hs
   refine Z0 (Z3 (sqt 10 rfl (spL rfl rfl (lhA (htl h (h.sg ag cg) (h.ss as_ cs)) Z0F rfl rfl rfl) rfl (pur 3 rfl ?_))))
   refine cl rfl Zcs rfl rfl (Z94 h ag as_ cg cs hlg hls fr to_ af at_ cf ct hlf hlt hfc htc (s : Int) _ _) ?_
   rintro _ _ R1 ⟨rfl, hq⟩
   rcases hq with ⟨h9, _⟩ | ⟨_, hnp, rfl, hR1⟩ | ⟨_, ls, pl, a, c, _, _, _, _, _, hls2, rfl, hR1⟩
   · exact absurd hrz h9
   all_goals obtain rfl := hR1.symm
   all_goals clear hR1
   all_goals rw [Int.toNat_natCast] at *
   refine pur 5 rfl (sqt 2 rfl (pur 2 rfl ?_))
   refine Z1 rfl ?_ ?_ <;> intro hc1
   exact absurd hc1 (by decide)
   have hs10 : s ≠ 10 := fun e => hnp n0 (by rw [e]; exact hn0)
   refine Z2 (sqr 3 rfl (pur 1 rfl (sp rfl (PE.add rfl rfl (by omega)) rfl (pur 1 rfl ?_))))
   exact Za ⟨s + 1, by omega, fun s' h9 => (Nat.lt_succ_iff_lt_or_eq.1 h9).elim (hno s') (fun e => by subst e; exact hnp)⟩ idH
   refine pur 5 rfl (sqt 2 rfl (pur 2 rfl ?_))
   refine Z1 rfl ?_ ?_ <;> intro hc1
   refine sqt 3 rfl (pur 3 rfl (Z5 ?_))
   exact rtB rfl rfl rfl rfl ⟨rfl, rfl, .inr ⟨hbe, s, hs, ⟨_, hls2.1⟩, hno, rfl⟩⟩ (fun w h9 => St.sub (h9.del b3))
   exact absurd hc1 (by decide)
theorem ZdH : cal Tryz.prog 136 = true := by kernel_rfl
theorem ik3 : Zfu Tryz.prog 3 = some .i64 := by kernel_rfl
section steps
variable {P : Program} {r : Option Nat} {ops : Array Oper} {n : Nat} {L : Zm} {D : List Deferred} {H : Z9} {R : Z6} {K : Act → World → Prop}
  {i d : Nat} {ty : TypeId} {pos : String} {af : Array Edge}
theorem ZfL {t tn e sz by_ k : Nat} {kq kn : IntKind} {s x : Operand} {zl : List Value} (ho : ops[i]? = some ⟨some d, .call { callee := .builtin .append, args := #[s, x], argTypes := #[t, tn] }, ty, pos, af, none⟩)
    (ht : apT P t = some (e, sz, by_)) (htn : Zfu P tn = some kn) (hz : ZP P e = some zl) (hs : ev L s = some (.slice none 0 0)) (hx : ev L x = some (.int kq k))
    (hk : 0 < k) (hs0 : 0 < sz) (hb : k * by_ ≤ 140737488355328 ∧ k ≤ 9223372036854775807) (hd : Nat.blt d n = true)
    (h : ∀ (b' cap' : Nat) (junk : List Value), k ≤ cap' → cap' ≤ 9223372036854775807 → k * sz + junk.length = cap' * sz → Sy n ((d, .slice (some ⟨b', 0, none⟩) k cap') :: L) D ((b', cel e (Z1V k zl ++ junk)) :: H) R K) : Sy n L D H R (stp P r ops i K) := fun a w ha hD hw => by
  unfold apT at ht
  split at ht
  case h_2 => cases ht
  rename_i e' hu
  split at ht
  case h_2 => cases ht
  rename_i ie hi
  split at ht
  case h_2 => cases ht
  rename_i z hzz
  cases hzs : Nat.beq z.cells.size ie.size with
  | false => rw [hzs] at ht; cases ht
  | true =>
  rw [hzs, cond_true] at ht
  cases ht
  have hzs := Nat.eq_of_beq_eq_true hzs
  have hzl : z.cells.toList = zl := by
    have : ZP P e = some z.cells.toList := by simp [ZP, hi, hzz]
    rw [this] at hz; exact Option.some.inj hz
  have hun : P.underlying tn = some (.int kn) := by
    unfold Zfu at htn
    split at htn
    · rename_i q hq; cases htn; exact hq
    · cases htn
  have hold : (Builtin.firstCells ie.size 0 (.slice none 0 0)).run P w.drew = .ok ([] : List Value).toArray w.drew := by
    simp [Builtin.firstCells, Sem.run_pure]
  have h2 := Lib.run_append_grow_zeros (P := P) w t tn ty e ie z kq kn hu hun hi hzz none 0 0 [] hold k hk hs0 (by omega) (by omega) (by omega) (growslice_fits (by omega) (by rw [Nat.zero_add]; exact hb.1))
  rw [Nat.zero_add] at h2
  have hge := grownCap_ge w k 0 e
  have hcm : grownCap w k 0 e ≤ maxLen := grownCap_le_maxLen w _ 0 e (by simp only [maxLen]; omega)
  have hrep : ∀ q, (Builtin.zeroCells z.cells q).toList = Z1V q zl := fun q => by rw [← hzl]; simp [Builtin.zeroCells, Z1V]
  have e1 : (.cells (([] : List Value).toArray ++ Builtin.zeroCells z.cells k ++ Builtin.zeroCells z.cells (grownCap w k 0 e - k)) e : Obj) = cel e (Z1V k zl ++ (Builtin.zeroCells z.cells (grownCap w k 0 e - k)).toList) := by
    unfold cel; congr 1; apply Array.toList_inj.1; simp [hrep]
  refine Zu ho (Zj _ rfl _) (v := .slice (some ⟨w.heap.size, 0, none⟩) k (grownCap w k 0 e)) (w' := w.drew.alloc (cel e (Z1V k zl ++ (Builtin.zeroCells z.cells (grownCap w k 0 e - k)).toList))) ?_
    (h w.heap.size (grownCap w k 0 e) (Builtin.zeroCells z.cells (grownCap w k 0 e - k)).toList hge (by simp only [maxLen] at hcm; omega) ?_ _ _ (ha.put (by simpa using hd) _) hD (hw.drew.alloc _))
  · simp only [execOp, resolve, invoke, builtin, Sem.run_bind, Sem.run_pure, Result.andThen, List.map_toArray, List.map_cons, List.map_nil, ha.reads _ _ hs, ha.reads _ _ hx]
    rw [e1] at h2
    rw [h2]
  · simp only [Array.length_toList, size_zeroCells, hzs, ← Nat.add_mul]
    congr 1; omega
end steps
theorem Z7G {k : Nat} {v : Value} : (Z1V k [v]).length = k := by simp [Z1V]
def Z1l (pl : List PL) (k : Nat) : List Int := (lls (pl.take k)).flatten
theorem Z0S {pl : List PL} {k : Nat} {x : PL} (h : pl[k]? = some x) : Z1l pl (k + 1) = Z1l pl k ++ x.l := by
  unfold Z1l lls
  rw [List.take_add_one, h, Option.toList_some, List.map_append, List.flatten_append]; simp
theorem Z0p (pl : List PL) : ∀ k, (Z1l pl k).length ≤ (lls pl).flatten.length := fun k => by
  unfold Z1l lls
  have h : pl.map (·.l) = (pl.take k).map (·.l) ++ (pl.drop k).map (·.l) := by rw [← List.map_append, List.take_append_drop]
  rw [h, List.flatten_append, List.length_append]; omega
theorem ZbB (k : Nat) (hk : k ≤ 1000000) (H : Z9) (R : Z6) :
    Fn Tryz.prog 136 [.slice none 0 0, .int .i64 (k : Int)] H R (fun v H' R' => ∃ o : OSl 3 1 [], v = o.fs ∧ H' = o.G ++ H ∧ R' = R) := by
 refine Zi Tryz.func136 rfl Tryz.ntmps136 rfl ?_
 refine sqt 1 rfl (pur 1 rfl (Z0 (sqt 2 rfl (pur 2 rfl ?_))))
 refine Z1 rfl ?_ ?_ <;> intro hc0
 simp only [decide_eq_true_eq] at hc0
 omega
 refine Z2 (Z0 (sqt 8 rfl (pur 2 rfl (sp rfl (PE.capSl Zx rfl) rfl (pur 1 rfl (sp rfl (PE.lenSl Zx rfl) rfl (sp rfl (PE.sub rfl rfl (by omega)) rfl (sp rfl (PE.sub rfl rfl (by omega)) rfl ?_))))))))
 rw [show (k : Int) - (((0 : Nat) : Int) - ((0 : Nat) : Int)) = (k : Int) by omega]
 refine pur 1 rfl (sqt 2 rfl (pur 2 rfl ?_))
 refine Z1 rfl ?_ ?_ <;> intro hc1
 try simp only [cS] at hc1
 refine sqr 10 rfl (pur 2 rfl (sp rfl (PE.capSl Zx rfl) rfl (sp rfl (PE.slHi (h := 0) Z0D rfl rfl (by omega)) rfl (pur 1 rfl ?_))))
 refine ZfL rfl Z21 ik3 zl3 rfl rfl (by omega) (by omega) (by omega) rfl (fun b2 cap2 jk2 hc1 hc2 hc3 => ?_)
 refine pur 1 rfl (sp rfl (PE.lenSl Zx rfl) rfl (sp rfl (PE.slHi (h := 0) Z0D rfl rfl (by omega)) rfl (pur 1 rfl (sqt 2 rfl (pur 2 rfl (Z5 ?_))))))
 exact rtA rfl rfl rfl ⟨⟨.slice (some ⟨b2, 0, none⟩) 0 cap2, [(b2, cel 3 (Z1V k [.int .i64 0] ++ jk2))], by simp, .inr ⟨b2, cap2, Z1V k [.int .i64 0] ++ jk2, rfl, rfl, by rw [List.length_append, Z7G]; simp only [List.length_nil]; omega, Nat.zero_le _, hc2⟩⟩, rfl, rfl, rfl⟩ idH
 refine Z2 (sqt 2 rfl (pur 2 rfl (Z5 ?_)))
 exact rtA rfl rfl rfl ⟨OSl.nil _ _, rfl, rfl, rfl⟩ idH
set_option maxHeartbeats 400000 in
theorem Z27 (pl : List PL) (ap : Option Addr) (cp : Nat) (hpl : pl.length ≤ 1000000) (htl : (lls pl).flatten.length ≤ 1000000) (H : Z9) (R : Z6) [hP : MemRows ap 1 (Zh pl) R] [hI : MemF (Inn pl) R] :
    Fn Tryz.prog 68 [.slice ap pl.length cp] H R (fun v H' R' => ∃ o : OSl 3 1 (Z4 (lls pl).flatten), v = o.fs ∧ H' = o.G ++ H ∧ R' = R) := by
 refine Zi Tryz.func68 rfl Tryz.ntmps68 rfl ?_
 refine sqt 1 rfl (pur 1 rfl (sqt 1 rfl (pur 1 rfl (Z0 (sqt 3 rfl (pur 1 rfl (sp rfl (PE.lenSl Z0P rfl) rfl (pur 1 rfl (Z3 ?_)))))))))
 refine Ze (ι := {k : Nat // k ≤ pl.length}) (fun k => ⟨[(0, .slice ap pl.length cp), (3, .int .i64 ((Z1l pl k.1).length : Nat)), (9, .slice ap pl.length cp), (10, .int .i64 pl.length), (11, .int .i64 k.1)], H, R⟩) (fun k => pl.length - k.1) ⟨0, Nat.zero_le _⟩ ?_ (fun k => ?_)
 exact Zk idH
 obtain ⟨k, hk⟩ := k
 dsimp only at hk ⊢
 have hcl := Z0p pl k
 have hcl2 := Z0p pl (k + 1)
 refine sqt 1 rfl (pur 1 rfl (Z0 ?_))
 refine Z1 rfl ?_ ?_ <;> intro hc0 <;> try simp only [cS] at hc0
 obtain ⟨x, hx⟩ : ∃ x, pl[k]? = some x := ⟨_, List.getElem?_eq_getElem (by omega)⟩
 have hst := congrArg List.length (Z0S hx)
 rw [List.length_append] at hst
 refine Zg (a := ap) (sz := 1) (rows := Zh pl) (ne0 (by rw [Zv]; omega)) (fun ba oa he => ?_)
 subst he
 refine Z2 (Z0 (Z3 (sqt 3 rfl (sp rfl (PE.indexAddr Z5p rfl rfl (by omega) (by omega)) rfl (spL rfl rfl (lf0 Z1Y (Z1e hx) rfl) rfl (pur 1 rfl (sqt 5 rfl (pur 2 rfl (sp rfl (PE.lenSl Zx rfl) rfl (sp rfl (PE.add rfl rfl (by omega)) rfl ?_))))))))))
 rw [show ((Z1l pl k).length : Int) + (x.l.length : Int) = ((Z1l pl (k + 1)).length : Int) by omega]
 refine pur 1 rfl (sqt 2 rfl (pur 2 rfl ?_))
 refine Z1 rfl ?_ ?_ <;> intro hc1
 simp only [decide_eq_true_eq] at hc1
 omega
 refine Z2 (sqr 2 rfl (sp rfl (PE.add rfl rfl (by omega)) rfl (pur 1 rfl ?_)))
 exact Za ⟨k + 1, by omega⟩ idH
 obtain rfl : k = pl.length := by omega
 refine Z7 (Z8 (Z8 (Zl (sqt 3 rfl (pur 1 rfl ?_)))))
 refine cl rfl ZdH rfl rfl (ZbB (Z1l pl pl.length).length (by omega) _ _) ?_
 rintro _ _ R1 ⟨o0, rfl, rfl, hR1⟩
 obtain rfl := hR1.symm
 clear hR1
 refine pur 1 rfl (Z0 (sqt 3 rfl (pur 1 rfl (sp rfl (PE.lenSl Z0P rfl) rfl (pur 1 rfl (Z3 ?_))))))
 refine Ze (ι := (k : {k : Nat // k ≤ pl.length}) × OSl 3 1 (Z4 (Z1l pl k.1))) (fun y => ⟨[(6, y.2.fs), (25, .slice ap pl.length cp), (26, .int .i64 pl.length), (27, .int .i64 y.1.1)], y.2.G ++ H, R⟩) (fun y => pl.length - y.1.1) ⟨⟨0, Nat.zero_le _⟩, o0⟩ ?_ (fun y => ?_)
 exact Zk idH
 obtain ⟨⟨k, hk⟩, o⟩ := y
 dsimp only at hk o ⊢
 have hcl := Z0p pl k
 have hcl2 := Z0p pl (k + 1)
 refine sqt 1 rfl (pur 1 rfl (Z0 ?_))
 refine Z1 rfl ?_ ?_ <;> intro hc2 <;> try simp only [cS] at hc2
 obtain ⟨x, hx⟩ : ∃ x, pl[k]? = some x := ⟨_, List.getElem?_eq_getElem (by omega)⟩
 have hst := Z0S hx
 have hsl := congrArg List.length hst
 rw [List.length_append] at hsl
 refine Zg (a := ap) (sz := 1) (rows := Zh pl) (ne0 (by rw [Zv]; omega)) (fun ba oa he => ?_)
 subst he
 refine Sy.heap (fun w h => St.inn (x := x) h (List.mem_of_getElem? hx)) ?_
 refine Z2 (Z0 (Z3 (sqt 3 rfl (sp rfl (PE.indexAddr Z5p rfl rfl (by omega) (by omega)) rfl (spL rfl rfl (lf0 Z1Y (Z1e hx) rfl) rfl (pur 1 rfl (sqr 4 rfl (pur 2 rfl ?_))))))))
 refine apO (news := Z4 x.l) o rfl Z21 rfl rfl (Z3r) (irl _) (by simp [ZA, Z4, Value.oneCell']) (by rw [irl, irl]; omega) rfl (fun o33 => ?_)
 refine pur 1 rfl (sqr 2 rfl (sp rfl (PE.add rfl rfl (by omega)) rfl (pur 1 rfl ?_)))
 exact Za ⟨⟨k + 1, by omega⟩, o33.cast (by rw [hst]; simp [Z4])⟩ (fun w h => h.ftail)
 obtain rfl : k = pl.length := by omega
 refine Z7 (Z8 (Z8 (Zl (sqt 2 rfl (pur 2 rfl (Z5 ?_))))))
 exact rtA rfl rfl rfl ⟨o.cast (by unfold Z1l; rw [List.take_length]), rfl, rfl, rfl⟩ idH
theorem Z80 : cal Tryz.prog 68 = true := by kernel_rfl
def ZfO (h : Hse) (fr to_ : List Int) (spd : Int) (H : Z9) (R : Z6) : Value → Z9 → Z6 → Prop := fun v H' R' => H' = H ∧ R' = R ∧ ((h.rcE fr to_ spd ≠ 0 ∧ v = .tuple #[.int .i64 0, .int .i64 (h.rcE fr to_ spd)]) ∨
  (h.rcE fr to_ spd = 0 ∧ (∀ n, ¬ Pl h.gaps (msk to_) spd.toNat (msk fr) 0 n) ∧ v = .tuple #[.int .i64 0, .int .i64 6]) ∨
  (h.rcE fr to_ spd = 0 ∧ ∃ n : Nat, n ≤ 10 ∧ Lst (Pl h.gaps (msk to_) spd.toNat (msk fr) 0) n ∧ v = .tuple #[.int .i64 (n : Int), .int .i64 0]))
theorem Z4x {gs : List Gp} (hg : gs.length ≤ 10) : ∀ {ls : List Nat}, (∀ l ∈ ls, l < 2 ^ gs.length) → ((ls.map ZF).flatten).length = Z79 gs ls
  | [], _ => rfl
  | l :: ls, h => by
    rw [List.map_cons, List.flatten_cons, List.length_append, Z4x hg (fun x hx => h x (List.mem_cons_of_mem _ hx)), Z2M (h l (by simp)) hg]; rfl
theorem St.norows9 {sz : Nat} {H : Z9} {R : Z6} {w : World} (h : St H R w) : St H (Inn [] :: RowsA none sz (Zh []) :: R) w := St.inn0 (St.norows (sz := sz) h)
set_option maxHeartbeats 400000 in
theorem Z5S (h : Hse) (ag as_ : Option Addr) (cg cs : Nat) (hlg : h.gaps.length ≤ 9223372036854775807) (hls : h.sights.length ≤ 9223372036854775807) (fr to_ : List Int) (af at_ : Option Addr) (cf ct : Nat) (hlf : fr.length ≤ 1000000) (hlt : to_.length ≤ 1000000) (hfc : fr.length ≤ cf) (htc : to_.length ≤ ct) (spd : Int) (H : Z9) (R : Z6) [hG : MemRows ag 2 (Zd h.gaps) R] [hS : MemRows as_ 3 (Zf h.sights) R] [hF : MemRows af 1 (Z4 fr) R] [hT : MemRows at_ 1 (Z4 to_) R] :
    Fn Tryz.prog 22 [h.v (h.sg ag cg) (h.ss as_ cs), .slice af fr.length cf, .slice at_ to_.length ct, .int .i64 spd] H R (ZfO h fr to_ spd H R) := by
 refine Zi Tryz.func22 rfl Tryz.ntmps22 rfl ?_
 refine sqt 3 rfl (bx rfl rfl rfl (fun b4 => pur 2 rfl (sqt 10 rfl (spL rfl rfl (lhA (htl h (h.sg ag cg) (h.ss as_ cs)) Z0F rfl rfl rfl) rfl (pur 3 rfl ?_)))))
 refine cl rfl Zcs rfl rfl (Z94 h ag as_ cg cs hlg hls fr to_ af at_ cf ct hlf hlt hfc htc spd _ _) ?_
 rintro _ _ R1 ⟨rfl, hq⟩
 rcases hq with ⟨h9, rfl, hR1⟩ | ⟨h9, hnp, rfl, hR1⟩ | ⟨h9, ls, pl, a, c, hll, hpk, hpc, hlb, hrun, hlst, rfl, hR1⟩
 all_goals obtain rfl := hR1.symm
 all_goals clear hR1
 refine pur 5 rfl (sqt 6 rfl ?_)
 refine Sy.heap (fun w h => St.norows9 (sz := 1) h) ?_
 refine pur 1 rfl ?_
 refine cl rfl Z80 rfl rfl (Z27 [] none 0 (by decide) (by decide) _ _) ?_
 rintro _ _ R1 ⟨o, rfl, rfl, hR1⟩
 obtain rfl := hR1.symm
 clear hR1
 obtain ⟨ao, co, heo, hfz⟩ := o.freeze
 rw [heo, irl]
 refine Sy.heap (fun w h => hfz h) ?_
 clear hfz heo
 refine sp rfl (PE.lenSl Zx rfl) rfl (pur 3 rfl (Z5 ?_))
 exact rtB rfl rfl rfl rfl ⟨rfl, rfl, .inl ⟨h9, rfl⟩⟩ (fun w h9 => St.sub (h9.del b4))
 refine pur 5 rfl (sqt 6 rfl ?_)
 refine Sy.heap (fun w h => St.norows9 (sz := 1) h) ?_
 refine pur 1 rfl ?_
 refine cl rfl Z80 rfl rfl (Z27 [] none 0 (by decide) (by decide) _ _) ?_
 rintro _ _ R1 ⟨o, rfl, rfl, hR1⟩
 obtain rfl := hR1.symm
 clear hR1
 obtain ⟨ao, co, heo, hfz⟩ := o.freeze
 rw [heo, irl]
 refine Sy.heap (fun w h => hfz h) ?_
 clear hfz heo
 refine sp rfl (PE.lenSl Zx rfl) rfl (pur 3 rfl (Z5 ?_))
 exact rtB rfl rfl rfl rfl ⟨rfl, rfl, .inr (.inl ⟨h9, hnp, rfl⟩)⟩ (fun w h9 => St.sub (h9.del b4))
 refine pur 5 rfl (sqt 6 rfl ?_)
 have hgl := (Zak h9).1.ok.gl
 have hlen : (lls pl).flatten.length = Z79 h.gaps ls := by rw [hll]; exact Z4x hgl hlb
 have hs10 := hlst.1.few
 have hpl : pl.length = ls.length := by have := congrArg List.length hll; rw [ZR, List.length_map] at this; exact this
 refine pur 1 rfl ?_
 refine cl rfl Z80 rfl rfl (Z27 pl a c (by omega) (by omega) _ _) ?_
 rintro _ _ R1 ⟨o, rfl, rfl, hR1⟩
 obtain rfl := hR1.symm
 clear hR1
 obtain ⟨ao, co, heo, hfz⟩ := o.freeze
 rw [heo, irl, hlen]
 refine Sy.heap (fun w h => hfz h) ?_
 clear hfz heo
 refine sp rfl (PE.lenSl Zx rfl) rfl (pur 3 rfl (Z5 ?_))
 exact rtB rfl rfl rfl rfl ⟨rfl, rfl, .inr (.inr ⟨h9, Z79 h.gaps ls, by omega, hlst, rfl⟩)⟩ (fun w h9 => St.sub (h9.del b4))
theorem ZdF : cal Tryz.prog 148 = true := by kernel_rfl
theorem Zec : cal Tryz.prog 149 = true := by kernel_rfl
theorem Zdg : cal Tryz.prog 173 = true := by kernel_rfl
theorem Zbi : cal Tryz.prog 84 = true := by kernel_rfl
theorem Zfz : cal Tryz.prog 95 = true := by kernel_rfl
theorem Zfl : cal Tryz.prog 96 = true := by kernel_rfl
theorem ZeJ : cal Tryz.prog 97 = true := by kernel_rfl
def Hse.ledE (h : Hse) (fr to_ : List Int) (ls : List (List Int)) : Int := bif decide (h.botE fr to_ ≠ 0) then h.botE fr to_ else bif decide (ZI h.gaps.length ls.flatten ≠ 0) then ZI h.gaps.length ls.flatten else bif !(ls.all fun l => Z99 h.gaps 0 fr to_ l) then 8 else 0
def Hse.ledR (h : Hse) (fr to_ : List Int) (ls : List (List Int)) : Int := bif decide (h.ledE fr to_ ls = 0) then ls.length else 0
theorem Z7M (pl : List PL) (p : List Int → Bool) : (pl.all fun x => p x.l) = (lls pl).all p := by unfold lls; rw [List.all_map]; rfl
theorem Z5k {h : Hse} {fr to_ : List Int} {ls : List (List Int)} {e : Int} (he : h.ledE fr to_ ls = e) (h0 : e ≠ 0) : h.ledR fr to_ ls = 0 := by unfold Hse.ledR; rw [he, decide_eq_false h0]; rfl
theorem Z8F (xs : List PL) (a : Option Addr) (c g : Nat) (fst cap : List Value) (p : PL → Bool) (hg : cal Tryz.prog g = true) (hl : xs.length ≤ 9223372036854775807) (H : Z9) (R : Z6) [hR : MemRows a 1 (Zh xs) R] (hp : ∀ x, x ∈ xs → FnV Tryz.prog g (fst ++ [.slice x.a x.l.length x.c] ++ cap) H R (.bool (p x))) :
    FnV Tryz.prog 173 [.slice a xs.length c, .func (.func g) fst.toArray cap.toArray] H R (.int .i64 (match xs.findIdx? p with | some k => (k : Int) | none => -1)) := by
 refine Zi Tryz.func173 rfl Tryz.ntmps173 rfl ?_
 refine sqt 1 rfl (pur 1 rfl (Z0 (sqt 3 rfl (pur 1 rfl (sp rfl (PE.lenSl Z0P rfl) rfl (pur 1 rfl (Z3 ?_)))))))
 refine Ze (ι := {k : Nat // k ≤ xs.length ∧ ∀ x ∈ xs.take k, p x = false}) (fun k => ⟨[(0, .slice a xs.length c), (1, .func (.func g) fst.toArray cap.toArray), (7, .int .i64 xs.length), (8, .int .i64 k.1)], H, R⟩) (fun k => xs.length - k.1) ⟨0, by simp⟩ ?_ (fun k => ?_)
 exact Zk idH
 obtain ⟨k, hk, hn⟩ := k
 dsimp only
 refine sqt 1 rfl (pur 1 rfl (Z0 ?_))
 refine Z1 rfl ?_ ?_ <;> intro hc0
 simp only [cS] at hc0
 obtain ⟨x, hx⟩ : ∃ x, xs[k]? = some x := ⟨_, List.getElem?_eq_getElem (by omega)⟩
 have hxm := List.mem_of_getElem? hx
 refine Zg (a := a) (sz := 1) (rows := Zh xs) (by cases xs <;> simp_all [Zh]) (fun b off he => ?_)
 subst he
 refine Z2 (Z0 (Z3 (sqt 2 rfl (pur 2 rfl (sqt 6 rfl (pur 3 rfl (sp rfl (PE.indexAddr Z5p rfl rfl (by omega) (by omega)) rfl (spL rfl rfl (lf0 Z1Y (by simp [Zh, hx]; rfl) rfl) rfl ?_))))))))
 refine Z7a rfl rfl (hg) rfl rfl (hp x hxm) ?_
 refine Z1 rfl ?_ ?_ <;> intro hc1
 refine sqt 2 rfl (pur 2 rfl (Z5 ?_))
 first | (exact rtA rfl rfl rfl ⟨by rw [Z0e hx hn hc1]; rfl, rfl, rfl⟩ idH) | (exact rtA rfl rfl rfl ⟨by rw [ZU (by simpa using hn)]; rfl, rfl, rfl⟩ idH)
 refine Z2 (sqr 2 rfl (sp rfl (PE.add rfl rfl (by omega)) rfl (pur 1 rfl ?_)))
 exact Za ⟨k + 1, by omega, Z1m hx hn hc1⟩ idH
 simp only [cS] at hc0
 obtain rfl : k = xs.length := by omega
 refine Z7 (Z8 (Z8 (Zl (sqt 1 rfl (pur 1 rfl (Z5 ?_))))))
 first | (exact rtA rfl rfl rfl ⟨by rw [Z0e hx hn hc1]; rfl, rfl, rfl⟩ idH) | (exact rtA rfl rfl rfl ⟨by rw [ZU (by simpa using hn)]; rfl, rfl, rfl⟩ idH)
theorem Z8f (xs : List PL) (a : Option Addr) (c g : Nat) (fst cap : List Value) (p : PL → Bool) (hg : cal Tryz.prog g = true) (hl : xs.length ≤ 9223372036854775807) (H : Z9) (R : Z6) [hR : MemRows a 1 (Zh xs) R] (hp : ∀ x, x ∈ xs → FnV Tryz.prog g (fst ++ [.slice x.a x.l.length x.c] ++ cap) H R (.bool (p x))) :
    FnV Tryz.prog 148 [.slice a xs.length c, .func (.func g) fst.toArray cap.toArray] H R (.bool (xs.any p)) := by
 refine Zi Tryz.func148 rfl Tryz.ntmps148 rfl ?_
 refine sqt 1 rfl (pur 1 rfl (sqt 5 rfl (pur 2 rfl ?_)))
 refine clV rfl Zdg rfl rfl (Z8F xs a c g fst cap p hg hl _ _ hp) ?_
 refine pur 2 rfl (Z5 ?_)
 exact rtA rfl rfl rfl ⟨by simp only [ZG]; exact Z33 _ _, rfl, rfl⟩ drp
theorem Z8Q (x : PL) (g bf : Nat) (fst cap : List Value) (p : Bool) (hg : cal Tryz.prog g = true) (H : Z9) (R : Z6) [hM : Mem1 bf (cel 145 [.func (.func g) fst.toArray cap.toArray]) H] (hp : FnV Tryz.prog g (fst ++ [.slice x.a x.l.length x.c] ++ cap) H R (.bool p)) :
    FnV Tryz.prog 149 [.slice x.a x.l.length x.c, .pointer (some ⟨bf, 0, none⟩)] H R (.bool !p) := by
 refine Zi Tryz.func149 rfl Tryz.ntmps149 rfl ?_
 refine sqt 1 rfl (pur 1 rfl (sqt 5 rfl (spL rfl rfl (lh Ze5 rfl rfl) rfl (pur 1 rfl ?_))))
 refine Z7a rfl rfl (hg) rfl rfl (hp) ?_
 refine pur 2 rfl (Z5 ?_)
 exact rtA rfl rfl rfl ⟨rfl, rfl, rfl⟩ drp
theorem Z5F (xs : List PL) (a : Option Addr) (c g : Nat) (fst cap : List Value) (p : PL → Bool) (hg : cal Tryz.prog g = true) (hl : xs.length ≤ 9223372036854775807) (H : Z9) (R : Z6) [hR : MemRows a 1 (Zh xs) R] (hp : ∀ b x, x ∈ xs → FnV Tryz.prog g (fst ++ [.slice x.a x.l.length x.c] ++ cap) ((b, cel 145 [.func (.func g) fst.toArray cap.toArray]) :: H) R (.bool (p x))) :
    FnV Tryz.prog 95 [.slice a xs.length c, .func (.func g) fst.toArray cap.toArray] H R (.bool (xs.all p)) := by
 refine Zi Tryz.func95 rfl Tryz.ntmps95 rfl ?_
 refine sqt 2 rfl (bx rfl rfl rfl (fun b3 => pur 1 rfl (sqt 5 rfl (pur 1 rfl (sp rfl (PE.makeFunc rfl rfl) rfl ?_)))))
 refine clV rfl ZdF rfl rfl (Z8f xs a c 149 [] [_] (fun x => !p x) Zec hl _ _ (hp := fun x hx => Z8Q x g _ fst cap (p x) hg _ _ (hp := hp _ x hx))) ?_
 refine pur 2 rfl (Z5 ?_)
 exact rtA rfl rfl rfl ⟨by simp only [ZG]; rw [Z10], rfl, rfl⟩ drp
theorem Z9q (h : Hse) (ag as_ : Option Addr) (cg cs : Nat) (hok : h.ok) (fr to_ : List Int) (af at_ : Option Addr) (cf ct b4 b5 b6 : Nat) (hfr : ∀ x ∈ fr, 0 ≤ x ∧ x < 7) (hfl : fr.length ≤ 1000) (hnt : to_.length ≤ 1000000) (x : PL) (pl : List PL) (hxm : x ∈ pl) (hp : ∀ k ∈ x.l, 0 ≤ k) (hpl : x.l.length ≤ 1000000) (H : Z9) (R : Z6) [hG : MemRows ag 2 (Zd h.gaps) R] [hS : MemRows as_ 3 (Zf h.sights) R] [hF : MemRows af 1 (Z4 fr) R] [hT : MemRows at_ 1 (Z4 to_) R] [m4 : Mem1 b4 (cel 25 (htl h (h.sg ag cg) (h.ss as_ cs))) H] [m5 : Mem1 b5 (cel 26 [.slice af fr.length cf]) H] [m6 : Mem1 b6 (cel 26 [.slice at_ to_.length ct]) H] [hI : MemF (Inn pl) R] :
    FnV Tryz.prog 96 [.slice x.a x.l.length x.c, .pointer (some ⟨b4, 0, none⟩), .pointer (some ⟨b5, 0, none⟩), .pointer (some ⟨b6, 0, none⟩)] H R (.bool (Z99 h.gaps 0 fr to_ x.l)) := by
 refine Zi Tryz.func96 rfl Tryz.ntmps96 rfl ?_
 refine sqt 1 rfl ?_
 refine Sy.heap (fun w h => St.inn (x := x) h hxm) ?_
 refine pur 1 rfl (Z0 ?_)
 refine Zn [0, 1, 0, 0, 0, 31, 63] (.ld 0 (.ld 2 (.ld 3 (.tk 4 (.big 1 (.big 5 (.tk 6 .done))))))) ZC (by kernel_rfl) ?_
 refine ld rfl rfl (lhA (htl h (h.sg ag cg) (h.ss as_ cs)) Z0F rfl rfl rfl) rfl (ld rfl rfl (lh Z1Y rfl rfl) rfl (ld rfl rfl (lh Z1Y rfl rfl) rfl (Zy 1 rfl ?_)))
 refine cl rfl Z6N rfl rfl (Z6K h ag as_ cg cs _ _) ?_
 rintro _ _ _ ⟨bd, rfl, rfl, rfl⟩
 refine bg (fun w hs => ⟨(lh Z1Y rfl rfl) w hs, (lh Z1Y rfl rfl) w hs, trivial, trivial⟩) ?_
 refine clV rfl ZeJ rfl rfl (Zbq (dkA h ag as_ cg cs bd) (Z0z h ag as_ cg cs hok bd) fr to_ x.l af at_ x.a cf ct x.c hfr hfl hnt hp hpl _ _) ?_
 refine bgT (Zy 1 rfl (Z5 ?_))
 exact rtA rfl rfl rfl ⟨rfl, rfl, rfl⟩ (fun w h9 => h9.ftail.ftail)
set_option maxHeartbeats 400000 in
theorem Zcj (h : Hse) (ag as_ : Option Addr) (cg cs : Nat) (hlg : h.gaps.length ≤ 9223372036854775807) (hls : h.sights.length ≤ 9223372036854775807) (fr to_ : List Int) (af at_ : Option Addr) (cf ct : Nat) (hlf : fr.length ≤ 1000000) (hlt : to_.length ≤ 1000000) (hfc : fr.length ≤ cf) (htc : to_.length ≤ ct) (pl : List PL) (ap : Option Addr) (cp : Nat) (hpl : pl.length ≤ 1000000) (htot : (lls pl).flatten.length ≤ 1000000) (H : Z9) (R : Z6) [hG : MemRows ag 2 (Zd h.gaps) R] [hS : MemRows as_ 3 (Zf h.sights) R] [hF : MemRows af 1 (Z4 fr) R] [hT : MemRows at_ 1 (Z4 to_) R] [hP : MemRows ap 1 (Zh pl) R] [hI : MemF (Inn pl) R] :
    FnV Tryz.prog 36 [h.v (h.sg ag cg) (h.ss as_ cs), .slice af fr.length cf, .slice at_ to_.length ct, .slice ap pl.length cp] H R (.tuple #[.int .i64 (h.ledR fr to_ (lls pl)), .int .i64 (h.ledE fr to_ (lls pl))]) := by
 refine Zi Tryz.func36 rfl Tryz.ntmps36 rfl ?_
 refine sqt 5 rfl (bx rfl rfl rfl (fun b4 => bx rfl rfl rfl (fun b5 => bx rfl rfl rfl (fun b6 => pur 2 rfl (Z0 (sqt 5 rfl (spL rfl rfl (lhA (htl h (h.sg ag cg) (h.ss as_ cs)) Z0F rfl rfl rfl) rfl (spL rfl rfl (lh Z1Y rfl rfl) rfl (spL rfl rfl (lh Z1Y rfl rfl) rfl ?_)))))))))
 refine clV rfl Zai rfl rfl (Z5W h ag as_ cg cs hlg hls fr to_ af at_ cf ct (by omega) (by omega) hfc htc _ _) ?_
 refine pur 1 rfl (sqt 2 rfl (pur 2 rfl ?_))
 refine Z1 rfl ?_ ?_ <;> intro hc0
 have hbe : h.botE fr to_ ≠ 0 := of_decide_eq_true hc0
 have e : h.ledE fr to_ (lls pl) = h.botE fr to_ := by unfold Hse.ledE; rw [dT hbe]; rfl
 refine sqt 3 rfl (pur 3 rfl (Z5 ?_))
 exact rtB rfl rfl rfl rfl ⟨by rw [Z5k e (by assumption), e] <;> rfl, rfl, rfl⟩ drp
 have hbe : h.botE fr to_ = 0 := Classical.byContradiction fun e => by rw [decide_eq_true e] at hc0; cases hc0
 have hb := Z1N hbe
 obtain ⟨q1, q2, q3, q4, q5, q6⟩ := Z0i hb
 have hok := hb.ok
 refine Z2 (Z0 (Z0 ?_))
 refine Zn [0, 1, 0, 4, 15, 31] (.tk 0 (.ld 2 (.tk 3 (.big 1 (.big 4 (.tk 5 .done)))))) ZC (by kernel_rfl) ?_
 refine Zy 1 rfl (ld rfl rfl (lhA (htl h (h.sg ag cg) (h.ss as_ cs)) Z0F rfl rfl rfl) rfl (tk rfl (PE.makeFunc rfl rfl) rfl ?_))
 refine cl rfl Z80 rfl rfl (Z27 pl ap cp hpl htot _ _) ?_
 rintro _ _ R1 ⟨o, rfl, rfl, hR1⟩
 obtain rfl := hR1.symm
 clear hR1
 obtain ⟨ac, cc, heo, hcc, hfz⟩ := o.freezeC
 rw [irl] at hcc
 rw [heo, irl]
 refine Sy.heap (fun w h => hfz h) ?_
 clear hfz heo
 refine bg (fun w hs => ⟨(lhA (htl h (h.sg ag cg) (h.ss as_ cs)) Z0F rfl rfl rfl) w hs, trivial⟩) ?_
 refine clV rfl Zaf rfl rfl (Z2R (lls pl).flatten ac cc 84 [h.v (h.sg ag cg) (h.ss as_ cs)] [] (fun k => inB k 0 ((h.gaps.length : Int) - 1)) Zbi (by omega) hcc _ _ (fun _ z _ => Zco h (by have := hok.gl; omega) ag cg (h.ss as_ cs) z _ _)) ?_
 refine bgT (Zy 1 rfl (sqt 2 rfl (pur 2 rfl ?_)))
 refine Z1 rfl ?_ ?_ <;> intro hc1
 have hle : ZI h.gaps.length (lls pl).flatten ≠ 0 := of_decide_eq_true hc1
 have e : h.ledE fr to_ (lls pl) = ZI h.gaps.length (lls pl).flatten := by unfold Hse.ledE; rw [hbe, dT hle]; rfl
 refine sqt 3 rfl (pur 3 rfl (Z5 ?_))
 exact rtB rfl rfl rfl rfl ⟨by rw [Z5k e (by assumption), e] <;> rfl, rfl, rfl⟩ (fun w h9 => St.sub (((h9.del b6).del b5).del b4))
 have hle : ZI h.gaps.length (lls pl).flatten = 0 := Classical.byContradiction fun e => by rw [show decide (ZaZ (fun k => inB k 0 ((h.gaps.length : Int) - 1)) (lls pl).flatten ≠ 0) = true from decide_eq_true e] at hc1; cases hc1
 have hlx := (Z0b hle).1
 have hin : ∀ x ∈ pl, (∀ k ∈ x.l, 0 ≤ k) ∧ x.l.length ≤ 1000000 := fun x hx => by
   have hm : x.l ∈ lls pl := List.mem_map.2 ⟨x, hx, rfl⟩
   refine ⟨fun k hk => (hlx k (List.mem_flatten.2 ⟨_, hm, hk⟩)).1, ?_⟩
   have := List.Sublist.length_le (List.sublist_flatten_of_mem hm)
   omega
 refine Z2 (Z0 (sqt 4 rfl (pur 1 rfl (sp rfl (PE.makeFunc rfl rfl) rfl ?_))))
 refine clV rfl Zfz rfl rfl (Z5F pl ap cp 96 [] [_, _, _] (fun x => Z99 h.gaps 0 fr to_ x.l) Zfl (by omega) _ _ (fun _ x hx => Z9q h ag as_ cg cs hok fr to_ af at_ cf ct b4 b5 b6 q1 (by omega) hlt x pl hx (hin x hx).1 (hin x hx).2 _ _)) ?_
 refine pur 1 rfl ?_
 refine Z1 rfl ?_ ?_ <;> intro hc2
 have hc9 : (!(pl.all fun x => Z99 h.gaps 0 fr to_ x.l)) = true := hc2
 rw [Z7M pl (fun l => Z99 h.gaps 0 fr to_ l)] at hc9
 have h8 : (8 : Int) ≠ 0 := by decide
 have e : h.ledE fr to_ (lls pl) = 8 := by unfold Hse.ledE; rw [hbe, hle, hc9]; rfl
 refine sqt 2 rfl (pur 2 rfl (Z5 ?_))
 exact rtB rfl rfl rfl rfl ⟨by rw [Z5k e (by assumption), e] <;> rfl, rfl, rfl⟩ (fun w h9 => St.sub (((h9.del b6).del b5).del b4))
 have hc9 : (!(pl.all fun x => Z99 h.gaps 0 fr to_ x.l)) = false := hc2
 rw [Z7M pl (fun l => Z99 h.gaps 0 fr to_ l)] at hc9
 have e : h.ledE fr to_ (lls pl) = 0 := by unfold Hse.ledE; rw [hbe, hle, hc9]; rfl
 have er : h.ledR fr to_ (lls pl) = pl.length := by unfold Hse.ledR; rw [e, ZR]; rfl
 refine Z2 (sqt 4 rfl (pur 1 rfl (sp rfl (PE.lenSl Z0P rfl) rfl (pur 2 rfl (Z5 ?_)))))
 exact rtB rfl rfl rfl rfl ⟨by rw [er, e] <;> rfl, rfl, rfl⟩ (fun w h9 => St.sub (((h9.del b6).del b5).del b4))
theorem Zfq : Z0E Tryz.prog 25 = some 3 := by kernel_rfl
theorem ZfF : Z1k Tryz.prog 25 = some [(0, 1), (1, 1), (2, 1)] := by kernel_rfl
theorem Zf6 : Z1k Tryz.prog 67 = some [(0, 1), (1, 1), (2, 1)] := by kernel_rfl
theorem ZfP : slE Tryz.prog 22 = some (97, 2) := by kernel_rfl
theorem Zda : ZP Tryz.prog 25 = some ([.int .i64 0, .slice none 0 0, .slice none 0 0]) := by kernel_rfl
def Z74 : List Gp := [⟨0, 1⟩, ⟨0, 2⟩, ⟨1, 3⟩, ⟨2, 3⟩, ⟨3, 4⟩, ⟨4, 5⟩, ⟨1, 2⟩]
def sixS : List Sgt := [⟨2, 3, true⟩, ⟨1, 1, false⟩, ⟨2, 4, false⟩]
abbrev six (k : Nat) : Hse := ⟨6, Z74, sixS.take k⟩
theorem Z70 (l : List Sgt) (k : Nat) : (Zf l).take k = Zf (l.take k) := (List.map_take).symm
theorem Zbp {k : Nat} (hk : k ≤ 3) : (six k).sights.length = k := by
  show (sixS.take k).length = k
  rw [List.length_take]; show min k 3 = k; omega
set_option maxHeartbeats 400000 in
theorem Z4J (k : Nat) (hk : k ≤ 3) (H : Z9) (R : Z6) :
    Fn Tryz.prog 69 [.int .i64 (k : Int)] H R (fun v H' R' => ∃ (ag as_ : Option Addr) (cg cs : Nat), v = (six k).v ((six k).sg ag cg) ((six k).ss as_ cs) ∧ k ≤ cs ∧ H' = H ∧ R' = RowsA ag 2 (Zd (six k).gaps) :: RowsA as_ 3 (Zf (six k).sights) :: R) := by
 refine Zi Tryz.func69 rfl Tryz.ntmps69 rfl ?_
 refine sqt 1 rfl (alc rfl Zda rfl (fun b2 => sqt 5 rfl (sp rfl (PE.build (out := [_, _, _]) Zf6 Zbt rfl rfl) rfl (sp rfl (PE.build (out := [_, _, _]) Zf6 Zbt rfl rfl) rfl (sp rfl (PE.build (out := [_, _, _]) Zf6 Zbt rfl rfl) rfl ?_)))))
 refine bsl (out := [_, _, _, _, _, _, _, _, _]) rfl Zfo Zbt rfl rfl rfl rfl rfl rfl (fun b7 => ?_)
 refine pur 1 rfl (sqt 17 rfl (sp rfl (PE.build (out := [_, _]) Zb5 Z5c rfl rfl) rfl (sp rfl (PE.build (out := [_, _]) Zb5 Z5c rfl rfl) rfl (sp rfl (PE.build (out := [_, _]) Zb5 Z5c rfl rfl) rfl (sp rfl (PE.build (out := [_, _]) Zb5 Z5c rfl rfl) rfl (sp rfl (PE.build (out := [_, _]) Zb5 Z5c rfl rfl) rfl (sp rfl (PE.build (out := [_, _]) Zb5 Z5c rfl rfl) rfl (sp rfl (PE.build (out := [_, _]) Zb5 Z5c rfl rfl) rfl ?_))))))))
 refine bsl (out := [_, _, _, _, _, _, _, _, _, _, _, _, _, _]) rfl ZfP Z5c rfl rfl rfl rfl rfl rfl (fun b15 => ?_)
 refine pur 3 rfl (sp rfl (PE.lenSl Z3E rfl) rfl (sp rfl (PE.min rfl rfl) rfl (sp rfl (PE.max rfl rfl) rfl ?_)))
 rw [show max (0 : Int) (min (k : Int) ((3 : Nat) : Int)) = (k : Int) by omega]
 refine sp rfl (PE.slHi (h := k) Zfo rfl rfl (by omega)) rfl (sp rfl (PE.build (out := [_, _, _]) ZfF Zda rfl rfl) rfl ?_)
 refine ZS (l' := [.int .i64 6, .slice (some ⟨b15, 0, none⟩) 7 7, .slice (some ⟨b7, 0, none⟩) k 3]) rfl rfl rfl Zfq rfl rfl rfl rfl (nl rfl) ?_
 refine Z5 ?_
 refine Sy.heap (fun w h9 => St.rows (sz := 3) (rows := Zf sixS) (rest := []) (h9.pull b7) (by simp [Zf, sixS, Z1W])) ?_
 refine Sy.heap (fun w h9 => St.rows (sz := 2) (rows := Zd Z74) (rest := []) (h9.pull b15) (by simp [Zd, Z74, grow])) ?_
 refine Sy.heap (fun w h9 => (show St _ (RowsA (some ⟨b7, 0, none⟩) 3 (Zf (sixS.take k)) :: _) w from Z70 sixS k ▸ St.rowsTake (a := some ⟨b7, 0, none⟩) (sz := 3) (rows := Zf sixS) h9 k)) ?_
 exact Zp (vs := [_]) rfl (.cons (RV.cell rfl (lhA [_, _, _] Z0F rfl rfl rfl)) .nil) rfl ⟨some ⟨b15, 0, none⟩, some ⟨b7, 0, none⟩, 7, 3, by unfold Hse.v Hse.sg Hse.ss htl; rw [Zbp hk]; rfl, hk, rfl, rfl⟩ (fun w h9 => St.sub (h9.del b2))
theorem Zdd : cal Tryz.prog 89 = true := by kernel_rfl
theorem Z4c : Wth Z74 7 := by
  intro g hg
  simp only [Z74, List.mem_cons, List.not_mem_nil, or_false] at hg
  rcases hg with rfl | rfl | rfl | rfl | rfl | rfl | rfl <;> decide
theorem six_w : ((six 0).weeksR [0]).1 = [0, 1, 1, 2, 3, 4] ∧ ((six 0).weeksR [0]).2 = 0 := ⟨by kernel_rfl, by kernel_rfl⟩
theorem six_o : ((six 2).orgR).1 = [4] ∧ ((six 2).orgR).2 = 0 := ⟨by kernel_rfl, by kernel_rfl⟩
theorem six_s : ((six 2).surR 1).1 = [4, 5] ∧ ((six 2).surR 1).2 = 0 := ⟨by kernel_rfl, by kernel_rfl⟩
theorem six_c : ((six 3).claR).1 = [0, 1, 2] ∧ ((six 3).claR).2 = 0 := ⟨by kernel_rfl, by kernel_rfl⟩
theorem six_l : (six 0).ledR [0] [3] [[0, 2], [1, 3]] = 2 ∧ (six 0).ledE [0] [3] [[0, 2], [1, 3]] = 0 := ⟨by kernel_rfl, by kernel_rfl⟩
theorem six_b : (six 0).botE [0] [5] = 0 ∧ (six 0).botE [0] [3] = 0 ∧ (six 0).rcE [0] [1] 1 = 0 := ⟨by kernel_rfl, by kernel_rfl, by kernel_rfl⟩
theorem ZdE : plD Z74 2 1 8 1 0 3 = true := by kernel_rfl
theorem ZdJ : plD Z74 2 1 8 1 0 2 = false := by kernel_rfl
theorem ZdL : plD Z74 8 0 8 1 0 10 = false := by kernel_rfl
theorem Ze3 : plD Z74 8 1 8 1 0 10 = true := by kernel_rfl
theorem Zel : plD Z74 32 10 8 1 0 1 = true := by kernel_rfl
theorem Zef : plD Z74 32 10 8 1 0 0 = false := by kernel_rfl
theorem six_few : Lst (Pl (six 0).gaps (msk [1]) (1 : Int).toNat (msk [0]) 0) 3 := Z7d Z4c (by decide) ZdE ZdJ
theorem ZbT : Lst (Pl (six 0).gaps (msk [5]) 10 (msk [0]) 0) 1 := Z7d Z4c (by decide) Zel Zef
theorem Zbs {s : Nat} (h1 : ∃ n, Pl (six 0).gaps (msk [3]) s (msk [0]) 0 n) (h2 : ∀ s', s' < s → ∀ n, ¬ Pl (six 0).gaps (msk [3]) s' (msk [0]) 0 n) : s = 1 := by
  rcases Nat.lt_trichotomy s 1 with h3 | h3 | h3
  · obtain rfl : s = 0 := by omega
    obtain ⟨n, hn⟩ := h1
    have hf := hn.few
    have h4 := Z5u (n := 10) (f := 8) Z4c (by decide) (by omega) hn (by have : (six 0).gaps.length = 7 := rfl; omega)
    have h5 : plD Z74 8 0 8 1 0 10 = true := h4
    rw [ZdL] at h5
    cases h5
  · exact h3
  · obtain ⟨k, _, hk⟩ := Z49 Ze3
    exact absurd hk (h2 1 h3 k)
theorem Z6H {f : Nat → Int} {V : List (Nat × Int)} (hf : Flw f (msk [0]) (msk [5]) (six 0).gaps) (hs : Shn (six 0).gaps (fun _ => true) f (msk [0]) (msk [5]) V) : (Z1F (Z1H V) (six 0).gaps).length = 1 := by
  have hc := (hs.cut (Z8J (Z1N six_b.1)) hf).1
  have hl : (Z1F (Z1H V) (six 0).gaps).length ≤ 7 := by
    unfold Z1F
    rw [List.length_map]
    exact Nat.le_trans (List.length_filter_le _ _) (by decide)
  exact (Cut.plan (sp := 10) Z4c (by decide) hc (by omega)).unique ZbT
theorem Z6j (xs ys : List Int) (a a2 : Option Addr) (c c2 : Nat) (hl : xs.length ≤ 9223372036854775807) (hl2 : ys.length ≤ 9223372036854775807) (H : Z9) (R : Z6) [hR : MemRows a 1 (Z4 xs) R] [hR2 : MemRows a2 1 (Z4 ys) R] :
    FnV Tryz.prog 89 [.slice a xs.length c, .slice a2 ys.length c2] H R (.bool (decide (xs = ys))) := by
 refine Zi Tryz.func89 rfl Tryz.ntmps89 rfl ?_
 refine sqt 1 rfl (pur 1 rfl (Z0 (sqt 5 rfl (pur 1 rfl (sp rfl (PE.lenSl Zx rfl) rfl (pur 1 rfl (sp rfl (PE.lenSl Zx rfl) rfl (pur 1 rfl ?_))))))))
 refine Z1 rfl ?_ ?_ <;> intro hc0
 have hne : xs ≠ ys := fun e => by subst e; simp at hc0
 refine sqt 1 rfl (pur 1 rfl (Z5 ?_))
 exact rtA rfl rfl rfl ⟨by first | (simp only [ZG]; rw [dT heq]; done) | (simp only [ZG]; rw [dF hne]), rfl, rfl⟩ idH
 have hle : xs.length = ys.length := by simp only [cS] at hc0; omega
 refine Z2 (Z0 (sqt 3 rfl (pur 1 rfl (sp rfl (PE.lenSl Zx rfl) rfl (pur 1 rfl (Z3 ?_))))))
 refine Ze (ι := {k : Nat // k ≤ xs.length ∧ xs.take k = ys.take k}) (fun k => ⟨[(0, .slice a xs.length c), (1, .slice a2 ys.length c2), (12, .int .i64 xs.length), (13, .int .i64 k.1)], H, R⟩) (fun k => xs.length - k.1) ⟨0, by simp⟩ ?_ (fun k => ?_)
 exact Zk idH
 obtain ⟨k, hk, hn⟩ := k
 dsimp only
 refine sqt 1 rfl (pur 1 rfl (Z0 ?_))
 refine Z1 rfl ?_ ?_ <;> intro hc1
 simp only [cS] at hc1
 obtain ⟨x, hx⟩ : ∃ x, xs[k]? = some x := ⟨_, List.getElem?_eq_getElem (by omega)⟩
 obtain ⟨z, hz⟩ : ∃ z, ys[k]? = some z := ⟨_, List.getElem?_eq_getElem (by omega)⟩
 refine Zg (a := a) (sz := 1) (rows := Z4 xs) (by intro h0; simp [Z4] at h0; simp [h0] at hx) (fun b off he => ?_)
 subst he
 refine Zg (a := a2) (sz := 1) (rows := Z4 ys) (by intro h0; simp [Z4] at h0; simp [h0] at hz) (fun b2 off2 he => ?_)
 subst he
 refine Z2 (Z0 (Z3 (sqt 2 rfl (pur 2 rfl (Z0 ?_)))))
 refine Zn [0, 0, 3, 7, 0, 0, 48, 112, 255] (tks 0 3 (.ld 3 (tks 4 3 (.ld 7 (.tk 8 .done))))) ZC (by kernel_rfl) ?_
 refine Zy 2 rfl (tk rfl (PE.indexAddr Z1L rfl rfl (by omega) (by omega)) rfl (ld rfl rfl (lf0 sc3 (by simp [Z4, hx]; rfl) rfl) rfl (Zy 2 rfl (tk rfl (PE.indexAddr Z1L rfl rfl (by omega) (by omega)) rfl (ld rfl rfl (lf0 sc3 (by simp [Z4, hz]; rfl) rfl) rfl (Zy 1 rfl ?_))))))
 refine Z1 rfl ?_ ?_ <;> intro hc2
 have hne : xs ≠ ys := fun e => by subst e; rw [hx] at hz; cases hz; simp at hc2
 refine sqt 1 rfl (pur 1 rfl (Z5 ?_))
 exact rtA rfl rfl rfl ⟨by first | (simp only [ZG]; rw [dT heq]; done) | (simp only [ZG]; rw [dF hne]), rfl, rfl⟩ idH
 have hxz : x = z := by simpa using hc2
 refine Z2 (sqr 2 rfl (sp rfl (PE.add rfl rfl (by omega)) rfl (pur 1 rfl ?_)))
 exact Za ⟨k + 1, by omega, by rw [List.take_add_one, List.take_add_one, hn, hx, hz, hxz]⟩ idH
 simp only [cS] at hc1
 obtain rfl : k = xs.length := by omega
 have heq : xs = ys := by
   rw [List.take_length] at hn
   exact hn.trans (by rw [hle]; exact List.take_length)
 refine Z7 (Z8 (Z8 (Zl (sqt 1 rfl (pur 1 rfl (Z5 ?_))))))
 exact rtA rfl rfl rfl ⟨by first | (simp only [ZG]; rw [dT heq]; done) | (simp only [ZG]; rw [dF hne]), rfl, rfl⟩ idH
theorem Z0G (xs ys : List Int) (a a2 : Option Addr) (c c2 : Nat) (hl : xs.length ≤ 9223372036854775807) (hl2 : ys.length ≤ 9223372036854775807) (H : Z9) (R : Z6) [hR : MemRows a 1 (Z4 xs) R] [hR2 : MemRows a2 1 (Z4 ys) R] :
    FnV Tryz.prog 26 [.slice a xs.length c, .slice a2 ys.length c2] H R (.bool (decide (xs = ys))) := by
 refine Zi Tryz.func26 rfl Tryz.ntmps26 rfl ?_
 refine sqt 1 rfl (pur 1 rfl (sqt 4 rfl (pur 2 rfl ?_)))
 refine clV rfl Zdd rfl rfl (Z6j xs ys a a2 c c2 hl hl2 _ _) ?_
 refine pur 1 rfl (Z5 ?_)
 exact rtA rfl rfl rfl ⟨rfl, rfl, rfl⟩ drp
theorem Zd9 : cal Tryz.prog 22 = true := by kernel_rfl
theorem Zer : cal Tryz.prog 24 = true := by kernel_rfl
theorem Z4F : cal Tryz.prog 26 = true := by kernel_rfl
theorem Zfa : cal Tryz.prog 33 = true := by kernel_rfl
theorem ZeH : cal Tryz.prog 36 = true := by kernel_rfl
theorem Zf0 : cal Tryz.prog 41 = true := by kernel_rfl
theorem ZeQ : cal Tryz.prog 49 = true := by kernel_rfl
theorem ZeX : cal Tryz.prog 51 = true := by kernel_rfl
theorem Zf9 : cal Tryz.prog 53 = true := by kernel_rfl
theorem Z4I : cal Tryz.prog 69 = true := by kernel_rfl
set_option maxHeartbeats 1000000 in
theorem Z3c (H : Z9) (R : Z6) :
    FnV Tryz.prog 11 [] H R (.bool true) := by
 refine Zi Tryz.func11 rfl Tryz.ntmps11 rfl ?_
 refine sqt 1 rfl (pur 1 rfl (sqt 8 rfl ?_))
 refine cl rfl Z4I rfl rfl (Z4J 0 (by decide) _ _) ?_
 rintro _ _ R1 ⟨ag18, as18, cg18, cs18, rfl, _, rfl, hR1⟩
 obtain rfl := hR1.symm
 clear hR1
 refine bsl (out := [_]) rfl Z0D zl3 rfl rfl rfl rfl rfl rfl (fun b19 => ?_)
 refine Sy.heap (fun w h9 => St.rows (sz := 1) (rows := Z4 [0]) (rest := []) (h9.pull b19) (by simp)) ?_
 refine cl rfl Zf0 rfl rfl (Zbv (six 0) ag18 as18 cg18 cs18 (by decide) (by decide) [0] (some ⟨b19, 0, none⟩) 1 (by decide) (by decide) _ _) ?_
 rintro _ _ R1 ⟨a1, c1, _, rfl, rfl, hR1⟩
 obtain rfl := hR1.symm
 clear hR1
 rw [six_w.1, six_w.2]
 refine pur 5 rfl (sqt 7 rfl ?_)
 refine cl rfl Z4I rfl rfl (Z4J 2 (by decide) _ _) ?_
 rintro _ _ R1 ⟨ag24, as24, cg24, cs24, rfl, _, rfl, hR1⟩
 obtain rfl := hR1.symm
 clear hR1
 refine cl rfl ZeQ rfl rfl (Z8B (six 2) ag24 as24 cg24 cs24 (by decide) (by decide) _ _) ?_
 rintro _ _ R1 ⟨a2, c2, _, rfl, rfl, hR1⟩
 obtain rfl := hR1.symm
 clear hR1
 rw [six_o.1, six_o.2]
 refine pur 5 rfl (sqt 7 rfl ?_)
 refine cl rfl Z4I rfl rfl (Z4J 2 (by decide) _ _) ?_
 rintro _ _ R1 ⟨ag29, as29, cg29, cs29, rfl, _, rfl, hR1⟩
 obtain rfl := hR1.symm
 clear hR1
 refine cl rfl ZeX rfl rfl (Z9r (six 2) ag29 as29 cg29 cs29 (by decide) (by decide) 1 _ _) ?_
 rintro _ _ R1 ⟨a3, c3, _, rfl, rfl, hR1⟩
 obtain rfl := hR1.symm
 clear hR1
 rw [six_s.1, six_s.2]
 refine pur 5 rfl (sqt 7 rfl ?_)
 refine cl rfl Z4I rfl rfl (Z4J 3 (by decide) _ _) ?_
 rintro _ _ R1 ⟨ag34, as34, cg34, cs34, rfl, _, rfl, hR1⟩
 obtain rfl := hR1.symm
 clear hR1
 refine cl rfl Zf9 rfl rfl (Zbf (six 3) ag34 as34 cg34 cs34 (by decide) (by decide) _ _) ?_
 rintro _ _ R1 ⟨a4, c4, _, rfl, rfl, hR1⟩
 obtain rfl := hR1.symm
 clear hR1
 rw [six_c.1, six_c.2]
 refine pur 5 rfl (sqt 9 rfl ?_)
 refine cl rfl Z4I rfl rfl (Z4J 0 (by decide) _ _) ?_
 rintro _ _ R1 ⟨ag39, as39, cg39, cs39, rfl, _, rfl, hR1⟩
 obtain rfl := hR1.symm
 clear hR1
 refine bsl (out := [_]) rfl Z0D zl3 rfl rfl rfl rfl rfl rfl (fun b40 => ?_)
 refine bsl (out := [_]) rfl Z0D zl3 rfl rfl rfl rfl rfl rfl (fun b41 => ?_)
 refine Sy.heap (fun w h9 => St.rows (sz := 1) (rows := Z4 [0]) (rest := []) (h9.pull b40) (by simp)) ?_
 refine Sy.heap (fun w h9 => St.rows (sz := 1) (rows := Z4 [1]) (rest := []) (h9.pull b41) (by simp)) ?_
 refine cl rfl Zd9 rfl rfl (Z5S (six 0) ag39 as39 cg39 cs39 (by decide) (by decide) [0] [1] (some ⟨b40, 0, none⟩) (some ⟨b41, 0, none⟩) 1 1 (by decide) (by decide) (by decide) (by decide) 1 _ _) ?_
 rintro _ _ R1 ⟨rfl, hR1, hq⟩
 obtain rfl := hR1.symm
 clear hR1
 rcases hq with ⟨h9, _⟩ | ⟨_, hn, _⟩ | ⟨_, n, _, hn, rfl⟩
 · exact absurd six_b.2.2 h9
 · exact absurd six_few.1 (hn 3)
 obtain rfl := hn.unique six_few
 refine pur 5 rfl (sqt 12 rfl ?_)
 refine cl rfl Z4I rfl rfl (Z4J 0 (by decide) _ _) ?_
 rintro _ _ R1 ⟨ag46, as46, cg46, cs46, rfl, _, rfl, hR1⟩
 obtain rfl := hR1.symm
 clear hR1
 refine bsl (out := [_]) rfl Z0D zl3 rfl rfl rfl rfl rfl rfl (fun b47 => ?_)
 refine bsl (out := [_]) rfl Z0D zl3 rfl rfl rfl rfl rfl rfl (fun b48 => ?_)
 refine bsl (out := [_, _]) rfl Z0D zl3 rfl rfl rfl rfl rfl rfl (fun b49 => ?_)
 refine bsl (out := [_, _]) rfl Z0D zl3 rfl rfl rfl rfl rfl rfl (fun b50 => ?_)
 refine bsl (out := [_, _]) rfl Zdb Z9H rfl rfl rfl rfl rfl rfl (fun b51 => ?_)
 refine Sy.heap (fun w h9 => St.rows (sz := 1) (rows := Z4 [0]) (rest := []) (h9.pull b47) (by simp)) ?_
 refine Sy.heap (fun w h9 => St.rows (sz := 1) (rows := Z4 [3]) (rest := []) (h9.pull b48) (by simp)) ?_
 refine Sy.heap (fun w h9 => St.rows (sz := 1) (rows := Z4 [0, 2]) (rest := []) (h9.pull b49) (by simp)) ?_
 refine Sy.heap (fun w h9 => St.rows (sz := 1) (rows := Z4 [1, 3]) (rest := []) (h9.pull b50) (by simp)) ?_
 refine Sy.heap (fun w h9 => St.rows (sz := 1) (rows := Zh [⟨some ⟨b49, 0, none⟩, 2, [0, 2]⟩, ⟨some ⟨b50, 0, none⟩, 2, [1, 3]⟩]) (rest := []) (h9.pull b51) (by simp [Zh, Z51])) ?_
 refine Sy.heap (fun w h9 => St.inn0 h9) ?_
 refine Sy.heap (fun w h9 => (show St _ (Inn [⟨some ⟨b49, 0, none⟩, 2, [0, 2]⟩] :: _) w from St.innSnoc (l := []) ⟨some ⟨b49, 0, none⟩, 2, [0, 2]⟩ h9)) ?_
 refine Sy.heap (fun w h9 => (show St _ (Inn [⟨some ⟨b49, 0, none⟩, 2, [0, 2]⟩, ⟨some ⟨b50, 0, none⟩, 2, [1, 3]⟩] :: _) w from St.innSnoc (l := [⟨some ⟨b49, 0, none⟩, 2, [0, 2]⟩]) ⟨some ⟨b50, 0, none⟩, 2, [1, 3]⟩ h9)) ?_
 refine cl rfl ZeH rfl rfl (Zcj (six 0) ag46 as46 cg46 cs46 (by decide) (by decide) [0] [3] (some ⟨b47, 0, none⟩) (some ⟨b48, 0, none⟩) 1 1 (by decide) (by decide) (by decide) (by decide) [⟨some ⟨b49, 0, none⟩, 2, [0, 2]⟩, ⟨some ⟨b50, 0, none⟩, 2, [1, 3]⟩] (some ⟨b51, 0, none⟩) 2 (by show 2 ≤ 1000000; decide) (by show 4 ≤ 1000000; decide) _ _) ?_
 rintro _ _ _ ⟨rfl, rfl, rfl⟩
 rw [show lls [⟨some ⟨b49, 0, none⟩, 2, [0, 2]⟩, ⟨some ⟨b50, 0, none⟩, 2, [1, 3]⟩] = [[0, 2], [1, 3]] from rfl, six_l.1, six_l.2]
 refine pur 5 rfl (sqt 9 rfl ?_)
 refine cl rfl Z4I rfl rfl (Z4J 0 (by decide) _ _) ?_
 rintro _ _ R1 ⟨ag56, as56, cg56, cs56, rfl, _, rfl, hR1⟩
 obtain rfl := hR1.symm
 clear hR1
 refine bsl (out := [_]) rfl Z0D zl3 rfl rfl rfl rfl rfl rfl (fun b57 => ?_)
 refine bsl (out := [_]) rfl Z0D zl3 rfl rfl rfl rfl rfl rfl (fun b58 => ?_)
 refine Sy.heap (fun w h9 => St.rows (sz := 1) (rows := Z4 [0]) (rest := []) (h9.pull b57) (by simp)) ?_
 refine Sy.heap (fun w h9 => St.rows (sz := 1) (rows := Z4 [5]) (rest := []) (h9.pull b58) (by simp)) ?_
 refine cl rfl Zfa rfl rfl (Zf1 (six 0) ag56 as56 cg56 cs56 (by decide) (by decide) [0] [5] (some ⟨b57, 0, none⟩) (some ⟨b58, 0, none⟩) 1 1 (by decide) (by decide) (by decide) (by decide) _ _) ?_
 rintro _ _ R1 ⟨rfl, hq⟩
 rcases hq with ⟨h9, _⟩ | ⟨_, f, V, a5, c5, hf, hs, _, rfl, hR1⟩
 · exact absurd six_b.1 h9
 obtain rfl := hR1.symm
 clear hR1
 rw [Z6H hf hs]
 refine pur 5 rfl (sqt 9 rfl ?_)
 refine cl rfl Z4I rfl rfl (Z4J 0 (by decide) _ _) ?_
 rintro _ _ R1 ⟨ag63, as63, cg63, cs63, rfl, _, rfl, hR1⟩
 obtain rfl := hR1.symm
 clear hR1
 refine bsl (out := [_]) rfl Z0D zl3 rfl rfl rfl rfl rfl rfl (fun b64 => ?_)
 refine bsl (out := [_]) rfl Z0D zl3 rfl rfl rfl rfl rfl rfl (fun b65 => ?_)
 refine Sy.heap (fun w h9 => St.rows (sz := 1) (rows := Z4 [0]) (rest := []) (h9.pull b64) (by simp)) ?_
 refine Sy.heap (fun w h9 => St.rows (sz := 1) (rows := Z4 [3]) (rest := []) (h9.pull b65) (by simp)) ?_
 refine cl rfl Zer rfl rfl (Z91 (six 0) ag63 as63 cg63 cs63 (by decide) (by decide) [0] [3] (some ⟨b64, 0, none⟩) (some ⟨b65, 0, none⟩) 1 1 (by decide) (by decide) (by decide) (by decide) _ _) ?_
 rintro _ _ R1 ⟨rfl, hR1, hq⟩
 obtain rfl := hR1.symm
 clear hR1
 rcases hq with ⟨h9, _⟩ | ⟨_, n, _, hn1, hn2, rfl⟩
 · exact absurd six_b.2.1 h9
 obtain rfl := Zbs hn1 hn2
 refine pur 5 rfl (sqt 68 rfl (pur 3 rfl ?_))
 refine Zo 71 rfl ?_ ?_ <;> intro g71
 refine pur 4 rfl ?_
 refine Zo 75 rfl ?_ ?_ <;> intro g75
 refine pur 4 rfl ?_
 refine Zo 79 rfl ?_ ?_ <;> intro g79
 refine pur 4 rfl ?_
 refine Zo 83 rfl ?_ ?_ <;> intro g83
 refine pur 4 rfl ?_
 refine Zo 87 rfl ?_ ?_ <;> intro g87
 refine pur 4 rfl ?_
 refine Zo 91 rfl ?_ ?_ <;> intro g91
 refine pur 4 rfl ?_
 refine Zo 95 rfl ?_ ?_ <;> intro g95
 refine pur 4 rfl ?_
 refine Zo 99 rfl ?_ ?_ <;> intro g99
 refine pur 1 rfl ?_
 refine ZcO (out := [_, _, _, _, _, _]) rfl rfl rfl rfl Z0D zl3 rfl rfl rfl rfl rfl rfl (fun b101 => ?_)
 refine Sy.heap (fun w h9 => St.rows (sz := 1) (rows := Z4 [0, 1, 1, 2, 3, 4]) (rest := []) (h9.pull b101) (by simp)) ?_
 refine Z22 rfl rfl rfl rfl Z4F rfl rfl (Z0G [0, 1, 1, 2, 3, 4] [0, 1, 1, 2, 3, 4] a1 (some ⟨b101, 0, none⟩) c1 6 (by decide) (by decide) _ _) ?_
 refine pur 2 rfl ?_
 refine Zo 104 rfl ?_ ?_ <;> intro g104
 refine pur 1 rfl ?_
 refine ZcO (out := [_]) rfl rfl rfl rfl Z0D zl3 rfl rfl rfl rfl rfl rfl (fun b106 => ?_)
 refine Sy.heap (fun w h9 => St.rows (sz := 1) (rows := Z4 [4]) (rest := []) (h9.pull b106) (by simp)) ?_
 refine Z22 rfl rfl rfl rfl Z4F rfl rfl (Z0G [4] [4] a2 (some ⟨b106, 0, none⟩) c2 1 (by decide) (by decide) _ _) ?_
 refine pur 2 rfl ?_
 refine Zo 109 rfl ?_ ?_ <;> intro g109
 refine pur 1 rfl ?_
 refine ZcO (out := [_, _]) rfl rfl rfl rfl Z0D zl3 rfl rfl rfl rfl rfl rfl (fun b111 => ?_)
 refine Sy.heap (fun w h9 => St.rows (sz := 1) (rows := Z4 [4, 5]) (rest := []) (h9.pull b111) (by simp)) ?_
 refine Z22 rfl rfl rfl rfl Z4F rfl rfl (Z0G [4, 5] [4, 5] a3 (some ⟨b111, 0, none⟩) c3 2 (by decide) (by decide) _ _) ?_
 refine pur 2 rfl ?_
 refine Zo 114 rfl ?_ ?_ <;> intro g114
 refine pur 1 rfl ?_
 refine ZcO (out := [_, _, _]) rfl rfl rfl rfl Z0D zl3 rfl rfl rfl rfl rfl rfl (fun b116 => ?_)
 refine Sy.heap (fun w h9 => St.rows (sz := 1) (rows := Z4 [0, 1, 2]) (rest := []) (h9.pull b116) (by simp)) ?_
 refine Z22 rfl rfl rfl rfl Z4F rfl rfl (Z0G [0, 1, 2] [0, 1, 2] a4 (some ⟨b116, 0, none⟩) c4 3 (by decide) (by decide) _ _) ?_
 refine pur 2 rfl ?_
 refine Zo 119 rfl ?_ ?_ <;> intro g119
 refine pur 4 rfl ?_
 refine Zo 123 rfl ?_ ?_ <;> intro g123
 refine pur 4 rfl ?_
 refine Zo 127 rfl ?_ ?_ <;> intro g127
 refine pur 1 rfl ?_
 refine spG rfl rfl rfl rfl (PE.lenSl Zx rfl) rfl ?_
 refine pur 3 rfl ?_
 refine Zo 132 rfl ?_ ?_ <;> intro g132
 refine pur 4 rfl (Z5 ?_)
 exact rtA rfl rfl rfl ⟨rfl, rfl, rfl⟩ (fun w h9 => St.sub h9)
 exact absurd g132 (by decide)
 exact absurd g127 (by decide)
 exact absurd g123 (by decide)
 exact absurd g119 (by decide)
 exact absurd g114 (by decide)
 exact absurd g109 (by decide)
 exact absurd g104 (by decide)
 exact absurd g99 (by decide)
 exact absurd g95 (by decide)
 exact absurd g91 (by decide)
 exact absurd g87 (by decide)
 exact absurd g83 (by decide)
 exact absurd g79 (by decide)
 exact absurd g75 (by decide)
 exact absurd g71 (by decide)
theorem ZfG : apT Tryz.prog 22 = some (97, 2, 16) := by kernel_rfl
theorem Zfv : cal Tryz.prog 70 = true := by kernel_rfl
theorem ZeG : cal Tryz.prog 71 = true := by kernel_rfl
theorem Z8K (xs : List Gp) (a : Option Addr) (c : Nat) (hl : xs.length ≤ 1000000) (H : Z9) (R : Z6) [hR : MemRows a 2 (Zd xs) R] :
    Fn Tryz.prog 70 [.slice a xs.length c] H R (fun v H' R' => ∃ o : OSl 97 2 (Zd xs), v = o.fs ∧ o.here ∧ H' = o.G ++ H ∧ R' = R) := by
 refine Zi Tryz.func70 rfl Tryz.ntmps70 rfl ?_
 refine sqt 1 rfl (pur 1 rfl (sqt 6 rfl (pur 1 rfl (sp rfl (PE.lenSl Z1X rfl) rfl ?_))))
 refine mkO rfl ZfG Z5c rfl rfl ⟨by omega, by omega⟩ rfl (fun o ho => ?_)
 refine pur 1 rfl ?_
 refine ZeC (news := Zd xs) o rfl ZfG rfl rfl (Z3r) (by simp [Zd]) (by simp [ZA, Zd, grow, Value.oneCell']) ⟨by simp [Zd]; omega, by simp [Zd]; omega⟩ rfl ho (fun o2 ho2 => ?_)
 refine pur 1 rfl (Z5 ?_)
 exact rtA rfl rfl rfl ⟨o2.cast (by simp), rfl, ho2, rfl, rfl⟩ idH
theorem Z7X (xs : List Sgt) (a : Option Addr) (c : Nat) (hl : xs.length ≤ 1000000) (H : Z9) (R : Z6) [hR : MemRows a 3 (Zf xs) R] :
    Fn Tryz.prog 71 [.slice a xs.length c] H R (fun v H' R' => ∃ o : OSl 67 3 (Zf xs), v = o.fs ∧ o.here ∧ H' = o.G ++ H ∧ R' = R) := by
 refine Zi Tryz.func71 rfl Tryz.ntmps71 rfl ?_
 refine sqt 1 rfl (pur 1 rfl (sqt 6 rfl (pur 1 rfl (sp rfl (PE.lenSl Z3E rfl) rfl ?_))))
 refine mkO rfl Zfr Zbt rfl rfl ⟨by omega, by omega⟩ rfl (fun o ho => ?_)
 refine pur 1 rfl ?_
 refine ZeC (news := Zf xs) o rfl Zfr rfl rfl (Z3r) (by simp [Zf]) (by simp [ZA, Zf, Z1W, Value.oneCell', Value.oneCell']) ⟨by simp [Zf]; omega, by simp [Zf]; omega⟩ rfl ho (fun o2 ho2 => ?_)
 refine pur 1 rfl (Z5 ?_)
 exact rtA rfl rfl rfl ⟨o2.cast (by simp), rfl, ho2, rfl, rfl⟩ idH
theorem Zfp (h : Hse) (ag as_ : Option Addr) (cg cs : Nat) (hlg : h.gaps.length ≤ 1000000) (hls : h.sights.length ≤ 1000000) (H : Z9) (R : Z6) [hG : MemRows ag 2 (Zd h.gaps) R] [hS : MemRows as_ 3 (Zf h.sights) R] :
    Fn Tryz.prog 12 [h.v (h.sg ag cg) (h.ss as_ cs)] H R (fun v H' R' => ∃ (og : OSl 97 2 (Zd h.gaps)) (os : OSl 67 3 (Zf h.sights)), v = h.v og.fs os.fs ∧ H' = os.G ++ (og.G ++ H) ∧ R' = R) := by
 refine Zi Tryz.func12 rfl Tryz.ntmps12 rfl ?_
 refine sqt 2 rfl (bx rfl rfl rfl (fun b1 => alc rfl Zda rfl (fun b2 => Z0 ?_)))
 refine Zn [0, 1, 0, 4, 12, 0, 32, 124, 255, 511] (.tk 0 (.ld 1 (.tk 2 (.ld 3 (.tk 5 (.ld 6 (.big 4 (.big 7 (.tk 8 (.big 9 .done)))))))))) ZC (by kernel_rfl) ?_
 refine tk rfl (PE.fA Z1d rfl) rfl (ld rfl rfl (lh sc3 rfl rfl) rfl (tk rfl (PE.fA Z06 rfl) rfl (ld rfl rfl (lh Z3J rfl rfl) rfl (tk rfl (PE.fA Z0H rfl) rfl (ld rfl rfl (lh Z5d rfl rfl) rfl ?_)))))
 refine cl rfl Zfv rfl rfl (Z8K h.gaps ag cg hlg _ _) ?_
 rintro _ _ R1 ⟨og, rfl, hog, rfl, hR1⟩
 obtain rfl := hR1.symm
 clear hR1
 refine bg (fun w hs => ⟨(lh Z5d rfl rfl) w hs, trivial, (lh sc3 rfl rfl) w hs, trivial⟩) ?_
 refine cl rfl ZeG rfl rfl (Z7X h.sights as_ cs hls _ _) ?_
 rintro _ _ R1 ⟨os, rfl, hos, rfl, hR1⟩
 obtain rfl := hR1.symm
 clear hR1
 refine bg (fun w hs => ⟨trivial, (lh sc3 rfl rfl) w hs, trivial⟩) ?_
 refine tk rfl (PE.build (out := htl h og.fs os.fs) ZfF Zda rfl (by simp only [Z52, og.cells.1, os.cells.1, List.getElem?_cons_zero, List.getElem?_cons_succ]; rfl)) rfl ?_
 refine ZS (l' := htl h og.fs os.fs) rfl rfl rfl Zfq rfl rfl (by show (htl _ og.fs os.fs).all (·.oneCell') = true; simp only [htl, List.all_cons, List.all_nil, og.cells.2, os.cells.2, Bool.and_true]; rfl) rfl (Nat.le_refl _) ?_
 refine bgT (Z5 ?_)
 exact Zp (vs := [_]) rfl (.cons (RV.cell rfl (lhA [_, _, _] Z0F rfl rfl rfl)) .nil) rfl ⟨og, os, rfl, rfl, rfl⟩ (fun w h9 => ((h9.del b2).del b1))
structure MadeW (h : Hse) (nb ng : Int) : Prop where
  bins : 2 ≤ h.bins ∧ h.bins ≤ nb
  gl : (h.gaps.length : Int) ≤ ng
  gaps : ∀ g ∈ h.gaps, (0 ≤ g.a ∧ g.a < h.bins) ∧ (0 ≤ g.b ∧ g.b < h.bins) ∧ g.a ≠ g.b
  none : h.sights = []
theorem MadeW.ok {h : Hse} {nb ng : Int} (hm : MadeW h nb ng) (h1 : nb ≤ 7) (h2 : ng ≤ 10) : h.ok := ⟨by have := hm.bins; omega, by have := hm.gl; omega, by rw [hm.none]; exact Nat.zero_le _, hm.gaps, by rw [hm.none]; simp⟩
def ini (f : Nat → Int) (n k : Nat) : List Int := (List.range n).map fun j => bif decide (j < k) then f j else 0
theorem ZbE (f : Nat → Int) (n k : Nat) : (ini f n k).length = n := by simp [ini]
theorem Zeh {f : Nat → Int} {n k j : Nat} (hj : j < n) : na (ini f n k) j = bif decide (j < k) then f j else 0 := by
  unfold na ini
  rw [List.getD_eq_getElem?_getD, List.getElem?_map, List.getElem?_range hj]; rfl
def clP (pl : List PL) (t : Nat) : Nat := msk (Z1l pl (t + 1))
def in0 (fr : List Int) (j : Nat) : Int := bif ZD fr j then 0 else 100
theorem Z2u {l : List Int} (h : ∀ x ∈ l, 0 ≤ x) (j : Nat) : ZD l (j : Int) = (msk l).testBit j := by rw [Bool.eq_iff_iff, hasI_iff, Zt h]
theorem FolI.start {gs : List Gp} {cl : Nat → Nat} {fr : List Int} (h : ∀ x ∈ fr, 0 ≤ x) (n : Nat) : FolI gs cl (msk fr) n 0 (Z3A gs (cl 0) (lvp gs cl (msk fr) 0) 0) (ini (in0 fr) n n) := ⟨ZbE _ _ _, fun k hk => by
  rw [Zeh hk, decide_eq_true hk, cond_true]
  unfold in0
  rw [Z2u h]
  show _ = bif (msk fr).testBit k then fol gs cl (msk fr) 0 k else bif (msk fr).testBit k then _ else 100
  cases hb : (msk fr).testBit k with
  | false => rfl
  | true =>
    rw [cond_true, cond_true]
    exact (Z8T (t := 0) (Nat.le_refl _) hb (fun i hi => absurd hi (Nat.not_lt_zero _))).symm⟩
theorem Z6F {pl : List PL} {k : Nat} (h : pl.length ≤ k) : Z1l pl (k + 1) = Z1l pl k := by unfold Z1l; rw [List.take_of_length_le (by omega), List.take_of_length_le h]
theorem Za9 {pl : List PL} {k : Nat} {x : Int} (h : x ∈ Z1l pl k) : x ∈ (lls pl).flatten := by
  unfold Z1l at h
  obtain ⟨l, h1, h2⟩ := List.mem_flatten.1 h
  obtain ⟨y, h3, rfl⟩ := List.mem_map.1 h1
  exact List.mem_flatten.2 ⟨_, List.mem_map_of_mem (List.mem_of_mem_take h3), h2⟩
theorem FnV.lendO {P : Program} {f : FuncId} {v : Value} {e sz : Nat} {rows : List (List Value)} (o : OSl e sz rows) (mk : Value → List Value) {T : Z9} {R : Z6}
    (h : ∀ (a : Option Addr) (c : Nat) (B : World → Prop), FnV P f (mk (.slice a rows.length c)) T (RowsA a sz rows :: B :: R) v) : FnV P f (mk o.fs) (o.G ++ T) R v := fun w hw => by
  obtain ⟨fs, G, hl, his⟩ := o
  rcases his with ⟨rfl, rfl, rfl⟩ | ⟨b, cap, junk, rfl, rfl, h1, h2, h3⟩
  · have h3 : St T (RowsA none sz [] :: (fun _ => True) :: R) w := St.also (St.also hw (f := fun _ => True) (fun _ _ => trivial)) (fun w' _ i row hi => by simp at hi)
    refine CallsIn.mono (h none 0 _ w h3) ?_
    rintro e' w' ⟨u, H', R', ⟨rfl, rfl, rfl⟩, he, hs'⟩
    exact ⟨_, _, R, ⟨rfl, rfl, rfl⟩, he, hs'.ftail.ftail⟩
  · exact FnV.lend (H := (b, cel e (rows.flatten ++ junk)) :: T) (b := b) (e := e) (sz := sz) (rows := rows) (junk := junk) hl (fun B => h _ cap B) w hw
theorem Tru.nil (h : Hse) (l : List Int) : Tru h l [] := ⟨(fun s hs => by cases hs), rfl⟩
theorem ZcI (a b : List Sgt) : Zf (a ++ b) = Zf a ++ Zf b := List.map_append
def Hse.add (h : Hse) (s : Sgt) : Hse := ⟨h.bins, h.gaps, h.sights ++ [s]⟩
structure DelI (l : List Int) (p : Int → Bool) (i j : Nat) (c : List Int) : Prop where
  len : c.length = l.length
  le : i < j ∧ j ≤ l.length
  pre : c.take i = (l.take j).filter (fun x => !p x)
  suf : ∀ q, j ≤ q → c[q]? = l[q]?
theorem Z1w {l : List Int} {j : Nat} {x : Int} (h : l[j]? = some x) : l.take (j + 1) = l.take j ++ [x] := by rw [List.take_add_one, h]; rfl
theorem DelI.start {l : List Int} {p : Int → Bool} {k : Nat} (h : l.findIdx? p = some k) : DelI l p k (k + 1) l := by
  obtain ⟨h1, h2, h3⟩ := List.findIdx?_eq_some_iff_getElem.1 h
  refine ⟨rfl, ⟨by omega, by omega⟩, ?_, fun _ _ => rfl⟩
  rw [Z1w (List.getElem?_eq_getElem h1), List.filter_append, List.filter_cons, h2]
  have : (l.take k).filter (fun x => !p x) = l.take k := List.filter_eq_self.2 fun x hx => by
    obtain ⟨q, hq, rfl⟩ := List.mem_iff_getElem.1 hx
    rw [List.length_take] at hq
    rw [List.getElem_take]
    have := h3 q (by omega)
    simpa using this
  rw [this]; simp
theorem DelI.skip {l : List Int} {p : Int → Bool} {i j : Nat} {c : List Int} (h : DelI l p i j c) {x : Int} (hx : l[j]? = some x) (hp : p x = true) : DelI l p i (j + 1) c := by
  have hj := (List.getElem?_eq_some_iff.1 hx).1
  refine ⟨h.len, ⟨by have := h.le; omega, by omega⟩, ?_, fun q hq => h.suf q (by omega)⟩
  rw [h.pre, Z1w hx, List.filter_append, List.filter_cons, hp]; simp
theorem DelI.keep {l : List Int} {p : Int → Bool} {i j : Nat} {c : List Int} (h : DelI l p i j c) {x : Int} (hx : l[j]? = some x) (hp : p x = false) : DelI l p (i + 1) (j + 1) (c.set i x) := by
  have hj := (List.getElem?_eq_some_iff.1 hx).1
  have hl := h.le
  have hn := h.len
  refine ⟨by rw [List.length_set]; exact hn, ⟨by omega, by omega⟩, ?_, fun q hq => by rw [List.getElem?_set_ne (by omega)]; exact h.suf q (by omega)⟩
  rw [Z1w hx, List.filter_append, List.filter_cons, hp, ← h.pre, Z1w (l := c.set i x) (x := x) (by rw [List.getElem?_set_self (by omega)]), List.take_set_of_le (Nat.le_refl _)]; rfl
theorem DelI.done {l : List Int} {p : Int → Bool} {i : Nat} {c : List Int} (h : DelI l p i l.length c) : c.take i = l.filter (fun x => !p x) ∧ i = (l.filter (fun x => !p x)).length := by
  have h1 := h.pre
  rw [List.take_length] at h1
  refine ⟨h1, ?_⟩
  rw [← h1, List.length_take, h.len]
  have := h.le; omega
theorem ZfQ : Z0E Tryz.prog 67 = some 3 := by kernel_rfl
end Go.Proofs.YthbjpnmclokinaaGreat
namespace Go.Proofs.YthbjpnmclokinaaGreat
set_option linter.unusedSimpArgs false
set_option linter.unusedVariables false
structure Bij (n : Nat) (R : Nat → Nat → Prop) : Prop where
  lt : ∀ u u', R u u' → u < n ∧ u' < n
  to : ∀ u, u < n → ∃ u', R u u'
  fr : ∀ u', u' < n → ∃ u, R u u'
  f : ∀ u u' v', R u u' → R u v' → u' = v'
  i : ∀ u v u', R u u' → R v u' → u = v
theorem Bij.symm {n : Nat} {R : Nat → Nat → Prop} (h : Bij n R) : Bij n fun u' u => R u u' := ⟨fun u u' h1 => (h.lt u' u h1).symm, h.fr, h.to, fun u u' v' h1 h2 => h.i u' v' u h1 h2, fun u v u' h1 h2 => h.f u' u v h1 h2⟩
structure Img (n : Nat) (R : Nat → Nat → Prop) (m m' : Nat) : Prop where
  lt : m < 2 ^ n
  lt' : m' < 2 ^ n
  bit : ∀ u u', R u u' → m.testBit u = m'.testBit u'
theorem Img.symm {n : Nat} {R : Nat → Nat → Prop} {m m' : Nat} (h : Img n R m m') : Img n (fun u' u => R u u') m' m := ⟨h.lt', h.lt, fun u u' h1 => (h.bit u' u h1).symm⟩
theorem Img.ex {n : Nat} {R : Nat → Nat → Prop} (hb : Bij n R) {m : Nat} (hm : m < 2 ^ n) : ∃ m', Img n R m m' := by
  classical
  obtain ⟨t, h1, h2⟩ := Z5y (fun u' => decide (∃ u, R u u' ∧ m.testBit u = true)) n
  refine ⟨t, hm, h1, fun u u' h => ?_⟩
  rw [h2 u', decide_eq_true (hb.lt u u' h).2, Bool.true_and, Bool.eq_iff_iff, decide_eq_true_eq]
  exact ⟨fun h3 => ⟨u, h, h3⟩, fun ⟨v, h3, h4⟩ => by rw [hb.i u v u' h h3]; exact h4⟩
theorem Img.unique {n : Nat} {R : Nat → Nat → Prop} (hb : Bij n R) {m a b : Nat} (h1 : Img n R m a) (h2 : Img n R m b) : a = b := ZJ fun k => by
  rcases Nat.lt_or_ge k n with hk | hk
  · obtain ⟨u, hu⟩ := hb.fr k hk
    rw [← h1.bit u k hu, ← h2.bit u k hu]
  · rw [Z5x h1.lt' hk, Z5x h2.lt' hk]
theorem Img.zero {n : Nat} {R : Nat → Nat → Prop} : Img n R 0 0 := ⟨Nat.two_pow_pos _, Nat.two_pow_pos _, fun u u' _ => by rw [Nat.zero_testBit, Nat.zero_testBit]⟩
theorem Img.or {n : Nat} {R : Nat → Nat → Prop} {a a' b b' : Nat} (h1 : Img n R a a') (h2 : Img n R b b') : Img n R (a ||| b) (a' ||| b') := ⟨Z6T h1.lt h2.lt, Z6T h1.lt' h2.lt', fun u u' h => by rw [Nat.testBit_or, Nat.testBit_or, h1.bit u u' h, h2.bit u u' h]⟩
theorem Img.and {n : Nat} {R : Nat → Nat → Prop} (hb : Bij n R) {a a' b b' : Nat} (h1 : Img n R a a') (h2 : Img n R b b') (h : a &&& b = 0) : a' &&& b' = 0 := and_zero.2 fun k hk => by
  obtain ⟨u, hu⟩ := hb.fr k (Z02 h1.lt' hk)
  rw [← h2.bit u k hu]
  exact and_zero.1 h u (by rw [h1.bit u k hu]; exact hk)
theorem Img.cnt {n : Nat} {R : Nat → Nat → Prop} (hb : Bij n R) {m m' : Nat} (h : Img n R m m') : cnt n m = cnt n m' := by
  classical
  have hex : ∃ f : Nat → Nat, ∀ u, u < n → R u (f u) := ⟨fun u => if h : u < n then Classical.choose (hb.to u h) else 0, fun u hu => by
    dsimp only; rw [dif_pos hu]; exact Classical.choose_spec (hb.to u hu)⟩
  obtain ⟨f, hf⟩ := hex
  have hp : ((List.range n).map f).Perm (List.range n) := by
    refine (List.perm_ext_iff_of_nodup ?_ List.nodup_range).2 fun x => ?_
    · rw [List.nodup_iff_pairwise_ne, List.pairwise_map]
      refine List.pairwise_lt_range.imp_of_mem fun {a b} ha hb9 hab e => ?_
      have h1 := hf a (List.mem_range.1 ha)
      have h2 := hf b (List.mem_range.1 hb9)
      rw [← e] at h2
      have := hb.i a b _ h1 h2
      omega
    · rw [List.mem_range, List.mem_map]
      constructor
      · rintro ⟨u, hu, rfl⟩; exact (hb.lt _ _ (hf u (List.mem_range.1 hu))).2
      · intro hx
        obtain ⟨u, hu⟩ := hb.fr x hx
        have hul := (hb.lt u x hu).1
        exact ⟨u, List.mem_range.2 hul, hb.f u _ _ (hf u hul) hu⟩
  show (List.range n).countP (fun k => m.testBit k) = (List.range n).countP (fun k => m'.testBit k)
  have e1 := hp.countP_eq (fun k => m'.testBit k)
  rw [List.countP_map] at e1
  rw [← e1]
  exact List.countP_congr fun k hk => by rw [h.bit k (f k) (hf k (List.mem_range.1 hk))]; rfl
structure Sim (n : Nat) (gs gs' : List Gp) (R Q : Nat → Nat → Prop) : Prop where
  bin : Bij n R
  gap : Bij gs.length Q
  len : gs'.length = gs.length
  gp : ∀ i i' g g', Q i i' → gs[i]? = some g → gs'[i']? = some g' → R g.a.toNat g'.b.toNat ∧ R g.b.toNat g'.a.toNat
theorem Sim.symm {n : Nat} {gs gs' : List Gp} {R Q : Nat → Nat → Prop} (h : Sim n gs gs' R Q) : Sim n gs' gs (fun u' u => R u u') (fun i' i => Q i i') := ⟨h.bin.symm, by rw [h.len]; exact h.gap.symm, h.len.symm, fun i i' g g' h1 h2 h3 => by
  have := h.gp i' i g' g h1 h3 h2
  exact ⟨this.2, this.1⟩⟩
theorem Sim.wth {n : Nat} {gs gs' : List Gp} {R Q : Nat → Nat → Prop} (h : Sim n gs gs' R Q) : Wth gs n := fun g hg => by
  obtain ⟨i, hi⟩ := List.getElem?_of_mem hg
  have hl := (List.getElem?_eq_some_iff.1 hi).1
  obtain ⟨i', hq⟩ := h.gap.to i hl
  have hl' : i' < gs'.length := by rw [h.len]; exact (h.gap.lt i i' hq).2
  have h1 := h.gp i i' g gs'[i'] hq hi (List.getElem?_eq_getElem hl')
  exact ⟨(h.bin.lt _ _ h1.1).1, (h.bin.lt _ _ h1.2).1⟩
theorem Sim.adj {n : Nat} {gs gs' : List Gp} {R Q : Nat → Nat → Prop} (h : Sim n gs gs' R Q) {c c' u v u' v' : Nat} (hc : Img gs.length Q c c') (hu : R u u') (hv : R v v') (ha : Adj gs c u v) : Adj gs' c' u' v' := by
  obtain ⟨i, g, h1, h2, h3⟩ := ha
  have hl := (List.getElem?_eq_some_iff.1 h1).1
  obtain ⟨i', hq⟩ := h.gap.to i hl
  have hl' : i' < gs'.length := by rw [h.len]; exact (h.gap.lt i i' hq).2
  have h4 : gs'[i']? = some gs'[i'] := List.getElem?_eq_getElem hl'
  have h5 := h.gp i i' g _ hq h1 h4
  refine ⟨i', _, h4, by rw [← hc.bit i i' hq]; exact h2, ?_⟩
  rcases h3 with ⟨h6, h7⟩ | ⟨h6, h7⟩
  · right
    rw [h6] at h5; rw [h7] at h5
    exact ⟨(h.bin.f u _ _ h5.1 hu), (h.bin.f v _ _ h5.2 hv)⟩
  · left
    rw [h6] at h5; rw [h7] at h5
    exact ⟨(h.bin.f u _ _ h5.2 hu), (h.bin.f v _ _ h5.1 hv)⟩
theorem Sim.spr {n : Nat} {gs gs' : List Gp} {R Q : Nat → Nat → Prop} (h : Sim n gs gs' R Q) {c c' m m' : Nat} (hc : Img gs.length Q c c') (hm : Img n R m m') : Img n R (spr gs c m) (spr gs' c' m') := by
  refine ⟨Z1j h.wth hm.lt, Z1j h.symm.wth hm.lt', fun u u' hu => ?_⟩
  rw [Bool.eq_iff_iff, spr_test, spr_test]
  constructor
  · rintro (h1 | ⟨w, h1, h2⟩)
    · exact .inl (by rw [← hm.bit u u' hu]; exact h1)
    · obtain ⟨w', hw⟩ := h.bin.to w (h2.lt h.wth).1
      exact .inr ⟨w', by rw [← hm.bit w w' hw]; exact h1, h.adj hc hw hu h2⟩
  · rintro (h1 | ⟨w', h1, h2⟩)
    · exact .inl (by rw [hm.bit u u' hu]; exact h1)
    · obtain ⟨w, hw⟩ := h.bin.fr w' (h2.lt h.symm.wth).1
      exact .inr ⟨w, by rw [hm.bit w w' hw]; exact h1, h.symm.adj (by rw [h.len]; exact hc.symm) hw hu h2⟩
theorem Sim.lv {n : Nat} {gs gs' : List Gp} {R Q : Nat → Nat → Prop} (h : Sim n gs gs' R Q) {c c' m m' : Nat} (hc : Img gs.length Q c c') (hm : Img n R m m') : ∀ t, Img n R (lv gs c m t) (lv gs' c' m' t)
  | 0 => hm
  | t + 1 => h.spr hc (h.lv hc hm t)
theorem Sim.wk {n : Nat} {gs gs' : List Gp} {R Q : Nat → Nat → Prop} (h : Sim n gs gs' R Q) {c c' m m' u u' : Nat} (hc : Img gs.length Q c c') (hm : Img n R m m') (hu : R u u') : wk gs c m u = wk gs' c' m' u' := by
  unfold Go.Proofs.YthbjpnmclokinaaGreat.wk
  rw [show (fun t => (Go.Proofs.YthbjpnmclokinaaGreat.lv gs c m t).testBit u) = fun t => (Go.Proofs.YthbjpnmclokinaaGreat.lv gs' c' m' t).testBit u' from funext fun t => (h.lv hc hm t).bit u u' hu]
theorem Sim.shut {n : Nat} {gs gs' : List Gp} {R Q : Nat → Nat → Prop} (h : Sim n gs gs' R Q) {c c' S S' K K' : Nat} (hc : Img gs.length Q c c') (hS : Img n R S S') (hK : Img n R K K') (hs : Shut gs c S K) : Shut gs' c' S' K' := fun t v' hv => by
  obtain ⟨v, hr⟩ := h.bin.fr v' (Z02 (h.lv hc hS t).lt' hv)
  rw [← hK.bit v v' hr]
  exact hs t v (by rw [(h.lv hc hS t).bit v v' hr]; exact hv)
theorem Sim.cutLe {n : Nat} {gs gs' : List Gp} {R Q : Nat → Nat → Prop} (h : Sim n gs gs' R Q) {S S' K K' m m' : Nat} (hS : Img n R S S') (hK : Img n R K K') (h1 : Cut gs S K m) (h2 : Cut gs' S' K' m') : m' ≤ m := by
  obtain ⟨C, h3, h4, h5⟩ := h1.1
  obtain ⟨C', h6⟩ := Img.ex h.gap h3
  have h7 := h2.2 _ ⟨C', by rw [h.len]; exact h6.lt', h.shut h6 hS hK h4, rfl⟩
  rw [h.len, ← h6.cnt h.gap, h5] at h7; exact h7
theorem Sim.cut {n : Nat} {gs gs' : List Gp} {R Q : Nat → Nat → Prop} (h : Sim n gs gs' R Q) {S S' K K' m m' : Nat} (hS : Img n R S S') (hK : Img n R K K') (h1 : Cut gs S K m) (h2 : Cut gs' S' K' m') : m = m' := Nat.le_antisymm (h.symm.cutLe hS.symm hK.symm h2 h1) (h.cutLe hS hK h1 h2)
theorem Sim.pl {n : Nat} {gs gs' : List Gp} {R Q : Nat → Nat → Prop} (h : Sim n gs gs' R Q) {K K' sp m c k : Nat} (hK : Img n R K K') (hp : Pl gs K sp m c k) : ∀ {m' c' : Nat}, Img n R m m' → Img gs.length Q c c' → Pl gs' K' sp m' c' k := by
  induction hp with
  | @stay m c l hl hc hs he hk =>
    intro m' c' hm hc9
    obtain ⟨l', h1⟩ := Img.ex h.gap hl
    have h2 := h.spr (hc9.or h1) hm
    rw [he] at h2
    have e := h1.cnt h.gap
    rw [e]
    rw [← h.len]
    exact .stay (by rw [h.len]; exact h1.lt') (h1.and h.gap hc9 hc) (by rw [h.len, ← e]; exact hs) (h2.unique h.bin hm) (hm.and h.bin hK hk)
  | @go m c l k hl hc hs hne hk hp ih =>
    intro m' c' hm hc9
    obtain ⟨l', h1⟩ := Img.ex h.gap hl
    have h2 := h.spr (hc9.or h1) hm
    have e := h1.cnt h.gap
    rw [e]
    rw [← h.len]
    refine .go (by rw [h.len]; exact h1.lt') (h1.and h.gap hc9 hc) (by rw [h.len, ← e]; exact hs) (fun e2 => hne ?_) (h2.and h.bin hK hk) (ih h2 (hc9.or h1))
    rw [e2] at h2
    exact h2.symm.unique h.bin.symm hm.symm
theorem Sim.plan {n : Nat} {gs gs' : List Gp} {R Q : Nat → Nat → Prop} (h : Sim n gs gs' R Q) {S S' K K' sp k : Nat} (hS : Img n R S S') (hK : Img n R K K') : Pl gs K sp S 0 k ↔ Pl gs' K' sp S' 0 k :=
  ⟨fun hp => h.pl hK hp hS Img.zero, fun hp => h.symm.pl hK.symm hp hS.symm Img.zero⟩
theorem Img.map {n : Nat} {R : Nat → Nat → Prop} (hb : Bij n R) {l l' : List Int} (hl : ∀ x ∈ l, 0 ≤ x ∧ x < n) (h1 : ∀ x ∈ l, ∃ y ∈ l', R x.toNat y.toNat) (h2 : ∀ y ∈ l', 0 ≤ y ∧ ∃ x ∈ l, R x.toNat y.toNat) : Img n R (msk l) (msk l') := by
  refine ⟨Z08 hl, Z08 fun y hy => ?_, fun u u' hu => ?_⟩
  · obtain ⟨h3, x, hx, h4⟩ := h2 y hy
    have := (hb.lt _ _ h4).2
    omega
  · rw [Bool.eq_iff_iff, Zt (fun x hx => (hl x hx).1), Zt (fun y hy => (h2 y hy).1)]
    constructor
    · intro h
      obtain ⟨y, hy, h3⟩ := h1 _ h
      rw [Int.toNat_natCast] at h3
      have := hb.f u _ _ hu h3
      have h5 := (h2 y hy).1
      rw [show (u' : Int) = y by omega]; exact hy
    · intro h
      obtain ⟨_, x, hx, h3⟩ := h2 _ h
      rw [Int.toNat_natCast] at h3
      have := hb.i u _ _ hu h3
      have h5 := (hl x hx).1
      rw [show (u : Int) = x by omega]; exact hx
open Go
structure Ord (p : List Nat) (n : Nat) : Prop where
  len : p.length = n
  nd : p.Nodup
  lt : ∀ i ∈ p, i < n
theorem Ord.nil : Ord [] 0 := ⟨rfl, List.nodup_nil, by simp⟩
theorem Ord.ins {p : List Nat} {n j : Nat} (h : Ord p n) (hj : j ≤ n) : Ord (p.take j ++ n :: p.drop j) (n + 1) := by
  have hp : (p.take j ++ n :: p.drop j).Perm (n :: p) := by
    have h1 := List.perm_middle (a := n) (l₁ := p.take j) (l₂ := p.drop j)
    rwa [List.take_append_drop] at h1
  refine ⟨by rw [hp.length_eq]; simp [h.len], hp.nodup_iff.2 (List.nodup_cons.2 ⟨fun h1 => Nat.lt_irrefl _ (h.lt n h1), h.nd⟩), fun i hi => ?_⟩
  rcases List.mem_cons.1 (hp.mem_iff.1 hi) with rfl | h1
  · omega
  · have := h.lt i h1; omega
theorem Ord.bij {p : List Nat} {n : Nat} (h : Ord p n) : Bij n fun u u' => p[u]? = some u' := by
  have hl := h.len
  refine ⟨fun u u' h1 => ⟨by have := (List.getElem?_eq_some_iff.1 h1).1; omega, h.lt u' (List.mem_of_getElem? h1)⟩, fun u hu => ⟨_, List.getElem?_eq_getElem (by omega)⟩, fun u' hu => ?_, fun u u' v' h1 h2 => by rw [h1] at h2; exact Option.some.inj h2, fun u v u' h1 h2 => ?_⟩
  · have hm : u' ∈ p := Classical.byContradiction fun hn => by
      have h1 := List.Nodup.length_le_of_subset (l₁ := u' :: p) (l₂ := List.range n) (List.nodup_cons.2 ⟨hn, h.nd⟩) (fun x hx => by
        rcases List.mem_cons.1 hx with rfl | hx
        · exact List.mem_range.2 hu
        · exact List.mem_range.2 (h.lt x hx))
      rw [List.length_cons, List.length_range] at h1; omega
    exact List.getElem?_of_mem hm
  · obtain ⟨a1, a2⟩ := List.getElem?_eq_some_iff.1 h1
    obtain ⟨b1, b2⟩ := List.getElem?_eq_some_iff.1 h2
    have hp := List.nodup_iff_pairwise_ne.1 h.nd
    rcases Nat.lt_trichotomy u v with h3 | h3 | h3
    · exact absurd (a2.trans b2.symm) (List.pairwise_iff_getElem.1 hp u v a1 b1 h3)
    · exact h3
    · exact absurd (b2.trans a2.symm) (List.pairwise_iff_getElem.1 hp v u b1 a1 h3)
def inl (p : List Nat) : List Int := p.map fun (j : Nat) => (j : Int)
theorem Zcp {p : List Nat} {u u' : Nat} (h : p[u]? = some u') : na (inl p) u = u' := Z1E (by unfold inl; rw [List.getElem?_map, h]; rfl)
def imG (p : List Nat) (g : Gp) : Gp := ⟨na (inl p) g.b.toNat, na (inl p) g.a.toNat⟩
def imS (p : List Nat) (x : Sgt) : Sgt := ⟨x.week, na (inl p) x.bin.toNat, x.seen⟩
def rnm (p : List Nat) (l : List Int) : List Int := l.map fun k => na (inl p) k.toNat
structure RnG (p s : List Nat) (gs : List Gp) (i : Nat) (G : List Gp) : Prop where
  len : G.length = gs.length
  at_ : ∀ j, j < i → ∀ g k, gs[j]? = some g → s[j]? = some k → G[k]? = some (imG p g)
theorem RnG.step {p s : List Nat} {gs G : List Gp} {i k : Nat} {g : Gp} (h : RnG p s gs i G) (hs : Ord s gs.length) (hg : gs[i]? = some g) (hk : s[i]? = some k) : RnG p s gs (i + 1) (G.set k (imG p g)) := by
  have hb := hs.bij
  have hkl := (hb.lt i k hk).2
  refine ⟨by rw [List.length_set]; exact h.len, fun j hj g' k' h1 h2 => ?_⟩
  by_cases e : j = i
  · subst e
    rw [hg] at h1; rw [hk] at h2
    obtain rfl := Option.some.inj h1
    obtain rfl := Option.some.inj h2
    exact List.getElem?_set_self (by rw [h.len]; exact hkl)
  · have hne : k ≠ k' := fun e2 => by subst e2; exact e (hb.i j i k h2 hk)
    rw [List.getElem?_set_ne hne]
    exact h.at_ j (by omega) g' k' h1 h2
structure RnS (p s : List Nat) (ss : List Sgt) (i : Nat) (S : List Sgt) : Prop where
  len : S.length = ss.length
  at_ : ∀ j, j < i → ∀ x k, ss[j]? = some x → s[j]? = some k → S[k]? = some (imS p x)
theorem RnS.step {p s : List Nat} {ss S : List Sgt} {i k : Nat} {x : Sgt} (h : RnS p s ss i S) (hs : Ord s ss.length) (hg : ss[i]? = some x) (hk : s[i]? = some k) : RnS p s ss (i + 1) (S.set k (imS p x)) := by
  have hb := hs.bij
  have hkl := (hb.lt i k hk).2
  refine ⟨by rw [List.length_set]; exact h.len, fun j hj g' k' h1 h2 => ?_⟩
  by_cases e : j = i
  · subst e
    rw [hg] at h1; rw [hk] at h2
    obtain rfl := Option.some.inj h1
    obtain rfl := Option.some.inj h2
    exact List.getElem?_set_self (by rw [h.len]; exact hkl)
  · have hne : k ≠ k' := fun e2 => by subst e2; exact e (hb.i j i k h2 hk)
    rw [List.getElem?_set_ne hne]
    exact h.at_ j (by omega) g' k' h1 h2
structure Rnm (q t : Hse) (p s r : List Nat) : Prop where
  bins : t.bins = q.bins
  op : Ord p q.bins.toNat
  os : Ord s q.gaps.length
  or : Ord r q.sights.length
  gs : RnG p s q.gaps q.gaps.length t.gaps
  ss : RnS p r q.sights q.sights.length t.sights
theorem Rnm.p {q t : Hse} {p s r : List Nat} (h : Rnm q t p s r) {u : Nat} (hu : u < q.bins.toNat) : ∃ u', p[u]? = some u' ∧ u' < q.bins.toNat ∧ na (inl p) u = u' := by
  obtain ⟨u', h1⟩ := h.op.bij.to u hu
  exact ⟨u', h1, (h.op.bij.lt u u' h1).2, Zcp h1⟩
theorem Rnm.gap {q t : Hse} {p s r : List Nat} (h : Rnm q t p s r) {g' : Gp} (hg : g' ∈ t.gaps) : ∃ g ∈ q.gaps, g' = imG p g := by
  obtain ⟨k, hk⟩ := List.getElem?_of_mem hg
  have hkl := (List.getElem?_eq_some_iff.1 hk).1
  rw [h.gs.len] at hkl
  obtain ⟨i, hi⟩ := h.os.bij.fr k hkl
  have hil := (h.os.bij.lt i k hi).1
  have h1 := h.gs.at_ i hil _ k (List.getElem?_eq_getElem hil) hi
  rw [hk] at h1
  exact ⟨_, List.getElem_mem hil, Option.some.inj h1⟩
theorem Rnm.sgt {q t : Hse} {p s r : List Nat} (h : Rnm q t p s r) {x' : Sgt} (hx : x' ∈ t.sights) : ∃ x ∈ q.sights, x' = imS p x := by
  obtain ⟨k, hk⟩ := List.getElem?_of_mem hx
  have hkl := (List.getElem?_eq_some_iff.1 hk).1
  rw [h.ss.len] at hkl
  obtain ⟨i, hi⟩ := h.or.bij.fr k hkl
  have hil := (h.or.bij.lt i k hi).1
  have h1 := h.ss.at_ i hil _ k (List.getElem?_eq_getElem hil) hi
  rw [hk] at h1
  exact ⟨_, List.getElem_mem hil, Option.some.inj h1⟩
theorem Rnm.sgt2 {q t : Hse} {p s r : List Nat} (h : Rnm q t p s r) {x : Sgt} (hx : x ∈ q.sights) : imS p x ∈ t.sights := by
  obtain ⟨i, hi⟩ := List.getElem?_of_mem hx
  have hil := (List.getElem?_eq_some_iff.1 hi).1
  obtain ⟨k, hk⟩ := h.or.bij.to i hil
  exact List.mem_of_getElem? (h.ss.at_ i hil x k hi hk)
theorem Rnm.ok {q t : Hse} {p s r : List Nat} (h : Rnm q t p s r) (hq : q.ok) : t.ok := by
  have hb := hq.bins
  refine ⟨by rw [h.bins]; exact hb, by rw [h.gs.len]; exact hq.gl, by rw [h.ss.len]; exact hq.sl, fun g' hg => ?_, fun x' hx => ?_⟩
  · obtain ⟨g, h1, rfl⟩ := h.gap hg
    have h2 := hq.gaps g h1
    obtain ⟨a', a1, a2, a3⟩ := h.p (u := g.a.toNat) (by omega)
    obtain ⟨b', b1, b2, b3⟩ := h.p (u := g.b.toNat) (by omega)
    have hne : a' ≠ b' := fun e => by
      subst e
      have := h.op.bij.i _ _ _ a1 b1
      omega
    unfold imG
    rw [a3, b3, h.bins]
    exact ⟨by dsimp only; omega, by dsimp only; omega, by dsimp only; omega⟩
  · obtain ⟨x, h1, rfl⟩ := h.sgt hx
    have h2 := hq.sights x h1
    obtain ⟨a', a1, a2, a3⟩ := h.p (u := x.bin.toNat) (by omega)
    unfold imS
    rw [a3, h.bins]
    exact ⟨h2.1, by dsimp only; omega, by dsimp only; omega⟩
theorem Rnm.sim {q t : Hse} {p s r : List Nat} (h : Rnm q t p s r) (hq : q.ok) : Sim q.bins.toNat q.gaps t.gaps (fun u u' => p[u]? = some u') (fun i i' => s[i]? = some i') := ⟨h.op.bij, h.os.bij, h.gs.len, fun i i' g g' h1 h2 h3 => by
  have h4 := h.gs.at_ i (List.getElem?_eq_some_iff.1 h2).1 g i' h2 h1
  rw [h3] at h4
  obtain rfl := Option.some.inj h4
  have h5 := hq.gaps g (List.mem_of_getElem? h2)
  have hb := hq.bins
  obtain ⟨a', a1, a2, a3⟩ := h.p (u := g.a.toNat) (by omega)
  obtain ⟨b', b1, b2, b3⟩ := h.p (u := g.b.toNat) (by omega)
  unfold imG
  rw [a3, b3]
  exact ⟨a1, b1⟩⟩
theorem Rnm.lst {q t : Hse} {p s r : List Nat} (h : Rnm q t p s r) (hq : q.ok) {l : List Int} (hl : ∀ x ∈ l, 0 ≤ x ∧ x < q.bins) : Img q.bins.toNat (fun u u' => p[u]? = some u') (msk l) (msk (rnm p l)) := by
  have hb := hq.bins
  refine Img.map h.op.bij (fun x hx => by have := hl x hx; omega) (fun x hx => ?_) (fun y hy => ?_)
  · have := hl x hx
    obtain ⟨a', a1, a2, a3⟩ := h.p (u := x.toNat) (by omega)
    exact ⟨_, List.mem_map_of_mem hx, by rw [a3]; exact a1⟩
  · obtain ⟨x, hx, rfl⟩ := List.mem_map.1 hy
    have := hl x hx
    obtain ⟨a', a1, a2, a3⟩ := h.p (u := x.toNat) (by omega)
    rw [a3]
    exact ⟨by omega, x, hx, a1⟩
theorem Rnm.inr {q t : Hse} {p s r : List Nat} (h : Rnm q t p s r) {l : List Int} (hl : ∀ x ∈ l, 0 ≤ x ∧ x < q.bins) : ∀ y ∈ rnm p l, 0 ≤ y ∧ y < t.bins := fun y hy => by
  obtain ⟨x, hx, rfl⟩ := List.mem_map.1 hy
  have := hl x hx
  obtain ⟨a', a1, a2, a3⟩ := h.p (u := x.toNat) (by omega)
  rw [a3, h.bins]; omega
theorem Rnm.eqv {q t : Hse} {p s r : List Nat} (h : Rnm q t p s r) {x y : Int} (hx : 0 ≤ x ∧ x < q.bins) (hy : 0 ≤ y ∧ y < q.bins) (e : na (inl p) x.toNat = na (inl p) y.toNat) : x = y := by
  obtain ⟨a', a1, a2, a3⟩ := h.p (u := x.toNat) (by omega)
  obtain ⟨b', b1, b2, b3⟩ := h.p (u := y.toNat) (by omega)
  rw [a3, b3] at e
  obtain rfl : a' = b' := by omega
  have := h.op.bij.i _ _ _ a1 b1
  omega
theorem Rnm.ls {q t : Hse} {p s r : List Nat} (h : Rnm q t p s r) {l : List Int} (hl : ∀ x ∈ l, 0 ≤ x ∧ x < q.bins) (hn : l.Nodup) : ZI t.bins (rnm p l) = 0 := Z6g (h.inr hl) (by
  unfold rnm
  rw [List.nodup_iff_pairwise_ne, List.pairwise_map]
  exact (List.nodup_iff_pairwise_ne.1 hn).imp_of_mem fun {a b} ha hb hab e => hab (h.eqv (hl a ha) (hl b hb) e))
theorem Rnm.apart {q t : Hse} {p s r : List Nat} (h : Rnm q t p s r) {l k : List Int} (hl : ∀ x ∈ l, 0 ≤ x ∧ x < q.bins) (hk : ∀ x ∈ k, 0 ≤ x ∧ x < q.bins) (ha : ∀ x ∈ l, x ∉ k) : ∀ x ∈ rnm p l, x ∉ rnm p k := fun x h1 h2 => by
  obtain ⟨y, hy, rfl⟩ := List.mem_map.1 h1
  obtain ⟨z, hz, e⟩ := List.mem_map.1 h2
  have := h.eqv (hk z hz) (hl y hy) e
  subst this
  exact ha z hy hz
theorem Rnm.ex {q t : Hse} {p s r : List Nat} (h : Rnm q t p s r) (hq : q.ok) {m m' : Nat} (hm : Img q.bins.toNat (fun u u' => p[u]? = some u') m m') : Z3U q.gaps m q.sights = Z3U t.gaps m' t.sights := by
  have hb := hq.bins
  have key : ∀ x ∈ q.sights, exS q.gaps m x = exS t.gaps m' (imS p x) := fun x hx => by
    have h1 := hq.sights x hx
    obtain ⟨a', a1, a2, a3⟩ := h.p (u := x.bin.toNat) (by omega)
    unfold exS imS
    rw [(h.sim hq).wk Img.zero hm a1, a3, Int.toNat_natCast]
  unfold Z3U
  rw [Bool.eq_iff_iff, List.all_eq_true, List.all_eq_true]
  constructor
  · intro h1 x' hx
    obtain ⟨x, h2, rfl⟩ := h.sgt hx
    rw [← key x h2]; exact h1 x h2
  · intro h1 x hx
    rw [key x hx]; exact h1 _ (h.sgt2 hx)
theorem Rnm.agr {q t : Hse} {p s r : List Nat} (h : Rnm q t p s r) (hq : q.ok) (ha : q.agr q.sights = true) : t.agr t.sights = true := by
  obtain ⟨m, h1, h2⟩ := (Z3y hq hq.sights).1 ha
  obtain ⟨m', h3⟩ := Img.ex h.op.bij h1
  have hok := h.ok hq
  exact (Z3y hok hok.sights).2 ⟨m', by rw [h.bins]; exact h3.lt', by rw [← h.ex hq h3]; exact h2⟩
end Go.Proofs.YthbjpnmclokinaaGreat
namespace Go.Proofs.YthbjpnmclokinaaGreat
set_option linter.unusedSimpArgs false
set_option linter.unusedVariables false
def Z0N (c : Nat) : List Nat → Nat
  | [] => c
  | l :: ls => Z0N (c ||| l) ls
def Z1K (gs : List Gp) (m c : Nat) : List Nat → Nat
  | [] => m
  | l :: ls => Z1K gs (spr gs (c ||| l) m) (c ||| l) ls
theorem Z7e {gs : List Gp} (hw : Wth gs 7) : ∀ {ls : List Nat} {m c : Nat}, m < 2 ^ 7 → Z1K gs m c ls < 2 ^ 7
  | [], _, _, h => h
  | l :: ls, m, c, h => by
    show Z1K gs (spr gs (c ||| l) m) (c ||| l) ls < 2 ^ 7
    exact Z7e hw (ls := ls) (Z1j hw h)
theorem Z8V {gs : List Gp} {cl : Nat → Nat} {ls : List Nat} {m : Nat} : ∀ (t : Nat), t ≤ ls.length → (∀ i, i < t → cl i = Z0N 0 (ls.take (i + 1))) → lvp gs cl m t = Z1K gs m 0 (ls.take t)
  | 0, _, _ => rfl
  | t + 1, ht, hc => by
    have ih := Z8V (gs := gs) (m := m) t (by omega) (fun i hi => hc i (by omega))
    have key : ∀ (ls : List Nat) (m c t : Nat), t < ls.length → Z1K gs m c (ls.take (t + 1)) = spr gs (Z0N c (ls.take (t + 1))) (Z1K gs m c (ls.take t)) := by
      intro ls
      induction ls with
      | nil => intro m c t h; cases h
      | cons l ls ih2 =>
        intro m c t h
        cases t with
        | zero => rfl
        | succ t => exact ih2 _ _ t (by simpa using h)
    show spr gs (cl t) (lvp gs cl m t) = _
    rw [key ls m 0 t (by omega), ← ih, hc t (by omega)]
theorem Z65 {gs : List Gp} {cl : Nat → Nat} {m t c : Nat} (h : ∀ i, t ≤ i → cl i = c) : ∀ j, lvp gs cl m (t + j) = lv gs c (lvp gs cl m t) j
  | 0 => rfl
  | j + 1 => by
    show spr gs (cl (t + j)) (lvp gs cl m (t + j)) = spr gs c (lv gs c (lvp gs cl m t) j)
    rw [h (t + j) (by omega), Z65 h j]
theorem Z58 {gs : List Gp} {n c m K j : Nat} (h : Wth gs n) (hm : m < 2 ^ n) (hj : n ≤ j + 1) : Shut gs c m K ↔ lv gs c m j &&& K = 0 := by
  constructor
  · intro hs; exact and_zero.2 fun v hv => hs j v hv
  · intro h0 t v hv
    rcases Nat.lt_or_ge t j with h1 | h1
    · exact and_zero.1 h0 v (Z9u (by omega) hv)
    · rw [Z4o h hm hj h1] at hv; exact and_zero.1 h0 v hv
open Go
def Z78 (l : List Int) : Bool := (List.range (l.length - 1)).all fun i => decide (na l i < na l (i + 1))
def lE (gl : Nat) (sp : Int) (l : List Int) : Int := bif !(l.all fun k => inB k 0 ((gl : Int) - 1)) then 1 else bif !Z78 l then 4 else bif decide (sp < (l.length : Int)) then 9 else 0
def plE (gl : Nat) (sp : Int) : List (List Int) → Int
  | [] => 0
  | l :: ls => bif decide (lE gl sp l ≠ 0) then lE gl sp l else plE gl sp ls
theorem Z3K {gl : Nat} {sp : Int} {pl : List (List Int)} {k : Nat} {l : List Int} (h0 : plE gl sp (pl.take k) = 0) (hl : pl[k]? = some l) (he : lE gl sp l ≠ 0) : plE gl sp pl = lE gl sp l := by
  induction pl generalizing k with
  | nil => cases hl
  | cons x pl ih =>
    cases k with
    | zero =>
      rw [List.getElem?_cons_zero] at hl
      obtain rfl := Option.some.inj hl
      unfold plE; rw [decide_eq_true he]; rfl
    | succ k =>
      rw [List.getElem?_cons_succ] at hl
      rw [List.take_succ_cons] at h0
      unfold plE at h0 ⊢
      by_cases hx : lE gl sp x = 0
      · rw [decide_eq_false (by simpa using hx), cond_false] at h0 ⊢
        exact ih h0 hl
      · rw [decide_eq_true hx, cond_true] at h0; exact absurd h0 hx
theorem Zb3 {gl : Nat} {sp : Int} {pl : List (List Int)} {k : Nat} {l : List Int} (h0 : plE gl sp (pl.take k) = 0) (hl : pl[k]? = some l) (he : lE gl sp l = 0) : plE gl sp (pl.take (k + 1)) = 0 := by
  induction pl generalizing k with
  | nil => cases hl
  | cons x pl ih =>
    cases k with
    | zero =>
      rw [List.getElem?_cons_zero] at hl
      obtain rfl := Option.some.inj hl
      rw [List.take_succ_cons]
      unfold plE; rw [decide_eq_false (by simpa using he)]; rfl
    | succ k =>
      rw [List.getElem?_cons_succ] at hl
      rw [List.take_succ_cons] at h0
      rw [List.take_succ_cons]
      unfold plE at h0 ⊢
      by_cases hx : lE gl sp x = 0
      · rw [decide_eq_false (by simpa using hx), cond_false] at h0 ⊢
        exact ih h0 hl
      · rw [decide_eq_true hx, cond_true] at h0; exact absurd h0 hx
theorem plE_zero {gl : Nat} {sp : Int} : ∀ {pl : List (List Int)}, plE gl sp pl = 0 ↔ ∀ l ∈ pl, lE gl sp l = 0
  | [] => by simp [plE]
  | x :: pl => by
    unfold plE
    by_cases hx : lE gl sp x = 0
    · rw [decide_eq_false (by simpa using hx), cond_false, plE_zero, List.forall_mem_cons]
      exact ⟨fun h => ⟨hx, h⟩, fun h => h.2⟩
    · rw [decide_eq_true hx, cond_true]
      exact ⟨fun h => absurd h hx, fun h => absurd (h x (by simp)) hx⟩
theorem ZaG {l : List Int} {i : Nat} (hi : i + 1 < l.length) (h : na l (i + 1) ≤ na l i) : Z78 l = false := by
  unfold Z78
  rw [List.all_eq_false]
  exact ⟨i, List.mem_range.2 (by omega), by simp; omega⟩
theorem Z5w {l : List Int} (h : ∀ i, i + 1 < l.length → na l i < na l (i + 1)) : Z78 l = true := by
  unfold Z78
  rw [List.all_eq_true]
  intro i hi
  exact decide_eq_true (h i (by have := List.mem_range.1 hi; omega))
theorem Zc4 {gl : Nat} {sp : Int} {l : List Int} (h : lE gl sp l = 0) : (∀ x ∈ l, 0 ≤ x ∧ x < gl) ∧ Z78 l = true ∧ (l.length : Int) ≤ sp := by
  unfold lE at h
  cases h1 : l.all fun k => inB k 0 ((gl : Int) - 1) with
  | false => rw [h1] at h; cases h
  | true =>
    rw [h1] at h
    cases h2 : Z78 l with
    | false => rw [h2] at h; cases h
    | true =>
      rw [h2] at h
      by_cases h3 : sp < (l.length : Int)
      · rw [decide_eq_true h3] at h; cases h
      · refine ⟨fun x hx => ?_, rfl, by omega⟩
        have := List.all_eq_true.1 h1 x hx
        simp only [inB, Bool.and_eq_true, decide_eq_true_eq] at this; omega
def Hse.svE (h : Hse) (fr to_ : List Int) (sp : Int) (pl : List (List Int)) : Int := bif decide (h.rcE fr to_ sp ≠ 0) then h.rcE fr to_ sp else bif decide (9 < pl.length) then 2 else bif decide (plE h.gaps.length sp pl ≠ 0) then plE h.gaps.length sp pl else ZI (h.gaps.length : Int) pl.flatten
def Hse.svM (h : Hse) (fr : List Int) (M : List Nat) : Nat := lv h.gaps (Z0N 0 M) (Z1K h.gaps (msk fr) 0 M) h.bins.toNat
def Hse.svB (h : Hse) (fr to_ : List Int) (pl : List (List Int)) : Bool := decide (h.svM fr (pl.map msk) &&& msk to_ = 0)
def Hse.svR (h : Hse) (fr to_ : List Int) (sp : Int) (pl : List (List Int)) : Bool × Int := (decide (h.svE fr to_ sp pl = 0) && h.svB fr to_ pl, h.svE fr to_ sp pl)
theorem Z5Y : ∀ (M : List Nat) (c l : Nat), Z0N c (M ++ [l]) = Z0N c M ||| l
  | [], _, _ => rfl
  | x :: M, c, l => Z5Y M (c ||| x) l
theorem Z5T {gs : List Gp} : ∀ (M : List Nat) (m c l : Nat), Z1K gs m c (M ++ [l]) = spr gs (Z0N c M ||| l) (Z1K gs m c M)
  | [], _, _, _ => rfl
  | x :: M, m, c, l => Z5T M (spr gs (c ||| x) m) (c ||| x) l
theorem Z3T (a b : List Int) : msk (a ++ b) = msk a ||| msk b := ZJ fun k => by
  rw [Nat.testBit_or, Z2S, Z2S, Z2S, List.any_append]
theorem Z7z : ∀ (L : List (List Int)) (c : Nat), Z0N c (L.map msk) = c ||| msk L.flatten
  | [], c => (Nat.or_zero c).symm
  | l :: L, c => by
    rw [List.map_cons, List.flatten_cons, Z3T, ← Nat.or_assoc]
    exact Z7z L (c ||| msk l)
theorem ZaM {n : Nat} : ∀ {M : List Nat} {c : Nat}, c < 2 ^ n → (∀ l ∈ M, l < 2 ^ n) → Z0N c M < 2 ^ n
  | [], _, hc, _ => hc
  | l :: M, c, hc, h => by
    show Z0N (c ||| l) M < 2 ^ n
    exact ZaM (Z6T hc (h l (by simp))) (fun x hx => h x (List.mem_cons_of_mem _ hx))
theorem ZcY {n : Nat} {l : List Int} (hr : ∀ x ∈ l, 0 ≤ x ∧ x < n) (hn : l.Nodup) : cnt n (msk l) = l.length := by
  rw [← Z1B, show l.length = (l.map Int.toNat).length from (List.length_map _).symm]
  refine List.Perm.length_eq ((List.perm_ext_iff_of_nodup (List.nodup_range.sublist List.filter_sublist) ?_).2 fun x => ?_)
  · rw [List.nodup_iff_pairwise_ne, List.pairwise_map]
    exact (List.nodup_iff_pairwise_ne.1 hn).imp_of_mem fun {a b} ha hb hab e => by
      have := hr a ha; have := hr b hb; omega
  · rw [List.mem_filter, List.mem_range, List.mem_map, Zt (fun k hk => (hr k hk).1)]
    constructor
    · rintro ⟨_, hx⟩; exact ⟨_, hx, Int.toNat_natCast x⟩
    · rintro ⟨y, hy, rfl⟩
      have := hr y hy
      exact ⟨by omega, by rw [show ((y.toNat : Nat) : Int) = y by omega]; exact hy⟩
theorem Z8I {h : Hse} (hk : h.ok) {fr to_ : List Int} (hf : ∀ x ∈ fr, 0 ≤ x ∧ x < h.bins) {pl : List PL} (hpl : pl.length ≤ 9) :
    (h.svB fr to_ (lls pl) = true ↔ Shut h.gaps (Z0N 0 ((lls pl).map msk)) (Z1K h.gaps (msk fr) 0 ((lls pl).map msk)) (msk to_)) ∧ (h.svB fr to_ (lls pl) = true ↔ lvp h.gaps (clP pl) (msk fr) 20 &&& msk to_ = 0) := by
  have hb := hk.bins
  have hm : msk fr < 2 ^ 7 := Z08 fun x hx => by have := hf x hx; omega
  have hw : Wth h.gaps h.bins.toNat := fun g hg => by have := hk.gaps g hg; omega
  have hml : msk fr < 2 ^ h.bins.toNat := Z08 fun x hx => by have := hf x hx; omega
  have hrl : ∀ {M : List Nat} {m c : Nat}, m < 2 ^ h.bins.toNat → Z1K h.gaps m c M < 2 ^ h.bins.toNat := fun {M} => by
    induction M with
    | nil => intro m c h; exact h
    | cons l M ih => intro m c h9; exact ih (Z1j hw h9)
  have hr := hrl (M := (lls pl).map msk) (c := 0) hml
  have hll : ((lls pl).map msk).length = pl.length := by rw [List.length_map, ZR]
  have e1 : ∀ i, clP pl i = Z0N 0 (((lls pl).map msk).take (i + 1)) := fun i => by
    rw [← List.map_take, Z7z, Nat.zero_or]
    unfold clP Z1l lls
    rw [List.map_take]
  have e2 : lvp h.gaps (clP pl) (msk fr) pl.length = Z1K h.gaps (msk fr) 0 ((lls pl).map msk) := by
    have := Z8V (gs := h.gaps) (cl := clP pl) (ls := (lls pl).map msk) (m := msk fr) pl.length (by omega) (fun i hi => e1 i)
    rw [this, List.take_of_length_le (by omega)]
  have e3 : ∀ i, pl.length ≤ i → clP pl i = Z0N 0 ((lls pl).map msk) := fun i hi => by rw [e1, List.take_of_length_le (by omega)]
  have e4 : lvp h.gaps (clP pl) (msk fr) 20 = lv h.gaps (Z0N 0 ((lls pl).map msk)) (Z1K h.gaps (msk fr) 0 ((lls pl).map msk)) (20 - pl.length) := by
    have := Z65 (gs := h.gaps) (m := msk fr) e3 (20 - pl.length)
    rw [show pl.length + (20 - pl.length) = 20 by omega, e2] at this; exact this
  have s1 := Z58 (c := Z0N 0 ((lls pl).map msk)) (K := msk to_) hw hr (j := h.bins.toNat) (by omega)
  have s2 := Z58 (c := Z0N 0 ((lls pl).map msk)) (K := msk to_) hw hr (j := 20 - pl.length) (by omega)
  have k1 : h.svB fr to_ (lls pl) = true ↔ lv h.gaps (Z0N 0 ((lls pl).map msk)) (Z1K h.gaps (msk fr) 0 ((lls pl).map msk)) h.bins.toNat &&& msk to_ = 0 := by
    unfold Hse.svB Hse.svM
    rw [decide_eq_true_eq]
  exact ⟨k1.trans s1.symm, by rw [e4]; exact k1.trans (s1.symm.trans s2)⟩
theorem Z2x {h : Hse} {fr to_ : List Int} {sp : Int} {pl : List (List Int)} {e : Int} (he : h.svE fr to_ sp pl = e) (h0 : e ≠ 0) : h.svR fr to_ sp pl = (false, e) := by unfold Hse.svR; rw [he, decide_eq_false h0]; rfl
theorem Zb2 {h : Hse} {fr to_ : List Int} {sp : Int} {pl : List (List Int)} (h0 : h.rcE fr to_ sp ≠ 0) : h.svE fr to_ sp pl = h.rcE fr to_ sp := by unfold Hse.svE; rw [decide_eq_true h0]; rfl
theorem Z9w {h : Hse} {fr to_ : List Int} {sp : Int} {pl : List (List Int)} (h0 : h.rcE fr to_ sp = 0) (h1 : 9 < pl.length) : h.svE fr to_ sp pl = 2 := by unfold Hse.svE; rw [h0, decide_eq_true h1]; rfl
theorem Z8D {h : Hse} {fr to_ : List Int} {sp : Int} {pl : List (List Int)} (h0 : h.rcE fr to_ sp = 0) (h1 : ¬ 9 < pl.length) (h2 : plE h.gaps.length sp pl ≠ 0) : h.svE fr to_ sp pl = plE h.gaps.length sp pl := by unfold Hse.svE; rw [h0, decide_eq_false h1, decide_eq_true h2]; rfl
theorem ZdM {h : Hse} {fr to_ : List Int} {sp : Int} {pl : List (List Int)} (h0 : h.rcE fr to_ sp = 0) (h1 : ¬ 9 < pl.length) (h2 : plE h.gaps.length sp pl = 0) : h.svE fr to_ sp pl = ZI (h.gaps.length : Int) pl.flatten := by unfold Hse.svE; rw [h0, decide_eq_false h1, h2]; rfl
theorem ZaF {h : Hse} {fr to_ : List Int} {sp : Int} {pl : List (List Int)} (he : h.svE fr to_ sp pl = 0) : h.svR fr to_ sp pl = (h.svB fr to_ pl, 0) := by unfold Hse.svR; rw [he]; rfl
theorem ZaU {gl : Nat} {sp : Int} {l : List Int} (h : (!(l.all fun k => inB k 0 ((gl : Int) - 1))) = true) : lE gl sp l = 1 := by unfold lE; rw [h]; rfl
theorem Zax {gl : Nat} {sp : Int} {l : List Int} (h : (!(l.all fun k => inB k 0 ((gl : Int) - 1))) = false) (h2 : Z78 l = false) : lE gl sp l = 4 := by unfold lE; rw [h, h2]; rfl
theorem Z5i {gl : Nat} {sp : Int} {l : List Int} (h : (!(l.all fun k => inB k 0 ((gl : Int) - 1))) = false) (h2 : Z78 l = true) : lE gl sp l = bif decide (sp < (l.length : Int)) then 9 else 0 := by unfold lE; rw [h, h2]; rfl
theorem Z5H {α : Type} {l : List α} {k : Nat} {x : α} (h : l[k]? = some x) : l.take (k + 1) = l.take k ++ [x] := by rw [List.take_add_one, h]; rfl
set_option maxHeartbeats 1000000 in
theorem ZbG (h : Hse) (ag as_ : Option Addr) (cg cs : Nat) (hlg : h.gaps.length ≤ 9223372036854775807) (hls : h.sights.length ≤ 9223372036854775807) (fr to_ : List Int) (af at_ : Option Addr) (cf ct : Nat) (hlf : fr.length ≤ 1000000) (hlt : to_.length ≤ 1000000) (hfc : fr.length ≤ cf) (htc : to_.length ≤ ct) (spd : Int) (pl : List PL) (ap : Option Addr) (cp : Nat) (hpl : pl.length ≤ 1000000) (htot : (lls pl).flatten.length ≤ 1000000) (H : Z9) (R : Z6) [hG : MemRows ag 2 (Zd h.gaps) R] [hS : MemRows as_ 3 (Zf h.sights) R] [hF : MemRows af 1 (Z4 fr) R] [hT : MemRows at_ 1 (Z4 to_) R] [hP : MemRows ap 1 (Zh pl) R] [hI : MemF (Inn pl) R] :
    FnV Tryz.prog 23 [h.v (h.sg ag cg) (h.ss as_ cs), .slice af fr.length cf, .slice at_ to_.length ct, .int .i64 spd, .slice ap pl.length cp] H R (.tuple #[.bool (h.svR fr to_ spd (lls pl)).1, .int .i64 (h.svR fr to_ spd (lls pl)).2]) := by
 refine Zi Tryz.func23 rfl Tryz.ntmps23 rfl ?_
 refine sqt 3 rfl (bx rfl rfl rfl (fun b5 => pur 2 rfl (sqt 10 rfl (spL rfl rfl (lhA (htl h (h.sg ag cg) (h.ss as_ cs)) Z0F rfl rfl rfl) rfl (pur 3 rfl ?_)))))
 refine cl rfl Zex rfl rfl (Z8z h ag as_ cg cs hlg hls fr to_ af at_ cf ct hlf hlt hfc htc spd _ _) ?_
 rintro _ _ R1 (⟨hre, rfl, rfl, hR1⟩ | ⟨hre, bd, br, mm, rfl, rfl, hR1⟩) <;> obtain rfl := hR1.symm <;> clear hR1
 refine pur 5 rfl (Z0 (sqt 2 rfl (pur 2 rfl ?_)))
 refine Z1 rfl ?_ ?_ <;> intro hc0
 refine sqt 3 rfl (pur 3 rfl (Z5 ?_))
 exact rtB rfl rfl rfl rfl ⟨by rw [Z2x (Zb2 hre) (hre)] <;> rfl, rfl, rfl⟩ (fun w h9 => h9.del b5)
 exact absurd hc0 (by simp [hre])
 refine pur 5 rfl (Z0 (sqt 2 rfl (pur 2 rfl ?_)))
 refine Z1 rfl ?_ ?_ <;> intro hc0
 exact absurd hc0 (by simp)
 obtain ⟨hb, hs0, hs10⟩ := Zak hre
 obtain ⟨q1, q2, q3, q4, q5, q6⟩ := Z0i hb
 have hok := hb.ok
 have hgl := hok.gl
 have hbn := hok.bins
 have hll := ZR pl
 have hw7 : Wth h.gaps 7 := fun g hg => by have := hok.gaps g hg; have := hok.bins; omega
 have hS7 : msk fr < 2 ^ 7 := Z08 fun x hx => q1 x hx
 have hxl : ∀ x ∈ pl, x.l.length ≤ 1000000 := fun x hx => by
   have hm : x.l ∈ lls pl := List.mem_map.2 ⟨x, hx, rfl⟩
   have := List.Sublist.length_le (List.sublist_flatten_of_mem hm)
   omega
 refine Z2 (Z0 (sqt 3 rfl (pur 1 rfl (sp rfl (PE.lenSl Z0P rfl) rfl (pur 1 rfl ?_)))))
 refine Z1 rfl ?_ ?_ <;> intro hc1 <;> try simp only [cS] at hc1
 refine sqt 2 rfl (pur 2 rfl (Z5 ?_))
 exact rtB rfl rfl rfl rfl ⟨by rw [Z2x (Z9w hre (by omega)) (by decide)] <;> rfl, rfl, rfl⟩ (fun w h9 => St.sub ((h9.del mm).del b5))
 refine Z2 (Z0 (sqt 3 rfl (pur 1 rfl (sp rfl (PE.lenSl Z0P rfl) rfl (pur 1 rfl (Z3 ?_))))))
 refine Ze (ι := {k : Nat // k ≤ pl.length ∧ plE h.gaps.length spd ((lls pl).take k) = 0}) (fun k => ⟨[(1, .slice af fr.length cf), (3, .int .i64 spd), (4, .slice ap pl.length cp), (5, .pointer (some ⟨b5, 0, none⟩)), (12, .pointer (some ⟨br, 0, none⟩)), (35, .slice ap pl.length cp), (36, .int .i64 pl.length), (37, .int .i64 k.1)], (mm, Z0C true []) :: (b5, cel 25 (htl h (h.sg ag cg) (h.ss as_ cs))) :: H, RowsA (some ⟨br, 0, none⟩) 4 [(rcD h ag as_ cg cs to_ spd bd br mm).row] :: RowsA (some ⟨bd, 0, none⟩) 4 [(dkA h ag as_ cg cs bd).row] :: R⟩) (fun k => pl.length - k.1) ⟨0, Nat.zero_le _, rfl⟩ ?_ (fun k => ?_)
 exact Zk idH
 obtain ⟨k, hk, hpe⟩ := k
 dsimp only at hk hpe ⊢
 refine sqt 1 rfl (pur 1 rfl (Z0 ?_))
 refine Z1 rfl ?_ ?_ <;> intro hc2 <;> try simp only [cS] at hc2
 obtain ⟨x, hx⟩ : ∃ x, pl[k]? = some x := ⟨_, List.getElem?_eq_getElem (by omega)⟩
 have hx9 := hxl x (List.mem_of_getElem? hx)
 have hgx := Z0O hx
 refine Sy.heap (fun w h9 => St.inn (x := x) h9 (List.mem_of_getElem? hx)) ?_
 refine Zg (a := ap) (sz := 1) (rows := Zh pl) (ne0 (by rw [Zv]; omega)) (fun ba oa he => ?_)
 subst he
 refine Z2 (Z0 (Z3 (sqt 3 rfl (sp rfl (PE.indexAddr Z5p rfl rfl (by omega) (by omega)) rfl (spL rfl rfl (lf0 Z1Y (Z1e hx) rfl) rfl (pur 1 rfl (Z0 (sqt 5 rfl (pur 1 rfl (spL rfl rfl (lhA (htl h (h.sg ag cg) (h.ss as_ cs)) Z0F rfl rfl rfl) rfl (sp rfl (PE.makeFunc rfl rfl) rfl ?_)))))))))))
 refine clV rfl Ze7 rfl rfl (Z3o x.l x.a x.c 84 [h.v (h.sg ag cg) (h.ss as_ cs)] [] (fun k => inB k 0 ((h.gaps.length : Int) - 1)) Zbi (by omega) _ _ (fun _ z _ => Zco h (by omega) ag cg (h.ss as_ cs) z _ _)) ?_
 refine pur 1 rfl ?_
 refine Z1 rfl ?_ ?_ <;> intro hc3 <;> try simp only [cS] at hc3
 have hle : lE h.gaps.length spd x.l = 1 := ZaU (by rw [hc3]; rfl)
 have hpl9 := Z3K hpe hgx (by rw [hle]; decide)
 rw [hle] at hpl9
 have hse := Z8D (pl := lls pl) hre (by omega) (by rw [hpl9]; decide)
 rw [hpl9] at hse
 refine sqt 2 rfl (pur 2 rfl (Z5 ?_))
 exact rtB rfl rfl rfl rfl ⟨by rw [Z2x (hse) (by decide)] <;> rfl, rfl, rfl⟩ (fun w h9 => St.sub ((h9.del mm).del b5))
 have hin9 : (!(x.l.all fun k => inB k 0 ((h.gaps.length : Int) - 1))) = false := by rw [hc3] <;> rfl
 refine Z2 (Z0 (sqt 1 rfl (pur 1 rfl (Z3 ?_))))
 refine Ze (ι := {i : Nat // (1 ≤ i ∧ i ≤ x.l.length + 1) ∧ ∀ j, j + 1 < i → j + 1 < x.l.length → na x.l j < na x.l (j + 1)}) (fun i => ⟨[(1, .slice af fr.length cf), (3, .int .i64 spd), (4, .slice (some ⟨ba, oa, none⟩) pl.length cp), (5, .pointer (some ⟨b5, 0, none⟩)), (12, .pointer (some ⟨br, 0, none⟩)), (15, .slice x.a x.l.length x.c), (16, .int .i64 (i.1 : Int)), (35, .slice (some ⟨ba, oa, none⟩) pl.length cp), (36, .int .i64 pl.length), (37, .int .i64 k)], (mm, Z0C true []) :: (b5, cel 25 (htl h (h.sg ag cg) (h.ss as_ cs))) :: H, RowsA x.a 1 (Z4 x.l) :: RowsA (some ⟨br, 0, none⟩) 4 [(rcD h ag as_ cg cs to_ spd bd br mm).row] :: RowsA (some ⟨bd, 0, none⟩) 4 [(dkA h ag as_ cg cs bd).row] :: R⟩) (fun i => x.l.length + 1 - i.1) ⟨1, ⟨by omega, by omega⟩, fun j h1 => by omega⟩ ?_ (fun i => ?_)
 exact Zk idH
 obtain ⟨i, ⟨hi1, hi2⟩, hia⟩ := i
 dsimp only at hi1 hi2 hia ⊢
 refine Z0 (sqt 4 rfl (pur 2 rfl (sp rfl (PE.lenSl Zx rfl) rfl (pur 1 rfl ?_))))
 refine Z1 rfl ?_ ?_ <;> intro hc4 <;> try simp only [cS] at hc4
 obtain ⟨u, hu⟩ : ∃ u, x.l[i]? = some u := ⟨_, List.getElem?_eq_getElem (by omega)⟩
 obtain ⟨v, hv⟩ : ∃ v, x.l[i - 1]? = some v := ⟨_, List.getElem?_eq_getElem (by omega)⟩
 refine Zg (a := x.a) (sz := 1) (rows := Z4 x.l) (ne0 (by rw [irl]; omega)) (fun bx9 ox9 hxa => ?_)
 rw [hxa]
 refine Z2 (Z0 (Z3 (Z0 ?_)))
 refine Zn [0, 0, 3, 7, 0, 0, 32, 112, 240, 511] (tks 0 3 (.ld 3 (tks 4 4 (.ld 8 (.tk 9 .done))))) ZC (by kernel_rfl) ?_
 refine Zy 2 rfl (tk rfl (PE.indexAddr Z1L rfl rfl (by omega) (by omega)) rfl (ld rfl rfl (lf0 sc3 (ZM hu) rfl) rfl (Zy 2 rfl (tk rfl (PE.sub rfl rfl (by omega)) rfl ?_))))
 rw [show (i : Int) - 1 = ((i - 1 : Nat) : Int) from by omega]
 refine tk rfl (PE.indexAddr Z1L rfl rfl (by omega) (by omega)) rfl (ld rfl rfl (lf0 sc3 (ZM hv) rfl) rfl (Zy 1 rfl ?_))
 refine Z1 rfl ?_ ?_ <;> intro hc5 <;> try simp only [cS] at hc5
 have hle : lE h.gaps.length spd x.l = 4 := Zax hin9 (ZaG (i := i - 1) (by omega) (by rw [show i - 1 + 1 = i by omega, Z1E hu, Z1E hv]; exact hc5))
 have hpl9 := Z3K hpe hgx (by rw [hle]; decide)
 rw [hle] at hpl9
 have hse := Z8D (pl := lls pl) hre (by omega) (by rw [hpl9]; decide)
 rw [hpl9] at hse
 refine sqt 2 rfl (pur 2 rfl (Z5 ?_))
 exact rtB rfl rfl rfl rfl ⟨by rw [Z2x (hse) (by decide)] <;> rfl, rfl, rfl⟩ (fun w h9 => St.sub ((h9.del mm).del b5))
 refine Z2 (sqr 3 rfl (pur 1 rfl (sp rfl (PE.add rfl rfl (by omega)) rfl (pur 1 rfl ?_))))
 exact Zc ⟨i + 1, ⟨by omega, by omega⟩, fun j h1 h2 => by
   rcases Nat.lt_or_ge (j + 1) i with h3 | h3
   · exact hia j h3 h2
   · obtain rfl : i = j + 1 := by omega
     have h4 := Z1E hu
     have h5 := Z1E hv
     rw [Nat.add_sub_cancel] at h5
     omega⟩ (by dsimp only; omega) (by first | exact (by repeat' first | exact Sub.nil | apply Sub.cons | rfl | (simp [lk]; omega)) | (rw [← hxa]; exact (by repeat' first | exact Sub.nil | apply Sub.cons | rfl | (simp [lk]; omega)))) (by first | exact idH | (rw [← hxa]; exact idH))
 have hasc : Z78 x.l = true := Z5w fun j hj => hia j (by omega) hj
 have hle9 : lE h.gaps.length spd x.l = _ := Z5i hin9 hasc
 refine Z7 (Z8 (Z8 (Zl (sqt 4 rfl (pur 1 rfl (sp rfl (PE.lenSl Zx rfl) rfl (pur 2 rfl ?_)))))))
 refine Z1 rfl ?_ ?_ <;> intro hc6 <;> try simp only [cS] at hc6
 rw [dT (show spd < (x.l.length : Int) by omega), cond_true] at hle9
 have hpl9 := Z3K hpe hgx (by rw [hle9]; decide)
 rw [hle9] at hpl9
 have hse := Z8D (pl := lls pl) hre (by omega) (by rw [hpl9]; decide)
 rw [hpl9] at hse
 refine sqt 2 rfl (pur 2 rfl (Z5 ?_))
 exact rtB rfl rfl rfl rfl ⟨by rw [Z2x (hse) (by decide)] <;> rfl, rfl, rfl⟩ (fun w h9 => St.sub ((h9.del mm).del b5))
 rw [dF (show ¬ spd < (x.l.length : Int) by omega), cond_false] at hle9
 refine Z2 (sqr 2 rfl (sp rfl (PE.add rfl rfl (by omega)) rfl (pur 1 rfl ?_)))
 exact Za ⟨k + 1, by omega, Zb3 hpe hgx hle9⟩ (fun w h9 => h9.ftail)
 obtain rfl : k = pl.length := by omega
 rw [List.take_of_length_le (by omega)] at hpe
 have hse := ZdM (pl := lls pl) hre (by omega) hpe
 refine Z7 (Z8 (Z8 (Zl (Z0 (Z0 ?_)))))
 refine Zn [0, 1, 0, 4, 15, 31] (.tk 0 (.ld 2 (.tk 3 (.big 1 (.big 4 (.tk 5 .done)))))) ZC (by kernel_rfl) ?_
 refine Zy 1 rfl (ld rfl rfl (lhA (htl h (h.sg ag cg) (h.ss as_ cs)) Z0F rfl rfl rfl) rfl (tk rfl (PE.makeFunc rfl rfl) rfl ?_))
 refine cl rfl Z80 rfl rfl (Z27 pl ap cp hpl htot _ _) ?_
 rintro _ _ R1 ⟨o, rfl, rfl, hR1⟩
 obtain rfl := hR1.symm
 clear hR1
 obtain ⟨ac, cc, heo, hcc, hfz⟩ := o.freezeC
 rw [irl] at hcc
 rw [heo, irl]
 refine Sy.heap (fun w h => hfz h) ?_
 clear hfz heo
 refine bg (fun w hs => ⟨(lhA (htl h (h.sg ag cg) (h.ss as_ cs)) Z0F rfl rfl rfl) w hs, trivial⟩) ?_
 refine clV rfl Zaf rfl rfl (Z2R (lls pl).flatten ac cc 84 [h.v (h.sg ag cg) (h.ss as_ cs)] [] (fun k => inB k 0 ((h.gaps.length : Int) - 1)) Zbi (by omega) hcc _ _ (fun _ z _ => Zco h (by omega) ag cg (h.ss as_ cs) z _ _)) ?_
 refine bgT (Zy 1 rfl (sqt 2 rfl (pur 2 rfl ?_)))
 refine Z1 rfl ?_ ?_ <;> intro hc7 <;> try simp only [cS] at hc7
 have hle : ZI h.gaps.length (lls pl).flatten ≠ 0 := hc7
 refine sqt 3 rfl (pur 3 rfl (Z5 ?_))
 exact rtB rfl rfl rfl rfl ⟨by rw [Z2x (hse) (hle)] <;> rfl, rfl, rfl⟩ (fun w h9 => St.sub ((h9.del mm).del b5))
 have hle : ZI h.gaps.length (lls pl).flatten = 0 := Classical.byContradiction hc7
 rw [hle] at hse
 have hpz := plE_zero.1 hpe
 have hll2 : ∀ l ∈ lls pl, ∀ x ∈ l, 0 ≤ x ∧ x < (h.gaps.length : Int) := fun l hl => (Zc4 (hpz l hl)).1
 have hM10 : ∀ l ∈ ((lls pl).map msk), l < 2 ^ 10 := fun l hl => by
   obtain ⟨y, hy, rfl⟩ := List.mem_map.1 hl
   exact Z08 fun x hx => by have := hll2 y hy x hx; omega
 refine Z2 (sqt 5 rfl (pur 1 rfl ?_))
 refine clV rfl Z9g rfl rfl (Z9J fr (fun k hk => by have := q1 k hk; omega) hlf af cf _ _) ?_
 refine sp rfl (PE.build (out := [_, _]) Z55 Z23 rfl rfl) rfl (alc rfl Z23 rfl (fun b18 => ?_))
 refine ZS (l' := plc (msk fr) (0)) rfl rfl rfl Z4O rfl rfl rfl rfl (nl rfl) ?_
 refine Z0 (sqt 3 rfl (pur 1 rfl (sp rfl (PE.lenSl Z0P rfl) rfl (pur 1 rfl (Z3 ?_)))))
 refine Ze (ι := {k : Nat // k ≤ pl.length}) (fun k => ⟨[(5, .pointer (some ⟨b5, 0, none⟩)), (12, .pointer (some ⟨br, 0, none⟩)), (18, .pointer (some ⟨b18, 0, none⟩)), (78, .slice ap pl.length cp), (79, .int .i64 pl.length), (80, .int .i64 k.1)], (b18, cel 123 (plc (Z1K h.gaps (msk fr) 0 (((lls pl).map msk).take (k.1))) (Z0N 0 (((lls pl).map msk).take (k.1))))) :: (mm, Z0C true []) :: (b5, cel 25 (htl h (h.sg ag cg) (h.ss as_ cs))) :: H, RowsA ac 1 (Z4 (lls pl).flatten) :: RowsA (some ⟨br, 0, none⟩) 4 [(rcD h ag as_ cg cs to_ spd bd br mm).row] :: RowsA (some ⟨bd, 0, none⟩) 4 [(dkA h ag as_ cg cs bd).row] :: R⟩) (fun k => pl.length - k.1) ⟨0, Nat.zero_le _⟩ ?_ (fun k => ?_)
 exact Zk idH
 obtain ⟨k, hk⟩ := k
 dsimp only at hk ⊢
 have hc10 : Z0N 0 (((lls pl).map msk).take (k)) < 2 ^ 10 := ZaM (by decide) (fun l hl => hM10 l (List.mem_of_mem_take hl))
 have hm7 : Z1K h.gaps (msk fr) 0 (((lls pl).map msk).take (k)) < 2 ^ 7 := Z7e hw7 hS7
 refine sqt 1 rfl (pur 1 rfl (Z0 ?_))
 refine Z1 rfl ?_ ?_ <;> intro hc8 <;> try simp only [cS] at hc8
 obtain ⟨x, hx⟩ : ∃ x, pl[k]? = some x := ⟨_, List.getElem?_eq_getElem (by omega)⟩
 have hx9 := hxl x (List.mem_of_getElem? hx)
 have hxm := hll2 x.l (List.mem_of_getElem? (Z0O hx))
 have hx10 : msk x.l < 2 ^ 10 := Z08 fun z hz => by have := hxm z hz; omega
 have htk : ((lls pl).map msk).take (k + 1) = ((lls pl).map msk).take k ++ [msk x.l] := Z5H (by rw [List.getElem?_map, Z0O hx]; rfl)
 have hcs : Z0N 0 (((lls pl).map msk).take (k + 1)) = Z0N 0 (((lls pl).map msk).take (k)) ||| msk x.l := by rw [htk, Z5Y]
 have hrs : Z1K h.gaps (msk fr) 0 (((lls pl).map msk).take (k + 1)) = spr h.gaps (Z0N 0 (((lls pl).map msk).take (k)) ||| msk x.l) (Z1K h.gaps (msk fr) 0 (((lls pl).map msk).take (k))) := by rw [htk, Z5T]
 have hc210 : Z0N 0 (((lls pl).map msk).take (k)) ||| msk x.l < 2 ^ 10 := Z6T hc10 hx10
 refine Sy.heap (fun w h9 => St.inn (x := x) h9 (List.mem_of_getElem? hx)) ?_
 refine Zg (a := ap) (sz := 1) (rows := Zh pl) (ne0 (by rw [Zv]; omega)) (fun ba oa he => ?_)
 subst he
 refine Z2 (Z0 (Z3 (sqt 3 rfl (sp rfl (PE.indexAddr Z5p rfl rfl (by omega) (by omega)) rfl (spL rfl rfl (lf0 Z1Y (Z1e hx) rfl) rfl (pur 1 rfl (Z0 ?_)))))))
 refine Zn [0, 1, 0, 4, 15, 31, 63] (.tk 0 (.ld 1 (.tk 2 (.big 3 (.tk 4 (.tk 5 (.big 6 .done))))))) ZC (by kernel_rfl) ?_
 refine tk rfl (PE.fA Z1o rfl) rfl (ld rfl rfl (lh sc3 rfl rfl) rfl (Zy 1 rfl ?_))
 refine clV rfl Z9g rfl rfl (Z9J x.l (fun z hz => by have := hxm z hz; omega) hx9 x.a x.c _ _) ?_
 refine bg (fun w hs => ⟨(lh sc3 rfl rfl) w hs, trivial⟩) ?_
 refine tk rfl (PE.orN (m := Z0N 0 (((lls pl).map msk).take (k))) (n := msk x.l) rfl rfl (Z9a hc10 (by omega)) (Z9a hx10 (by omega))) rfl (tk rfl (PE.fA Z1o rfl) rfl ?_)
 refine ZS (l' := plc (Z1K h.gaps (msk fr) 0 (((lls pl).map msk).take (k))) (Z0N 0 (((lls pl).map msk).take (k)) ||| msk x.l)) rfl rfl rfl cn3 rfl rfl rfl rfl (nl rfl) ?_
 refine bgT (sqr 5 rfl (pur 1 rfl (spL rfl rfl (lhA (plc (Z1K h.gaps (msk fr) 0 (((lls pl).map msk).take (k))) (Z0N 0 (((lls pl).map msk).take (k)) ||| msk x.l)) Z0n rfl rfl rfl) rfl ?_)))
 refine clV rfl Z6V rfl rfl (Z1y (rcD h ag as_ cg cs to_ spd bd br mm) (Z0z h ag as_ cg cs hok bd) (Z1K h.gaps (msk fr) 0 (((lls pl).map msk).take (k))) (Z0N 0 (((lls pl).map msk).take (k)) ||| msk x.l) hm7 hc210 _ _) ?_
 refine sp rfl (PE.fA ZE rfl) rfl ?_
 refine ZS (l' := plc (spr h.gaps (Z0N 0 (((lls pl).map msk).take (k)) ||| msk x.l) (Z1K h.gaps (msk fr) 0 (((lls pl).map msk).take (k)))) (Z0N 0 (((lls pl).map msk).take (k)) ||| msk x.l)) rfl rfl rfl cn3 rfl rfl rfl rfl (nl rfl) ?_
 refine sqr 2 rfl (sp rfl (PE.add rfl rfl (by omega)) rfl (pur 1 rfl ?_))
 rw [← hrs, ← hcs]
 exact Za ⟨k + 1, by omega⟩ (fun w h9 => h9.ftail)
 obtain rfl : k = pl.length := by omega
 rw [List.take_of_length_le (show ((lls pl).map msk).length ≤ pl.length by rw [List.length_map]; omega)] at hc10 hm7 ⊢
 obtain ⟨B, hB⟩ : ∃ B : Nat, h.bins = B := ⟨h.bins.toNat, by omega⟩
 refine Z7 (Z8 (Z8 (Zl (Z0 (sqt 3 rfl (sp rfl (PE.fA Z1d rfl) rfl (spL rfl rfl (lh (v := .int .i64 h.bins) sc3 rfl rfl) rfl ?_)))))))
 rw [hB]
 refine pur 1 rfl (Z3 ?_)
 refine Ze (ι := {j : Nat // j ≤ B}) (fun j => ⟨[(12, .pointer (some ⟨br, 0, none⟩)), (18, .pointer (some ⟨b18, 0, none⟩)), (96, .int .i64 B), (97, .int .i64 j.1)], (b18, cel 123 (plc (lv h.gaps (Z0N 0 ((lls pl).map msk)) (Z1K h.gaps (msk fr) 0 ((lls pl).map msk)) (j.1)) (Z0N 0 ((lls pl).map msk)))) :: (mm, Z0C true []) :: (b5, cel 25 (htl h (h.sg ag cg) (h.ss as_ cs))) :: H, RowsA ac 1 (Z4 (lls pl).flatten) :: RowsA (some ⟨br, 0, none⟩) 4 [(rcD h ag as_ cg cs to_ spd bd br mm).row] :: RowsA (some ⟨bd, 0, none⟩) 4 [(dkA h ag as_ cg cs bd).row] :: R⟩) (fun j => B - j.1) ⟨0, Nat.zero_le _⟩ ?_ (fun j => ?_)
 exact Zk idH
 obtain ⟨j, hj⟩ := j
 dsimp only at hj ⊢
 have hl7 : lv h.gaps (Z0N 0 ((lls pl).map msk)) (Z1K h.gaps (msk fr) 0 ((lls pl).map msk)) (j) < 2 ^ 7 := Z7s hw7 hm7 j
 refine sqt 1 rfl (pur 1 rfl (Z0 ?_))
 refine Z1 rfl ?_ ?_ <;> intro hc9 <;> try simp only [cS] at hc9
 refine Z2 (Z0 (Z3 (sqr 5 rfl (pur 1 rfl (spL rfl rfl (lhA (plc (lv h.gaps (Z0N 0 ((lls pl).map msk)) (Z1K h.gaps (msk fr) 0 ((lls pl).map msk)) (j)) (Z0N 0 ((lls pl).map msk))) Z0n rfl rfl rfl) rfl ?_)))))
 refine clV rfl Z6V rfl rfl (Z1y (rcD h ag as_ cg cs to_ spd bd br mm) (Z0z h ag as_ cg cs hok bd) (lv h.gaps (Z0N 0 ((lls pl).map msk)) (Z1K h.gaps (msk fr) 0 ((lls pl).map msk)) (j)) (Z0N 0 ((lls pl).map msk)) hl7 hc10 _ _) ?_
 refine sp rfl (PE.fA ZE rfl) rfl ?_
 refine ZS (l' := plc (lv h.gaps (Z0N 0 ((lls pl).map msk)) (Z1K h.gaps (msk fr) 0 ((lls pl).map msk)) (j + 1)) (Z0N 0 ((lls pl).map msk))) rfl rfl rfl cn3 rfl rfl rfl rfl (nl rfl) ?_
 refine sqr 2 rfl (sp rfl (PE.add rfl rfl (by omega)) rfl (pur 1 rfl ?_))
 exact Za ⟨j + 1, by omega⟩ idH
 obtain rfl : j = B := by omega
 have hsb : h.svB fr to_ (lls pl) = decide (lv h.gaps (Z0N 0 ((lls pl).map msk)) (Z1K h.gaps (msk fr) 0 ((lls pl).map msk)) (j) &&& msk to_ = 0) := by unfold Hse.svB Hse.svM; rw [show h.bins.toNat = j by omega]
 have hK7 : msk to_ < 2 ^ 7 := Z08 fun x hx => q2 x hx
 have h27 : (2 : Nat) ^ 7 = 128 := rfl
 have hde : decide (((lv h.gaps (Z0N 0 ((lls pl).map msk)) (Z1K h.gaps (msk fr) 0 ((lls pl).map msk)) (j) &&& msk to_ : Nat) : Int) = 0) = decide (lv h.gaps (Z0N 0 ((lls pl).map msk)) (Z1K h.gaps (msk fr) 0 ((lls pl).map msk)) (j) &&& msk to_ = 0) := decide_eq_decide.2 (by omega)
 refine Z7 (Z8 (Z8 (Zl (Z0 ?_))))
 refine Zn [0, 1, 0, 4, 12, 28, 63, 127, 255, 511] (.tk 0 (.ld 1 (tks 2 3 (.ld 5 (tks 6 4 .done))))) ZC (by kernel_rfl) ?_
 refine tk rfl (PE.fA ZE rfl) rfl (ld rfl rfl (lh sc3 rfl rfl) rfl (Zy 1 rfl (tk rfl (PE.nilCheck rfl) rfl (tk rfl (PE.fA Z5r rfl) rfl (ld rfl rfl (lfB (sz := 4) sc3 rfl) rfl (tk rfl (PE.andN (m := lv h.gaps (Z0N 0 ((lls pl).map msk)) (Z1K h.gaps (msk fr) 0 ((lls pl).map msk)) (j)) (n := msk to_) rfl rfl rfl (by omega) (by omega)) rfl (Zy 3 rfl (Z5 ?_))))))))
 exact rtB rfl rfl rfl rfl ⟨by rw [ZaF hse, hsb, ← hde] <;> rfl, rfl, rfl⟩ (fun w h9 => St.sub (((h9.del b18).del mm).del b5))
end Go.Proofs.YthbjpnmclokinaaGreat
namespace Go.Proofs.YthbjpnmclokinaaGreat
set_option linter.unusedSimpArgs false
set_option linter.unusedVariables false
def nxt (gs : List Gp) (cl now : List Int) : Nat → List Int
  | 0 => now
  | i + 1 => match gs[i]? with
    | some g => bif ZD cl i then nxt gs cl now i else
      (fun o => bif ZD now g.b && !ZD o g.a then o ++ [g.a] else o) (bif ZD now g.a && !ZD (nxt gs cl now i) g.b then nxt gs cl now i ++ [g.b] else nxt gs cl now i)
    | none => nxt gs cl now i
structure Lm (l : List Int) (m : Nat) : Prop where
  rg : ∀ x ∈ l, 0 ≤ x ∧ x < 7
  nd : l.Nodup
  ms : msk l = m
theorem Zc0 (l : List Int) (x : Int) : msk (l ++ [x]) = msk l ||| 2 ^ x.toNat := by
  unfold msk
  rw [List.foldl_append]; rfl
theorem Lm.has {l : List Int} {m : Nat} (h : Lm l m) {x : Int} (hx : 0 ≤ x) : ZD l x = m.testBit x.toNat := by
  rw [← h.ms, Bool.eq_iff_iff, hasI_iff, Zt (fun k hk => (h.rg k hk).1), show ((x.toNat : Nat) : Int) = x by omega]
theorem Lm.add {l : List Int} {m : Nat} (h : Lm l m) {x : Int} (hx : 0 ≤ x ∧ x < 7) (hn : ZD l x = false) : Lm (l ++ [x]) (m ||| 2 ^ x.toNat) := by
  refine ⟨fun y hy => ?_, ?_, by rw [Zc0, h.ms]⟩
  · rcases List.mem_append.1 hy with h1 | h1
    · exact h.rg y h1
    · rw [List.mem_singleton.1 h1]; exact hx
  · refine List.nodup_append.2 ⟨h.nd, by simp, fun a ha b hb e => ?_⟩
    rw [List.mem_singleton] at hb
    subst hb; subst e
    rw [hasI_iff.2 ha] at hn; cases hn
theorem Zdw {m v : Nat} (h : m.testBit v = true) : m ||| 2 ^ v = m := ZJ fun k => by
  rw [Nat.testBit_or, Nat.testBit_two_pow]
  by_cases e : v = k
  · subst e; rw [h]; rfl
  · rw [decide_eq_false e, Bool.or_false]
theorem Lm.way {l : List Int} {m : Nat} (h : Lm l m) {x : Int} (hx : 0 ≤ x ∧ x < 7) (p : Bool) : Lm (bif p && !ZD l x then l ++ [x] else l) (m ||| (bif p then 2 ^ x.toNat else 0)) := by
  cases p with
  | false => rw [Bool.false_and, cond_false, cond_false, Nat.or_zero]; exact h
  | true =>
    rw [Bool.true_and, cond_true]
    cases hb : ZD l x with
    | false => rw [Bool.not_false, cond_true]; exact h.add hx hb
    | true =>
      rw [Bool.not_true, cond_false]
      rw [h.has hx.1] at hb
      rw [Zdw hb]; exact h
theorem Zb0 {gs : List Gp} {cl now : List Int} {c m : Nat} (hg : ∀ g ∈ gs, (0 ≤ g.a ∧ g.a < 7) ∧ 0 ≤ g.b ∧ g.b < 7) (hc : ∀ i : Nat, ZD cl (i : Int) = c.testBit i) (hn : Lm now m) : ∀ i, Lm (nxt gs cl now i) (Z3A gs c m i)
  | 0 => hn
  | i + 1 => by
    have ih := Zb0 hg hc hn i
    unfold nxt Z3A
    cases hgi : gs[i]? with
    | none => exact ih
    | some g =>
      dsimp only
      rw [hc i]
      cases c.testBit i with
      | true => exact ih
      | false =>
        have h1 := hg g (List.mem_of_getElem? hgi)
        rw [cond_false, cond_false]
        have h2 := ih.way h1.2 (ZD now g.a)
        have h3 := h2.way h1.1 (ZD now g.b)
        unfold gpo
        rw [← Nat.or_assoc]
        rw [hn.has h1.1.1, hn.has h1.2.1] at h3
        rw [hn.has h1.1.1, hn.has h1.2.1]
        exact h3
def Z0h (gs : List Gp) (cl now : List Int) : List Int := nxt gs cl now gs.length
theorem Z7f {gs : List Gp} {cl now : List Int} {c m : Nat} (hg : ∀ g ∈ gs, (0 ≤ g.a ∧ g.a < 7) ∧ 0 ≤ g.b ∧ g.b < 7) (hc : ∀ i : Nat, ZD cl (i : Int) = c.testBit i) (hn : Lm now m) : Lm (Z0h gs cl now) (spr gs c m) := by
  have := Zb0 hg hc hn gs.length
  rw [Z6y] at this; exact this
theorem Lm.len {l : List Int} {m : Nat} (h : Lm l m) : l.length = cnt 7 m := by
  rw [← Z1B, show l.length = (l.map Int.toNat).length from (List.length_map _).symm]
  refine List.Perm.length_eq ((List.perm_ext_iff_of_nodup ?_ (List.nodup_range.sublist List.filter_sublist)).2 fun x => ?_)
  · rw [List.nodup_iff_pairwise_ne, List.pairwise_map]
    exact (List.nodup_iff_pairwise_ne.1 h.nd).imp_of_mem fun {a b} ha hb hab e => by
      have := h.rg a ha; have := h.rg b hb; omega
  · rw [List.mem_filter, List.mem_range, List.mem_map, ← h.ms, Zt (fun k hk => (h.rg k hk).1)]
    constructor
    · rintro ⟨y, hy, rfl⟩
      have := h.rg y hy
      exact ⟨by omega, by rw [show ((y.toNat : Nat) : Int) = y by omega]; exact hy⟩
    · rintro ⟨_, hx⟩; exact ⟨_, hx, Int.toNat_natCast x⟩
theorem Lm.few {l : List Int} {m : Nat} (h : Lm l m) : l.length ≤ 7 := by rw [h.len]; exact Z1p _ _
theorem Lm.lt {l : List Int} {m : Nat} (h : Lm l m) : m < 2 ^ 7 := by rw [← h.ms]; exact Z08 h.rg
theorem Lm.of {n : Int} {l : List Int} (hn : n ≤ 7) (h : ZI n l = 0) : Lm l (msk l) := by
  unfold ZI at h
  cases h1 : l.all fun k => inB k 0 (n - 1) with
  | false => rw [h1] at h; cases h
  | true =>
    rw [h1] at h
    cases h2 : (List.range l.length).any (Z3z l) with
    | true => rw [h2] at h; cases h
    | false =>
      refine ⟨fun x hx => ?_, ?_, rfl⟩
      · have := List.all_eq_true.1 h1 x hx
        simp only [inB, Bool.and_eq_true, decide_eq_true_eq] at this; omega
      · rw [List.nodup_iff_pairwise_ne, List.pairwise_iff_getElem]
        intro i j hi hj hij e
        have h3 := List.any_eq_false.1 h2 j (List.mem_range.2 hj)
        apply h3
        unfold Z3z
        rw [hasI_iff, show na l j = l[j] from by unfold na; rw [List.getD_eq_getElem?_getD, List.getElem?_eq_getElem hj]; rfl, ← e]
        exact List.mem_of_getElem? (by rw [List.getElem?_take, if_pos hij, List.getElem?_eq_getElem hi])
def fw (gs : List Gp) (c m w k : Nat) : Int := match (List.range w).find? fun t => (lv gs c m t).testBit k with
  | some t => (t : Int)
  | none => -1
theorem Zbw (gs : List Gp) (c m k : Nat) : fw gs c m 0 k = -1 := rfl
theorem Z1t (gs : List Gp) (c m w k : Nat) : (∃ t : Nat, t < w ∧ fw gs c m w k = t ∧ (lv gs c m t).testBit k = true ∧ ∀ i : Nat, i < t → (lv gs c m i).testBit k = false) ∨ (fw gs c m w k = -1 ∧ ∀ i : Nat, i < w → (lv gs c m i).testBit k = false) := by
  unfold fw
  rcases hf : (List.range w).find? fun t => (lv gs c m t).testBit k with _ | t
  · refine .inr ⟨rfl, fun i hi => ?_⟩
    have := List.find?_eq_none.1 hf i (List.mem_range.2 hi)
    simpa using this
  · obtain ⟨h1, lp, lq, h2, h3⟩ := List.find?_eq_some_iff_append.1 hf
    have hm : t ∈ List.range w := by rw [h2]; simp
    refine .inl ⟨t, List.mem_range.1 hm, rfl, h1, fun i hi => ?_⟩
    have hi7 : i ∈ List.range w := List.mem_range.2 (by have := List.mem_range.1 hm; omega)
    have hp := List.pairwise_lt_range (n := w)
    rw [h2] at hi7 hp
    rw [List.pairwise_append] at hp
    rcases List.mem_append.1 hi7 with h4 | h4
    · have := h3 i h4; simpa using this
    · rcases List.mem_cons.1 h4 with rfl | h4
      · omega
      · have := (List.pairwise_cons.1 hp.2.1).1 i h4; omega
theorem Zba {gs : List Gp} {c m w k : Nat} : fw gs c m (w + 1) k = bif decide (0 ≤ fw gs c m w k) then fw gs c m w k else bif (lv gs c m w).testBit k then (w : Int) else -1 := by
  rcases Z1t gs c m w k with ⟨t, h1, h2, h3, h4⟩ | ⟨h1, h2⟩
  · rw [h2, decide_eq_true (by omega), cond_true]
    rcases Z1t gs c m (w + 1) k with ⟨t', g1, g2, g3, g4⟩ | ⟨g1, g2⟩
    · rw [g2]
      rcases Nat.lt_trichotomy t t' with h | h | h
      · rw [g4 t h] at h3; cases h3
      · rw [h]
      · rw [h4 t' h] at g3; cases g3
    · rw [g2 t (by omega)] at h3; cases h3
  · rw [h1, decide_eq_false (by decide), cond_false]
    rcases Z1t gs c m (w + 1) k with ⟨t', g1, g2, g3, g4⟩ | ⟨g1, g2⟩
    · have : t' = w := by
        rcases Nat.lt_or_ge t' w with h | h
        · rw [h2 t' h] at g3; cases g3
        · omega
      subst this
      rw [g2, g3]; rfl
    · rw [g1, g2 w (by omega)]; rfl
def wkC (gs : List Gp) (c m k : Nat) : Int := bif decide (far ≤ wk gs c m k) then -1 else wk gs c m k
theorem ZeE {gs : List Gp} {c m n k : Nat} (hn7 : n ≤ 7) (hn1 : 1 ≤ n) (hw : Wth gs n) (hm : m < 2 ^ n) : fw gs c m n k = wkC gs c m k := by
  unfold wkC
  rcases Z13 gs c m k with ⟨t, h1, h2, h3, h4⟩ | ⟨h1, h2⟩
  · rw [h2, decide_eq_false (by unfold far; omega), cond_false]
    rcases Z1t gs c m n k with ⟨t', g1, g2, g3, g4⟩ | ⟨g1, g2⟩
    · rw [g2]
      rcases Nat.lt_trichotomy t t' with h | h | h
      · rw [g4 t h] at h3; cases h3
      · rw [h]
      · rw [h4 t' h] at g3; cases g3
    · rcases Nat.lt_or_ge t n with h | h
      · rw [g2 t h] at h3; cases h3
      · rw [Z4o hw hm (t := n - 1) (by omega) (by omega), g2 (n - 1) (by omega)] at h3; cases h3
  · rw [h1, decide_eq_true (Int.le_refl _), cond_true]
    rcases Z1t gs c m n k with ⟨t', g1, g2, g3, g4⟩ | ⟨g1, g2⟩
    · rw [h2 t' (by omega)] at g3; cases g3
    · exact g1
def wkL (gs : List Gp) (c m n : Nat) : List Int := (List.range n).map (wkC gs c m)
theorem ZbS (gs : List Gp) (c m n : Nat) : (wkL gs c m n).length = n := by simp [wkL]
structure RwI (gs : List Gp) (c m n w : Nat) (met : List Int) (o : List Int) : Prop where
  len : o.length = n
  at_ : ∀ k < n, na o k = bif decide (0 ≤ fw gs c m w k) then fw gs c m w k else bif ZD met (k : Int) then (w : Int) else -1
theorem RwI.put {gs : List Gp} {c m n w : Nat} {met o : List Int} {x : Int} (h : RwI gs c m n w met o) (hx : 0 ≤ x ∧ x.toNat < n) (hn : na o x.toNat < 0) : RwI gs c m n w (met ++ [x]) (o.set x.toNat (w : Int)) := by
  have hl := h.len
  refine ⟨by rw [List.length_set]; exact hl, fun k hk => ?_⟩
  have h1 := h.at_ k hk
  by_cases e : x.toNat = k
  · subst e
    have e1 : na (o.set x.toNat (w : Int)) x.toNat = (w : Int) := by unfold na; rw [List.getD_eq_getElem?_getD, List.getElem?_set_self (by omega)]; rfl
    rw [e1]
    have h2 : ¬ 0 ≤ fw gs c m w x.toNat := fun h9 => by rw [decide_eq_true h9, cond_true] at h1; omega
    rw [decide_eq_false h2, cond_false, show ((x.toNat : Nat) : Int) = x by omega, hasI_iff.2 (List.mem_append_right _ (by simp))]; rfl
  · have e1 : na (o.set x.toNat (w : Int)) k = na o k := by unfold na; simp only [List.getD_eq_getElem?_getD, List.getElem?_set_ne e]
    have e2 : ZD (met ++ [x]) (k : Int) = ZD met (k : Int) := by
      rw [Bool.eq_iff_iff, hasI_iff, hasI_iff, List.mem_append, List.mem_singleton]
      exact ⟨fun h9 => h9.resolve_right (fun e9 => by omega), .inl⟩
    rw [e1, e2]; exact h1
theorem RwI.skip {gs : List Gp} {c m n w : Nat} {met o : List Int} {x : Int} (h : RwI gs c m n w met o) (hx : 0 ≤ x ∧ x.toNat < n) (hn : 0 ≤ na o x.toNat) : RwI gs c m n w (met ++ [x]) o := by
  refine ⟨h.len, fun k hk => ?_⟩
  have h1 := h.at_ k hk
  by_cases e : x.toNat = k
  · subst e
    rw [h1]
    rw [h1] at hn
    by_cases h2 : 0 ≤ fw gs c m w x.toNat
    · rw [decide_eq_true h2]; rfl
    · rw [decide_eq_false h2, cond_false] at hn ⊢
      rw [cond_false, hasI_iff.2 (show ((x.toNat : Nat) : Int) ∈ met ++ [x] from List.mem_append_right _ (by simp; omega))]
      cases h3 : ZD met ((x.toNat : Nat) : Int) with
      | true => rfl
      | false => rw [h3] at hn; exact absurd hn (show ¬ (0 : Int) ≤ -1 by decide)
  · have e2 : ZD (met ++ [x]) (k : Int) = ZD met (k : Int) := by
      rw [Bool.eq_iff_iff, hasI_iff, hasI_iff, List.mem_append, List.mem_singleton]
      exact ⟨fun h9 => h9.resolve_right (fun e9 => by omega), .inl⟩
    rw [e2]; exact h1
theorem RwI.week {gs : List Gp} {c m n w : Nat} {now o : List Int} (h : RwI gs c m n w now o) (hn : Lm now (lv gs c m w)) : RwI gs c m n (w + 1) [] o := ⟨h.len, fun k hk => by
  rw [h.at_ k hk, Zba, hn.has (by omega), Int.toNat_natCast]
  cases h1 : decide (0 ≤ fw gs c m w k) with
  | true => rw [cond_true, h1]; rfl
  | false =>
    rw [cond_false]
    cases (lv gs c m w).testBit k with
    | true => rw [cond_true, decide_eq_true (show (0 : Int) ≤ (w : Int) by omega)]; rfl
    | false => rfl⟩
theorem RwI.done {gs : List Gp} {c m n : Nat} {o : List Int} (h : RwI gs c m n n [] o) (hn7 : n ≤ 7) (hn1 : 1 ≤ n) (hw : Wth gs n) (hm : m < 2 ^ n) : o = wkL gs c m n := by
  apply List.ext_getElem?
  intro k
  rcases Nat.lt_or_ge k n with hk | hk
  · have h1 := h.at_ k hk
    have h2 : o[k]? = some (na o k) := by unfold na; rw [List.getD_eq_getElem?_getD, List.getElem?_eq_getElem (by rw [h.len]; exact hk)]; rfl
    rw [h2, h1]
    unfold wkL
    rw [List.getElem?_map, List.getElem?_range hk]
    show some _ = some (wkC gs c m k)
    rw [← ZeE hn7 hn1 hw hm]
    by_cases h3 : 0 ≤ fw gs c m n k
    · rw [decide_eq_true h3]; rfl
    · rw [decide_eq_false h3]
      rcases Z1t gs c m n k with ⟨t, _, h4, _⟩ | ⟨h4, _⟩
      · omega
      · rw [h4]; rfl
  · rw [List.getElem?_eq_none (by rw [h.len]; exact hk), List.getElem?_eq_none (by rw [ZbS]; exact hk)]
open Go
theorem Zcz : Z4X Tryz.prog 110 = some 2 := by kernel_rfl
theorem Z5a : Z4X Tryz.prog 35 = some 3 := by kernel_rfl
theorem Z7j : cal Tryz.prog 11 = true := by kernel_rfl
theorem Zcq : cal Tryz.prog 14 = true := by kernel_rfl
theorem ZeO : cal Tryz.prog 23 = true := by kernel_rfl
theorem Zcv : cal Tryz.prog 29 = true := by kernel_rfl
theorem Z5E : cal Tryz.prog 72 = true := by kernel_rfl
theorem Z0Z : cal Tryz.prog 73 = true := by kernel_rfl
theorem ZdQ : cal Tryz.prog 76 = true := by kernel_rfl
theorem Zbg : Z0E Tryz.prog 110 = some 2 := by kernel_rfl
theorem Zfy : elN Tryz.prog 32 = some 2 := by kernel_rfl
theorem ZfB : elN Tryz.prog 33 = some 3 := by kernel_rfl
theorem Z00 : Z20 Tryz.prog 110 0 = some 0 := by kernel_rfl
theorem Z0m : Z20 Tryz.prog 110 1 = some 1 := by kernel_rfl
theorem Zc8 : Z20 Tryz.prog 111 0 = some 0 := by kernel_rfl
theorem ZbK : Z20 Tryz.prog 111 1 = some 1 := by kernel_rfl
theorem Z3O : Z20 Tryz.prog 35 0 = some 0 := by kernel_rfl
theorem Z1h : Z20 Tryz.prog 35 1 = some 1 := by kernel_rfl
theorem Z3R : Z20 Tryz.prog 35 2 = some 2 := by kernel_rfl
theorem Z5v : Z5O Tryz.prog 32 = true := by kernel_rfl
theorem Zej : Z5O Tryz.prog 33 = true := by kernel_rfl
theorem Z7D : Z2q Tryz.prog 32 = true := by kernel_rfl
theorem ZcQ : Z2q Tryz.prog 33 = true := by kernel_rfl
theorem Z9V : ZP Tryz.prog 110 = some ([.int .i64 0, .int .i64 0]) := by kernel_rfl
theorem ZdO {n lo hi : Int} (h : decide (n < lo) = true) : true = !(inB n lo hi) := by
  have := of_decide_eq_true h
  unfold inB; rw [decide_eq_false (show ¬ lo ≤ n by omega)]; rfl
theorem Zep {n lo hi : Int} (h : decide (n < lo) = false) : decide (hi < n) = !(inB n lo hi) := by
  have := of_decide_eq_false h
  unfold inB; rw [decide_eq_true (show lo ≤ n by omega), Bool.true_and, ← decide_not]; exact decide_eq_decide.2 (by omega)
theorem Z9S {l : List Int} {v : Int} (h : ∀ x ∈ l, x ≠ v) : ZD l v = false := by
  cases hb : ZD l v with
  | false => rfl
  | true => exact absurd rfl (h v (hasI_iff.1 hb))
theorem Z6O {l : List Int} {k : Nat} {x v : Int} (hx : l[k]? = some x) (h : ∀ y ∈ l.take k, y ≠ v) (hn : x ≠ v) : ∀ y ∈ l.take (k + 1), y ≠ v := fun y hy => by
  rw [List.take_add_one, hx] at hy
  rcases List.mem_append.1 hy with h1 | h1
  · exact h y h1
  · rw [List.mem_singleton.1 h1]; exact hn
theorem RwI.start (gs : List Gp) (c m B : Nat) : RwI gs c m B 0 [] (List.replicate B (-1)) := ⟨List.length_replicate, fun k hk => by
  rw [Zbw]
  unfold na
  rw [List.getD_eq_getElem?_getD, List.getElem?_replicate, if_pos hk]; rfl⟩
theorem Z3w (gs : List Gp) (cl now : List Int) : ∀ i, (nxt gs cl now i).length ≤ now.length + 2 * i
  | 0 => Nat.le_refl _
  | i + 1 => by
    have ih := Z3w gs cl now i
    unfold nxt
    cases gs[i]? with
    | none => dsimp only; omega
    | some g =>
      dsimp only
      cases ZD cl i with
      | true => rw [cond_true]; omega
      | false =>
        rw [cond_false]
        cases ZD now g.a && !ZD (nxt gs cl now i) g.b with
        | true =>
          dsimp only [cond_true]
          cases ZD now g.b && !ZD (nxt gs cl now i ++ [g.b]) g.a with
          | true => simp only [cond_true, List.length_append, List.length_singleton]; omega
          | false => simp only [cond_false, List.length_append, List.length_singleton]; omega
        | false =>
          dsimp only [cond_false]
          cases ZD now g.b && !ZD (nxt gs cl now i) g.a with
          | true => simp only [cond_true, List.length_append, List.length_singleton]; omega
          | false => simp only [cond_false]; omega
def nx1 (gs : List Gp) (cl now : List Int) (i : Nat) (g : Gp) : List Int := bif ZD now g.a && !ZD (nxt gs cl now i) g.b then nxt gs cl now i ++ [g.b] else nxt gs cl now i
theorem Z6p {gs : List Gp} {cl now : List Int} {i : Nat} {g : Gp} (hg : gs[i]? = some g) (hc : ZD cl i = true) : nxt gs cl now (i + 1) = nxt gs cl now i := by
  conv => lhs; unfold nxt
  rw [hg]; dsimp only; rw [hc]; rfl
theorem Z5N {gs : List Gp} {cl now : List Int} {i : Nat} {g : Gp} (hg : gs[i]? = some g) (hc : ZD cl i = false) : nxt gs cl now (i + 1) = bif ZD now g.b && !ZD (nx1 gs cl now i g) g.a then nx1 gs cl now i g ++ [g.a] else nx1 gs cl now i g := by
  conv => lhs; unfold nxt
  rw [hg]; dsimp only; rw [hc]; rfl
theorem ck2 {h : Hse} (h1 : (!(inB h.bins 1 7)) = true ∨ 10 < h.gaps.length ∨ 8 < h.sights.length) : h.check = 2 := by
  unfold Hse.check
  have : (!(inB h.bins 1 7) || decide (10 < h.gaps.length) || decide (8 < h.sights.length)) = true := by
    rcases h1 with h1 | h1 | h1
    · rw [h1]; rfl
    · rw [decide_eq_true h1]; simp
    · rw [decide_eq_true h1]; simp
  rw [this]; rfl
def Z2N (h : Hse) (k : Nat) : Bool := (h.gaps.take k).any fun g => !(inB g.a 0 (h.bins - 1)) || !(inB g.b 0 (h.bins - 1))
def Z0R (h : Hse) (k : Nat) : Bool := (h.gaps.take k).any fun g => decide (g.a = g.b)
def ZcC (h : Hse) (k : Nat) : Bool := (h.sights.take k).any fun s => !(inB s.bin 0 (h.bins - 1))
theorem Z26 {α : Type} {l : List α} {k : Nat} {x : α} {p : α → Bool} (hx : l[k]? = some x) : (l.take (k + 1)).any p = ((l.take k).any p || p x) := by rw [List.take_add_one, hx, List.any_append]; simp
theorem Zbo {h : Hse} (h1 : inB h.bins 1 7 = true) (h2 : h.gaps.length ≤ 10) (h3 : h.sights.length ≤ 8) (h4 : (h.sights.all fun s => inB s.week 0 9) = true) : h.check = bif Z2N h h.gaps.length || ZcC h h.sights.length then 1 else bif Z0R h h.gaps.length then 5 else 0 := by
  unfold Hse.check Z2N ZcC Z0R
  rw [h1, decide_eq_false (show ¬ 10 < h.gaps.length by omega), decide_eq_false (show ¬ 8 < h.sights.length by omega), h4, List.take_length, List.take_length]
  have e1 : (!(h.gaps.all fun g => inB g.a 0 (h.bins - 1) && inB g.b 0 (h.bins - 1))) = h.gaps.any fun g => !(inB g.a 0 (h.bins - 1)) || !(inB g.b 0 (h.bins - 1)) := by
    rw [List.not_all_eq_any_not]
    congr 1; funext g; rw [Bool.not_and]
  have e2 : (!(h.sights.all fun s => inB s.bin 0 (h.bins - 1))) = h.sights.any fun s => !(inB s.bin 0 (h.bins - 1)) := List.not_all_eq_any_not
  have e3 : (!(h.gaps.all fun g => !decide (g = ⟨g.b, g.a⟩))) = h.gaps.any fun g => decide (g.a = g.b) := by
    rw [List.not_all_eq_any_not]
    congr 1; funext g
    rw [Bool.not_not]
    cases g with
    | mk a b => exact decide_eq_decide.2 ⟨fun e => by injection e, fun e => by dsimp only at e; subst e; rfl⟩
  rw [e1, e2, e3]; rfl
theorem ck3 {h : Hse} (h1 : inB h.bins 1 7 = true) (h2 : h.gaps.length ≤ 10) (h3 : h.sights.length ≤ 8) {s : Sgt} (hs : s ∈ h.sights) (h4 : (!(inB s.week 0 9)) = true) : h.check = 3 := by
  have e : (h.sights.all fun s => inB s.week 0 9) = false := List.all_eq_false.2 ⟨s, hs, by rw [Bool.not_eq_true'] at h4; rw [h4]; decide⟩
  unfold Hse.check
  rw [h1, decide_eq_false (show ¬ 10 < h.gaps.length by omega), decide_eq_false (show ¬ 8 < h.sights.length by omega), e]; rfl
theorem Zca {l : List Sgt} {p : Sgt → Bool} (h : ∀ x ∈ l.take l.length, p x = true) : l.all p = true := List.all_eq_true.2 fun x hx => h x (by rw [List.take_length]; exact hx)
theorem Z3v (n lo hi : Int) (H : Z9) (R : Z6) :
    FnV Tryz.prog 72 [.int .i64 n, .int .i64 lo, .int .i64 hi] H R (.bool (!(inB n lo hi))) := by
 refine Zi Tryz.func72 rfl Tryz.ntmps72 rfl ?_
 refine sqt 1 rfl (pur 1 rfl (sqt 9 rfl (pur 4 rfl ?_)))
 refine Zo 10 rfl ?_ ?_ <;> intro g10
 refine pur 5 rfl (Z5 ?_)
 exact rtA rfl rfl rfl ⟨by first | exact congrArg Value.bool (ZdO g10) | exact congrArg Value.bool (Zep g10), rfl, rfl⟩ drp
 refine pur 5 rfl (Z5 ?_)
 exact rtA rfl rfl rfl ⟨by first | exact congrArg Value.bool (ZdO g10) | exact congrArg Value.bool (Zep g10), rfl, rfl⟩ drp
theorem Z04 (l : List Int) (a : Option Addr) (c : Nat) (v : Int) (hl : l.length ≤ 9223372036854775807) (H : Z9) (R : Z6) [hL : MemRows a 1 (Z4 l) R] :
    FnV Tryz.prog 73 [.slice a l.length c, .int .i64 v] H R (.bool (ZD l v)) := by
 refine Zi Tryz.func73 rfl Tryz.ntmps73 rfl ?_
 refine sqt 1 rfl (pur 1 rfl (Z0 (sqt 1 rfl (pur 1 rfl (Z3 ?_)))))
 refine Ze (ι := {k : Nat // k ≤ l.length ∧ ∀ x ∈ l.take k, x ≠ v}) (fun k => ⟨[(0, .slice a l.length c), (1, .int .i64 v), (5, .int .i64 (k.1 : Int))], H, R⟩) (fun k => l.length - k.1) ⟨0, Nat.zero_le _, by simp⟩ ?_ (fun k => ?_)
 exact Zk idH
 obtain ⟨k, hk, hn⟩ := k
 dsimp only at hk hn ⊢
 refine Z0 (sqt 4 rfl (pur 2 rfl (sp rfl (PE.lenSl Zx rfl) rfl (pur 1 rfl ?_))))
 refine Z1 rfl ?_ ?_ <;> intro hc0 <;> try simp only [cS] at hc0
 obtain ⟨x, hx⟩ : ∃ x, l[k]? = some x := ⟨_, List.getElem?_eq_getElem (by omega)⟩
 refine Zg (a := a) (sz := 1) (rows := Z4 l) (ne0 (by rw [irl]; omega)) (fun ba oa he => ?_)
 subst he
 refine Z2 (Z0 (Z3 (sqt 6 rfl (pur 2 rfl (sp rfl (PE.indexAddr Z1L rfl rfl (by omega) (by omega)) rfl (spL rfl rfl (lf0 sc3 (ZM hx) rfl) rfl (pur 2 rfl ?_)))))))
 refine Z1 rfl ?_ ?_ <;> intro hc1 <;> try simp only [cS] at hc1
 have hh : ZD l v = true := hasI_iff.2 (by rw [← hc1]; exact List.mem_of_getElem? hx)
 refine sqt 1 rfl (pur 1 rfl (Z5 ?_))
 exact rtA rfl rfl rfl ⟨by simp only [ZG]; rw [hh], rfl, rfl⟩ drp
 refine Z2 (sqr 3 rfl (pur 1 rfl (sp rfl (PE.add rfl rfl (by omega)) rfl (pur 1 rfl ?_))))
 exact Za ⟨k + 1, by omega, Z6O hx hn hc1⟩ idH
 obtain rfl : k = l.length := by omega
 rw [List.take_length] at hn
 have hh : ZD l v = false := Z9S hn
 refine Z7 (Z8 (Z8 (Zl (sqt 1 rfl (pur 1 rfl (Z5 ?_))))))
 exact rtA rfl rfl rfl ⟨by simp only [ZG]; rw [hh], rfl, rfl⟩ drp
theorem Zbl (xs : List Int) (n : Nat) (hn : xs.length = n) (a : Option Addr) (c : Nat) (v : Int) (hl : xs.length ≤ 9223372036854775807) (H : Z9) (R : Z6) [hR : MemRows a 1 (Z4 xs) R] : FnV Tryz.prog 73 [.slice a n c, .int .i64 v] H R (.bool (ZD xs v)) := by subst hn; exact Z04 xs a c v hl H R
set_option maxHeartbeats 400000 in
theorem Z3a (l : List Int) (a : Option Addr) (c : Nat) (n : Int) (hn : 0 ≤ n ∧ n ≤ 1000000) (hl : l.length ≤ 9223372036854775807) (hlc : l.length ≤ c) (H : Z9) (R : Z6) [hR : MemRows a 1 (Z4 l) R] :
    FnV Tryz.prog 29 [.slice a l.length c, .int .i64 n] H R (.int .i64 (ZI n l)) := by
 refine Zi Tryz.func29 rfl Tryz.ntmps29 rfl ?_
 refine sqt 1 rfl (pur 1 rfl (Z0 (sqt 1 rfl (pur 1 rfl (Z3 ?_)))))
 refine Ze (ι := {k : Nat // k ≤ l.length ∧ ∀ x ∈ l.take k, inB x 0 (n - 1) = true}) (fun k => ⟨[(0, .slice a l.length c), (1, .int .i64 n), (5, .int .i64 (k.1 : Int))], H, R⟩) (fun k => l.length - k.1) ⟨0, Nat.zero_le _, by simp⟩ ?_ (fun k => ?_)
 exact Zk idH
 obtain ⟨k, hk, hi⟩ := k
 dsimp only at hk hi ⊢
 refine Z0 (sqt 4 rfl (pur 2 rfl (sp rfl (PE.lenSl Zx rfl) rfl (pur 1 rfl ?_))))
 refine Z1 rfl ?_ ?_ <;> intro hc0 <;> try simp only [cS] at hc0
 obtain ⟨x, hx⟩ : ∃ x, l[k]? = some x := ⟨_, List.getElem?_eq_getElem (by omega)⟩
 refine Zg (a := a) (sz := 1) (rows := Z4 l) (ne0 (by rw [irl]; omega)) (fun ba oa he => ?_)
 subst he
 refine Z2 (Z0 (Z3 (sqt 7 rfl (pur 2 rfl (sp rfl (PE.indexAddr Z1L rfl rfl (by omega) (by omega)) rfl (spL rfl rfl (lf0 sc3 (ZM hx) rfl) rfl (pur 1 rfl (sp rfl (PE.sub rfl rfl (by omega)) rfl ?_))))))))
 refine clV rfl Z5E rfl rfl (Z3v _ _ _ _ _) ?_
 refine Z1 rfl ?_ ?_ <;> intro hc1
 have hx9 : inB x 0 (n - 1) = false := by rw [← Bool.not_eq_true']; exact hc1
 have hall : (l.all fun k => inB k 0 (n - 1)) = false := List.all_eq_false.2 ⟨x, List.mem_of_getElem? hx, by rw [hx9]; decide⟩
 refine sqt 1 rfl (pur 1 rfl (Z5 ?_))
 exact rtA rfl rfl rfl ⟨by simp only [ZG]; unfold ZI; rw [hall]; rfl, rfl, rfl⟩ drp
 have hx9 : inB x 0 (n - 1) = true := by rw [← Bool.not_eq_false']; exact hc1
 refine Z2 (sqr 3 rfl (pur 1 rfl (sp rfl (PE.add rfl rfl (by omega)) rfl (pur 1 rfl ?_))))
 exact Zc ⟨k + 1, by omega, fun y hy => by
   rw [List.take_add_one, hx] at hy
   rcases List.mem_append.1 hy with h1 | h1
   · exact hi y h1
   · rw [List.mem_singleton.1 h1]; exact hx9⟩ (by dsimp only; omega) (by repeat' first | exact Sub.nil | apply Sub.cons | rfl | (simp [lk]; omega)) idH
 obtain rfl : k = l.length := by omega
 rw [List.take_length] at hi
 have hall : (l.all fun k => inB k 0 (n - 1)) = true := List.all_eq_true.2 hi
 refine Z7 (Z8 (Z8 (Zl (Z0 (sqt 1 rfl (pur 1 rfl (Z3 ?_)))))))
 refine Ze (ι := {k : Nat // k ≤ l.length ∧ ∀ i < k, Z3z l i = false}) (fun k => ⟨[(0, .slice a l.length c), (6, .int .i64 (k.1 : Int))], H, R⟩) (fun k => l.length - k.1) ⟨0, Nat.zero_le _, fun i hi => absurd hi (Nat.not_lt_zero _)⟩ ?_ (fun k => ?_)
 exact Zk idH
 obtain ⟨k, hk, hd⟩ := k
 dsimp only at hk hd ⊢
 refine Z0 (sqt 4 rfl (pur 2 rfl (sp rfl (PE.lenSl Zx rfl) rfl (pur 1 rfl ?_))))
 refine Z1 rfl ?_ ?_ <;> intro hc2 <;> try simp only [cS] at hc2
 obtain ⟨x, hx⟩ : ∃ x, l[k]? = some x := ⟨_, List.getElem?_eq_getElem (by omega)⟩
 refine Zg (a := a) (sz := 1) (rows := Z4 l) (ne0 (by rw [irl]; omega)) (fun ba oa he => ?_)
 subst he
 refine Z2 (Z0 (Z3 (Z0 ?_)))
 refine Zn [0, 0, 3, 0, 0, 24, 56, 127] (tks 0 6 (.ld 6 (.big 7 .done))) ZC (by kernel_rfl) ?_
 refine Zy 2 rfl (tk rfl (PE.slHi (h := k) Z0D rfl rfl (by omega)) rfl (Zy 2 rfl (tk rfl (PE.indexAddr Z1L rfl rfl (by omega) (by omega)) rfl (ld rfl rfl (lf0 sc3 (ZM hx) rfl) rfl ?_))))
 refine Sy.heap (fun w h => (Z2s l k ▸ St.rowsTake (a := some ⟨ba, oa, none⟩) (sz := 1) (rows := Z4 l) h k)) ?_
 refine clV rfl Z0Z rfl rfl (Zbl (l.take k) k (by rw [List.length_take]; omega) (some ⟨ba, oa, none⟩) c x (by rw [List.length_take]; omega) _ _) ?_
 refine bgT ?_
 refine Z1 rfl ?_ ?_ <;> intro hc3 <;> try simp only [cS] at hc3
 have hdk : Z3z l k = true := by unfold Z3z; rw [Z1E hx]; exact hc3
 refine sqt 1 rfl (pur 1 rfl (Z5 ?_))
 exact rtA rfl rfl rfl ⟨by simp only [ZG]; unfold ZI; rw [hall, Z83 (by omega) hdk]; rfl, rfl, rfl⟩ drp
 have hd2 : ∀ i < k + 1, Z3z l i = false := fun i hi => by
   rcases Nat.lt_or_ge i k with h1 | h1
   · exact hd i h1
   · obtain rfl : i = k := by omega
     unfold Z3z; rw [Z1E hx]; exact hc3
 refine Z2 (sqr 3 rfl (pur 1 rfl (sp rfl (PE.add rfl rfl (by omega)) rfl (pur 1 rfl ?_))))
 exact Za ⟨k + 1, by omega, hd2⟩ (fun w h => h.ftail)
 obtain rfl : k = l.length := by omega
 refine Z7 (Z8 (Z8 (Zl (sqt 1 rfl (pur 1 rfl (Z5 ?_))))))
 exact rtA rfl rfl rfl ⟨by simp only [ZG]; unfold ZI; rw [hall, ZaJ hd rfl]; rfl, rfl, rfl⟩ drp
set_option maxHeartbeats 400000 in
theorem Zce (h : Hse) (ag as_ : Option Addr) (cg cs : Nat) (hok : h.ok) (fr to_ : List Int) (af at_ : Option Addr) (cf ct : Nat) (hlf : fr.length ≤ 1000000) (hlt : to_.length ≤ 1000000) (hfc : fr.length ≤ cf) (htc : to_.length ≤ ct) (H : Z9) (R : Z6) [hF : MemRows af 1 (Z4 fr) R] [hT : MemRows at_ 1 (Z4 to_) R] :
    FnV Tryz.prog 17 [h.v (h.sg ag cg) (h.ss as_ cs), .slice af fr.length cf, .slice at_ to_.length ct] H R (.int .i64 (h.botE fr to_)) := by
 refine Zi Tryz.func17 rfl Tryz.ntmps17 rfl ?_
 refine sqt 2 rfl ?_
 have hbn := hok.bins
 have hck := hse_ok.2 hok
 refine bx rfl rfl rfl (fun b3 => pur 1 rfl (Z0 (sqt 5 rfl (pur 1 rfl (sp rfl (PE.fA Z3O rfl) rfl (spL rfl rfl (lh (v := .int .i64 h.bins) sc3 rfl rfl) rfl ?_))))))
 refine clV rfl Zcv rfl rfl (Z3a fr af cf h.bins (by omega) (by omega) hfc _ _) ?_
 refine pur 1 rfl (sqt 2 rfl (pur 2 rfl ?_))
 refine Z1 rfl ?_ ?_ <;> intro hc0 <;> try simp only [cS] at hc0
 refine sqt 2 rfl (pur 2 rfl (Z5 ?_))
 exact rtA rfl rfl rfl ⟨by simp only [ZG]; unfold Hse.botE; rw [hck, dT hc0]; rfl, rfl, rfl⟩ (fun w h9 => h9.del b3)
 have hc0 : ZI h.bins fr = 0 := by omega
 refine Z2 (Z0 (sqt 5 rfl (pur 1 rfl (sp rfl (PE.fA Z3O rfl) rfl (spL rfl rfl (lh (v := .int .i64 h.bins) sc3 rfl rfl) rfl ?_)))))
 refine clV rfl Zcv rfl rfl (Z3a to_ at_ ct h.bins (by omega) (by omega) htc _ _) ?_
 refine pur 1 rfl (sqt 2 rfl (pur 2 rfl ?_))
 refine Z1 rfl ?_ ?_ <;> intro hc1 <;> try simp only [cS] at hc1
 refine sqt 2 rfl (pur 2 rfl (Z5 ?_))
 exact rtA rfl rfl rfl ⟨by simp only [ZG]; unfold Hse.botE; rw [hck, hc0, dT hc1]; rfl, rfl, rfl⟩ (fun w h9 => h9.del b3)
 have hc1 : ZI h.bins to_ = 0 := by omega
 refine Z2 (Z0 (sqt 1 rfl (pur 1 rfl (Z3 ?_))))
 refine Ze (ι := {k : Nat // k ≤ fr.length ∧ ∀ x ∈ fr.take k, ZD to_ x = false}) (fun k => ⟨[(1, .slice af fr.length cf), (2, .slice at_ to_.length ct), (9, .int .i64 (k.1 : Int))], (b3, cel 35 (htl h (h.sg ag cg) (h.ss as_ cs))) :: H, R⟩) (fun k => fr.length - k.1) ⟨0, Nat.zero_le _, by simp⟩ ?_ (fun k => ?_)
 exact Zk idH
 obtain ⟨k, hk, hn⟩ := k
 dsimp only at hk hn ⊢
 refine Z0 (sqt 4 rfl (pur 2 rfl (sp rfl (PE.lenSl Zx rfl) rfl (pur 1 rfl ?_))))
 refine Z1 rfl ?_ ?_ <;> intro hc2 <;> try simp only [cS] at hc2
 obtain ⟨x, hx⟩ : ∃ x, fr[k]? = some x := ⟨_, List.getElem?_eq_getElem (by omega)⟩
 refine Zg (a := af) (sz := 1) (rows := Z4 fr) (ne0 (by rw [irl]; omega)) (fun ba oa he => ?_)
 subst he
 refine Z2 (Z0 (Z3 (sqt 6 rfl (pur 3 rfl (sp rfl (PE.indexAddr Z1L rfl rfl (by omega) (by omega)) rfl (spL rfl rfl (lf0 sc3 (ZM hx) rfl) rfl ?_))))))
 refine clV rfl Z0Z rfl rfl (Z04 to_ at_ ct x (by omega) _ _) ?_
 refine Z1 rfl ?_ ?_ <;> intro hc3 <;> try simp only [cS] at hc3
 have hh : fr.any (ZD to_) = true := List.any_eq_true.2 ⟨x, List.mem_of_getElem? hx, hc3⟩
 refine sqt 1 rfl (pur 1 rfl (Z5 ?_))
 exact rtA rfl rfl rfl ⟨by simp only [ZG]; unfold Hse.botE; rw [hck, hc0, hc1, hh]; rfl, rfl, rfl⟩ (fun w h9 => h9.del b3)
 refine Z2 (sqr 3 rfl (pur 1 rfl (sp rfl (PE.add rfl rfl (by omega)) rfl (pur 1 rfl ?_))))
 exact Zc ⟨k + 1, by omega, fun y hy => by
   rw [List.take_add_one, hx] at hy
   rcases List.mem_append.1 hy with h1 | h1
   · exact hn y h1
   · rw [List.mem_singleton.1 h1]; exact hc3⟩ (by dsimp only; omega) (by repeat' first | exact Sub.nil | apply Sub.cons | rfl | (simp [lk]; omega)) idH
 obtain rfl : k = fr.length := by omega
 rw [List.take_length] at hn
 have hh : fr.any (ZD to_) = false := List.any_eq_false.2 fun x hx => by rw [hn x hx]; decide
 refine Z7 (Z8 (Z8 (Zl (sqt 1 rfl (pur 1 rfl (Z5 ?_))))))
 exact rtA rfl rfl rfl ⟨by simp only [ZG]; unfold Hse.botE; rw [hck, hc0, hc1, hh]; rfl, rfl, rfl⟩ (fun w h9 => h9.del b3)
set_option maxHeartbeats 400000 in
theorem Z9G (h : Hse) (ag as_ : Option Addr) (cg cs : Nat) (hlg : h.gaps.length ≤ 9223372036854775807) (hls : h.sights.length ≤ 9223372036854775807) (H : Z9) (R : Z6) [hG : MemRows ag 2 (Zd h.gaps) R] [hS : MemRows as_ 3 (Zf h.sights) R] :
    FnV Tryz.prog 16 [h.v (h.sg ag cg) (h.ss as_ cs)] H R (.int .i64 h.check) := by
 refine Zi Tryz.func16 rfl Tryz.ntmps16 rfl ?_
 refine sqt 2 rfl (bx rfl rfl rfl (fun b1 => pur 1 rfl (Z0 (sqt 15 rfl (sp rfl (PE.fA Z3O rfl) rfl (spL rfl rfl (lh (v := .int .i64 h.bins) sc3 rfl rfl) rfl ?_))))))
 refine clV rfl Z5E rfl rfl (Z3v _ _ _ _ _) ?_
 refine pur 1 rfl ?_
 refine Zo 11 rfl ?_ ?_ <;> intro g11
 refine pur 11 rfl ?_
 refine ZQ rfl ?_
 refine sqt 1 rfl (pur 1 rfl (Z5 ?_))
 exact rtA rfl rfl rfl ⟨congrArg (Value.int .i64) ((ck2 (.inl g11)).symm), rfl, rfl⟩ (fun w h9 => h9.del b1)
 refine spG rfl rfl rfl rfl (PE.fA Z1h rfl) rfl ?_
 refine Z0t rfl rfl rfl rfl rfl (lh Z7D rfl rfl) rfl ?_
 refine spG rfl rfl rfl rfl (PE.lenSl Z5v rfl) rfl ?_
 refine pur 3 rfl ?_
 refine Zo 17 rfl ?_ ?_ <;> intro g17
 refine pur 5 rfl ?_
 refine ZQ rfl ?_
 refine sqt 1 rfl (pur 1 rfl (Z5 ?_))
 exact rtA rfl rfl rfl ⟨congrArg (Value.int .i64) ((ck2 (.inr (.inl (by have := of_decide_eq_true g17; omega)))).symm), rfl, rfl⟩ (fun w h9 => h9.del b1)
 refine spG rfl rfl rfl rfl (PE.fA Z3R rfl) rfl ?_
 refine Z0t rfl rfl rfl rfl rfl (lh ZcQ rfl rfl) rfl ?_
 refine spG rfl rfl rfl rfl (PE.lenSl Zej rfl) rfl ?_
 refine pur 2 rfl ?_
 refine Z1 rfl ?_ ?_ <;> intro hc0
 refine sqt 1 rfl (pur 1 rfl (Z5 ?_))
 exact rtA rfl rfl rfl ⟨congrArg (Value.int .i64) ((ck2 (.inr (.inr (by have := of_decide_eq_true hc0; omega)))).symm), rfl, rfl⟩ (fun w h9 => h9.del b1)
 try simp only [cS] at hc0
 have hb7 : inB h.bins 1 7 = true := by rw [← Bool.not_eq_false']; exact g11
 have hgl9 : h.gaps.length ≤ 10 := by first | omega | (simp only [decide_eq_false_iff_not] at g17; omega)
 have hsl9 : h.sights.length ≤ 8 := by omega
 have hbb : 1 ≤ h.bins ∧ h.bins ≤ 7 := by simpa [inB] using hb7
 refine Z2 (sqt 2 rfl (pur 2 rfl (Z0 (sqt 1 rfl (pur 1 rfl (Z3 ?_))))))
 refine Ze (ι := {k : Nat // k ≤ h.gaps.length}) (fun k => ⟨[(1, .pointer (some ⟨b1, 0, none⟩)), (3, .bool (Z2N h k.1)), (4, .bool (Z0R h k.1)), (5, .int .i64 (k.1 : Int))], (b1, cel 35 (htl h (h.sg ag cg) (h.ss as_ cs))) :: H, R⟩) (fun k => h.gaps.length - k.1) ⟨0, Nat.zero_le _⟩ ?_ (fun k => ?_)
 exact Zk idH
 obtain ⟨k, hk⟩ := k
 dsimp only at hk ⊢
 refine Z0 (sqt 5 rfl (pur 1 rfl (sp rfl (PE.fA Z1h rfl) rfl (spL rfl rfl (lh Z7D rfl rfl) rfl (sp rfl (PE.lenSl Z5v rfl) rfl (pur 1 rfl ?_))))))
 refine Z1 rfl ?_ ?_ <;> intro hc1 <;> try simp only [cS] at hc1
 obtain ⟨g, hg⟩ : ∃ g, h.gaps[k]? = some g := ⟨_, List.getElem?_eq_getElem (by omega)⟩
 have e1 : Z2N h (k + 1) = (Z2N h k || (!(inB g.a 0 (h.bins - 1)) || !(inB g.b 0 (h.bins - 1)))) := Z26 hg
 have e2 : Z0R h (k + 1) = (Z0R h k || decide (g.a = g.b)) := Z26 hg
 refine Zg (a := ag) (sz := 2) (rows := Zd h.gaps) (ne0 (by rw [Z0w]; omega)) (fun ba oa he => ?_)
 subst he
 refine Z2 (Z0 (Z3 (sqt 7 rfl (sp rfl (PE.fA Z1h rfl) rfl (spL rfl rfl (lh Z7D rfl rfl) rfl (pur 1 rfl (sp rfl (PE.indexAddr Zfy rfl rfl (by omega) (by omega)) rfl (spL rfl rfl (lfA Zcz (row := grow g) (Z0U hg) rfl) rfl (alc rfl Z9V rfl (fun b6 => ?_))))))))))
 refine ZS (l' := grow g) rfl rfl rfl Zbg rfl rfl rfl rfl (nl rfl) ?_
 refine sqt 18 rfl (pur 2 rfl ?_)
 refine Zo 36 rfl ?_ ?_ <;> intro g36
 refine pur 16 rfl (sqr 9 rfl (pur 2 rfl ?_))
 refine Zo 53 rfl ?_ ?_ <;> intro g53
 refine pur 7 rfl (sqr 3 rfl (pur 1 rfl (sp rfl (PE.add rfl rfl (by omega)) rfl (pur 1 rfl ?_))))
 first
   | exact absurd g44 (by decide)
   | (have f1 : Z2N h (k + 1) = true := by rw [e1, g36]; rfl
      first
        | (have f2 : Z0R h (k + 1) = true := by rw [e2, g53]; rfl
           exact Zc ⟨k + 1, by omega⟩ (by dsimp only; omega) (by rw [f1, f2]; exact (by repeat' first | exact Sub.nil | apply Sub.cons | rfl | (simp [lk]; omega))) (fun w h => h.del b6))
        | (have f2 : Z0R h (k + 1) = decide (g.a = g.b) := by rw [e2, g53]; rfl
           exact Zc ⟨k + 1, by omega⟩ (by dsimp only; omega) (by rw [f1, f2]; exact (by repeat' first | exact Sub.nil | apply Sub.cons | rfl | (simp [lk]; omega))) (fun w h => h.del b6)))
   | (have f1 : Z2N h (k + 1) = true := by rw [e1, g36, g44]; rfl
      first
        | (have f2 : Z0R h (k + 1) = true := by rw [e2, g53]; rfl
           exact Zc ⟨k + 1, by omega⟩ (by dsimp only; omega) (by rw [f1, f2]; exact (by repeat' first | exact Sub.nil | apply Sub.cons | rfl | (simp [lk]; omega))) (fun w h => h.del b6))
        | (have f2 : Z0R h (k + 1) = decide (g.a = g.b) := by rw [e2, g53]; rfl
           exact Zc ⟨k + 1, by omega⟩ (by dsimp only; omega) (by rw [f1, f2]; exact (by repeat' first | exact Sub.nil | apply Sub.cons | rfl | (simp [lk]; omega))) (fun w h => h.del b6)))
   | (have f1 : Z2N h (k + 1) = !(inB g.b 0 (h.bins - 1)) := by rw [e1, g36, g44]; rfl
      first
        | (have f2 : Z0R h (k + 1) = true := by rw [e2, g53]; rfl
           exact Zc ⟨k + 1, by omega⟩ (by dsimp only; omega) (by rw [f1, f2]; exact (by repeat' first | exact Sub.nil | apply Sub.cons | rfl | (simp [lk]; omega))) (fun w h => h.del b6))
        | (have f2 : Z0R h (k + 1) = decide (g.a = g.b) := by rw [e2, g53]; rfl
           exact Zc ⟨k + 1, by omega⟩ (by dsimp only; omega) (by rw [f1, f2]; exact (by repeat' first | exact Sub.nil | apply Sub.cons | rfl | (simp [lk]; omega))) (fun w h => h.del b6)))
 refine spG rfl rfl rfl rfl (PE.fA Z00 rfl) rfl ?_
 refine Z0t rfl rfl rfl rfl rfl (lh sc3 rfl rfl) rfl ?_
 refine spG rfl rfl rfl rfl (PE.fA Z0m rfl) rfl ?_
 refine Z0t rfl rfl rfl rfl rfl (lh sc3 rfl rfl) rfl (pur 3 rfl (sqr 3 rfl (pur 1 rfl (sp rfl (PE.add rfl rfl (by omega)) rfl (pur 1 rfl ?_)))))
 first
   | exact absurd g44 (by decide)
   | (have f1 : Z2N h (k + 1) = true := by rw [e1, g36]; rfl
      first
        | (have f2 : Z0R h (k + 1) = true := by rw [e2, g53]; rfl
           exact Zc ⟨k + 1, by omega⟩ (by dsimp only; omega) (by rw [f1, f2]; exact (by repeat' first | exact Sub.nil | apply Sub.cons | rfl | (simp [lk]; omega))) (fun w h => h.del b6))
        | (have f2 : Z0R h (k + 1) = decide (g.a = g.b) := by rw [e2, g53]; rfl
           exact Zc ⟨k + 1, by omega⟩ (by dsimp only; omega) (by rw [f1, f2]; exact (by repeat' first | exact Sub.nil | apply Sub.cons | rfl | (simp [lk]; omega))) (fun w h => h.del b6)))
   | (have f1 : Z2N h (k + 1) = true := by rw [e1, g36, g44]; rfl
      first
        | (have f2 : Z0R h (k + 1) = true := by rw [e2, g53]; rfl
           exact Zc ⟨k + 1, by omega⟩ (by dsimp only; omega) (by rw [f1, f2]; exact (by repeat' first | exact Sub.nil | apply Sub.cons | rfl | (simp [lk]; omega))) (fun w h => h.del b6))
        | (have f2 : Z0R h (k + 1) = decide (g.a = g.b) := by rw [e2, g53]; rfl
           exact Zc ⟨k + 1, by omega⟩ (by dsimp only; omega) (by rw [f1, f2]; exact (by repeat' first | exact Sub.nil | apply Sub.cons | rfl | (simp [lk]; omega))) (fun w h => h.del b6)))
   | (have f1 : Z2N h (k + 1) = !(inB g.b 0 (h.bins - 1)) := by rw [e1, g36, g44]; rfl
      first
        | (have f2 : Z0R h (k + 1) = true := by rw [e2, g53]; rfl
           exact Zc ⟨k + 1, by omega⟩ (by dsimp only; omega) (by rw [f1, f2]; exact (by repeat' first | exact Sub.nil | apply Sub.cons | rfl | (simp [lk]; omega))) (fun w h => h.del b6))
        | (have f2 : Z0R h (k + 1) = decide (g.a = g.b) := by rw [e2, g53]; rfl
           exact Zc ⟨k + 1, by omega⟩ (by dsimp only; omega) (by rw [f1, f2]; exact (by repeat' first | exact Sub.nil | apply Sub.cons | rfl | (simp [lk]; omega))) (fun w h => h.del b6)))
 refine spG rfl rfl rfl rfl (PE.fA Z00 rfl) rfl ?_
 refine Z0t rfl rfl rfl rfl rfl (lh sc3 rfl rfl) rfl ?_
 refine spG rfl rfl rfl rfl (PE.fA Z3O rfl) rfl ?_
 refine Z0t rfl rfl rfl rfl rfl (lh (v := .int .i64 h.bins) sc3 rfl rfl) rfl ?_
 refine spG rfl rfl rfl rfl (PE.sub rfl rfl (by omega)) rfl ?_
 refine Z22 rfl rfl rfl rfl Z5E rfl rfl (Z3v _ _ _ _ _) ?_
 refine pur 2 rfl ?_
 refine Zo 44 rfl ?_ ?_ <;> intro g44
 refine pur 8 rfl (sqr 9 rfl (pur 2 rfl ?_))
 refine Zo 53 rfl ?_ ?_ <;> intro g53
 refine pur 7 rfl (sqr 3 rfl (pur 1 rfl (sp rfl (PE.add rfl rfl (by omega)) rfl (pur 1 rfl ?_))))
 first
   | exact absurd g44 (by decide)
   | (have f1 : Z2N h (k + 1) = true := by rw [e1, g36]; rfl
      first
        | (have f2 : Z0R h (k + 1) = true := by rw [e2, g53]; rfl
           exact Zc ⟨k + 1, by omega⟩ (by dsimp only; omega) (by rw [f1, f2]; exact (by repeat' first | exact Sub.nil | apply Sub.cons | rfl | (simp [lk]; omega))) (fun w h => h.del b6))
        | (have f2 : Z0R h (k + 1) = decide (g.a = g.b) := by rw [e2, g53]; rfl
           exact Zc ⟨k + 1, by omega⟩ (by dsimp only; omega) (by rw [f1, f2]; exact (by repeat' first | exact Sub.nil | apply Sub.cons | rfl | (simp [lk]; omega))) (fun w h => h.del b6)))
   | (have f1 : Z2N h (k + 1) = true := by rw [e1, g36, g44]; rfl
      first
        | (have f2 : Z0R h (k + 1) = true := by rw [e2, g53]; rfl
           exact Zc ⟨k + 1, by omega⟩ (by dsimp only; omega) (by rw [f1, f2]; exact (by repeat' first | exact Sub.nil | apply Sub.cons | rfl | (simp [lk]; omega))) (fun w h => h.del b6))
        | (have f2 : Z0R h (k + 1) = decide (g.a = g.b) := by rw [e2, g53]; rfl
           exact Zc ⟨k + 1, by omega⟩ (by dsimp only; omega) (by rw [f1, f2]; exact (by repeat' first | exact Sub.nil | apply Sub.cons | rfl | (simp [lk]; omega))) (fun w h => h.del b6)))
   | (have f1 : Z2N h (k + 1) = !(inB g.b 0 (h.bins - 1)) := by rw [e1, g36, g44]; rfl
      first
        | (have f2 : Z0R h (k + 1) = true := by rw [e2, g53]; rfl
           exact Zc ⟨k + 1, by omega⟩ (by dsimp only; omega) (by rw [f1, f2]; exact (by repeat' first | exact Sub.nil | apply Sub.cons | rfl | (simp [lk]; omega))) (fun w h => h.del b6))
        | (have f2 : Z0R h (k + 1) = decide (g.a = g.b) := by rw [e2, g53]; rfl
           exact Zc ⟨k + 1, by omega⟩ (by dsimp only; omega) (by rw [f1, f2]; exact (by repeat' first | exact Sub.nil | apply Sub.cons | rfl | (simp [lk]; omega))) (fun w h => h.del b6)))
 refine spG rfl rfl rfl rfl (PE.fA Z00 rfl) rfl ?_
 refine Z0t rfl rfl rfl rfl rfl (lh sc3 rfl rfl) rfl ?_
 refine spG rfl rfl rfl rfl (PE.fA Z0m rfl) rfl ?_
 refine Z0t rfl rfl rfl rfl rfl (lh sc3 rfl rfl) rfl (pur 3 rfl (sqr 3 rfl (pur 1 rfl (sp rfl (PE.add rfl rfl (by omega)) rfl (pur 1 rfl ?_)))))
 first
   | exact absurd g44 (by decide)
   | (have f1 : Z2N h (k + 1) = true := by rw [e1, g36]; rfl
      first
        | (have f2 : Z0R h (k + 1) = true := by rw [e2, g53]; rfl
           exact Zc ⟨k + 1, by omega⟩ (by dsimp only; omega) (by rw [f1, f2]; exact (by repeat' first | exact Sub.nil | apply Sub.cons | rfl | (simp [lk]; omega))) (fun w h => h.del b6))
        | (have f2 : Z0R h (k + 1) = decide (g.a = g.b) := by rw [e2, g53]; rfl
           exact Zc ⟨k + 1, by omega⟩ (by dsimp only; omega) (by rw [f1, f2]; exact (by repeat' first | exact Sub.nil | apply Sub.cons | rfl | (simp [lk]; omega))) (fun w h => h.del b6)))
   | (have f1 : Z2N h (k + 1) = true := by rw [e1, g36, g44]; rfl
      first
        | (have f2 : Z0R h (k + 1) = true := by rw [e2, g53]; rfl
           exact Zc ⟨k + 1, by omega⟩ (by dsimp only; omega) (by rw [f1, f2]; exact (by repeat' first | exact Sub.nil | apply Sub.cons | rfl | (simp [lk]; omega))) (fun w h => h.del b6))
        | (have f2 : Z0R h (k + 1) = decide (g.a = g.b) := by rw [e2, g53]; rfl
           exact Zc ⟨k + 1, by omega⟩ (by dsimp only; omega) (by rw [f1, f2]; exact (by repeat' first | exact Sub.nil | apply Sub.cons | rfl | (simp [lk]; omega))) (fun w h => h.del b6)))
   | (have f1 : Z2N h (k + 1) = !(inB g.b 0 (h.bins - 1)) := by rw [e1, g36, g44]; rfl
      first
        | (have f2 : Z0R h (k + 1) = true := by rw [e2, g53]; rfl
           exact Zc ⟨k + 1, by omega⟩ (by dsimp only; omega) (by rw [f1, f2]; exact (by repeat' first | exact Sub.nil | apply Sub.cons | rfl | (simp [lk]; omega))) (fun w h => h.del b6))
        | (have f2 : Z0R h (k + 1) = decide (g.a = g.b) := by rw [e2, g53]; rfl
           exact Zc ⟨k + 1, by omega⟩ (by dsimp only; omega) (by rw [f1, f2]; exact (by repeat' first | exact Sub.nil | apply Sub.cons | rfl | (simp [lk]; omega))) (fun w h => h.del b6)))
 refine spG rfl rfl rfl rfl (PE.fA Z0m rfl) rfl ?_
 refine Z0t rfl rfl rfl rfl rfl (lh sc3 rfl rfl) rfl ?_
 refine spG rfl rfl rfl rfl (PE.fA Z3O rfl) rfl ?_
 refine Z0t rfl rfl rfl rfl rfl (lh (v := .int .i64 h.bins) sc3 rfl rfl) rfl ?_
 refine spG rfl rfl rfl rfl (PE.sub rfl rfl (by omega)) rfl ?_
 refine Z22 rfl rfl rfl rfl Z5E rfl rfl (Z3v _ _ _ _ _) ?_
 refine pur 2 rfl (sqr 9 rfl (pur 2 rfl ?_))
 refine Zo 53 rfl ?_ ?_ <;> intro g53
 refine pur 7 rfl (sqr 3 rfl (pur 1 rfl (sp rfl (PE.add rfl rfl (by omega)) rfl (pur 1 rfl ?_))))
 first
   | exact absurd g44 (by decide)
   | (have f1 : Z2N h (k + 1) = true := by rw [e1, g36]; rfl
      first
        | (have f2 : Z0R h (k + 1) = true := by rw [e2, g53]; rfl
           exact Zc ⟨k + 1, by omega⟩ (by dsimp only; omega) (by rw [f1, f2]; exact (by repeat' first | exact Sub.nil | apply Sub.cons | rfl | (simp [lk]; omega))) (fun w h => h.del b6))
        | (have f2 : Z0R h (k + 1) = decide (g.a = g.b) := by rw [e2, g53]; rfl
           exact Zc ⟨k + 1, by omega⟩ (by dsimp only; omega) (by rw [f1, f2]; exact (by repeat' first | exact Sub.nil | apply Sub.cons | rfl | (simp [lk]; omega))) (fun w h => h.del b6)))
   | (have f1 : Z2N h (k + 1) = true := by rw [e1, g36, g44]; rfl
      first
        | (have f2 : Z0R h (k + 1) = true := by rw [e2, g53]; rfl
           exact Zc ⟨k + 1, by omega⟩ (by dsimp only; omega) (by rw [f1, f2]; exact (by repeat' first | exact Sub.nil | apply Sub.cons | rfl | (simp [lk]; omega))) (fun w h => h.del b6))
        | (have f2 : Z0R h (k + 1) = decide (g.a = g.b) := by rw [e2, g53]; rfl
           exact Zc ⟨k + 1, by omega⟩ (by dsimp only; omega) (by rw [f1, f2]; exact (by repeat' first | exact Sub.nil | apply Sub.cons | rfl | (simp [lk]; omega))) (fun w h => h.del b6)))
   | (have f1 : Z2N h (k + 1) = !(inB g.b 0 (h.bins - 1)) := by rw [e1, g36, g44]; rfl
      first
        | (have f2 : Z0R h (k + 1) = true := by rw [e2, g53]; rfl
           exact Zc ⟨k + 1, by omega⟩ (by dsimp only; omega) (by rw [f1, f2]; exact (by repeat' first | exact Sub.nil | apply Sub.cons | rfl | (simp [lk]; omega))) (fun w h => h.del b6))
        | (have f2 : Z0R h (k + 1) = decide (g.a = g.b) := by rw [e2, g53]; rfl
           exact Zc ⟨k + 1, by omega⟩ (by dsimp only; omega) (by rw [f1, f2]; exact (by repeat' first | exact Sub.nil | apply Sub.cons | rfl | (simp [lk]; omega))) (fun w h => h.del b6)))
 refine spG rfl rfl rfl rfl (PE.fA Z00 rfl) rfl ?_
 refine Z0t rfl rfl rfl rfl rfl (lh sc3 rfl rfl) rfl ?_
 refine spG rfl rfl rfl rfl (PE.fA Z0m rfl) rfl ?_
 refine Z0t rfl rfl rfl rfl rfl (lh sc3 rfl rfl) rfl (pur 3 rfl (sqr 3 rfl (pur 1 rfl (sp rfl (PE.add rfl rfl (by omega)) rfl (pur 1 rfl ?_)))))
 first
   | exact absurd g44 (by decide)
   | (have f1 : Z2N h (k + 1) = true := by rw [e1, g36]; rfl
      first
        | (have f2 : Z0R h (k + 1) = true := by rw [e2, g53]; rfl
           exact Zc ⟨k + 1, by omega⟩ (by dsimp only; omega) (by rw [f1, f2]; exact (by repeat' first | exact Sub.nil | apply Sub.cons | rfl | (simp [lk]; omega))) (fun w h => h.del b6))
        | (have f2 : Z0R h (k + 1) = decide (g.a = g.b) := by rw [e2, g53]; rfl
           exact Zc ⟨k + 1, by omega⟩ (by dsimp only; omega) (by rw [f1, f2]; exact (by repeat' first | exact Sub.nil | apply Sub.cons | rfl | (simp [lk]; omega))) (fun w h => h.del b6)))
   | (have f1 : Z2N h (k + 1) = true := by rw [e1, g36, g44]; rfl
      first
        | (have f2 : Z0R h (k + 1) = true := by rw [e2, g53]; rfl
           exact Zc ⟨k + 1, by omega⟩ (by dsimp only; omega) (by rw [f1, f2]; exact (by repeat' first | exact Sub.nil | apply Sub.cons | rfl | (simp [lk]; omega))) (fun w h => h.del b6))
        | (have f2 : Z0R h (k + 1) = decide (g.a = g.b) := by rw [e2, g53]; rfl
           exact Zc ⟨k + 1, by omega⟩ (by dsimp only; omega) (by rw [f1, f2]; exact (by repeat' first | exact Sub.nil | apply Sub.cons | rfl | (simp [lk]; omega))) (fun w h => h.del b6)))
   | (have f1 : Z2N h (k + 1) = !(inB g.b 0 (h.bins - 1)) := by rw [e1, g36, g44]; rfl
      first
        | (have f2 : Z0R h (k + 1) = true := by rw [e2, g53]; rfl
           exact Zc ⟨k + 1, by omega⟩ (by dsimp only; omega) (by rw [f1, f2]; exact (by repeat' first | exact Sub.nil | apply Sub.cons | rfl | (simp [lk]; omega))) (fun w h => h.del b6))
        | (have f2 : Z0R h (k + 1) = decide (g.a = g.b) := by rw [e2, g53]; rfl
           exact Zc ⟨k + 1, by omega⟩ (by dsimp only; omega) (by rw [f1, f2]; exact (by repeat' first | exact Sub.nil | apply Sub.cons | rfl | (simp [lk]; omega))) (fun w h => h.del b6)))
 obtain rfl : k = h.gaps.length := by omega
 refine Z7 (Z8 (Z8 (Zl (Z0 (sqt 1 rfl (pur 1 rfl (Z3 ?_)))))))
 refine Ze (ι := {k : Nat // k ≤ h.sights.length ∧ ∀ x ∈ h.sights.take k, inB x.week 0 9 = true}) (fun k => ⟨[(1, .pointer (some ⟨b1, 0, none⟩)), (3, .bool (Z2N h h.gaps.length || ZcC h k.1)), (4, .bool (Z0R h h.gaps.length)), (7, .int .i64 (k.1 : Int))], (b1, cel 35 (htl h (h.sg ag cg) (h.ss as_ cs))) :: H, R⟩) (fun k => h.sights.length - k.1) ⟨0, Nat.zero_le _, by simp⟩ ?_ (fun k => ?_)
 exact Z9U (by rw [show ZcC h 0 = false from rfl, Bool.or_false]; exact (by repeat' first | exact Sub.nil | apply Sub.cons | rfl | (simp [lk]; omega))) idH
 obtain ⟨k, hk, hwk⟩ := k
 dsimp only at hk hwk ⊢
 refine Z0 (sqt 5 rfl (pur 1 rfl (sp rfl (PE.fA Z3R rfl) rfl (spL rfl rfl (lh ZcQ rfl rfl) rfl (sp rfl (PE.lenSl Zej rfl) rfl (pur 1 rfl ?_))))))
 refine Z1 rfl ?_ ?_ <;> intro hc2 <;> try simp only [cS] at hc2
 obtain ⟨x, hx⟩ : ∃ x, h.sights[k]? = some x := ⟨_, List.getElem?_eq_getElem (by omega)⟩
 have e3 : ZcC h (k + 1) = (ZcC h k || !(inB x.bin 0 (h.bins - 1))) := Z26 hx
 refine Zg (a := as_) (sz := 3) (rows := Zf h.sights) (ne0 (by rw [Z2d]; omega)) (fun bs os he => ?_)
 subst he
 refine Z2 (Z0 (Z3 (Z0 (sqt 7 rfl (sp rfl (PE.fA Z3R rfl) rfl (spL rfl rfl (lh ZcQ rfl rfl) rfl (pur 1 rfl (sp rfl (PE.indexAddr ZfB rfl rfl (by omega) (by omega)) rfl (sp rfl (PE.fA Zc8 rfl) rfl (spL rfl rfl (lf (j := 0) sc3 (Z60 hx) rfl) rfl ?_))))))))))
 refine clV rfl Z5E rfl rfl (Z3v _ _ _ _ _) ?_
 refine Z1 rfl ?_ ?_ <;> intro hc3
 refine sqt 1 rfl (pur 1 rfl (Z5 ?_))
 exact rtA rfl rfl rfl ⟨congrArg (Value.int .i64) ((ck3 hb7 (by omega) (by omega) (List.mem_of_getElem? hx) hc3).symm), rfl, rfl⟩ (fun w h9 => h9.del b1)
 refine Z2 ?_
 refine Zn [0, 1, 3, 7, 3, 31, 63, 127, 3, 259, 771, 2047, 4095, 8191] (tks 0 3 (.ld 3 (tks 4 3 (.ld 7 (.tk 8 (.ld 9 (.tk 10 (.big 11 (.tk 12 (.tk 13 .done)))))))))) ZC (by kernel_rfl) ?_
 refine Zy 2 rfl ?_
 refine Zo 75 rfl ?_ ?_ <;> intro g75
 refine Zy 1 rfl ?_
 refine ldN rfl rfl rfl rfl rfl rfl rfl rfl ?_
 refine Zy 3 rfl ?_
 refine ldN rfl rfl rfl rfl rfl rfl rfl rfl ?_
 refine Zy 1 rfl ?_
 refine ldN rfl rfl rfl rfl rfl rfl rfl rfl ?_
 refine Zy 1 rfl ?_
 refine spN rfl rfl rfl rfl rfl rfl rfl rfl ?_
 refine bgT (Zy 2 rfl (sqr 3 rfl (pur 1 rfl (sp rfl (PE.add rfl rfl (by omega)) rfl (pur 1 rfl ?_)))))
 exact Zc ⟨k + 1, by omega, fun y hy => by
   rw [List.take_add_one, hx] at hy
   rcases List.mem_append.1 hy with h1 | h1
   · exact hwk y h1
   · rw [List.mem_singleton.1 h1, ← Bool.not_eq_false']; exact hc3⟩ (by dsimp only; omega) (by simp only [e3, ← Bool.or_assoc]; first | (rw [g75, Bool.true_or]; exact (by repeat' first | exact Sub.nil | apply Sub.cons | rfl | (simp [lk]; omega))) | (rw [g75, Bool.false_or]; exact (by repeat' first | exact Sub.nil | apply Sub.cons | rfl | (simp [lk]; omega)))) idH
 refine tkG rfl rfl rfl rfl (PE.fA Z3R rfl) rfl ?_
 refine ldG rfl rfl rfl rfl rfl (lh ZcQ rfl rfl) rfl (Zy 1 rfl ?_)
 refine tkG rfl rfl rfl rfl (PE.indexAddr ZfB rfl rfl (by omega) (by omega)) rfl ?_
 refine tkG rfl rfl rfl rfl (PE.fA ZbK rfl) rfl ?_
 refine ldG rfl rfl rfl rfl rfl (lf (j := 1) sc3 (Z60 hx) rfl) rfl ?_
 refine tkG rfl rfl rfl rfl (PE.fA Z3O rfl) rfl ?_
 refine ldG rfl rfl rfl rfl rfl (lh (v := .int .i64 h.bins) sc3 rfl rfl) rfl ?_
 refine tkG rfl rfl rfl rfl (PE.sub rfl rfl (by omega)) rfl ?_
 refine Z22 rfl rfl rfl rfl Z5E rfl rfl (Z3v _ _ _ _ _) ?_
 refine bgT (Zy 2 rfl (sqr 3 rfl (pur 1 rfl (sp rfl (PE.add rfl rfl (by omega)) rfl (pur 1 rfl ?_)))))
 exact Zc ⟨k + 1, by omega, fun y hy => by
   rw [List.take_add_one, hx] at hy
   rcases List.mem_append.1 hy with h1 | h1
   · exact hwk y h1
   · rw [List.mem_singleton.1 h1, ← Bool.not_eq_false']; exact hc3⟩ (by dsimp only; omega) (by simp only [e3, ← Bool.or_assoc]; first | (rw [g75, Bool.true_or]; exact (by repeat' first | exact Sub.nil | apply Sub.cons | rfl | (simp [lk]; omega))) | (rw [g75, Bool.false_or]; exact (by repeat' first | exact Sub.nil | apply Sub.cons | rfl | (simp [lk]; omega)))) idH
 obtain rfl : k = h.sights.length := by omega
 have hcr := Zbo hb7 (by omega) (by omega) (Zca hwk)
 refine Z7 (Z8 (Z8 (Zl (Z0 (sqt 1 rfl (pur 1 rfl ?_))))))
 refine Z1 rfl ?_ ?_ <;> intro hc4
 refine sqt 1 rfl (pur 1 rfl (Z5 ?_))
 exact rtA rfl rfl rfl ⟨congrArg (Value.int .i64) (by rw [hcr, hc4]; rfl), rfl, rfl⟩ (fun w h9 => h9.del b1)
 refine Z2 (Z0 (sqt 1 rfl (pur 1 rfl ?_)))
 refine Z1 rfl ?_ ?_ <;> intro hc5
 refine sqt 1 rfl (pur 1 rfl (Z5 ?_))
 exact rtA rfl rfl rfl ⟨congrArg (Value.int .i64) (by rw [hcr, hc4, hc5]; rfl), rfl, rfl⟩ (fun w h9 => h9.del b1)
 refine Z2 (sqt 1 rfl (pur 1 rfl (Z5 ?_)))
 exact rtA rfl rfl rfl ⟨congrArg (Value.int .i64) (by rw [hcr, hc4, hc5]; rfl), rfl, rfl⟩ (fun w h9 => h9.del b1)
set_option maxHeartbeats 600000 in
theorem ZcA (h : Hse) (ag as_ : Option Addr) (cg cs : Nat) (hgl : h.gaps.length ≤ 10) (now cz : List Int) (an ac : Option Addr) (cn cc : Nat) (hnl : now.length ≤ 1000000) (hcl : cz.length ≤ 1000000) (H : Z9) (R : Z6) [hG : MemRows ag 2 (Zd h.gaps) R] [hN : MemRows an 1 (Z4 now) R] [hC : MemRows ac 1 (Z4 cz) R] :
    Fn Tryz.prog 76 [h.v (h.sg ag cg) (h.ss as_ cs), .slice an now.length cn, .slice ac cz.length cc] H R (fun v H' R' => ∃ a c, v = .slice a (Z0h h.gaps cz now).length c ∧ (Z0h h.gaps cz now).length ≤ c ∧ H' = H ∧ R' = RowsA a 1 (Z4 (Z0h h.gaps cz now)) :: R) := by
 refine Zi Tryz.func76 rfl Tryz.ntmps76 rfl ?_
 refine sqt 2 rfl (bx rfl rfl rfl (fun b3 => pur 1 rfl (sqt 4 rfl ?_)))
 refine ZcF rfl Z0D rfl (fun o10 ho10 => ?_)
 refine pur 1 rfl ?_
 refine apO (news := Z4 now) o10 rfl Z21 rfl rfl (Z3r) (irl _) (by simp [ZA, Z4, Value.oneCell']) (by rw [irl]; simp only [List.length_nil]; omega) rfl (fun o12 => ?_)
 refine pur 1 rfl (Z0 (sqt 1 rfl (pur 1 rfl (Z3 ?_))))
 refine Ze (ι := (i : {i : Nat // i ≤ h.gaps.length}) × OSl 3 1 (Z4 (nxt h.gaps cz now (i.1)))) (fun y => ⟨[(1, .slice an now.length cn), (2, .slice ac cz.length cc), (3, .pointer (some ⟨b3, 0, none⟩)), (7, y.2.fs), (8, .int .i64 (y.1.1 : Int))], y.2.G ++ ((b3, cel 35 (htl h (h.sg ag cg) (h.ss as_ cs))) :: H), R⟩) (fun y => h.gaps.length - y.1.1) ⟨⟨0, Nat.zero_le _⟩, o12.cast (by simp [nxt, Z4])⟩ ?_ (fun y => ?_)
 exact Zk idH
 obtain ⟨⟨i, hi⟩, o⟩ := y
 dsimp only at hi o ⊢
 have hnx := Z3w h.gaps cz now i
 have hnx2 := Z3w h.gaps cz now (i + 1)
 refine Z0 (sqt 5 rfl (pur 1 rfl (sp rfl (PE.fA Z1h rfl) rfl (spL rfl rfl (lh Z7D rfl rfl) rfl (sp rfl (PE.lenSl Z5v rfl) rfl (pur 1 rfl ?_))))))
 refine Z1 rfl ?_ ?_ <;> intro hc0 <;> try simp only [cS] at hc0
 obtain ⟨g, hg⟩ : ∃ g, h.gaps[i]? = some g := ⟨_, List.getElem?_eq_getElem (by omega)⟩
 refine Zg (a := ag) (sz := 2) (rows := Zd h.gaps) (ne0 (by rw [Z0w]; omega)) (fun ba oa he => ?_)
 subst he
 refine Z2 (Z0 (Z3 (sqt 7 rfl (sp rfl (PE.fA Z1h rfl) rfl (spL rfl rfl (lh Z7D rfl rfl) rfl (pur 1 rfl (sp rfl (PE.indexAddr Zfy rfl rfl (by omega) (by omega)) rfl (spL rfl rfl (lfA Zcz (row := grow g) (Z0U hg) rfl) rfl (alc rfl Z9V rfl (fun b9 => ?_))))))))))
 refine ZS (l' := grow g) rfl rfl rfl Zbg rfl rfl rfl rfl (nl rfl) ?_
 refine Z0 (sqt 3 rfl (pur 2 rfl ?_))
 refine clV rfl Z0Z rfl rfl (Z04 cz ac cc (i : Int) (by omega) _ _) ?_
 refine Z1 rfl ?_ ?_ <;> intro hc1 <;> try simp only [cS] at hc1
 refine Z7 (Z8 (Zl (sqr 3 rfl (pur 1 rfl (sp rfl (PE.add rfl rfl (by omega)) rfl (pur 1 rfl ?_))))))
 exact Za ⟨⟨i + 1, by omega⟩, o.cast (by rw [Z6p hg hc1])⟩ (fun w h9 => h9.del b9)
 have hop := Z5N (now := now) hg hc1
 have hx1 : (nx1 h.gaps cz now i g).length ≤ now.length + 2 * i + 1 := by unfold nx1; cases ZD now g.a && !ZD (nxt h.gaps cz now i) g.b <;> simp <;> omega
 refine Sy.heap (H' := o.G ++ ((b9, cel 110 (grow g)) :: _)) (fun w h9 => h9.perm (Zr [_] _ _)) ?_
 refine Z2 (Z0 (sqt 11 rfl (pur 1 rfl (sp rfl (PE.fA Z00 rfl) rfl (spL rfl rfl (lh sc3 rfl rfl) rfl ?_)))))
 refine clV rfl Z0Z rfl rfl (Z04 now an cn g.a (by omega) _ _) ?_
 refine pur 1 rfl ?_
 refine Zo 32 rfl ?_ ?_ <;> intro g32
 refine pur 1 rfl ?_
 refine spG rfl rfl rfl rfl (PE.fA Z0m rfl) rfl ?_
 refine Z0t rfl rfl rfl rfl rfl (lh sc3 rfl rfl) rfl ?_
 refine Z22 rfl rfl rfl rfl Z0Z rfl rfl (FnV.lendO o (fun v => [v, .int .i64 g.b]) (fun a5 c5 _ => by rw [irl]; exact Z04 (nxt h.gaps cz now (i)) a5 c5 g.b (by omega) _ _)) ?_
 refine pur 2 rfl ?_
 refine Z0c (ι := OSl 3 1 (Z4 (nx1 h.gaps cz now i g))) (fun o => ⟨[(1, .slice an now.length cn), (2, .slice ac cz.length cc), (3, .pointer (some ⟨b3, 0, none⟩)), (7, o.fs), (8, .int .i64 (i : Int)), (9, .pointer (some ⟨b9, 0, none⟩))], o.G ++ ((b9, cel 110 (grow g)) :: (b3, cel 35 (htl h (h.sg (some ⟨ba, oa, none⟩) cg) (h.ss as_ cs))) :: H), R⟩) ?_ ?_
 refine Z1 rfl ?_ ?_ <;> intro hc2
 refine sqr 6 rfl (pur 1 rfl (sp rfl (PE.fA Z0m rfl) rfl (spL rfl rfl (lh sc3 rfl rfl) rfl ?_)))
 refine bsl (out := [_]) rfl Z0D zl3 rfl rfl rfl rfl rfl rfl (fun b42 => ?_)
 refine apO (o) rfl Z21 rfl rfl (Z0A (row := [.int .i64 g.b]) rfl) rfl rfl ((by rw [irl]; simp only [List.length_singleton]; omega)) rfl (fun o43 => ?_)
 refine pur 1 rfl ?_
 first | exact Zq (o43.cast (by unfold nx1; simp [Z4, *])) (fun w h9 => h9.del b42) | exact Zq (o.cast (by unfold nx1; simp [Z4, *])) idH
 refine Z2 ?_
 first | exact Zq (o43.cast (by unfold nx1; simp [Z4, *])) (fun w h9 => h9.del b42) | exact Zq (o.cast (by unfold nx1; simp [Z4, *])) idH
 clear hnx2
 intro o
 dsimp only
 refine sqt 11 rfl (pur 1 rfl (sp rfl (PE.fA Z0m rfl) rfl (spL rfl rfl (lh sc3 rfl rfl) rfl ?_)))
 refine clV rfl Z0Z rfl rfl (Z04 now an cn g.b (by omega) _ _) ?_
 refine pur 1 rfl ?_
 refine Zo 48 rfl ?_ ?_ <;> intro g48
 refine pur 1 rfl ?_
 refine spG rfl rfl rfl rfl (PE.fA Z00 rfl) rfl ?_
 refine Z0t rfl rfl rfl rfl rfl (lh sc3 rfl rfl) rfl ?_
 refine Z22 rfl rfl rfl rfl Z0Z rfl rfl (FnV.lendO o (fun v => [v, .int .i64 g.a]) (fun a5 c5 _ => by rw [irl]; exact Z04 (nx1 h.gaps cz now i g) a5 c5 g.a (by omega) _ _)) ?_
 refine pur 2 rfl ?_
 refine Z1 rfl ?_ ?_ <;> intro hc3
 refine sqr 6 rfl (pur 1 rfl (sp rfl (PE.fA Z00 rfl) rfl (spL rfl rfl (lh sc3 rfl rfl) rfl ?_)))
 refine bsl (out := [_]) rfl Z0D zl3 rfl rfl rfl rfl rfl rfl (fun b58 => ?_)
 refine apO (o) rfl Z21 rfl rfl (Z0A (row := [.int .i64 g.a]) rfl) rfl rfl ((by rw [irl]; simp only [List.length_singleton]; omega)) rfl (fun o59 => ?_)
 refine pur 1 rfl (sqr 3 rfl (pur 1 rfl (sp rfl (PE.add rfl rfl (by omega)) rfl (pur 1 rfl ?_))))
 first | exact Zb ⟨⟨i + 1, by omega⟩, o59.cast (by rw [hop]; simp [Z4, *])⟩ (by dsimp only; omega) (fun w h9 => ((h9.del b58).del b9)) | exact Zb ⟨⟨i + 1, by omega⟩, o.cast (by rw [hop]; simp [Z4, *])⟩ (by dsimp only; omega) (fun w h9 => h9.del b9)
 refine Z2 (sqr 3 rfl (pur 1 rfl (sp rfl (PE.add rfl rfl (by omega)) rfl (pur 1 rfl ?_))))
 first | exact Zb ⟨⟨i + 1, by omega⟩, o59.cast (by rw [hop]; simp [Z4, *])⟩ (by dsimp only; omega) (fun w h9 => ((h9.del b58).del b9)) | exact Zb ⟨⟨i + 1, by omega⟩, o.cast (by rw [hop]; simp [Z4, *])⟩ (by dsimp only; omega) (fun w h9 => h9.del b9)
 refine pur 6 rfl ?_
 refine Zz rfl ?_
 refine Z2 (sqr 3 rfl (pur 1 rfl (sp rfl (PE.add rfl rfl (by omega)) rfl (pur 1 rfl ?_))))
 first | exact Zb ⟨⟨i + 1, by omega⟩, o59.cast (by rw [hop]; simp [Z4, *])⟩ (by dsimp only; omega) (fun w h9 => ((h9.del b58).del b9)) | exact Zb ⟨⟨i + 1, by omega⟩, o.cast (by rw [hop]; simp [Z4, *])⟩ (by dsimp only; omega) (fun w h9 => h9.del b9)
 refine pur 6 rfl ?_
 refine Z0c (ι := OSl 3 1 (Z4 (nx1 h.gaps cz now i g))) (fun o => ⟨[(1, .slice an now.length cn), (2, .slice ac cz.length cc), (3, .pointer (some ⟨b3, 0, none⟩)), (7, o.fs), (8, .int .i64 (i : Int)), (9, .pointer (some ⟨b9, 0, none⟩))], o.G ++ ((b9, cel 110 (grow g)) :: (b3, cel 35 (htl h (h.sg (some ⟨ba, oa, none⟩) cg) (h.ss as_ cs))) :: H), R⟩) ?_ ?_
 refine Zz rfl ?_
 refine Z2 ?_
 first | exact Zq (o43.cast (by unfold nx1; simp [Z4, *])) (fun w h9 => h9.del b42) | exact Zq (o.cast (by unfold nx1; simp [Z4, *])) idH
 clear hnx2
 intro o
 dsimp only
 refine sqt 11 rfl (pur 1 rfl (sp rfl (PE.fA Z0m rfl) rfl (spL rfl rfl (lh sc3 rfl rfl) rfl ?_)))
 refine clV rfl Z0Z rfl rfl (Z04 now an cn g.b (by omega) _ _) ?_
 refine pur 1 rfl ?_
 refine Zo 48 rfl ?_ ?_ <;> intro g48
 refine pur 1 rfl ?_
 refine spG rfl rfl rfl rfl (PE.fA Z00 rfl) rfl ?_
 refine Z0t rfl rfl rfl rfl rfl (lh sc3 rfl rfl) rfl ?_
 refine Z22 rfl rfl rfl rfl Z0Z rfl rfl (FnV.lendO o (fun v => [v, .int .i64 g.a]) (fun a5 c5 _ => by rw [irl]; exact Z04 (nx1 h.gaps cz now i g) a5 c5 g.a (by omega) _ _)) ?_
 refine pur 2 rfl ?_
 refine Z1 rfl ?_ ?_ <;> intro hc3
 refine sqr 6 rfl (pur 1 rfl (sp rfl (PE.fA Z00 rfl) rfl (spL rfl rfl (lh sc3 rfl rfl) rfl ?_)))
 refine bsl (out := [_]) rfl Z0D zl3 rfl rfl rfl rfl rfl rfl (fun b58 => ?_)
 refine apO (o) rfl Z21 rfl rfl (Z0A (row := [.int .i64 g.a]) rfl) rfl rfl ((by rw [irl]; simp only [List.length_singleton]; omega)) rfl (fun o59 => ?_)
 refine pur 1 rfl (sqr 3 rfl (pur 1 rfl (sp rfl (PE.add rfl rfl (by omega)) rfl (pur 1 rfl ?_))))
 first | exact Zb ⟨⟨i + 1, by omega⟩, o59.cast (by rw [hop]; simp [Z4, *])⟩ (by dsimp only; omega) (fun w h9 => ((h9.del b58).del b9)) | exact Zb ⟨⟨i + 1, by omega⟩, o.cast (by rw [hop]; simp [Z4, *])⟩ (by dsimp only; omega) (fun w h9 => h9.del b9)
 refine Z2 (sqr 3 rfl (pur 1 rfl (sp rfl (PE.add rfl rfl (by omega)) rfl (pur 1 rfl ?_))))
 first | exact Zb ⟨⟨i + 1, by omega⟩, o59.cast (by rw [hop]; simp [Z4, *])⟩ (by dsimp only; omega) (fun w h9 => ((h9.del b58).del b9)) | exact Zb ⟨⟨i + 1, by omega⟩, o.cast (by rw [hop]; simp [Z4, *])⟩ (by dsimp only; omega) (fun w h9 => h9.del b9)
 refine pur 6 rfl ?_
 refine Zz rfl ?_
 refine Z2 (sqr 3 rfl (pur 1 rfl (sp rfl (PE.add rfl rfl (by omega)) rfl (pur 1 rfl ?_))))
 first | exact Zb ⟨⟨i + 1, by omega⟩, o59.cast (by rw [hop]; simp [Z4, *])⟩ (by dsimp only; omega) (fun w h9 => ((h9.del b58).del b9)) | exact Zb ⟨⟨i + 1, by omega⟩, o.cast (by rw [hop]; simp [Z4, *])⟩ (by dsimp only; omega) (fun w h9 => h9.del b9)
 obtain rfl : i = h.gaps.length := by omega
 obtain ⟨an9, cn9, he, hcn9, hzz⟩ := (o.cast (show _ = Z4 (Z0h h.gaps cz now) from rfl)).freezeC
 rw [irl] at hcn9
 rw [show o.fs = _ from he, irl]
 refine Sy.heap (H' := _) (fun w h9 => hzz h9) ?_
 clear he hzz
 refine Z7 (Z8 (Z8 (Zl (sqt 2 rfl (pur 2 rfl (Z5 ?_))))))
 exact rtA rfl rfl rfl ⟨an9, cn9, rfl, hcn9, rfl, rfl⟩ (fun w h9 => h9.del b3)
end Go.Proofs.YthbjpnmclokinaaGreat
