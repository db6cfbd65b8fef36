/- Walks of the functions of the program, and the laws that join them: what the last theorem of this claim needs, in order. -/
import Derived.Test.Ythfgcnmcipcbbaawf4
namespace Go.Proofs.Ythfgcnmcipcbbaa
set_option linter.unusedSimpArgs false
set_option linter.unusedVariables false
open Go
theorem ZbO : cal Try.prog 24 = true := by kernel_rfl
def Ze8 (h : Hse) (fr to_ : List Int) (H : Z7) (R : Z5) : Value → Z7 → Z5 → Prop := fun v H' R' => H' = H ∧ R' = R ∧ ((h.botE fr to_ ≠ 0 ∧ v = .tuple #[.int .i64 0, .int .i64 (h.botE fr to_)]) ∨
  (h.botE fr to_ = 0 ∧ ∃ s : Nat, s ≤ 10 ∧ (∃ n, Pl h.gaps (msk to_) s (msk fr) 0 n) ∧ (∀ s', s' < s → ∀ n, ¬ Pl h.gaps (msk to_) s' (msk fr) 0 n) ∧ v = .tuple #[.int .i64 (s : Int), .int .i64 0]))
theorem Z79 {h : Hse} {fr to_ : List Int} {s : Nat} (hb : h.botE fr to_ = 0) (hs : s ≤ 10) : h.rcE fr to_ (s : Int) = 0 := by
  have : inB (s : Int) 0 10 = true := by simp [inB]; omega
  unfold Hse.rcE; rw [hb, this]; rfl
theorem Z3G {h : Hse} {fr to_ : List Int} (hb : h.Bot fr to_) : Two h.gaps (msk fr) (msk to_) := by
  obtain ⟨q1, q2, q3, q4, q5, q6⟩ := Z1m hb
  have hok := hb.ok
  exact ⟨fun g hg => by have := hok.gaps g hg; have := hok.bins; omega, fun i g hg => by have := hok.gaps g (List.mem_of_getElem? hg); omega, Z0p fun x hx => q1 x hx, Z0p fun x hx => q2 x hx, fun v hv => by
    cases hk : (msk to_).testBit v with
    | false => rfl
    | true => exact absurd ((Zt (fun k hk => (q2 k hk).1) v).1 hk) (hb.no _ ((Zt (fun k hk => (q1 k hk).1) v).1 hv))⟩
theorem Z8i {h : Hse} {fr to_ : List Int} (hb : h.Bot fr to_) : ∃ n, Pl h.gaps (msk to_) 10 (msk fr) 0 n := by
  have ht := Z3G hb
  have hp := Nat.two_pow_pos h.gaps.length
  exact ⟨_, Pl.once ht.w ht.s (show 2 ^ h.gaps.length - 1 < 2 ^ h.gaps.length by omega) (Z8B ht) (Nat.le_trans (Z3y _ _) hb.ok.gl)⟩
set_option maxHeartbeats 400000 in
theorem Zaf (h : Hse) (ag as_ : Option Addr) (cg cs : Nat) (hlg : h.gaps.length ≤ 9223372036854775807) (hls : h.sights.length ≤ 9223372036854775807) (fr to_ : List Int) (af at_ : Option Addr) (cf ct : Nat) (hlf : fr.length ≤ 1000000) (hlt : to_.length ≤ 1000000) (hfc : fr.length ≤ cf) (htc : to_.length ≤ ct) (H : Z7) (R : Z5) [hG : MemRows ag 2 (Zg h.gaps) R] [hS : MemRows as_ 3 (Zf h.sights) R] [hF : MemRows af 1 (Z3 fr) R] [hT : MemRows at_ 1 (Z3 to_) R] :
    Fn Try.prog 22 [h.v (h.sg ag cg) (h.ss as_ cs), .slice af fr.length cf, .slice at_ to_.length ct] H R (Ze8 h fr to_ H R) := by
 refine Zi Try.func22 rfl Try.ntmps22 rfl ?_
 refine sqt 3 rfl (bx rfl rfl rfl (fun b3 => pur 2 rfl (Z0 (sqt 5 rfl (spL rfl rfl (lhA (htl h (h.sg ag cg) (h.ss as_ cs)) Z0h rfl rfl rfl) rfl (pur 2 rfl ?_))))))
 refine clV rfl Z8g rfl rfl (Z5z h ag as_ cg cs hlg hls fr to_ af at_ cf ct (by omega) (by omega) hfc htc _ _) ?_
 refine pur 1 rfl (sqt 2 rfl (pur 2 rfl ?_))
 refine Z1 rfl ?_ ?_ <;> intro hc0
 have hbe : h.botE fr to_ ≠ 0 := of_decide_eq_true hc0
 refine sqt 3 rfl (pur 3 rfl (Z6 ?_))
 exact rtB rfl rfl rfl rfl ⟨rfl, rfl, .inl ⟨hbe, rfl⟩⟩ (fun w h9 => h9.del b3)
 ·
  have hbe : h.botE fr to_ = 0 := Classical.byContradiction fun e => by rw [decide_eq_true e] at hc0; cases hc0
  have hb := Z2b hbe
  obtain ⟨n0, hn0⟩ := Z8i hb
  refine Z2 (sqt 1 rfl (pur 1 rfl (Z4 ?_)))
  refine Zh (ι := {s : Nat // s ≤ 10 ∧ ∀ s', s' < s → ∀ n, ¬ Pl h.gaps (msk to_) s' (msk fr) 0 n}) (fun s => ⟨[(1, .slice af fr.length cf), (2, .slice at_ to_.length ct), (3, .pointer (some ⟨b3, 0, none⟩)), (9, .int .i64 (s.1 : Int))], (b3, cel 26 (htl h (h.sg ag cg) (h.ss as_ cs))) :: H, R⟩) (fun s => 11 - s.1) ⟨0, by omega, fun s' h9 => absurd h9 (Nat.not_lt_zero _)⟩ ?_ (fun s => ?_)
  exact Zo idH
  ·
   obtain ⟨s, hs, hno⟩ := s
   dsimp only at hs hno ⊢
   have hrz := Z79 hbe hs
   refine Z0 (Z4 (sqt 10 rfl (spL rfl rfl (lhA (htl h (h.sg ag cg) (h.ss as_ cs)) Z0h rfl rfl rfl) rfl (pur 3 rfl ?_))))
   refine cl rfl ZbO rfl rfl (Z9m h ag as_ cg cs hlg hls fr to_ af at_ cf ct hlf hlt hfc htc (s : Int) _ _) ?_
   rintro _ _ R1 ⟨rfl, hq⟩
   rcases hq with ⟨h9, _⟩ | ⟨_, hnp, rfl, hR1⟩ | ⟨_, ls, pl, a, c, _, _, _, _, _, hls2, rfl, hR1⟩
   · exact absurd hrz h9
   all_goals obtain rfl := hR1.symm
   all_goals clear hR1
   all_goals rw [Int.toNat_natCast] at *
   refine pur 5 rfl (sqt 2 rfl (pur 2 rfl ?_))
   refine Z1 rfl ?_ ?_ <;> intro hc1
   exact absurd hc1 (by decide)
   have hs10 : s ≠ 10 := fun e => hnp n0 (by rw [e]; exact hn0)
   refine Z2 (sqr 3 rfl (pur 1 rfl (sp rfl (PE.add rfl rfl (by omega)) rfl (pur 1 rfl ?_))))
   exact Z8 ⟨s + 1, by omega, fun s' h9 => (Nat.lt_succ_iff_lt_or_eq.1 h9).elim (hno s') (fun e => by subst e; exact hnp)⟩ idH
   refine pur 5 rfl (sqt 2 rfl (pur 2 rfl ?_))
   refine Z1 rfl ?_ ?_ <;> intro hc1
   refine sqt 3 rfl (pur 3 rfl (Z6 ?_))
   exact rtB rfl rfl rfl rfl ⟨rfl, rfl, .inr ⟨hbe, s, hs, ⟨_, hls2.1⟩, hno, rfl⟩⟩ (fun w h9 => St.sub (h9.del b3))
   exact absurd hc1 (by decide)
theorem ZdP : cal Try.prog 98 = true := by kernel_rfl
theorem ik3 : Z89 Try.prog 3 = some .i64 := by kernel_rfl
section steps
variable {P : Program} {r : Option Nat} {ops : Array Oper} {n : Nat} {L : Zk} {D : List Deferred} {H : Z7} {R : Z5} {K : Act → World → Prop}
  {i d : Nat} {ty : TypeId} {pos : String} {af : Array Edge}
theorem Zeb {t tn e sz by_ k : Nat} {kq kn : IntKind} {s x : Operand} {zl : List Value} (ho : ops[i]? = some ⟨some d, .call { callee := .builtin .append, args := #[s, x], argTypes := #[t, tn] }, ty, pos, af, none⟩)
    (ht : apT P t = some (e, sz, by_)) (htn : Z89 P tn = some kn) (hz : ZI P e = some zl) (hs : ev L s = some (.slice none 0 0)) (hx : ev L x = some (.int kq k))
    (hk : 0 < k) (hs0 : 0 < sz) (hb : k * by_ ≤ 140737488355328 ∧ k ≤ 9223372036854775807) (hd : Nat.blt d n = true)
    (h : ∀ (b' cap' : Nat) (junk : List Value), k ≤ cap' → cap' ≤ 9223372036854775807 → k * sz + junk.length = cap' * sz → Sy n ((d, .slice (some ⟨b', 0, none⟩) k cap') :: L) D ((b', cel e (Z1a k zl ++ junk)) :: H) R K) : Sy n L D H R (stp P r ops i K) := fun a w ha hD hw => by
  unfold apT at ht
  split at ht
  case h_2 => cases ht
  rename_i e' hu
  split at ht
  case h_2 => cases ht
  rename_i ie hi
  split at ht
  case h_2 => cases ht
  rename_i z hzz
  cases hzs : Nat.beq z.cells.size ie.size with
  | false => rw [hzs] at ht; cases ht
  | true =>
  rw [hzs, cond_true] at ht
  cases ht
  have hzs := Nat.eq_of_beq_eq_true hzs
  have hzl : z.cells.toList = zl := by
    have : ZI P e = some z.cells.toList := by simp [ZI, hi, hzz]
    rw [this] at hz; exact Option.some.inj hz
  have hun : P.underlying tn = some (.int kn) := by
    unfold Z89 at htn
    split at htn
    · rename_i q hq; cases htn; exact hq
    · cases htn
  have hold : (Builtin.firstCells ie.size 0 (.slice none 0 0)).run P w.drew = .ok ([] : List Value).toArray w.drew := by
    simp [Builtin.firstCells, Sem.run_pure]
  have h2 := Lib.run_append_grow_zeros (P := P) w t tn ty e ie z kq kn hu hun hi hzz none 0 0 [] hold k hk hs0 (by omega) (by omega) (by omega) (growslice_fits (by omega) (by rw [Nat.zero_add]; exact hb.1))
  rw [Nat.zero_add] at h2
  have hge := grownCap_ge w k 0 e
  have hcm : grownCap w k 0 e ≤ maxLen := grownCap_le_maxLen w _ 0 e (by simp only [maxLen]; omega)
  have hrep : ∀ q, (Builtin.zeroCells z.cells q).toList = Z1a q zl := fun q => by rw [← hzl]; simp [Builtin.zeroCells, Z1a]
  have e1 : (.cells (([] : List Value).toArray ++ Builtin.zeroCells z.cells k ++ Builtin.zeroCells z.cells (grownCap w k 0 e - k)) e : Obj) = cel e (Z1a k zl ++ (Builtin.zeroCells z.cells (grownCap w k 0 e - k)).toList) := by
    unfold cel; congr 1; apply Array.toList_inj.1; simp [hrep]
  refine Zq ho (Ze _ rfl _) (v := .slice (some ⟨w.heap.size, 0, none⟩) k (grownCap w k 0 e)) (w' := w.drew.alloc (cel e (Z1a k zl ++ (Builtin.zeroCells z.cells (grownCap w k 0 e - k)).toList))) ?_
    (h w.heap.size (grownCap w k 0 e) (Builtin.zeroCells z.cells (grownCap w k 0 e - k)).toList hge (by simp only [maxLen] at hcm; omega) ?_ _ _ (ha.put (by simpa using hd) _) hD (hw.drew.alloc _))
  · simp only [execOp, resolve, invoke, builtin, Sem.run_bind, Sem.run_pure, Result.andThen, List.map_toArray, List.map_cons, List.map_nil, ha.reads _ _ hs, ha.reads _ _ hx]
    rw [e1] at h2
    rw [h2]
  · simp only [Array.length_toList, size_zeroCells, hzs, ← Nat.add_mul]
    congr 1; omega
end steps
theorem Z1l {k : Nat} {v : Value} : (Z1a k [v]).length = k := by simp [Z1a]
def Z3n (pl : List PL) (k : Nat) : List Int := (lls (pl.take k)).flatten
theorem Z2O {pl : List PL} {k : Nat} {x : PL} (h : pl[k]? = some x) : Z3n pl (k + 1) = Z3n pl k ++ x.l := by
  unfold Z3n lls
  rw [List.take_add_one, h, Option.toList_some, List.map_append, List.flatten_append]; simp
theorem Z1T (pl : List PL) : ∀ k, (Z3n pl k).length ≤ (lls pl).flatten.length := fun k => by
  unfold Z3n lls
  have h : pl.map (·.l) = (pl.take k).map (·.l) ++ (pl.drop k).map (·.l) := by rw [← List.map_append, List.take_append_drop]
  rw [h, List.flatten_append, List.length_append]; omega
theorem Z9H (k : Nat) (hk : k ≤ 1000000) (H : Z7) (R : Z5) :
    Fn Try.prog 98 [.slice none 0 0, .int .i64 (k : Int)] H R (fun v H' R' => ∃ o : OSl 3 1 [], v = o.fs ∧ H' = o.G ++ H ∧ R' = R) := by
 refine Zi Try.func98 rfl Try.ntmps98 rfl ?_
 refine sqt 1 rfl (pur 1 rfl (Z0 (sqt 2 rfl (pur 2 rfl ?_))))
 refine Z1 rfl ?_ ?_ <;> intro hc0
 simp only [decide_eq_true_eq] at hc0
 omega
 refine Z2 (Z0 (sqt 8 rfl (pur 2 rfl (sp rfl (PE.capSl Zx rfl) rfl (pur 1 rfl (sp rfl (PE.lenSl Zx rfl) rfl (sp rfl (PE.sub rfl rfl (by omega)) rfl (sp rfl (PE.sub rfl rfl (by omega)) rfl ?_))))))))
 rw [show (k : Int) - (((0 : Nat) : Int) - ((0 : Nat) : Int)) = (k : Int) by omega]
 refine pur 1 rfl (sqt 2 rfl (pur 2 rfl ?_))
 refine Z1 rfl ?_ ?_ <;> intro hc1
 try simp only [cS] at hc1
 refine sqr 10 rfl (pur 2 rfl (sp rfl (PE.capSl Zx rfl) rfl (sp rfl (PE.slHi (h := 0) Z08 rfl rfl (by omega)) rfl (pur 1 rfl ?_))))
 refine Zeb rfl Z34 ik3 zl3 rfl rfl (by omega) (by omega) (by omega) rfl (fun b2 cap2 jk2 hc1 hc2 hc3 => ?_)
 refine pur 1 rfl (sp rfl (PE.lenSl Zx rfl) rfl (sp rfl (PE.slHi (h := 0) Z08 rfl rfl (by omega)) rfl (pur 1 rfl (sqt 2 rfl (pur 2 rfl (Z6 ?_))))))
 exact rtA rfl rfl rfl ⟨⟨.slice (some ⟨b2, 0, none⟩) 0 cap2, [(b2, cel 3 (Z1a k [.int .i64 0] ++ jk2))], by simp, .inr ⟨b2, cap2, Z1a k [.int .i64 0] ++ jk2, rfl, rfl, by rw [List.length_append, Z1l]; simp only [List.length_nil]; omega, Nat.zero_le _, hc2⟩⟩, rfl, rfl, rfl⟩ idH
 refine Z2 (sqt 2 rfl (pur 2 rfl (Z6 ?_)))
 exact rtA rfl rfl rfl ⟨OSl.nil _ _, rfl, rfl, rfl⟩ idH
set_option maxHeartbeats 400000 in
theorem Z2y (pl : List PL) (ap : Option Addr) (cp : Nat) (hpl : pl.length ≤ 1000000) (htl : (lls pl).flatten.length ≤ 1000000) (H : Z7) (R : Z5) [hP : MemRows ap 1 (ZG pl) R] [hI : MemF (Inn pl) R] :
    Fn Try.prog 66 [.slice ap pl.length cp] H R (fun v H' R' => ∃ o : OSl 3 1 (Z3 (lls pl).flatten), v = o.fs ∧ H' = o.G ++ H ∧ R' = R) := by
 refine Zi Try.func66 rfl Try.ntmps66 rfl ?_
 refine sqt 1 rfl (pur 1 rfl (sqt 1 rfl (pur 1 rfl (Z0 (sqt 3 rfl (pur 1 rfl (sp rfl (PE.lenSl Z6m rfl) rfl (pur 1 rfl (Z4 ?_)))))))))
 refine Zh (ι := {k : Nat // k ≤ pl.length}) (fun k => ⟨[(0, .slice ap pl.length cp), (3, .int .i64 ((Z3n pl k.1).length : Nat)), (9, .slice ap pl.length cp), (10, .int .i64 pl.length), (11, .int .i64 k.1)], H, R⟩) (fun k => pl.length - k.1) ⟨0, Nat.zero_le _⟩ ?_ (fun k => ?_)
 exact Zo idH
 obtain ⟨k, hk⟩ := k
 dsimp only at hk ⊢
 have hcl := Z1T pl k
 have hcl2 := Z1T pl (k + 1)
 refine sqt 1 rfl (pur 1 rfl (Z0 ?_))
 refine Z1 rfl ?_ ?_ <;> intro hc0 <;> try simp only [cS] at hc0
 obtain ⟨x, hx⟩ : ∃ x, pl[k]? = some x := ⟨_, List.getElem?_eq_getElem (by omega)⟩
 have hst := congrArg List.length (Z2O hx)
 rw [List.length_append] at hst
 refine Zj (a := ap) (sz := 1) (rows := ZG pl) (ne0 (by rw [Z0n]; omega)) (fun ba oa he => ?_)
 subst he
 refine Z2 (Z0 (Z4 (sqt 3 rfl (sp rfl (PE.indexAddr Zbi rfl rfl (by omega) (by omega)) rfl (spL rfl rfl (lf0 Z29 (Z7m hx) rfl) rfl (pur 1 rfl (sqt 5 rfl (pur 2 rfl (sp rfl (PE.lenSl Zx rfl) rfl (sp rfl (PE.add rfl rfl (by omega)) rfl ?_))))))))))
 rw [show ((Z3n pl k).length : Int) + (x.l.length : Int) = ((Z3n pl (k + 1)).length : Int) by omega]
 refine pur 1 rfl (sqt 2 rfl (pur 2 rfl ?_))
 refine Z1 rfl ?_ ?_ <;> intro hc1
 simp only [decide_eq_true_eq] at hc1
 omega
 refine Z2 (sqr 2 rfl (sp rfl (PE.add rfl rfl (by omega)) rfl (pur 1 rfl ?_)))
 exact Z8 ⟨k + 1, by omega⟩ idH
 obtain rfl : k = pl.length := by omega
 refine Z9 (Za (Za (Zn (sqt 3 rfl (pur 1 rfl ?_)))))
 refine cl rfl ZdP rfl rfl (Z9H (Z3n pl pl.length).length (by omega) _ _) ?_
 rintro _ _ R1 ⟨o0, rfl, rfl, hR1⟩
 obtain rfl := hR1.symm
 clear hR1
 refine pur 1 rfl (Z0 (sqt 3 rfl (pur 1 rfl (sp rfl (PE.lenSl Z6m rfl) rfl (pur 1 rfl (Z4 ?_))))))
 refine Zh (ι := (k : {k : Nat // k ≤ pl.length}) × OSl 3 1 (Z3 (Z3n pl k.1))) (fun y => ⟨[(6, y.2.fs), (25, .slice ap pl.length cp), (26, .int .i64 pl.length), (27, .int .i64 y.1.1)], y.2.G ++ H, R⟩) (fun y => pl.length - y.1.1) ⟨⟨0, Nat.zero_le _⟩, o0⟩ ?_ (fun y => ?_)
 exact Zo idH
 obtain ⟨⟨k, hk⟩, o⟩ := y
 dsimp only at hk o ⊢
 have hcl := Z1T pl k
 have hcl2 := Z1T pl (k + 1)
 refine sqt 1 rfl (pur 1 rfl (Z0 ?_))
 refine Z1 rfl ?_ ?_ <;> intro hc2 <;> try simp only [cS] at hc2
 obtain ⟨x, hx⟩ : ∃ x, pl[k]? = some x := ⟨_, List.getElem?_eq_getElem (by omega)⟩
 have hst := Z2O hx
 have hsl := congrArg List.length hst
 rw [List.length_append] at hsl
 refine Zj (a := ap) (sz := 1) (rows := ZG pl) (ne0 (by rw [Z0n]; omega)) (fun ba oa he => ?_)
 subst he
 refine Sy.heap (fun w h => St.inn (x := x) h (List.mem_of_getElem? hx)) ?_
 refine Z2 (Z0 (Z4 (sqt 3 rfl (sp rfl (PE.indexAddr Zbi rfl rfl (by omega) (by omega)) rfl (spL rfl rfl (lf0 Z29 (Z7m hx) rfl) rfl (pur 1 rfl (sqr 4 rfl (pur 2 rfl ?_))))))))
 refine apO (news := Z3 x.l) o rfl Z34 rfl rfl (Z7t) (irl _) (by simp [Z05, Z3, Value.oneCell']) (by rw [irl, irl]; omega) rfl (fun o33 => ?_)
 refine pur 1 rfl (sqr 2 rfl (sp rfl (PE.add rfl rfl (by omega)) rfl (pur 1 rfl ?_)))
 exact Z8 ⟨⟨k + 1, by omega⟩, o33.cast (by rw [hst]; simp [Z3])⟩ (fun w h => h.ftail)
 obtain rfl : k = pl.length := by omega
 refine Z9 (Za (Za (Zn (sqt 2 rfl (pur 2 rfl (Z6 ?_))))))
 exact rtA rfl rfl rfl ⟨o.cast (by unfold Z3n; rw [List.take_length]), rfl, rfl, rfl⟩ idH
theorem Z8u : cal Try.prog 66 = true := by kernel_rfl
def Zed (h : Hse) (fr to_ : List Int) (spd : Int) (H : Z7) (R : Z5) : Value → Z7 → Z5 → Prop := fun v H' R' => H' = H ∧ R' = R ∧ ((h.rcE fr to_ spd ≠ 0 ∧ v = .tuple #[.int .i64 0, .int .i64 (h.rcE fr to_ spd)]) ∨
  (h.rcE fr to_ spd = 0 ∧ (∀ n, ¬ Pl h.gaps (msk to_) spd.toNat (msk fr) 0 n) ∧ v = .tuple #[.int .i64 0, .int .i64 6]) ∨
  (h.rcE fr to_ spd = 0 ∧ ∃ n : Nat, n ≤ 10 ∧ Lst (Pl h.gaps (msk to_) spd.toNat (msk fr) 0) n ∧ v = .tuple #[.int .i64 (n : Int), .int .i64 0]))
theorem Z5F {gs : List Gp} (hg : gs.length ≤ 10) : ∀ {ls : List Nat}, (∀ l ∈ ls, l < 2 ^ gs.length) → ((ls.map Z1N).flatten).length = Z88 gs ls
  | [], _ => rfl
  | l :: ls, h => by
    rw [List.map_cons, List.flatten_cons, List.length_append, Z5F hg (fun x hx => h x (List.mem_cons_of_mem _ hx)), Z62 (h l (by simp)) hg]; rfl
theorem St.norows9 {sz : Nat} {H : Z7} {R : Z5} {w : World} (h : St H R w) : St H (Inn [] :: RowsA none sz (ZG []) :: R) w := St.inn0 (St.norows (sz := sz) h)
set_option maxHeartbeats 400000 in
theorem Z5n (h : Hse) (ag as_ : Option Addr) (cg cs : Nat) (hlg : h.gaps.length ≤ 9223372036854775807) (hls : h.sights.length ≤ 9223372036854775807) (fr to_ : List Int) (af at_ : Option Addr) (cf ct : Nat) (hlf : fr.length ≤ 1000000) (hlt : to_.length ≤ 1000000) (hfc : fr.length ≤ cf) (htc : to_.length ≤ ct) (spd : Int) (H : Z7) (R : Z5) [hG : MemRows ag 2 (Zg h.gaps) R] [hS : MemRows as_ 3 (Zf h.sights) R] [hF : MemRows af 1 (Z3 fr) R] [hT : MemRows at_ 1 (Z3 to_) R] :
    Fn Try.prog 25 [h.v (h.sg ag cg) (h.ss as_ cs), .slice af fr.length cf, .slice at_ to_.length ct, .int .i64 spd] H R (Zed h fr to_ spd H R) := by
 refine Zi Try.func25 rfl Try.ntmps25 rfl ?_
 refine sqt 3 rfl (bx rfl rfl rfl (fun b4 => pur 2 rfl (sqt 10 rfl (spL rfl rfl (lhA (htl h (h.sg ag cg) (h.ss as_ cs)) Z0h rfl rfl rfl) rfl (pur 3 rfl ?_)))))
 refine cl rfl ZbO rfl rfl (Z9m h ag as_ cg cs hlg hls fr to_ af at_ cf ct hlf hlt hfc htc spd _ _) ?_
 rintro _ _ R1 ⟨rfl, hq⟩
 rcases hq with ⟨h9, rfl, hR1⟩ | ⟨h9, hnp, rfl, hR1⟩ | ⟨h9, ls, pl, a, c, hll, hpk, hpc, hlb, hrun, hlst, rfl, hR1⟩
 all_goals obtain rfl := hR1.symm
 all_goals clear hR1
 refine pur 5 rfl (sqt 6 rfl ?_)
 refine Sy.heap (fun w h => St.norows9 (sz := 1) h) ?_
 refine pur 1 rfl ?_
 refine cl rfl Z8u rfl rfl (Z2y [] none 0 (by decide) (by decide) _ _) ?_
 rintro _ _ R1 ⟨o, rfl, rfl, hR1⟩
 obtain rfl := hR1.symm
 clear hR1
 obtain ⟨ao, co, heo, hfz⟩ := o.freeze
 rw [heo, irl]
 refine Sy.heap (fun w h => hfz h) ?_
 clear hfz heo
 refine sp rfl (PE.lenSl Zx rfl) rfl (pur 3 rfl (Z6 ?_))
 exact rtB rfl rfl rfl rfl ⟨rfl, rfl, .inl ⟨h9, rfl⟩⟩ (fun w h9 => St.sub (h9.del b4))
 refine pur 5 rfl (sqt 6 rfl ?_)
 refine Sy.heap (fun w h => St.norows9 (sz := 1) h) ?_
 refine pur 1 rfl ?_
 refine cl rfl Z8u rfl rfl (Z2y [] none 0 (by decide) (by decide) _ _) ?_
 rintro _ _ R1 ⟨o, rfl, rfl, hR1⟩
 obtain rfl := hR1.symm
 clear hR1
 obtain ⟨ao, co, heo, hfz⟩ := o.freeze
 rw [heo, irl]
 refine Sy.heap (fun w h => hfz h) ?_
 clear hfz heo
 refine sp rfl (PE.lenSl Zx rfl) rfl (pur 3 rfl (Z6 ?_))
 exact rtB rfl rfl rfl rfl ⟨rfl, rfl, .inr (.inl ⟨h9, hnp, rfl⟩)⟩ (fun w h9 => St.sub (h9.del b4))
 refine pur 5 rfl (sqt 6 rfl ?_)
 have hgl := (ZbW h9).1.ok.gl
 have hlen : (lls pl).flatten.length = Z88 h.gaps ls := by rw [hll]; exact Z5F hgl hlb
 have hs10 := hlst.1.few
 have hpl : pl.length = ls.length := by have := congrArg List.length hll; rw [Z5g, List.length_map] at this; exact this
 refine pur 1 rfl ?_
 refine cl rfl Z8u rfl rfl (Z2y pl a c (by omega) (by omega) _ _) ?_
 rintro _ _ R1 ⟨o, rfl, rfl, hR1⟩
 obtain rfl := hR1.symm
 clear hR1
 obtain ⟨ao, co, heo, hfz⟩ := o.freeze
 rw [heo, irl, hlen]
 refine Sy.heap (fun w h => hfz h) ?_
 clear hfz heo
 refine sp rfl (PE.lenSl Zx rfl) rfl (pur 3 rfl (Z6 ?_))
 exact rtB rfl rfl rfl rfl ⟨rfl, rfl, .inr (.inr ⟨h9, Z88 h.gaps ls, by omega, hlst, rfl⟩)⟩ (fun w h9 => St.sub (h9.del b4))
theorem Zc8 : cal Try.prog 107 = true := by kernel_rfl
theorem Zcq : cal Try.prog 108 = true := by kernel_rfl
theorem Zbg : cal Try.prog 116 = true := by kernel_rfl
theorem Zdu : cal Try.prog 55 = true := by kernel_rfl
theorem ZdJ : cal Try.prog 88 = true := by kernel_rfl
theorem Zd9 : cal Try.prog 89 = true := by kernel_rfl
theorem ZdN : cal Try.prog 90 = true := by kernel_rfl
def Hse.ledE (h : Hse) (fr to_ : List Int) (ls : List (List Int)) : Int := bif decide (h.botE fr to_ ≠ 0) then h.botE fr to_ else bif decide (ZT h.gaps.length ls.flatten ≠ 0) then ZT h.gaps.length ls.flatten else bif !(ls.all fun l => Z8a h.gaps 0 fr to_ l) then 8 else 0
def Hse.ledR (h : Hse) (fr to_ : List Int) (ls : List (List Int)) : Int := bif decide (h.ledE fr to_ ls = 0) then ls.length else 0
theorem Z6E (pl : List PL) (p : List Int → Bool) : (pl.all fun x => p x.l) = (lls pl).all p := by unfold lls; rw [List.all_map]; rfl
theorem Z4S {h : Hse} {fr to_ : List Int} {ls : List (List Int)} {e : Int} (he : h.ledE fr to_ ls = e) (h0 : e ≠ 0) : h.ledR fr to_ ls = 0 := by unfold Hse.ledR; rw [he, decide_eq_false h0]; rfl
theorem Z7e (xs : List PL) (a : Option Addr) (c g : Nat) (fst cap : List Value) (p : PL → Bool) (hg : cal Try.prog g = true) (hl : xs.length ≤ 9223372036854775807) (H : Z7) (R : Z5) [hR : MemRows a 1 (ZG xs) R] (hp : ∀ x, x ∈ xs → FnV Try.prog g (fst ++ [.slice x.a x.l.length x.c] ++ cap) H R (.bool (p x))) :
    FnV Try.prog 116 [.slice a xs.length c, .func (.func g) fst.toArray cap.toArray] H R (.int .i64 (match xs.findIdx? p with | some k => (k : Int) | none => -1)) := by
 refine Zi Try.func116 rfl Try.ntmps116 rfl ?_
 refine sqt 1 rfl (pur 1 rfl (Z0 (sqt 3 rfl (pur 1 rfl (sp rfl (PE.lenSl Z6m rfl) rfl (pur 1 rfl (Z4 ?_)))))))
 refine Zh (ι := {k : Nat // k ≤ xs.length ∧ ∀ x ∈ xs.take k, p x = false}) (fun k => ⟨[(0, .slice a xs.length c), (1, .func (.func g) fst.toArray cap.toArray), (7, .int .i64 xs.length), (8, .int .i64 k.1)], H, R⟩) (fun k => xs.length - k.1) ⟨0, by simp⟩ ?_ (fun k => ?_)
 exact Zo idH
 obtain ⟨k, hk, hn⟩ := k
 dsimp only
 refine sqt 1 rfl (pur 1 rfl (Z0 ?_))
 refine Z1 rfl ?_ ?_ <;> intro hc0
 simp only [cS] at hc0
 obtain ⟨x, hx⟩ : ∃ x, xs[k]? = some x := ⟨_, List.getElem?_eq_getElem (by omega)⟩
 have hxm := List.mem_of_getElem? hx
 refine Zj (a := a) (sz := 1) (rows := ZG xs) (by cases xs <;> simp_all [ZG]) (fun b off he => ?_)
 subst he
 refine Z2 (Z0 (Z4 (sqt 2 rfl (pur 2 rfl (sqt 6 rfl (pur 3 rfl (sp rfl (PE.indexAddr Zbi rfl rfl (by omega) (by omega)) rfl (spL rfl rfl (lf0 Z29 (by simp [ZG, hx]; rfl) rfl) rfl ?_))))))))
 refine Z6s rfl rfl (hg) rfl rfl (hp x hxm) ?_
 refine Z1 rfl ?_ ?_ <;> intro hc1
 refine sqt 2 rfl (pur 2 rfl (Z6 ?_))
 first | (exact rtA rfl rfl rfl ⟨by rw [Z0b hx hn hc1]; rfl, rfl, rfl⟩ idH) | (exact rtA rfl rfl rfl ⟨by rw [ZV (by simpa using hn)]; rfl, rfl, rfl⟩ idH)
 refine Z2 (sqr 2 rfl (sp rfl (PE.add rfl rfl (by omega)) rfl (pur 1 rfl ?_)))
 exact Z8 ⟨k + 1, by omega, Z1j hx hn hc1⟩ idH
 simp only [cS] at hc0
 obtain rfl : k = xs.length := by omega
 refine Z9 (Za (Za (Zn (sqt 1 rfl (pur 1 rfl (Z6 ?_))))))
 first | (exact rtA rfl rfl rfl ⟨by rw [Z0b hx hn hc1]; rfl, rfl, rfl⟩ idH) | (exact rtA rfl rfl rfl ⟨by rw [ZV (by simpa using hn)]; rfl, rfl, rfl⟩ idH)
theorem Z7L (xs : List PL) (a : Option Addr) (c g : Nat) (fst cap : List Value) (p : PL → Bool) (hg : cal Try.prog g = true) (hl : xs.length ≤ 9223372036854775807) (H : Z7) (R : Z5) [hR : MemRows a 1 (ZG xs) R] (hp : ∀ x, x ∈ xs → FnV Try.prog g (fst ++ [.slice x.a x.l.length x.c] ++ cap) H R (.bool (p x))) :
    FnV Try.prog 107 [.slice a xs.length c, .func (.func g) fst.toArray cap.toArray] H R (.bool (xs.any p)) := by
 refine Zi Try.func107 rfl Try.ntmps107 rfl ?_
 refine sqt 1 rfl (pur 1 rfl (sqt 5 rfl (pur 2 rfl ?_)))
 refine clV rfl Zbg rfl rfl (Z7e xs a c g fst cap p hg hl _ _ hp) ?_
 refine pur 2 rfl (Z6 ?_)
 exact rtA rfl rfl rfl ⟨by simp only [Z0e]; exact Z2E _ _, rfl, rfl⟩ drp
theorem Z7p (x : PL) (g bf : Nat) (fst cap : List Value) (p : Bool) (hg : cal Try.prog g = true) (H : Z7) (R : Z5) [hM : Mem1 bf (cel 67 [.func (.func g) fst.toArray cap.toArray]) H] (hp : FnV Try.prog g (fst ++ [.slice x.a x.l.length x.c] ++ cap) H R (.bool p)) :
    FnV Try.prog 108 [.slice x.a x.l.length x.c, .pointer (some ⟨bf, 0, none⟩)] H R (.bool !p) := by
 refine Zi Try.func108 rfl Try.ntmps108 rfl ?_
 refine sqt 1 rfl (pur 1 rfl (sqt 5 rfl (spL rfl rfl (lh Ze0 rfl rfl) rfl (pur 1 rfl ?_))))
 refine Z6s rfl rfl (hg) rfl rfl (hp) ?_
 refine pur 2 rfl (Z6 ?_)
 exact rtA rfl rfl rfl ⟨rfl, rfl, rfl⟩ drp
theorem Z4L (xs : List PL) (a : Option Addr) (c g : Nat) (fst cap : List Value) (p : PL → Bool) (hg : cal Try.prog g = true) (hl : xs.length ≤ 9223372036854775807) (H : Z7) (R : Z5) [hR : MemRows a 1 (ZG xs) R] (hp : ∀ b x, x ∈ xs → FnV Try.prog g (fst ++ [.slice x.a x.l.length x.c] ++ cap) ((b, cel 67 [.func (.func g) fst.toArray cap.toArray]) :: H) R (.bool (p x))) :
    FnV Try.prog 88 [.slice a xs.length c, .func (.func g) fst.toArray cap.toArray] H R (.bool (xs.all p)) := by
 refine Zi Try.func88 rfl Try.ntmps88 rfl ?_
 refine sqt 2 rfl (bx rfl rfl rfl (fun b3 => pur 1 rfl (sqt 5 rfl (pur 1 rfl (sp rfl (PE.makeFunc rfl rfl) rfl ?_)))))
 refine clV rfl Zc8 rfl rfl (Z7L xs a c 108 [] [_] (fun x => !p x) Zcq hl _ _ (hp := fun x hx => Z7p x g _ fst cap (p x) hg _ _ (hp := hp _ x hx))) ?_
 refine pur 2 rfl (Z6 ?_)
 exact rtA rfl rfl rfl ⟨by simp only [Z0e]; rw [Z0X], rfl, rfl⟩ drp
theorem Z8b (h : Hse) (ag as_ : Option Addr) (cg cs : Nat) (hok : h.ok) (fr to_ : List Int) (af at_ : Option Addr) (cf ct b4 b5 b6 : Nat) (hfr : ∀ x ∈ fr, 0 ≤ x ∧ x < 7) (hfl : fr.length ≤ 1000) (hnt : to_.length ≤ 1000000) (x : PL) (pl : List PL) (hxm : x ∈ pl) (hp : ∀ k ∈ x.l, 0 ≤ k) (hpl : x.l.length ≤ 1000000) (H : Z7) (R : Z5) [hG : MemRows ag 2 (Zg h.gaps) R] [hS : MemRows as_ 3 (Zf h.sights) R] [hF : MemRows af 1 (Z3 fr) R] [hT : MemRows at_ 1 (Z3 to_) R] [m4 : Mem1 b4 (cel 26 (htl h (h.sg ag cg) (h.ss as_ cs))) H] [m5 : Mem1 b5 (cel 27 [.slice af fr.length cf]) H] [m6 : Mem1 b6 (cel 27 [.slice at_ to_.length ct]) H] [hI : MemF (Inn pl) R] :
    FnV Try.prog 89 [.slice x.a x.l.length x.c, .pointer (some ⟨b4, 0, none⟩), .pointer (some ⟨b5, 0, none⟩), .pointer (some ⟨b6, 0, none⟩)] H R (.bool (Z8a h.gaps 0 fr to_ x.l)) := by
 refine Zi Try.func89 rfl Try.ntmps89 rfl ?_
 refine sqt 1 rfl ?_
 refine Sy.heap (fun w h => St.inn (x := x) h hxm) ?_
 refine pur 1 rfl (Z0 ?_)
 refine Zc [0, 1, 0, 0, 0, 31, 63] (.ld 0 (.ld 2 (.ld 3 (.tk 4 (.big 1 (.big 5 (.tk 6 .done))))))) Zr (by kernel_rfl) ?_
 refine ld rfl rfl (lhA (htl h (h.sg ag cg) (h.ss as_ cs)) Z0h rfl rfl rfl) rfl (ld rfl rfl (lh Z29 rfl rfl) rfl (ld rfl rfl (lh Z29 rfl rfl) rfl (Zp 1 rfl ?_)))
 refine cl rfl Z6a rfl rfl (Z6b h ag as_ cg cs _ _) ?_
 rintro _ _ _ ⟨bd, rfl, rfl, rfl⟩
 refine bg (fun w hs => ⟨(lh Z29 rfl rfl) w hs, (lh Z29 rfl rfl) w hs, trivial, trivial⟩) ?_
 refine clV rfl ZdN rfl rfl (ZaA (dkA h ag as_ cg cs bd) (Z0M h ag as_ cg cs hok bd) fr to_ x.l af at_ x.a cf ct x.c hfr hfl hnt hp hpl _ _) ?_
 refine bgT (Zp 1 rfl (Z6 ?_))
 exact rtA rfl rfl rfl ⟨rfl, rfl, rfl⟩ (fun w h9 => h9.ftail.ftail)
set_option maxHeartbeats 400000 in
theorem Z9Q (h : Hse) (ag as_ : Option Addr) (cg cs : Nat) (hlg : h.gaps.length ≤ 9223372036854775807) (hls : h.sights.length ≤ 9223372036854775807) (fr to_ : List Int) (af at_ : Option Addr) (cf ct : Nat) (hlf : fr.length ≤ 1000000) (hlt : to_.length ≤ 1000000) (hfc : fr.length ≤ cf) (htc : to_.length ≤ ct) (pl : List PL) (ap : Option Addr) (cp : Nat) (hpl : pl.length ≤ 1000000) (htot : (lls pl).flatten.length ≤ 1000000) (H : Z7) (R : Z5) [hG : MemRows ag 2 (Zg h.gaps) R] [hS : MemRows as_ 3 (Zf h.sights) R] [hF : MemRows af 1 (Z3 fr) R] [hT : MemRows at_ 1 (Z3 to_) R] [hP : MemRows ap 1 (ZG pl) R] [hI : MemF (Inn pl) R] :
    FnV Try.prog 48 [h.v (h.sg ag cg) (h.ss as_ cs), .slice af fr.length cf, .slice at_ to_.length ct, .slice ap pl.length cp] H R (.tuple #[.int .i64 (h.ledR fr to_ (lls pl)), .int .i64 (h.ledE fr to_ (lls pl))]) := by
 refine Zi Try.func48 rfl Try.ntmps48 rfl ?_
 refine sqt 5 rfl (bx rfl rfl rfl (fun b4 => bx rfl rfl rfl (fun b5 => bx rfl rfl rfl (fun b6 => pur 2 rfl (Z0 (sqt 5 rfl (spL rfl rfl (lhA (htl h (h.sg ag cg) (h.ss as_ cs)) Z0h rfl rfl rfl) rfl (spL rfl rfl (lh Z29 rfl rfl) rfl (spL rfl rfl (lh Z29 rfl rfl) rfl ?_)))))))))
 refine clV rfl Z8g rfl rfl (Z5z h ag as_ cg cs hlg hls fr to_ af at_ cf ct (by omega) (by omega) hfc htc _ _) ?_
 refine pur 1 rfl (sqt 2 rfl (pur 2 rfl ?_))
 refine Z1 rfl ?_ ?_ <;> intro hc0
 have hbe : h.botE fr to_ ≠ 0 := of_decide_eq_true hc0
 have e : h.ledE fr to_ (lls pl) = h.botE fr to_ := by unfold Hse.ledE; rw [dT hbe]; rfl
 refine sqt 3 rfl (pur 3 rfl (Z6 ?_))
 exact rtB rfl rfl rfl rfl ⟨by rw [Z4S e (by assumption), e] <;> rfl, rfl, rfl⟩ drp
 have hbe : h.botE fr to_ = 0 := Classical.byContradiction fun e => by rw [decide_eq_true e] at hc0; cases hc0
 have hb := Z2b hbe
 obtain ⟨q1, q2, q3, q4, q5, q6⟩ := Z1m hb
 have hok := hb.ok
 refine Z2 (Z0 (Z0 ?_))
 refine Zc [0, 1, 0, 4, 15, 31] (.tk 0 (.ld 2 (.tk 3 (.big 1 (.big 4 (.tk 5 .done)))))) Zr (by kernel_rfl) ?_
 refine Zp 1 rfl (ld rfl rfl (lhA (htl h (h.sg ag cg) (h.ss as_ cs)) Z0h rfl rfl rfl) rfl (tk rfl (PE.makeFunc rfl rfl) rfl ?_))
 refine cl rfl Z8u rfl rfl (Z2y pl ap cp hpl htot _ _) ?_
 rintro _ _ R1 ⟨o, rfl, rfl, hR1⟩
 obtain rfl := hR1.symm
 clear hR1
 obtain ⟨ac, cc, heo, hcc, hfz⟩ := o.freezeC
 rw [irl] at hcc
 rw [heo, irl]
 refine Sy.heap (fun w h => hfz h) ?_
 clear hfz heo
 refine bg (fun w hs => ⟨(lhA (htl h (h.sg ag cg) (h.ss as_ cs)) Z0h rfl rfl rfl) w hs, trivial⟩) ?_
 refine clV rfl Zap rfl rfl (Z3M (lls pl).flatten ac cc 55 [h.v (h.sg ag cg) (h.ss as_ cs)] [] (fun k => inB k 0 ((h.gaps.length : Int) - 1)) Zdu (by omega) hcc _ _ (fun _ z _ => ZcZ h (by have := hok.gl; omega) ag cg (h.ss as_ cs) z _ _)) ?_
 refine bgT (Zp 1 rfl (sqt 2 rfl (pur 2 rfl ?_)))
 refine Z1 rfl ?_ ?_ <;> intro hc1
 have hle : ZT h.gaps.length (lls pl).flatten ≠ 0 := of_decide_eq_true hc1
 have e : h.ledE fr to_ (lls pl) = ZT h.gaps.length (lls pl).flatten := by unfold Hse.ledE; rw [hbe, dT hle]; rfl
 refine sqt 3 rfl (pur 3 rfl (Z6 ?_))
 exact rtB rfl rfl rfl rfl ⟨by rw [Z4S e (by assumption), e] <;> rfl, rfl, rfl⟩ (fun w h9 => St.sub (((h9.del b6).del b5).del b4))
 have hle : ZT h.gaps.length (lls pl).flatten = 0 := Classical.byContradiction fun e => by rw [show decide (Z9y (fun k => inB k 0 ((h.gaps.length : Int) - 1)) (lls pl).flatten ≠ 0) = true from decide_eq_true e] at hc1; cases hc1
 have hlx := (Z1n hle).1
 have hin : ∀ x ∈ pl, (∀ k ∈ x.l, 0 ≤ k) ∧ x.l.length ≤ 1000000 := fun x hx => by
   have hm : x.l ∈ lls pl := List.mem_map.2 ⟨x, hx, rfl⟩
   refine ⟨fun k hk => (hlx k (List.mem_flatten.2 ⟨_, hm, hk⟩)).1, ?_⟩
   have := List.Sublist.length_le (List.sublist_flatten_of_mem hm)
   omega
 refine Z2 (Z0 (sqt 4 rfl (pur 1 rfl (sp rfl (PE.makeFunc rfl rfl) rfl ?_))))
 refine clV rfl ZdJ rfl rfl (Z4L pl ap cp 89 [] [_, _, _] (fun x => Z8a h.gaps 0 fr to_ x.l) Zd9 (by omega) _ _ (fun _ x hx => Z8b h ag as_ cg cs hok fr to_ af at_ cf ct b4 b5 b6 q1 (by omega) hlt x pl hx (hin x hx).1 (hin x hx).2 _ _)) ?_
 refine pur 1 rfl ?_
 refine Z1 rfl ?_ ?_ <;> intro hc2
 have hc9 : (!(pl.all fun x => Z8a h.gaps 0 fr to_ x.l)) = true := hc2
 rw [Z6E pl (fun l => Z8a h.gaps 0 fr to_ l)] at hc9
 have h8 : (8 : Int) ≠ 0 := by decide
 have e : h.ledE fr to_ (lls pl) = 8 := by unfold Hse.ledE; rw [hbe, hle, hc9]; rfl
 refine sqt 2 rfl (pur 2 rfl (Z6 ?_))
 exact rtB rfl rfl rfl rfl ⟨by rw [Z4S e (by assumption), e] <;> rfl, rfl, rfl⟩ (fun w h9 => St.sub (((h9.del b6).del b5).del b4))
 have hc9 : (!(pl.all fun x => Z8a h.gaps 0 fr to_ x.l)) = false := hc2
 rw [Z6E pl (fun l => Z8a h.gaps 0 fr to_ l)] at hc9
 have e : h.ledE fr to_ (lls pl) = 0 := by unfold Hse.ledE; rw [hbe, hle, hc9]; rfl
 have er : h.ledR fr to_ (lls pl) = pl.length := by unfold Hse.ledR; rw [e, Z5g]; rfl
 refine Z2 (sqt 4 rfl (pur 1 rfl (sp rfl (PE.lenSl Z6m rfl) rfl (pur 2 rfl (Z6 ?_)))))
 exact rtB rfl rfl rfl rfl ⟨by rw [er, e] <;> rfl, rfl, rfl⟩ (fun w h9 => St.sub (((h9.del b6).del b5).del b4))
theorem Z9p : Z0w Try.prog 26 = some 3 := by kernel_rfl
theorem ZdK : Z1i Try.prog 26 = some [(0, 1), (1, 1), (2, 1)] := by kernel_rfl
theorem Zb8 : Z1i Try.prog 38 = some [(0, 1), (1, 1), (2, 1)] := by kernel_rfl
theorem ZcR : slE Try.prog 23 = some (46, 2) := by kernel_rfl
theorem Z87 : ZI Try.prog 26 = some ([.int .i64 0, .slice none 0 0, .slice none 0 0]) := by kernel_rfl
def Z6r : List Gp := [⟨0, 1⟩, ⟨0, 2⟩, ⟨1, 3⟩, ⟨2, 3⟩, ⟨3, 4⟩, ⟨4, 5⟩, ⟨1, 2⟩]
def sixS : List Sgt := [⟨2, 3, true⟩, ⟨1, 1, false⟩, ⟨2, 4, false⟩]
abbrev six (k : Nat) : Hse := ⟨6, Z6r, sixS.take k⟩
theorem Z69 (l : List Sgt) (k : Nat) : (Zf l).take k = Zf (l.take k) := (List.map_take).symm
theorem Z9O {k : Nat} (hk : k ≤ 3) : (six k).sights.length = k := by
  show (sixS.take k).length = k
  rw [List.length_take]; show min k 3 = k; omega
set_option maxHeartbeats 400000 in
theorem Z4u (k : Nat) (hk : k ≤ 3) (H : Z7) (R : Z5) :
    Fn Try.prog 47 [.int .i64 (k : Int)] H R (fun v H' R' => ∃ (ag as_ : Option Addr) (cg cs : Nat), v = (six k).v ((six k).sg ag cg) ((six k).ss as_ cs) ∧ k ≤ cs ∧ H' = H ∧ R' = RowsA ag 2 (Zg (six k).gaps) :: RowsA as_ 3 (Zf (six k).sights) :: R) := by
 refine Zi Try.func47 rfl Try.ntmps47 rfl ?_
 refine sqt 1 rfl (alc rfl Z87 rfl (fun b2 => sqt 5 rfl (sp rfl (PE.build (out := [_, _, _]) Zb8 Z4O rfl rfl) rfl (sp rfl (PE.build (out := [_, _, _]) Zb8 Z4O rfl rfl) rfl (sp rfl (PE.build (out := [_, _, _]) Zb8 Z4O rfl rfl) rfl ?_)))))
 refine bsl (out := [_, _, _, _, _, _, _, _, _]) rfl Zbc Z4O rfl rfl rfl rfl rfl rfl (fun b7 => ?_)
 refine pur 1 rfl (sqt 17 rfl (sp rfl (PE.build (out := [_, _]) Z71 Z36 rfl rfl) rfl (sp rfl (PE.build (out := [_, _]) Z71 Z36 rfl rfl) rfl (sp rfl (PE.build (out := [_, _]) Z71 Z36 rfl rfl) rfl (sp rfl (PE.build (out := [_, _]) Z71 Z36 rfl rfl) rfl (sp rfl (PE.build (out := [_, _]) Z71 Z36 rfl rfl) rfl (sp rfl (PE.build (out := [_, _]) Z71 Z36 rfl rfl) rfl (sp rfl (PE.build (out := [_, _]) Z71 Z36 rfl rfl) rfl ?_))))))))
 refine bsl (out := [_, _, _, _, _, _, _, _, _, _, _, _, _, _]) rfl ZcR Z36 rfl rfl rfl rfl rfl rfl (fun b15 => ?_)
 refine pur 3 rfl (sp rfl (PE.lenSl Z6c rfl) rfl (sp rfl (PE.min rfl rfl) rfl (sp rfl (PE.max rfl rfl) rfl ?_)))
 rw [show max (0 : Int) (min (k : Int) ((3 : Nat) : Int)) = (k : Int) by omega]
 refine sp rfl (PE.slHi (h := k) Zbc rfl rfl (by omega)) rfl (sp rfl (PE.build (out := [_, _, _]) ZdK Z87 rfl rfl) rfl ?_)
 refine ZD (l' := [.int .i64 6, .slice (some ⟨b15, 0, none⟩) 7 7, .slice (some ⟨b7, 0, none⟩) k 3]) rfl rfl rfl Z9p rfl rfl rfl rfl (nl rfl) ?_
 refine Z6 ?_
 refine Sy.heap (fun w h9 => St.rows (sz := 3) (rows := Zf sixS) (rest := []) (h9.pull b7) (by simp [Zf, sixS, Z2q])) ?_
 refine Sy.heap (fun w h9 => St.rows (sz := 2) (rows := Zg Z6r) (rest := []) (h9.pull b15) (by simp [Zg, Z6r, Z1u])) ?_
 refine Sy.heap (fun w h9 => (show St _ (RowsA (some ⟨b7, 0, none⟩) 3 (Zf (sixS.take k)) :: _) w from Z69 sixS k ▸ St.rowsTake (a := some ⟨b7, 0, none⟩) (sz := 3) (rows := Zf sixS) h9 k)) ?_
 exact Zm (vs := [_]) rfl (.cons (RV.cell rfl (lhA [_, _, _] Z0h rfl rfl rfl)) .nil) rfl ⟨some ⟨b15, 0, none⟩, some ⟨b7, 0, none⟩, 7, 3, by unfold Hse.v Hse.sg Hse.ss htl; rw [Z9O hk]; rfl, hk, rfl, rfl⟩ (fun w h9 => St.sub (h9.del b2))
theorem ZdH : cal Try.prog 91 = true := by kernel_rfl
theorem Z3Q : Wth Z6r 7 := by
  intro g hg
  simp only [Z6r, List.mem_cons, List.not_mem_nil, or_false] at hg
  rcases hg with rfl | rfl | rfl | rfl | rfl | rfl | rfl <;> decide
theorem six_w : ((six 0).weeksR [0]).1 = [0, 1, 1, 2, 3, 4] ∧ ((six 0).weeksR [0]).2 = 0 := ⟨by kernel_rfl, by kernel_rfl⟩
theorem six_o : ((six 2).orgR).1 = [4] ∧ ((six 2).orgR).2 = 0 := ⟨by kernel_rfl, by kernel_rfl⟩
theorem six_s : ((six 2).surR 1).1 = [4, 5] ∧ ((six 2).surR 1).2 = 0 := ⟨by kernel_rfl, by kernel_rfl⟩
theorem six_c : ((six 3).claR).1 = [0, 1, 2] ∧ ((six 3).claR).2 = 0 := ⟨by kernel_rfl, by kernel_rfl⟩
theorem six_l : (six 0).ledR [0] [3] [[0, 2], [1, 3]] = 2 ∧ (six 0).ledE [0] [3] [[0, 2], [1, 3]] = 0 := ⟨by kernel_rfl, by kernel_rfl⟩
theorem six_b : (six 0).botE [0] [5] = 0 ∧ (six 0).botE [0] [3] = 0 ∧ (six 0).rcE [0] [1] 1 = 0 := ⟨by kernel_rfl, by kernel_rfl, by kernel_rfl⟩
theorem ZbU : plD Z6r 2 1 8 1 0 3 = true := by kernel_rfl
theorem ZbK : plD Z6r 2 1 8 1 0 2 = false := by kernel_rfl
theorem Zc2 : plD Z6r 8 0 8 1 0 10 = false := by kernel_rfl
theorem ZbT : plD Z6r 8 1 8 1 0 10 = true := by kernel_rfl
theorem Zbj : plD Z6r 32 10 8 1 0 1 = true := by kernel_rfl
theorem Zcu : plD Z6r 32 10 8 1 0 0 = false := by kernel_rfl
theorem six_few : Lst (Pl (six 0).gaps (msk [1]) (1 : Int).toNat (msk [0]) 0) 3 := Z6I Z3Q (by decide) ZbU ZbK
theorem Zav : Lst (Pl (six 0).gaps (msk [5]) 10 (msk [0]) 0) 1 := Z6I Z3Q (by decide) Zbj Zcu
theorem ZaS {s : Nat} (h1 : ∃ n, Pl (six 0).gaps (msk [3]) s (msk [0]) 0 n) (h2 : ∀ s', s' < s → ∀ n, ¬ Pl (six 0).gaps (msk [3]) s' (msk [0]) 0 n) : s = 1 := by
  rcases Nat.lt_trichotomy s 1 with h3 | h3 | h3
  · obtain rfl : s = 0 := by omega
    obtain ⟨n, hn⟩ := h1
    have hf := hn.few
    have h4 := Z4N (n := 10) (f := 8) Z3Q (by decide) (by omega) hn (by have : (six 0).gaps.length = 7 := rfl; omega)
    have h5 : plD Z6r 8 0 8 1 0 10 = true := h4
    rw [Zc2] at h5
    cases h5
  · exact h3
  · obtain ⟨k, _, hk⟩ := Z3O ZbT
    exact absurd hk (h2 1 h3 k)
theorem Z6k {f : Nat → Int} {V : List (Nat × Int)} (hf : Flw f (msk [0]) (msk [5]) (six 0).gaps) (hs : Shn (six 0).gaps (fun _ => true) f (msk [0]) (msk [5]) V) : (Z17 (Z1t V) (six 0).gaps).length = 1 := by
  have hc := (hs.cut (Z3G (Z2b six_b.1)) hf).1
  have hl : (Z17 (Z1t V) (six 0).gaps).length ≤ 7 := by
    unfold Z17
    rw [List.length_map]
    exact Nat.le_trans (List.length_filter_le _ _) (by decide)
  exact (Cut.plan (sp := 10) Z3Q (by decide) hc (by omega)).unique Zav
theorem Z8l (xs ys : List Int) (a a2 : Option Addr) (c c2 : Nat) (hl : xs.length ≤ 9223372036854775807) (hl2 : ys.length ≤ 9223372036854775807) (H : Z7) (R : Z5) [hR : MemRows a 1 (Z3 xs) R] [hR2 : MemRows a2 1 (Z3 ys) R] :
    FnV Try.prog 91 [.slice a xs.length c, .slice a2 ys.length c2] H R (.bool (decide (xs = ys))) := by
 refine Zi Try.func91 rfl Try.ntmps91 rfl ?_
 refine sqt 1 rfl (pur 1 rfl (Z0 (sqt 5 rfl (pur 1 rfl (sp rfl (PE.lenSl Zx rfl) rfl (pur 1 rfl (sp rfl (PE.lenSl Zx rfl) rfl (pur 1 rfl ?_))))))))
 refine Z1 rfl ?_ ?_ <;> intro hc0
 have hne : xs ≠ ys := fun e => by subst e; simp at hc0
 refine sqt 1 rfl (pur 1 rfl (Z6 ?_))
 exact rtA rfl rfl rfl ⟨by first | (simp only [Z0e]; rw [dT heq]; done) | (simp only [Z0e]; rw [dF hne]), rfl, rfl⟩ idH
 have hle : xs.length = ys.length := by simp only [cS] at hc0; omega
 refine Z2 (Z0 (sqt 3 rfl (pur 1 rfl (sp rfl (PE.lenSl Zx rfl) rfl (pur 1 rfl (Z4 ?_))))))
 refine Zh (ι := {k : Nat // k ≤ xs.length ∧ xs.take k = ys.take k}) (fun k => ⟨[(0, .slice a xs.length c), (1, .slice a2 ys.length c2), (12, .int .i64 xs.length), (13, .int .i64 k.1)], H, R⟩) (fun k => xs.length - k.1) ⟨0, by simp⟩ ?_ (fun k => ?_)
 exact Zo idH
 obtain ⟨k, hk, hn⟩ := k
 dsimp only
 refine sqt 1 rfl (pur 1 rfl (Z0 ?_))
 refine Z1 rfl ?_ ?_ <;> intro hc1
 simp only [cS] at hc1
 obtain ⟨x, hx⟩ : ∃ x, xs[k]? = some x := ⟨_, List.getElem?_eq_getElem (by omega)⟩
 obtain ⟨z, hz⟩ : ∃ z, ys[k]? = some z := ⟨_, List.getElem?_eq_getElem (by omega)⟩
 refine Zj (a := a) (sz := 1) (rows := Z3 xs) (by intro h0; simp [Z3] at h0; simp [h0] at hx) (fun b off he => ?_)
 subst he
 refine Zj (a := a2) (sz := 1) (rows := Z3 ys) (by intro h0; simp [Z3] at h0; simp [h0] at hz) (fun b2 off2 he => ?_)
 subst he
 refine Z2 (Z0 (Z4 (sqt 2 rfl (pur 2 rfl (Z0 ?_)))))
 refine Zc [0, 0, 3, 7, 0, 0, 48, 112, 255] (tks 0 3 (.ld 3 (tks 4 3 (.ld 7 (.tk 8 .done))))) Zr (by kernel_rfl) ?_
 refine Zp 2 rfl (tk rfl (PE.indexAddr Z15 rfl rfl (by omega) (by omega)) rfl (ld rfl rfl (lf0 sc3 (by simp [Z3, hx]; rfl) rfl) rfl (Zp 2 rfl (tk rfl (PE.indexAddr Z15 rfl rfl (by omega) (by omega)) rfl (ld rfl rfl (lf0 sc3 (by simp [Z3, hz]; rfl) rfl) rfl (Zp 1 rfl ?_))))))
 refine Z1 rfl ?_ ?_ <;> intro hc2
 have hne : xs ≠ ys := fun e => by subst e; rw [hx] at hz; cases hz; simp at hc2
 refine sqt 1 rfl (pur 1 rfl (Z6 ?_))
 exact rtA rfl rfl rfl ⟨by first | (simp only [Z0e]; rw [dT heq]; done) | (simp only [Z0e]; rw [dF hne]), rfl, rfl⟩ idH
 have hxz : x = z := by simpa using hc2
 refine Z2 (sqr 2 rfl (sp rfl (PE.add rfl rfl (by omega)) rfl (pur 1 rfl ?_)))
 exact Z8 ⟨k + 1, by omega, by rw [List.take_add_one, List.take_add_one, hn, hx, hz, hxz]⟩ idH
 simp only [cS] at hc1
 obtain rfl : k = xs.length := by omega
 have heq : xs = ys := by
   rw [List.take_length] at hn
   exact hn.trans (by rw [hle]; exact List.take_length)
 refine Z9 (Za (Za (Zn (sqt 1 rfl (pur 1 rfl (Z6 ?_))))))
 exact rtA rfl rfl rfl ⟨by first | (simp only [Z0e]; rw [dT heq]; done) | (simp only [Z0e]; rw [dF hne]), rfl, rfl⟩ idH
theorem Z2s (xs ys : List Int) (a a2 : Option Addr) (c c2 : Nat) (hl : xs.length ≤ 9223372036854775807) (hl2 : ys.length ≤ 9223372036854775807) (H : Z7) (R : Z5) [hR : MemRows a 1 (Z3 xs) R] [hR2 : MemRows a2 1 (Z3 ys) R] :
    FnV Try.prog 49 [.slice a xs.length c, .slice a2 ys.length c2] H R (.bool (decide (xs = ys))) := by
 refine Zi Try.func49 rfl Try.ntmps49 rfl ?_
 refine sqt 1 rfl (pur 1 rfl (sqt 4 rfl (pur 2 rfl ?_)))
 refine clV rfl ZdH rfl rfl (Z8l xs ys a a2 c c2 hl hl2 _ _) ?_
 refine pur 1 rfl (Z6 ?_)
 exact rtA rfl rfl rfl ⟨rfl, rfl, rfl⟩ drp
theorem Zdk : cal Try.prog 12 = true := by kernel_rfl
theorem ZaH : cal Try.prog 14 = true := by kernel_rfl
theorem Zdy : cal Try.prog 15 = true := by kernel_rfl
theorem Z9J : cal Try.prog 18 = true := by kernel_rfl
theorem Zdo : cal Try.prog 22 = true := by kernel_rfl
theorem Zad : cal Try.prog 23 = true := by kernel_rfl
theorem Z9V : cal Try.prog 25 = true := by kernel_rfl
theorem Z4A : cal Try.prog 47 = true := by kernel_rfl
theorem Zd4 : cal Try.prog 48 = true := by kernel_rfl
theorem Z8O : cal Try.prog 49 = true := by kernel_rfl
set_option maxHeartbeats 1000000 in
theorem Zae (H : Z7) (R : Z5) :
    FnV Try.prog 16 [] H R (.bool true) := by
 refine Zi Try.func16 rfl Try.ntmps16 rfl ?_
 refine sqt 1 rfl (pur 1 rfl (sqt 8 rfl ?_))
 refine cl rfl Z4A rfl rfl (Z4u 0 (by decide) _ _) ?_
 rintro _ _ R1 ⟨ag18, as18, cg18, cs18, rfl, _, rfl, hR1⟩
 obtain rfl := hR1.symm
 clear hR1
 refine bsl (out := [_]) rfl Z08 zl3 rfl rfl rfl rfl rfl rfl (fun b19 => ?_)
 refine Sy.heap (fun w h9 => St.rows (sz := 1) (rows := Z3 [0]) (rest := []) (h9.pull b19) (by simp)) ?_
 refine cl rfl Z9J rfl rfl (Z6Z (six 0) ag18 as18 cg18 cs18 (by decide) (by decide) [0] (some ⟨b19, 0, none⟩) 1 (by decide) (by decide) _ _) ?_
 rintro _ _ R1 ⟨a1, c1, _, rfl, rfl, hR1⟩
 obtain rfl := hR1.symm
 clear hR1
 rw [six_w.1, six_w.2]
 refine pur 5 rfl (sqt 7 rfl ?_)
 refine cl rfl Z4A rfl rfl (Z4u 2 (by decide) _ _) ?_
 rintro _ _ R1 ⟨ag24, as24, cg24, cs24, rfl, _, rfl, hR1⟩
 obtain rfl := hR1.symm
 clear hR1
 refine cl rfl ZaH rfl rfl (Z2X (six 2) ag24 as24 cg24 cs24 (by decide) (by decide) _ _) ?_
 rintro _ _ R1 ⟨a2, c2, _, rfl, rfl, hR1⟩
 obtain rfl := hR1.symm
 clear hR1
 rw [six_o.1, six_o.2]
 refine pur 5 rfl (sqt 7 rfl ?_)
 refine cl rfl Z4A rfl rfl (Z4u 2 (by decide) _ _) ?_
 rintro _ _ R1 ⟨ag29, as29, cg29, cs29, rfl, _, rfl, hR1⟩
 obtain rfl := hR1.symm
 clear hR1
 refine cl rfl Zdy rfl rfl (Z92 (six 2) ag29 as29 cg29 cs29 (by decide) (by decide) 1 _ _) ?_
 rintro _ _ R1 ⟨a3, c3, _, rfl, rfl, hR1⟩
 obtain rfl := hR1.symm
 clear hR1
 rw [six_s.1, six_s.2]
 refine pur 5 rfl (sqt 7 rfl ?_)
 refine cl rfl Z4A rfl rfl (Z4u 3 (by decide) _ _) ?_
 rintro _ _ R1 ⟨ag34, as34, cg34, cs34, rfl, _, rfl, hR1⟩
 obtain rfl := hR1.symm
 clear hR1
 refine cl rfl Zdk rfl rfl (ZaF (six 3) ag34 as34 cg34 cs34 (by decide) (by decide) _ _) ?_
 rintro _ _ R1 ⟨a4, c4, _, rfl, rfl, hR1⟩
 obtain rfl := hR1.symm
 clear hR1
 rw [six_c.1, six_c.2]
 refine pur 5 rfl (sqt 9 rfl ?_)
 refine cl rfl Z4A rfl rfl (Z4u 0 (by decide) _ _) ?_
 rintro _ _ R1 ⟨ag39, as39, cg39, cs39, rfl, _, rfl, hR1⟩
 obtain rfl := hR1.symm
 clear hR1
 refine bsl (out := [_]) rfl Z08 zl3 rfl rfl rfl rfl rfl rfl (fun b40 => ?_)
 refine bsl (out := [_]) rfl Z08 zl3 rfl rfl rfl rfl rfl rfl (fun b41 => ?_)
 refine Sy.heap (fun w h9 => St.rows (sz := 1) (rows := Z3 [0]) (rest := []) (h9.pull b40) (by simp)) ?_
 refine Sy.heap (fun w h9 => St.rows (sz := 1) (rows := Z3 [1]) (rest := []) (h9.pull b41) (by simp)) ?_
 refine cl rfl Z9V rfl rfl (Z5n (six 0) ag39 as39 cg39 cs39 (by decide) (by decide) [0] [1] (some ⟨b40, 0, none⟩) (some ⟨b41, 0, none⟩) 1 1 (by decide) (by decide) (by decide) (by decide) 1 _ _) ?_
 rintro _ _ R1 ⟨rfl, hR1, hq⟩
 obtain rfl := hR1.symm
 clear hR1
 rcases hq with ⟨h9, _⟩ | ⟨_, hn, _⟩ | ⟨_, n, _, hn, rfl⟩
 · exact absurd six_b.2.2 h9
 · exact absurd six_few.1 (hn 3)
 obtain rfl := hn.unique six_few
 refine pur 5 rfl (sqt 12 rfl ?_)
 refine cl rfl Z4A rfl rfl (Z4u 0 (by decide) _ _) ?_
 rintro _ _ R1 ⟨Z5s, as46, cg46, cs46, rfl, _, rfl, hR1⟩
 obtain rfl := hR1.symm
 clear hR1
 refine bsl (out := [_]) rfl Z08 zl3 rfl rfl rfl rfl rfl rfl (fun b47 => ?_)
 refine bsl (out := [_]) rfl Z08 zl3 rfl rfl rfl rfl rfl rfl (fun b48 => ?_)
 refine bsl (out := [_, _]) rfl Z08 zl3 rfl rfl rfl rfl rfl rfl (fun b49 => ?_)
 refine bsl (out := [_, _]) rfl Z08 zl3 rfl rfl rfl rfl rfl rfl (fun b50 => ?_)
 refine bsl (out := [_, _]) rfl ZcK Z9c rfl rfl rfl rfl rfl rfl (fun b51 => ?_)
 refine Sy.heap (fun w h9 => St.rows (sz := 1) (rows := Z3 [0]) (rest := []) (h9.pull b47) (by simp)) ?_
 refine Sy.heap (fun w h9 => St.rows (sz := 1) (rows := Z3 [3]) (rest := []) (h9.pull b48) (by simp)) ?_
 refine Sy.heap (fun w h9 => St.rows (sz := 1) (rows := Z3 [0, 2]) (rest := []) (h9.pull b49) (by simp)) ?_
 refine Sy.heap (fun w h9 => St.rows (sz := 1) (rows := Z3 [1, 3]) (rest := []) (h9.pull b50) (by simp)) ?_
 refine Sy.heap (fun w h9 => St.rows (sz := 1) (rows := ZG [⟨some ⟨b49, 0, none⟩, 2, [0, 2]⟩, ⟨some ⟨b50, 0, none⟩, 2, [1, 3]⟩]) (rest := []) (h9.pull b51) (by simp [ZG, Z6q])) ?_
 refine Sy.heap (fun w h9 => St.inn0 h9) ?_
 refine Sy.heap (fun w h9 => (show St _ (Inn [⟨some ⟨b49, 0, none⟩, 2, [0, 2]⟩] :: _) w from St.innSnoc (l := []) ⟨some ⟨b49, 0, none⟩, 2, [0, 2]⟩ h9)) ?_
 refine Sy.heap (fun w h9 => (show St _ (Inn [⟨some ⟨b49, 0, none⟩, 2, [0, 2]⟩, ⟨some ⟨b50, 0, none⟩, 2, [1, 3]⟩] :: _) w from St.innSnoc (l := [⟨some ⟨b49, 0, none⟩, 2, [0, 2]⟩]) ⟨some ⟨b50, 0, none⟩, 2, [1, 3]⟩ h9)) ?_
 refine cl rfl Zd4 rfl rfl (Z9Q (six 0) Z5s as46 cg46 cs46 (by decide) (by decide) [0] [3] (some ⟨b47, 0, none⟩) (some ⟨b48, 0, none⟩) 1 1 (by decide) (by decide) (by decide) (by decide) [⟨some ⟨b49, 0, none⟩, 2, [0, 2]⟩, ⟨some ⟨b50, 0, none⟩, 2, [1, 3]⟩] (some ⟨b51, 0, none⟩) 2 (by show 2 ≤ 1000000; decide) (by show 4 ≤ 1000000; decide) _ _) ?_
 rintro _ _ _ ⟨rfl, rfl, rfl⟩
 rw [show lls [⟨some ⟨b49, 0, none⟩, 2, [0, 2]⟩, ⟨some ⟨b50, 0, none⟩, 2, [1, 3]⟩] = [[0, 2], [1, 3]] from rfl, six_l.1, six_l.2]
 refine pur 5 rfl (sqt 9 rfl ?_)
 refine cl rfl Z4A rfl rfl (Z4u 0 (by decide) _ _) ?_
 rintro _ _ R1 ⟨ag56, as56, cg56, cs56, rfl, _, rfl, hR1⟩
 obtain rfl := hR1.symm
 clear hR1
 refine bsl (out := [_]) rfl Z08 zl3 rfl rfl rfl rfl rfl rfl (fun b57 => ?_)
 refine bsl (out := [_]) rfl Z08 zl3 rfl rfl rfl rfl rfl rfl (fun b58 => ?_)
 refine Sy.heap (fun w h9 => St.rows (sz := 1) (rows := Z3 [0]) (rest := []) (h9.pull b57) (by simp)) ?_
 refine Sy.heap (fun w h9 => St.rows (sz := 1) (rows := Z3 [5]) (rest := []) (h9.pull b58) (by simp)) ?_
 refine cl rfl Zad rfl rfl (ZbH (six 0) ag56 as56 cg56 cs56 (by decide) (by decide) [0] [5] (some ⟨b57, 0, none⟩) (some ⟨b58, 0, none⟩) 1 1 (by decide) (by decide) (by decide) (by decide) _ _) ?_
 rintro _ _ R1 ⟨rfl, hq⟩
 rcases hq with ⟨h9, _⟩ | ⟨_, f, V, a5, c5, hf, hs, _, rfl, hR1⟩
 · exact absurd six_b.1 h9
 obtain rfl := hR1.symm
 clear hR1
 rw [Z6k hf hs]
 refine pur 5 rfl (sqt 9 rfl ?_)
 refine cl rfl Z4A rfl rfl (Z4u 0 (by decide) _ _) ?_
 rintro _ _ R1 ⟨ag63, as63, cg63, cs63, rfl, _, rfl, hR1⟩
 obtain rfl := hR1.symm
 clear hR1
 refine bsl (out := [_]) rfl Z08 zl3 rfl rfl rfl rfl rfl rfl (fun b64 => ?_)
 refine bsl (out := [_]) rfl Z08 zl3 rfl rfl rfl rfl rfl rfl (fun b65 => ?_)
 refine Sy.heap (fun w h9 => St.rows (sz := 1) (rows := Z3 [0]) (rest := []) (h9.pull b64) (by simp)) ?_
 refine Sy.heap (fun w h9 => St.rows (sz := 1) (rows := Z3 [3]) (rest := []) (h9.pull b65) (by simp)) ?_
 refine cl rfl Zdo rfl rfl (Zaf (six 0) ag63 as63 cg63 cs63 (by decide) (by decide) [0] [3] (some ⟨b64, 0, none⟩) (some ⟨b65, 0, none⟩) 1 1 (by decide) (by decide) (by decide) (by decide) _ _) ?_
 rintro _ _ R1 ⟨rfl, hR1, hq⟩
 obtain rfl := hR1.symm
 clear hR1
 rcases hq with ⟨h9, _⟩ | ⟨_, n, _, hn1, hn2, rfl⟩
 · exact absurd six_b.2.1 h9
 obtain rfl := ZaS hn1 hn2
 refine pur 5 rfl (sqt 68 rfl (pur 3 rfl ?_))
 refine Zv 71 rfl ?_ ?_ <;> intro g71
 refine pur 4 rfl ?_
 refine Zv 75 rfl ?_ ?_ <;> intro g75
 refine pur 4 rfl ?_
 refine Zv 79 rfl ?_ ?_ <;> intro g79
 refine pur 4 rfl ?_
 refine Zv 83 rfl ?_ ?_ <;> intro g83
 refine pur 4 rfl ?_
 refine Zv 87 rfl ?_ ?_ <;> intro g87
 refine pur 4 rfl ?_
 refine Zv 91 rfl ?_ ?_ <;> intro g91
 refine pur 4 rfl ?_
 refine Zv 95 rfl ?_ ?_ <;> intro g95
 refine pur 4 rfl ?_
 refine Zv 99 rfl ?_ ?_ <;> intro g99
 refine pur 1 rfl ?_
 refine ZcD (out := [_, _, _, _, _, _]) rfl rfl rfl rfl Z08 zl3 rfl rfl rfl rfl rfl rfl (fun b101 => ?_)
 refine Sy.heap (fun w h9 => St.rows (sz := 1) (rows := Z3 [0, 1, 1, 2, 3, 4]) (rest := []) (h9.pull b101) (by simp)) ?_
 refine Z9b rfl rfl rfl rfl Z8O rfl rfl (Z2s [0, 1, 1, 2, 3, 4] [0, 1, 1, 2, 3, 4] a1 (some ⟨b101, 0, none⟩) c1 6 (by decide) (by decide) _ _) ?_
 refine pur 2 rfl ?_
 refine Zv 104 rfl ?_ ?_ <;> intro g104
 refine pur 1 rfl ?_
 refine ZcD (out := [_]) rfl rfl rfl rfl Z08 zl3 rfl rfl rfl rfl rfl rfl (fun b106 => ?_)
 refine Sy.heap (fun w h9 => St.rows (sz := 1) (rows := Z3 [4]) (rest := []) (h9.pull b106) (by simp)) ?_
 refine Z9b rfl rfl rfl rfl Z8O rfl rfl (Z2s [4] [4] a2 (some ⟨b106, 0, none⟩) c2 1 (by decide) (by decide) _ _) ?_
 refine pur 2 rfl ?_
 refine Zv 109 rfl ?_ ?_ <;> intro g109
 refine pur 1 rfl ?_
 refine ZcD (out := [_, _]) rfl rfl rfl rfl Z08 zl3 rfl rfl rfl rfl rfl rfl (fun b111 => ?_)
 refine Sy.heap (fun w h9 => St.rows (sz := 1) (rows := Z3 [4, 5]) (rest := []) (h9.pull b111) (by simp)) ?_
 refine Z9b rfl rfl rfl rfl Z8O rfl rfl (Z2s [4, 5] [4, 5] a3 (some ⟨b111, 0, none⟩) c3 2 (by decide) (by decide) _ _) ?_
 refine pur 2 rfl ?_
 refine Zv 114 rfl ?_ ?_ <;> intro g114
 refine pur 1 rfl ?_
 refine ZcD (out := [_, _, _]) rfl rfl rfl rfl Z08 zl3 rfl rfl rfl rfl rfl rfl (fun b116 => ?_)
 refine Sy.heap (fun w h9 => St.rows (sz := 1) (rows := Z3 [0, 1, 2]) (rest := []) (h9.pull b116) (by simp)) ?_
 refine Z9b rfl rfl rfl rfl Z8O rfl rfl (Z2s [0, 1, 2] [0, 1, 2] a4 (some ⟨b116, 0, none⟩) c4 3 (by decide) (by decide) _ _) ?_
 refine pur 2 rfl ?_
 refine Zv 119 rfl ?_ ?_ <;> intro g119
 refine pur 4 rfl ?_
 refine Zv 123 rfl ?_ ?_ <;> intro g123
 refine pur 4 rfl ?_
 refine Zv 127 rfl ?_ ?_ <;> intro g127
 refine pur 1 rfl ?_
 refine spG rfl rfl rfl rfl (PE.lenSl Zx rfl) rfl ?_
 refine pur 3 rfl ?_
 refine Zv 132 rfl ?_ ?_ <;> intro g132
 refine pur 4 rfl (Z6 ?_)
 exact rtA rfl rfl rfl ⟨rfl, rfl, rfl⟩ (fun w h9 => St.sub h9)
 exact absurd g132 (by decide)
 exact absurd g127 (by decide)
 exact absurd g123 (by decide)
 exact absurd g119 (by decide)
 exact absurd g114 (by decide)
 exact absurd g109 (by decide)
 exact absurd g104 (by decide)
 exact absurd g99 (by decide)
 exact absurd g95 (by decide)
 exact absurd g91 (by decide)
 exact absurd g87 (by decide)
 exact absurd g83 (by decide)
 exact absurd g79 (by decide)
 exact absurd g75 (by decide)
 exact absurd g71 (by decide)
theorem Zcz : apT Try.prog 23 = some (46, 2, 16) := by kernel_rfl
theorem Z23 : cal Try.prog 36 = true := by kernel_rfl
theorem Zdt : cal Try.prog 50 = true := by kernel_rfl
theorem ZdQ : cal Try.prog 51 = true := by kernel_rfl
theorem Zdw : cal Try.prog 77 = true := by kernel_rfl
theorem Zds : Z0w Try.prog 70 = some 1 := by kernel_rfl
theorem Ze6 : elN Try.prog 22 = some 1 := by kernel_rfl
theorem Z64 : Z2l Try.prog 72 0 = some 0 := by kernel_rfl
theorem Z33 : Z2l Try.prog 72 1 = some 1 := by kernel_rfl
theorem Z0C : Z2l Try.prog 72 2 = some 2 := by kernel_rfl
theorem ZdW : Z89 Try.prog 70 = some .u32 := by kernel_rfl
theorem Z8T : Z63 Try.prog 22 = true := by kernel_rfl
theorem Ze2 : Z1i Try.prog 72 = some [(0, 1), (1, 1), (2, 1)] := by kernel_rfl
theorem ZcI : Z2n Try.prog 22 = true := by kernel_rfl
theorem sc5 : Z2n Try.prog 5 = true := by kernel_rfl
theorem Z7a : Z2n Try.prog 70 = true := by kernel_rfl
theorem us3 : (Try.prog.underlying 3).isSome = true := by kernel_rfl
theorem us5 : (Try.prog.underlying 5).isSome = true := by kernel_rfl
theorem ZcE : (Try.prog.underlying 70).isSome = true := by kernel_rfl
theorem Ze7 : ZI Try.prog 72 = some ([.slice none 0 0, .int .i64 0, .int .u32 0]) := by kernel_rfl
def Z7K (x : Int) : List Value := [.int .u8 x]
def Z1H (l : List Int) : List (List Value) := l.map Z7K
theorem Z5r (g : List Int) (ag : Option Addr) (cg : Nat) (hgl : g.length ≤ 9223372036854775807) (H : Z7) (R : Z5) :
    Fn Try.prog 10 [.slice ag g.length cg] H R (fun v H' R' => ∃ bk, ∃ mx : Int, (0 ≤ mx ∧ mx ≤ 4294967295) ∧ v = .pointer (some ⟨bk, 0, none⟩) ∧ H' = (bk, cel 72 [.slice ag g.length cg, .int .i64 (0), .int .u32 (mx)]) :: H ∧ R' = R) := by
 refine Zi Try.func10 rfl Try.ntmps10 rfl ?_
 refine sqt 1 rfl (pur 1 rfl (sqt 8 rfl (pur 2 rfl (sp rfl (PE.lenSl Z8T rfl) rfl ?_))))
 refine spE rfl (PE.convU us3 ZdW rfl) rfl ?_
 rintro _ ⟨u6, rfl, hu6⟩
 refine spE rfl (PE.xorU rfl rfl) rfl ?_
 rintro _ ⟨u7, rfl, hu7⟩
 refine sp rfl (PE.build (out := [_, _, _]) Ze2 Ze7 rfl rfl) rfl (bx rfl rfl rfl (fun b9 => pur 1 rfl (Z6 ?_)))
 exact rtA rfl rfl rfl ⟨b9, u7, hu7, rfl, rfl, rfl⟩ idH
theorem Z6x (g : List Int) (ag : Option Addr) (cg bk : Nat) (hgl : g.length ≤ 9223372036854775807) (tq mx : Int) (htq : 0 ≤ tq ∧ tq ≤ 1000000000) (hmx : 0 ≤ mx ∧ mx ≤ 4294967295) (H : Z7) (R : Z5) [hG : MemRows ag 1 (Z1H g) R] :
    Fn Try.prog 77 [.pointer (some ⟨bk, 0, none⟩)] ((bk, cel 72 [.slice ag g.length cg, .int .i64 (tq), .int .u32 (mx)]) :: H) R (fun v H' R' => ∃ x m' : Int, (0 ≤ x ∧ x ≤ 65535) ∧ v = .int .i64 x ∧ (0 ≤ m' ∧ m' ≤ 4294967295) ∧ H' = (bk, cel 72 [.slice ag g.length cg, .int .i64 (tq + 1), .int .u32 (m')]) :: H ∧ R' = R) := by
 refine Zi Try.func77 rfl Try.ntmps77 rfl ?_
 refine sqt 1 rfl (pur 1 rfl (Z0 (sqt 6 rfl (pur 1 rfl (sp rfl (PE.nilCheck rfl) rfl (sp rfl (PE.fA Z64 rfl) rfl (spL rfl rfl (lh ZcI rfl rfl) rfl (sp rfl (PE.lenSl Z8T rfl) rfl (pur 1 rfl (sqt 2 rfl (pur 2 rfl ?_)))))))))))
 refine Z1 rfl ?_ ?_ <;> intro hc0 <;> try simp only [cS] at hc0
 obtain ⟨y, hy⟩ : ∃ y, g[(tq % g.length).toNat]? = some y := ⟨_, List.getElem?_eq_getElem (by have := Int.emod_lt_of_pos tq hc0; have := Int.emod_nonneg tq (show (g.length : Int) ≠ 0 by omega); omega)⟩
 refine Zj (a := ag) (sz := 1) (rows := Z1H g) (by intro h0; simp [Z1H] at h0; simp [h0] at hy) (fun bgr ogr he => ?_)
 subst he
 refine Zc [0, 0, 2, 6, 14, 0, 32, 96, 224, 0, 512, 1536, 3584, 0, 15872, 32736, 65504, 131040, 262142, 524286, 1048575, 2097151, 4194303] (tks 0 4 (.ld 4 (tks 5 3 (.ld 8 (tks 9 3 (.ld 12 (tks 13 3 (.ld 16 (tks 17 5 (.big 22 .done)))))))))) Zr (by kernel_rfl) ?_
 refine Zp 2 rfl (tk rfl (PE.nilCheck rfl) rfl (tk rfl (PE.fA Z0C rfl) rfl (ld rfl rfl (lh Z7a rfl rfl) rfl (Zp 1 rfl (tk rfl (PE.nilCheck rfl) rfl (tk rfl (PE.fA Z64 rfl) rfl (ld rfl rfl (lh ZcI rfl rfl) rfl (Zp 1 rfl (tk rfl (PE.nilCheck rfl) rfl (tk rfl (PE.fA Z33 rfl) rfl (ld rfl rfl (lh sc3 rfl rfl) rfl (Zp 1 rfl (tk rfl (PE.rem rfl rfl (by omega)) rfl (tk rfl (PE.indexAddr Ze6 rfl rfl (by exact Int.emod_nonneg tq (by omega)) (by exact Int.emod_lt_of_pos tq hc0)) rfl (ld rfl rfl (lf0 (x := .int .u8 y) sc5 (by simp [Z1H, Z7K, hy]; rfl) rfl) rfl ?_)))))))))))))))
 refine tkE rfl (PE.convU us5 ZdW rfl) rfl ?_
 rintro _ ⟨u28, rfl, hu28⟩
 refine tkE rfl (PE.xorU rfl rfl) rfl ?_
 rintro _ ⟨u29, rfl, hu29⟩
 refine tkE rfl (PE.mulU rfl rfl) rfl ?_
 rintro _ ⟨u30, rfl, hu30⟩
 refine tk rfl (PE.nilCheck rfl) rfl (tk rfl (PE.fA Z0C rfl) rfl ?_)
 refine sto rfl rfl rfl Zds rfl rfl rfl rfl ?_
 refine bgT (sqt 8 rfl (pur 1 rfl (sp rfl (PE.nilCheck rfl) rfl (sp rfl (PE.fA Z33 rfl) rfl (spL rfl rfl (lh sc3 rfl rfl) rfl (sp rfl (PE.add rfl rfl (by omega)) rfl (sp rfl (PE.nilCheck rfl) rfl (sp rfl (PE.fA Z33 rfl) rfl ?_))))))))
 refine sto rfl rfl rfl cn3 rfl rfl rfl rfl ?_
 refine Z0 (Z0 ?_)
 refine Zc [0, 1, 3, 7, 0, 16, 48, 112, 240, 511] (tks 0 3 (.ld 3 (tks 4 3 (.ld 7 (.tk 8 (.tk 9 .done)))))) Zr (by kernel_rfl) ?_
 refine Zp 1 rfl (tk rfl (PE.nilCheck rfl) rfl (tk rfl (PE.fA Z33 rfl) rfl (ld rfl rfl (lh sc3 rfl rfl) rfl (Zp 1 rfl (tk rfl (PE.nilCheck rfl) rfl (tk rfl (PE.fA Z64 rfl) rfl (ld rfl rfl (lh ZcI rfl rfl) rfl (tk rfl (PE.lenSl Z8T rfl) rfl (Zp 1 rfl ?_)))))))))
 refine Z1 rfl ?_ ?_ <;> intro hc1 <;> try simp only [cS] at hc1
 refine sqr 10 rfl (pur 2 rfl (sp rfl (PE.nilCheck rfl) rfl (sp rfl (PE.fA Z0C rfl) rfl (spL rfl rfl (lh Z7a rfl rfl) rfl ?_))))
 refine spE rfl (PE.mulU rfl rfl) rfl ?_
 rintro _ ⟨u55, rfl, hu55⟩
 refine spE rfl (PE.addU rfl rfl) rfl ?_
 rintro _ ⟨u56, rfl, hu56⟩
 refine sp rfl (PE.nilCheck rfl) rfl (sp rfl (PE.fA Z0C rfl) rfl ?_)
 refine sto rfl rfl rfl Zds rfl rfl rfl rfl ?_
 refine Z0 ?_
 refine Zc [0, 1, 3, 7, 0, 16, 48, 112, 240, 511, 1023, 2047, 4095, 8191] (tks 0 3 (.ld 3 (tks 4 3 (.ld 7 (tks 8 6 .done))))) Zr (by kernel_rfl) ?_
 refine Zp 1 rfl (tk rfl (PE.nilCheck rfl) rfl (tk rfl (PE.fA Z0C rfl) rfl (ld rfl rfl (lh Z7a rfl rfl) rfl (Zp 1 rfl (tk rfl (PE.nilCheck rfl) rfl (tk rfl (PE.fA Z0C rfl) rfl (ld rfl rfl (lh Z7a rfl rfl) rfl ?_)))))))
 refine tkE rfl (PE.shrU rfl rfl (by decide) (by omega) (by omega)) rfl ?_
 rintro _ ⟨u67, rfl, hu67⟩
 refine tkE rfl (PE.xorU rfl rfl) rfl ?_
 rintro _ ⟨u68, rfl, hu68⟩
 refine tkE rfl (PE.shrU rfl rfl (by decide) (by omega) (by omega)) rfl ?_
 rintro _ ⟨u69, rfl, hu69⟩
 refine tkE rfl (PE.andU rfl rfl (by decide) (by decide)) rfl ?_
 rintro _ ⟨u70, rfl, hu70⟩
 refine tk rfl (PE.conv64 ZcE ik3 rfl (by omega)) rfl (Zp 1 rfl (Z6 ?_))
 first
   | exact rtA rfl rfl rfl ⟨u70, _, hu70, rfl, hu56, rfl, rfl⟩ idH
   | exact rtA rfl rfl rfl ⟨u70, _, hu70, rfl, hu30, rfl, rfl⟩ idH
   | exact rtA rfl rfl rfl ⟨u70, _, hu70, rfl, hmx, rfl, rfl⟩ idH
 refine Z2 (Z0 ?_)
 refine Zc [0, 1, 3, 7, 0, 16, 48, 112, 240, 511, 1023, 2047, 4095, 8191] (tks 0 3 (.ld 3 (tks 4 3 (.ld 7 (tks 8 6 .done))))) Zr (by kernel_rfl) ?_
 refine Zp 1 rfl (tk rfl (PE.nilCheck rfl) rfl (tk rfl (PE.fA Z0C rfl) rfl (ld rfl rfl (lh Z7a rfl rfl) rfl (Zp 1 rfl (tk rfl (PE.nilCheck rfl) rfl (tk rfl (PE.fA Z0C rfl) rfl (ld rfl rfl (lh Z7a rfl rfl) rfl ?_)))))))
 refine tkE rfl (PE.shrU rfl rfl (by decide) (by omega) (by omega)) rfl ?_
 rintro _ ⟨u67, rfl, hu67⟩
 refine tkE rfl (PE.xorU rfl rfl) rfl ?_
 rintro _ ⟨u68, rfl, hu68⟩
 refine tkE rfl (PE.shrU rfl rfl (by decide) (by omega) (by omega)) rfl ?_
 rintro _ ⟨u69, rfl, hu69⟩
 refine tkE rfl (PE.andU rfl rfl (by decide) (by decide)) rfl ?_
 rintro _ ⟨u70, rfl, hu70⟩
 refine tk rfl (PE.conv64 ZcE ik3 rfl (by omega)) rfl (Zp 1 rfl (Z6 ?_))
 first
   | exact rtA rfl rfl rfl ⟨u70, _, hu70, rfl, hu56, rfl, rfl⟩ idH
   | exact rtA rfl rfl rfl ⟨u70, _, hu70, rfl, hu30, rfl, rfl⟩ idH
   | exact rtA rfl rfl rfl ⟨u70, _, hu70, rfl, hmx, rfl, rfl⟩ idH
 refine Z2 (sqt 8 rfl (pur 1 rfl (sp rfl (PE.nilCheck rfl) rfl (sp rfl (PE.fA Z33 rfl) rfl (spL rfl rfl (lh sc3 rfl rfl) rfl (sp rfl (PE.add rfl rfl (by omega)) rfl (sp rfl (PE.nilCheck rfl) rfl (sp rfl (PE.fA Z33 rfl) rfl ?_))))))))
 refine sto rfl rfl rfl cn3 rfl rfl rfl rfl ?_
 refine Z0 (Z0 ?_)
 refine Zc [0, 1, 3, 7, 0, 16, 48, 112, 240, 511] (tks 0 3 (.ld 3 (tks 4 3 (.ld 7 (.tk 8 (.tk 9 .done)))))) Zr (by kernel_rfl) ?_
 refine Zp 1 rfl (tk rfl (PE.nilCheck rfl) rfl (tk rfl (PE.fA Z33 rfl) rfl (ld rfl rfl (lh sc3 rfl rfl) rfl (Zp 1 rfl (tk rfl (PE.nilCheck rfl) rfl (tk rfl (PE.fA Z64 rfl) rfl (ld rfl rfl (lh ZcI rfl rfl) rfl (tk rfl (PE.lenSl Z8T rfl) rfl (Zp 1 rfl ?_)))))))))
 refine Z1 rfl ?_ ?_ <;> intro hc1 <;> try simp only [cS] at hc1
 refine sqr 10 rfl (pur 2 rfl (sp rfl (PE.nilCheck rfl) rfl (sp rfl (PE.fA Z0C rfl) rfl (spL rfl rfl (lh Z7a rfl rfl) rfl ?_))))
 refine spE rfl (PE.mulU rfl rfl) rfl ?_
 rintro _ ⟨u55, rfl, hu55⟩
 refine spE rfl (PE.addU rfl rfl) rfl ?_
 rintro _ ⟨u56, rfl, hu56⟩
 refine sp rfl (PE.nilCheck rfl) rfl (sp rfl (PE.fA Z0C rfl) rfl ?_)
 refine sto rfl rfl rfl Zds rfl rfl rfl rfl ?_
 refine Z0 ?_
 refine Zc [0, 1, 3, 7, 0, 16, 48, 112, 240, 511, 1023, 2047, 4095, 8191] (tks 0 3 (.ld 3 (tks 4 3 (.ld 7 (tks 8 6 .done))))) Zr (by kernel_rfl) ?_
 refine Zp 1 rfl (tk rfl (PE.nilCheck rfl) rfl (tk rfl (PE.fA Z0C rfl) rfl (ld rfl rfl (lh Z7a rfl rfl) rfl (Zp 1 rfl (tk rfl (PE.nilCheck rfl) rfl (tk rfl (PE.fA Z0C rfl) rfl (ld rfl rfl (lh Z7a rfl rfl) rfl ?_)))))))
 refine tkE rfl (PE.shrU rfl rfl (by decide) (by omega) (by omega)) rfl ?_
 rintro _ ⟨u67, rfl, hu67⟩
 refine tkE rfl (PE.xorU rfl rfl) rfl ?_
 rintro _ ⟨u68, rfl, hu68⟩
 refine tkE rfl (PE.shrU rfl rfl (by decide) (by omega) (by omega)) rfl ?_
 rintro _ ⟨u69, rfl, hu69⟩
 refine tkE rfl (PE.andU rfl rfl (by decide) (by decide)) rfl ?_
 rintro _ ⟨u70, rfl, hu70⟩
 refine tk rfl (PE.conv64 ZcE ik3 rfl (by omega)) rfl (Zp 1 rfl (Z6 ?_))
 first
   | exact rtA rfl rfl rfl ⟨u70, _, hu70, rfl, hu56, rfl, rfl⟩ idH
   | exact rtA rfl rfl rfl ⟨u70, _, hu70, rfl, hu30, rfl, rfl⟩ idH
   | exact rtA rfl rfl rfl ⟨u70, _, hu70, rfl, hmx, rfl, rfl⟩ idH
 refine Z2 (Z0 ?_)
 refine Zc [0, 1, 3, 7, 0, 16, 48, 112, 240, 511, 1023, 2047, 4095, 8191] (tks 0 3 (.ld 3 (tks 4 3 (.ld 7 (tks 8 6 .done))))) Zr (by kernel_rfl) ?_
 refine Zp 1 rfl (tk rfl (PE.nilCheck rfl) rfl (tk rfl (PE.fA Z0C rfl) rfl (ld rfl rfl (lh Z7a rfl rfl) rfl (Zp 1 rfl (tk rfl (PE.nilCheck rfl) rfl (tk rfl (PE.fA Z0C rfl) rfl (ld rfl rfl (lh Z7a rfl rfl) rfl ?_)))))))
 refine tkE rfl (PE.shrU rfl rfl (by decide) (by omega) (by omega)) rfl ?_
 rintro _ ⟨u67, rfl, hu67⟩
 refine tkE rfl (PE.xorU rfl rfl) rfl ?_
 rintro _ ⟨u68, rfl, hu68⟩
 refine tkE rfl (PE.shrU rfl rfl (by decide) (by omega) (by omega)) rfl ?_
 rintro _ ⟨u69, rfl, hu69⟩
 refine tkE rfl (PE.andU rfl rfl (by decide) (by decide)) rfl ?_
 rintro _ ⟨u70, rfl, hu70⟩
 refine tk rfl (PE.conv64 ZcE ik3 rfl (by omega)) rfl (Zp 1 rfl (Z6 ?_))
 first
   | exact rtA rfl rfl rfl ⟨u70, _, hu70, rfl, hu56, rfl, rfl⟩ idH
   | exact rtA rfl rfl rfl ⟨u70, _, hu70, rfl, hu30, rfl, rfl⟩ idH
   | exact rtA rfl rfl rfl ⟨u70, _, hu70, rfl, hmx, rfl, rfl⟩ idH
theorem Z0a (g : List Int) (ag : Option Addr) (cg bk : Nat) (hgl : g.length ≤ 9223372036854775807) (tq mx : Int) (htq : 0 ≤ tq ∧ tq ≤ 1000000000) (hmx : 0 ≤ mx ∧ mx ≤ 4294967295) (n : Int) (H : Z7) (R : Z5) [hG : MemRows ag 1 (Z1H g) R] :
    Fn Try.prog 36 [.pointer (some ⟨bk, 0, none⟩), .int .i64 n] ((bk, cel 72 [.slice ag g.length cg, .int .i64 (tq), .int .u32 (mx)]) :: H) R (fun v H' R' => ∃ x m' : Int, (0 ≤ x ∧ x < max 1 n) ∧ v = .int .i64 x ∧ (0 ≤ m' ∧ m' ≤ 4294967295) ∧ H' = (bk, cel 72 [.slice ag g.length cg, .int .i64 (tq + 1), .int .u32 (m')]) :: H ∧ R' = R) := by
 refine Zi Try.func36 rfl Try.ntmps36 rfl ?_
 refine sqt 1 rfl (pur 1 rfl (sqt 6 rfl (pur 1 rfl ?_)))
 refine cl rfl Zdw rfl rfl (Z6x g ag cg bk hgl tq mx htq hmx _ _) ?_
 rintro _ _ _ ⟨x, m', hx, rfl, hm', rfl, rfl⟩
 refine pur 1 rfl (sp rfl (PE.max rfl rfl) rfl (sp rfl (PE.rem rfl rfl (by omega)) rfl (pur 1 rfl (Z6 ?_))))
 exact rtA rfl rfl rfl ⟨_, m', ⟨Int.emod_nonneg _ (by omega), Int.emod_lt_of_pos _ (by omega)⟩, rfl, hm', rfl, rfl⟩ idH
theorem Za3 (g : List Int) (ag : Option Addr) (cg bk : Nat) (hgl : g.length ≤ 9223372036854775807) (tq mx : Int) (htq : 0 ≤ tq ∧ tq ≤ 1000000000) (hmx : 0 ≤ mx ∧ mx ≤ 4294967295) (lo hi : Int) (hb : -1000000 ≤ lo ∧ lo ≤ 1000000 ∧ -1000000 ≤ hi ∧ hi ≤ 1000000) (H : Z7) (R : Z5) [hG : MemRows ag 1 (Z1H g) R] :
    Fn Try.prog 35 [.pointer (some ⟨bk, 0, none⟩), .int .i64 lo, .int .i64 hi] ((bk, cel 72 [.slice ag g.length cg, .int .i64 (tq), .int .u32 (mx)]) :: H) R (fun v H' R' => ∃ x m' : Int, (lo ≤ x ∧ x < lo + max 1 (hi - lo + 1)) ∧ v = .int .i64 x ∧ (0 ≤ m' ∧ m' ≤ 4294967295) ∧ H' = (bk, cel 72 [.slice ag g.length cg, .int .i64 (tq + 1), .int .u32 (m')]) :: H ∧ R' = R) := by
 refine Zi Try.func35 rfl Try.ntmps35 rfl ?_
 refine sqt 1 rfl (pur 1 rfl (sqt 9 rfl (pur 4 rfl (sp rfl (PE.sub rfl rfl (by omega)) rfl (sp rfl (PE.add rfl rfl (by omega)) rfl ?_)))))
 refine cl rfl Z23 rfl rfl (Z0a g ag cg bk hgl tq mx htq hmx (hi - lo + 1) _ _) ?_
 rintro _ _ _ ⟨x, m', hx, rfl, hm', rfl, rfl⟩
 refine sp rfl (PE.add rfl rfl (by omega)) rfl (pur 1 rfl (Z6 ?_))
 exact rtA rfl rfl rfl ⟨lo + x, m', ⟨by omega, by omega⟩, rfl, hm', rfl, rfl⟩ idH
theorem Z6G (g : List Int) (ag : Option Addr) (cg bk : Nat) (hgl : g.length ≤ 9223372036854775807) (tq mx : Int) (htq : 0 ≤ tq ∧ tq ≤ 1000000000) (hmx : 0 ≤ mx ∧ mx ≤ 4294967295) (n : Int) (H : Z7) (R : Z5) [hG : MemRows ag 1 (Z1H g) R] :
    Fn Try.prog 13 [.pointer (some ⟨bk, 0, none⟩), .int .i64 n] ((bk, cel 72 [.slice ag g.length cg, .int .i64 (tq), .int .u32 (mx)]) :: H) R (fun v H' R' => ∃ (x : Bool) (m' : Int), v = .bool x ∧ (0 ≤ m' ∧ m' ≤ 4294967295) ∧ H' = (bk, cel 72 [.slice ag g.length cg, .int .i64 (tq + 1), .int .u32 (m')]) :: H ∧ R' = R) := by
 refine Zi Try.func13 rfl Try.ntmps13 rfl ?_
 refine sqt 1 rfl (pur 1 rfl (sqt 5 rfl (pur 2 rfl ?_)))
 refine cl rfl Z23 rfl rfl (Z0a g ag cg bk hgl tq mx htq hmx n _ _) ?_
 rintro _ _ _ ⟨x, m', hx, rfl, hm', rfl, rfl⟩
 refine pur 2 rfl (Z6 ?_)
 exact rtA rfl rfl rfl ⟨_, m', rfl, hm', rfl, rfl⟩ idH
theorem Z7b (xs : List Gp) (a : Option Addr) (c : Nat) (hl : xs.length ≤ 1000000) (H : Z7) (R : Z5) [hR : MemRows a 2 (Zg xs) R] :
    Fn Try.prog 50 [.slice a xs.length c] H R (fun v H' R' => ∃ o : OSl 46 2 (Zg xs), v = o.fs ∧ o.here ∧ H' = o.G ++ H ∧ R' = R) := by
 refine Zi Try.func50 rfl Try.ntmps50 rfl ?_
 refine sqt 1 rfl (pur 1 rfl (sqt 6 rfl (pur 1 rfl (sp rfl (PE.lenSl Z3h rfl) rfl ?_))))
 refine mkO rfl Zcz Z36 rfl rfl ⟨by omega, by omega⟩ rfl (fun o ho => ?_)
 refine pur 1 rfl ?_
 refine ZcM (news := Zg xs) o rfl Zcz rfl rfl (Z7t) (by simp [Zg]) (by simp [Z05, Zg, Z1u, Value.oneCell']) ⟨by simp [Zg]; omega, by simp [Zg]; omega⟩ rfl ho (fun o2 ho2 => ?_)
 refine pur 1 rfl (Z6 ?_)
 exact rtA rfl rfl rfl ⟨o2.cast (by simp), rfl, ho2, rfl, rfl⟩ idH
theorem Z7w (xs : List Sgt) (a : Option Addr) (c : Nat) (hl : xs.length ≤ 1000000) (H : Z7) (R : Z5) [hR : MemRows a 3 (Zf xs) R] :
    Fn Try.prog 51 [.slice a xs.length c] H R (fun v H' R' => ∃ o : OSl 38 3 (Zf xs), v = o.fs ∧ o.here ∧ H' = o.G ++ H ∧ R' = R) := by
 refine Zi Try.func51 rfl Try.ntmps51 rfl ?_
 refine sqt 1 rfl (pur 1 rfl (sqt 6 rfl (pur 1 rfl (sp rfl (PE.lenSl Z6c rfl) rfl ?_))))
 refine mkO rfl Zba Z4O rfl rfl ⟨by omega, by omega⟩ rfl (fun o ho => ?_)
 refine pur 1 rfl ?_
 refine ZcM (news := Zf xs) o rfl Zba rfl rfl (Z7t) (by simp [Zf]) (by simp [Z05, Zf, Z2q, Value.oneCell', Value.oneCell']) ⟨by simp [Zf]; omega, by simp [Zf]; omega⟩ rfl ho (fun o2 ho2 => ?_)
 refine pur 1 rfl (Z6 ?_)
 exact rtA rfl rfl rfl ⟨o2.cast (by simp), rfl, ho2, rfl, rfl⟩ idH
theorem ZcV (h : Hse) (ag as_ : Option Addr) (cg cs : Nat) (hlg : h.gaps.length ≤ 1000000) (hls : h.sights.length ≤ 1000000) (H : Z7) (R : Z5) [hG : MemRows ag 2 (Zg h.gaps) R] [hS : MemRows as_ 3 (Zf h.sights) R] :
    Fn Try.prog 17 [h.v (h.sg ag cg) (h.ss as_ cs)] H R (fun v H' R' => ∃ (og : OSl 46 2 (Zg h.gaps)) (os : OSl 38 3 (Zf h.sights)), v = h.v og.fs os.fs ∧ H' = os.G ++ (og.G ++ H) ∧ R' = R) := by
 refine Zi Try.func17 rfl Try.ntmps17 rfl ?_
 refine sqt 2 rfl (bx rfl rfl rfl (fun b1 => alc rfl Z87 rfl (fun b2 => Z0 ?_)))
 refine Zc [0, 1, 0, 4, 12, 0, 32, 124, 255, 511] (.tk 0 (.ld 1 (.tk 2 (.ld 3 (.tk 5 (.ld 6 (.big 4 (.big 7 (.tk 8 (.big 9 .done)))))))))) Zr (by kernel_rfl) ?_
 refine tk rfl (PE.fA Z04 rfl) rfl (ld rfl rfl (lh sc3 rfl rfl) rfl (tk rfl (PE.fA ZO rfl) rfl (ld rfl rfl (lh Z3j rfl rfl) rfl (tk rfl (PE.fA ZU rfl) rfl (ld rfl rfl (lh Z3q rfl rfl) rfl ?_)))))
 refine cl rfl Zdt rfl rfl (Z7b h.gaps ag cg hlg _ _) ?_
 rintro _ _ R1 ⟨og, rfl, hog, rfl, hR1⟩
 obtain rfl := hR1.symm
 clear hR1
 refine bg (fun w hs => ⟨(lh Z3q rfl rfl) w hs, trivial, (lh sc3 rfl rfl) w hs, trivial⟩) ?_
 refine cl rfl ZdQ rfl rfl (Z7w h.sights as_ cs hls _ _) ?_
 rintro _ _ R1 ⟨os, rfl, hos, rfl, hR1⟩
 obtain rfl := hR1.symm
 clear hR1
 refine bg (fun w hs => ⟨trivial, (lh sc3 rfl rfl) w hs, trivial⟩) ?_
 refine tk rfl (PE.build (out := htl h og.fs os.fs) ZdK Z87 rfl (by simp only [Z4b, og.cells.1, os.cells.1, List.getElem?_cons_zero, List.getElem?_cons_succ]; rfl)) rfl ?_
 refine ZD (l' := htl h og.fs os.fs) rfl rfl rfl Z9p rfl rfl (by show (htl _ og.fs os.fs).all (·.oneCell') = true; simp only [htl, List.all_cons, List.all_nil, og.cells.2, os.cells.2, Bool.and_true]; rfl) rfl (Nat.le_refl _) ?_
 refine bgT (Z6 ?_)
 exact Zm (vs := [_]) rfl (.cons (RV.cell rfl (lhA [_, _, _] Z0h rfl rfl rfl)) .nil) rfl ⟨og, os, rfl, rfl, rfl⟩ (fun w h9 => ((h9.del b2).del b1))
theorem Zan : cal Try.prog 13 = true := by kernel_rfl
theorem ZcO : cal Try.prog 35 = true := by kernel_rfl
theorem ZdZ : Z0w Try.prog 23 = some 1 := by kernel_rfl
theorem Z3o {p q : Nat → Bool} {k : Nat} (h : ∀ j < k, p j = q j) : Z0k p k = Z0k q k := by
  unfold Z0k
  rw [List.filter_congr fun j hj => h j (List.mem_range.1 hj)]
theorem Z41 (p : Nat → Bool) (k : Nat) (b : Bool) : Z0k (fun j => bif decide (j = k) then b else p j) (k + 1) = Z0k p k ++ bif b then [(k : Int)] else [] := by
  rw [Z2M, Z3o (q := p) fun j hj => by rw [decide_eq_false (show ¬ j = k by omega)]; rfl, decide_eq_true rfl]; rfl
theorem fltK_mem {p : Nat → Bool} {n : Nat} {j : Int} : j ∈ Z0k p n ↔ ∃ k : Nat, k < n ∧ p k = true ∧ j = k := by
  unfold Z0k
  rw [List.mem_map]
  constructor
  · rintro ⟨k, h1, h2⟩
    rw [List.mem_filter, List.mem_range] at h1
    exact ⟨k, h1.1, h1.2, h2.symm⟩
  · rintro ⟨k, h1, h2, rfl⟩; exact ⟨k, List.mem_filter.2 ⟨List.mem_range.2 h1, h2⟩, rfl⟩
theorem Z8t (p : Nat → Bool) (n : Nat) : (Z0k p n).Pairwise (· < ·) := (List.pairwise_lt_range.filter _).map _ fun a b h => by omega
theorem Z24 (p : Nat → Bool) (n : Nat) : (Z0k p n).Nodup := List.nodup_iff_pairwise_ne.2 ((Z8t p n).imp fun h => by omega)
theorem Z40 (p : Nat → Bool) {n : Int} (hn : 0 ≤ n) : ∀ x ∈ Z0k p n.toNat, 0 ≤ x ∧ x < n := fun x hx => by
  obtain ⟨k, h1, _, rfl⟩ := fltK_mem.1 hx; omega
theorem Z4J (p : Nat → Bool) {n : Int} (hn : 0 ≤ n) : ZT n (Z0k p n.toNat) = 0 := Z5D (Z40 p hn) (Z24 p _)
structure MadeW (h : Hse) (nb ng : Int) : Prop where
  bins : 2 ≤ h.bins ∧ h.bins ≤ nb
  gl : (h.gaps.length : Int) ≤ ng
  gaps : ∀ g ∈ h.gaps, (0 ≤ g.a ∧ g.a < h.bins) ∧ (0 ≤ g.b ∧ g.b < h.bins) ∧ g.a ≠ g.b
  none : h.sights = []
theorem MadeW.ok {h : Hse} {nb ng : Int} (hm : MadeW h nb ng) (h1 : nb ≤ 7) (h2 : ng ≤ 10) : h.ok := ⟨by have := hm.bins; omega, by have := hm.gl; omega, by rw [hm.none]; exact Nat.zero_le _, hm.gaps, by rw [hm.none]; simp⟩
def ini (f : Nat → Int) (n k : Nat) : List Int := (List.range n).map fun j => bif decide (j < k) then f j else 0
theorem ZQ (f : Nat → Int) (n k : Nat) : (ini f n k).length = n := by simp [ini]
theorem Z5B {f : Nat → Int} {n k j : Nat} (hj : j < n) : na (ini f n k) j = bif decide (j < k) then f j else 0 := by
  unfold na ini
  rw [List.getD_eq_getElem?_getD, List.getElem?_map, List.getElem?_range hj]; rfl
theorem Z8Q (f : Nat → Int) (n : Nat) : List.replicate n 0 = ini f n 0 := by
  apply List.ext_getElem?
  intro j
  rcases Nat.lt_or_ge j n with h | h
  · rw [ZM (l := ini f n 0) (by rw [ZQ]; exact h), Z5B h, List.getElem?_replicate, if_pos h]; rfl
  · rw [List.getElem?_eq_none (by simpa using h), List.getElem?_eq_none (by rw [ZQ]; exact h)]
theorem Z6X {f : Nat → Int} {n k : Nat} (hk : k < n) {v : Int} (hv : f k = v) : (ini f n k).set k v = ini f n (k + 1) := by
  apply List.ext_getElem?
  intro j
  rcases Nat.lt_or_ge j n with hj | hj
  · rw [ZM (l := (ini f n k).set k _) (by rw [List.length_set, ZQ]; exact hj), ZM (by rw [ZQ]; exact hj), Z1J (by rw [ZQ]; exact hk), Z5B hj, Z5B hj]
    by_cases e : k = j
    · subst e; rw [decide_eq_true rfl, decide_eq_true (Nat.lt_succ_self k), ← hv]; rfl
    · rw [decide_eq_false e, show decide (j < k + 1) = decide (j < k) from decide_eq_decide.2 (by omega)]; rfl
  · rw [List.getElem?_eq_none (by rw [List.length_set, ZQ]; exact hj), List.getElem?_eq_none (by rw [ZQ]; exact hj)]
def clP (pl : List PL) (t : Nat) : Nat := msk (Z3n pl (t + 1))
def in0 (fr : List Int) (j : Nat) : Int := bif Z3f fr j then 0 else 100
theorem Z4U {l : List Int} (h : ∀ x ∈ l, 0 ≤ x) (j : Nat) : Z3f l (j : Int) = (msk l).testBit j := by rw [Bool.eq_iff_iff, hasI_iff, Zt h]
theorem FolI.start {gs : List Gp} {cl : Nat → Nat} {fr : List Int} (h : ∀ x ∈ fr, 0 ≤ x) (n : Nat) : FolI gs cl (msk fr) n 0 (Z2v gs (cl 0) (lvp gs cl (msk fr) 0) 0) (ini (in0 fr) n n) := ⟨ZQ _ _ _, fun k hk => by
  rw [Z5B hk, decide_eq_true hk, cond_true]
  unfold in0
  rw [Z4U h]
  show _ = bif (msk fr).testBit k then fol gs cl (msk fr) 0 k else bif (msk fr).testBit k then _ else 100
  cases hb : (msk fr).testBit k with
  | false => rfl
  | true =>
    rw [cond_true, cond_true]
    exact (Z5x (t := 0) (Nat.le_refl _) hb (fun i hi => absurd hi (Nat.not_lt_zero _))).symm⟩
def Zd8 (s acc : Nat) (g : Gp) : Nat → Nat
  | 0 => acc
  | 1 => acc ||| (bif s.testBit g.a.toNat then 2 ^ g.b.toNat else 0)
  | _ => (acc ||| (bif s.testBit g.a.toNat then 2 ^ g.b.toNat else 0)) ||| (bif s.testBit g.b.toNat then 2 ^ g.a.toNat else 0)
def Ze1 (g : Gp) : List Value := [.int .i64 g.a, .int .i64 g.b, .int .i64 g.b, .int .i64 g.a]
theorem ZaO {s acc n : Nat} {g : Gp} (ha : 0 ≤ g.a ∧ g.a < n) (hb : 0 ≤ g.b ∧ g.b < n) {j : Nat} (hj : j < 2) : ∃ u v : Nat, ∃ rest : List Value, u < n ∧ v < n ∧ (Ze1 g).drop (j * 2) = [.int .i64 u, .int .i64 v] ++ rest ∧ Zd8 s acc g (j + 1) = Zd8 s acc g j ||| (bif s.testBit u then 2 ^ v else 0) := by
  have h1 : ((g.a.toNat : Nat) : Int) = g.a := by omega
  have h2 : ((g.b.toNat : Nat) : Int) = g.b := by omega
  match j, hj with
  | 0, _ => exact ⟨g.a.toNat, g.b.toNat, [.int .i64 g.b, .int .i64 g.a], by omega, by omega, by rw [h1, h2]; rfl, rfl⟩
  | 1, _ => exact ⟨g.b.toNat, g.a.toNat, [], by omega, by omega, by rw [h1, h2]; rfl, rfl⟩
theorem Z5q {pl : List PL} {k : Nat} (h : pl.length ≤ k) : Z3n pl (k + 1) = Z3n pl k := by unfold Z3n; rw [List.take_of_length_le (by omega), List.take_of_length_le h]
theorem Z5w {pl : List PL} {k : Nat} {x : Int} (h : x ∈ Z3n pl k) : x ∈ (lls pl).flatten := by
  unfold Z3n at h
  obtain ⟨l, h1, h2⟩ := List.mem_flatten.1 h
  obtain ⟨y, h3, rfl⟩ := List.mem_map.1 h1
  exact List.mem_flatten.2 ⟨_, List.mem_map_of_mem (List.mem_of_mem_take h3), h2⟩
theorem ZbJ (l0 : List Int) (a0 : Option Addr) (c0 bk : Nat) (hgl : l0.length ≤ 9223372036854775807) (tq mx : Int) (htq : 0 ≤ tq ∧ tq ≤ 1000000) (hmx : 0 ≤ mx ∧ mx ≤ 4294967295) (nb ng : Int) (hnb : 2 ≤ nb ∧ nb ≤ 7) (hng : 0 ≤ ng ∧ ng ≤ 10) (H : Z7) (R : Z5) [hG : MemRows a0 1 (Z1H l0) R] :
    Fn Try.prog 9 [.pointer (some ⟨bk, 0, none⟩), .int .i64 nb, .int .i64 ng] ((bk, cel 72 [.slice a0 l0.length c0, .int .i64 (tq), .int .u32 (mx)]) :: H) R (fun v H' R' => ∃ (h : Hse) (p : Nat → Bool) (ag ar : Option Addr) (cg cr : Nat) (tq' mx' : Int), MadeW h nb ng ∧ h.gaps.length ≤ cg ∧ (Z0k p h.bins.toNat).length ≤ cr ∧ v = .tuple #[h.v (h.sg ag cg) (h.ss none 0), .slice ar (Z0k p h.bins.toNat).length cr] ∧ (tq ≤ tq' ∧ tq' ≤ tq + 100) ∧ (0 ≤ mx' ∧ mx' ≤ 4294967295) ∧ H' = (bk, cel 72 [.slice a0 l0.length c0, .int .i64 (tq'), .int .u32 (mx')]) :: H ∧ R' = RowsA none 3 (Zf h.sights) :: RowsA ar 1 (Z3 (Z0k p h.bins.toNat)) :: RowsA ag 2 (Zg h.gaps) :: R) := by
 refine Zi Try.func9 rfl Try.ntmps9 rfl ?_
 refine sqt 2 rfl (alc rfl Z87 rfl (fun b6 => pur 1 rfl (sqt 6 rfl (pur 2 rfl ?_))))
 refine Zs bk ?_
 refine cl rfl ZcO rfl rfl (Za3 l0 a0 c0 bk hgl _ _ (by omega) (by assumption) (2) (nb) (by first | omega | (dsimp only; omega)) _ _) ?_
 rintro _ _ R1 ⟨x15, m15, hx15, rfl, hm15, rfl, hR1⟩
 obtain rfl := hR1.symm
 refine sp rfl (PE.build (out := htl ⟨x15, [], []⟩ (.slice none 0 0) (.slice none 0 0)) ZdK Z87 rfl rfl) rfl (alc rfl Z87 rfl (fun b8 => ?_))
 refine sto rfl rfl rfl Z9p rfl rfl rfl rfl ?_
 refine Z0 (sqt 5 rfl ?_)
 refine Zs bk ?_
 refine pur 2 rfl (sp rfl (PE.add rfl rfl (by omega)) rfl ?_)
 refine cl rfl Z23 rfl rfl (Z0a l0 a0 c0 bk hgl _ _ (by omega) (by assumption) (ng + 1) _ _) ?_
 rintro _ _ R1 ⟨x20, m20, hx20, rfl, hm20, rfl, hR1⟩
 obtain rfl := hR1.symm
 refine pur 1 rfl (Z4 ?_)
 obtain ⟨n20, rfl⟩ : ∃ n : Nat, x20 = n := ⟨x20.toNat, by omega⟩
 refine Zh (ι := (x : {x : Nat × List Gp × Int × Int // x.1 ≤ n20 ∧ (x.2.1.length = x.1 ∧ ∀ g ∈ x.2.1, ((0 ≤ g.a ∧ g.a < x15) ∧ (0 ≤ g.b ∧ g.b < x15) ∧ g.a ≠ g.b)) ∧ (tq ≤ x.2.2.1 ∧ x.2.2.1 ≤ tq + 2 + 2 * x.1) ∧ (0 ≤ x.2.2.2 ∧ x.2.2.2 ≤ 4294967295)}) × OSl 46 2 (Zg x.1.2.1)) (fun x => ⟨[(0, .pointer (some ⟨bk, 0, none⟩)), (6, .pointer (some ⟨b6, 0, none⟩)), (8, .pointer (some ⟨b8, 0, none⟩)), (20, .int .i64 n20), (21, .int .i64 x.1.1.1)],
   (bk, cel 72 [.slice a0 l0.length c0, .int .i64 (x.1.1.2.2.1), .int .u32 (x.1.1.2.2.2)]) :: (x.2.G ++ (b8, cel 26 (htl ⟨x15, x.1.1.2.1, []⟩ x.2.fs (.slice none 0 0))) :: (b6, cel 26 [.int .i64 0, .slice none 0 0, .slice none 0 0]) :: H), R⟩) (fun x => n20 - x.1.1.1) ⟨⟨(0, [], tq + 1 + 1, m20), by omega, ⟨rfl, by simp⟩, by dsimp only; omega, by assumption⟩, OSl.nil _ _⟩ ?_ (fun x => ?_)
 exact Zo idH
 ·
  obtain ⟨⟨⟨k, l, tq2, mx2⟩, hk, ⟨hll, hlg⟩, htq2, hmx2⟩, o⟩ := x
  dsimp only at hk hll hlg htq2 hmx2 o ⊢
  refine sqt 1 rfl (pur 1 rfl (Z0 ?_))
  refine Z1 rfl ?_ ?_ <;> intro hc0 <;> try simp only [cS] at hc0
  ·
   have hrm : 0 ≤ (k : Int) % x15 ∧ (k : Int) % x15 < x15 := ⟨Int.emod_nonneg _ (by omega), Int.emod_lt_of_pos _ (by omega)⟩
   refine Z2 (Z0 (Z4 (sqt 2 rfl (pur 2 rfl (Z0 ?_)))))
   refine Zc [0, 0, 2, 7, 0, 0, 32, 112, 255, 0, 1023] (.tk 0 (.tk 1 (.ld 2 (tks 3 3 (.ld 6 (.any (.alt 7 (.tk 8 (.big 9 (.big 10 .done))) (.alt 9 (.big 7 (.tk 8 (.big 10 .done))) .stop)))))))) Zr (by kernel_rfl) ?_
   refine Zp 1 rfl (tk rfl (PE.fA Z04 rfl) rfl (ld rfl rfl (lh (v := .int .i64 x15) sc3 rfl rfl) rfl (tk rfl (PE.rem rfl rfl (by omega)) rfl (Zp 1 rfl (tk rfl (PE.fA Z04 rfl) rfl (ld rfl rfl (lh (v := .int .i64 x15) sc3 rfl rfl) rfl ?_))))))
   refine Z19 ?_ ?_
   ·
    refine Zs bk ?_
    refine cl rfl Z23 rfl rfl (Z0a l0 a0 c0 bk hgl _ _ (by omega) (by assumption) (x15) _ _) ?_
    rintro _ _ R1 ⟨x31, m31, hx31, rfl, hm31, rfl, hR1⟩
    obtain rfl := hR1.symm
    refine bg (fun w hs => ⟨trivial, (lh (v := .int .i64 x15) sc3 rfl rfl) w hs, trivial⟩) ?_
    refine tk rfl (PE.build (out := [.int .i64 ((k : Int) % x15), .int .i64 x31]) Z71 Z36 rfl rfl) rfl (alc rfl Z36 rfl (fun b10 => ?_))
    refine bg (fun w hs => ⟨(lh (v := .int .i64 x15) sc3 rfl rfl) w hs, trivial⟩) ?_
    refine sto rfl rfl rfl Z8o rfl rfl rfl rfl ?_
    refine bgT (Z0 (sqt 5 rfl (sp rfl (PE.fA ZN rfl) rfl (spL rfl rfl (lh sc3 rfl rfl) rfl (sp rfl (PE.fA ZB rfl) rfl (spL rfl rfl (lh sc3 rfl rfl) rfl (pur 1 rfl ?_)))))))
    refine Z2L (ι := {x : Int × Int // ((0 ≤ x.1 ∧ x.1 < x15) ∧ (0 ≤ x.2 ∧ x.2 < x15) ∧ x.1 ≠ x.2)}) (fun x => ⟨[(0, .pointer (some ⟨bk, 0, none⟩)), (6, .pointer (some ⟨b6, 0, none⟩)), (8, .pointer (some ⟨b8, 0, none⟩)), (10, .pointer (some ⟨b10, 0, none⟩)), (20, .int .i64 n20), (21, .int .i64 k)], (b10, cel 46 [.int .i64 (x.1.1), .int .i64 (x.1.2)]) :: (bk, cel 72 [.slice a0 l0.length c0, .int .i64 (tq2 + 1), .int .u32 (m31)]) :: (o.G ++ (b8, cel 26 (htl ⟨x15, l, []⟩ o.fs (.slice none 0 0))) :: (b6, cel 26 [.int .i64 0, .slice none 0 0, .slice none 0 0]) :: H), R⟩) ?_ ?_
    ·
     refine Z1 rfl ?_ ?_ <;> intro hc1 <;> try simp only [cS] at hc1
     ·
      have hr2 : 0 ≤ (x31 + 1) % x15 ∧ (x31 + 1) % x15 < x15 := ⟨Int.emod_nonneg _ (by omega), Int.emod_lt_of_pos _ (by omega)⟩
      have hne : (x31 + 1) % x15 ≠ x31 := by
        rcases Int.lt_or_le (x31 + 1) x15 with h9 | h9
        · rw [Int.emod_eq_of_lt (by omega) h9]; omega
        · rw [show x31 + 1 = x15 by omega, Int.emod_self]; omega
      refine sqr 8 rfl (sp rfl (PE.fA ZB rfl) rfl (spL rfl rfl (lh sc3 rfl rfl) rfl (sp rfl (PE.add rfl rfl (by omega)) rfl (sp rfl (PE.fA Z04 rfl) rfl (spL rfl rfl (lh (v := .int .i64 x15) sc3 rfl rfl) rfl (sp rfl (PE.rem rfl rfl (by omega)) rfl (sp rfl (PE.fA ZB rfl) rfl ?_)))))))
      refine ZD (l' := [.int .i64 ((k : Int) % x15), .int .i64 ((x31 + 1) % x15)]) rfl rfl rfl cn3 rfl rfl rfl rfl (nl rfl) ?_
      exact ZA ⟨((k : Int) % x15, (x31 + 1) % x15), ⟨hrm, hr2, by dsimp only; omega⟩⟩ (fun w h9 => h9.perm (by first | exact .refl _ | exact List.Perm.swap _ _ _))
     ·
      refine Z2 ?_
      exact ZA ⟨((k : Int) % x15, x31), ⟨hrm, by dsimp only; omega, by dsimp only; omega⟩⟩ (fun w h9 => h9.perm (by first | exact .refl _ | exact List.Perm.swap _ _ _))
    rintro ⟨⟨ga, gb⟩, hgo⟩
    dsimp only at hgo ⊢
    refine Z0 (sqt 2 rfl ?_)
    refine Zs bk ?_
    refine pur 1 rfl ?_
    refine cl rfl Zan rfl rfl (Z6G l0 a0 c0 bk hgl _ _ (by omega) (by assumption) (2) _ _) ?_
    rintro _ _ R1 ⟨x46, m46, rfl, hm46, rfl, hR1⟩
    obtain rfl := hR1.symm
    refine Z2L (ι := {x : Int × Int // ((0 ≤ x.1 ∧ x.1 < x15) ∧ (0 ≤ x.2 ∧ x.2 < x15) ∧ x.1 ≠ x.2)}) (fun x => ⟨[(0, .pointer (some ⟨bk, 0, none⟩)), (6, .pointer (some ⟨b6, 0, none⟩)), (8, .pointer (some ⟨b8, 0, none⟩)), (10, .pointer (some ⟨b10, 0, none⟩)), (20, .int .i64 n20), (21, .int .i64 k)], (bk, cel 72 [.slice a0 l0.length c0, .int .i64 (tq2 + 1 + 1), .int .u32 (m46)]) :: (b10, cel 46 [.int .i64 (x.1.1), .int .i64 (x.1.2)]) :: (o.G ++ (b8, cel 26 (htl ⟨x15, l, []⟩ o.fs (.slice none 0 0))) :: (b6, cel 26 [.int .i64 0, .slice none 0 0, .slice none 0 0]) :: H), R⟩) ?_ ?_
    refine Z1 rfl ?_ ?_ <;> intro hc2
    refine sqr 8 rfl (sp rfl (PE.fA ZB rfl) rfl (spL rfl rfl (lh sc3 rfl rfl) rfl (sp rfl (PE.fA ZN rfl) rfl (spL rfl rfl (lh sc3 rfl rfl) rfl (sp rfl (PE.fA ZN rfl) rfl ?_)))))
    refine ZD (l' := [.int .i64 (gb), .int .i64 (gb)]) rfl rfl rfl cn3 rfl rfl rfl rfl (nl rfl) ?_
    refine sp rfl (PE.fA ZB rfl) rfl ?_
    refine ZD (l' := [.int .i64 (gb), .int .i64 (ga)]) rfl rfl rfl cn3 rfl rfl rfl rfl (nl rfl) ?_
    first | exact ZA ⟨(gb, ga), ⟨hgo.2.1, hgo.1, Ne.symm hgo.2.2⟩⟩ idH | exact ZA ⟨(ga, gb), hgo⟩ idH
    refine Z2 ?_
    first | exact ZA ⟨(gb, ga), ⟨hgo.2.1, hgo.1, Ne.symm hgo.2.2⟩⟩ idH | exact ZA ⟨(ga, gb), hgo⟩ idH
    rintro ⟨⟨ua, ub⟩, hgo2⟩
    dsimp only at hgo2 ⊢
    refine sqr 7 rfl (sp rfl (PE.fA ZO rfl) rfl (spL rfl rfl (lh Z3j rfl rfl) rfl (spL rfl rfl (lhA [.int .i64 ua, .int .i64 ub] Z5s rfl rfl rfl) rfl ?_)))
    refine bsl (out := [_, _]) rfl ZcR Z36 rfl rfl rfl rfl rfl rfl (fun b56 => ?_)
    refine apO (o) rfl Zcz rfl rfl (Z0i (row := Z1u ⟨ua, ub⟩) rfl) rfl rfl ((by rw [ZP]; simp only [List.length_singleton]; omega)) rfl (fun o57 => ?_)
    refine sp rfl (PE.fA ZO rfl) rfl ?_
    refine ZD (l' := htl ⟨x15, l ++ [⟨ua, ub⟩], []⟩ o57.fs (.slice none 0 0)) rfl rfl rfl ZdZ rfl (by rw [o57.cells.1]; first | done | rfl) (by rw [o57.cells.1]; simp [o57.cells.2]) (by rw [o57.cells.1]; first | done | rfl) (by rw [o57.cells.1]; first | done | exact Nat.le_of_ble_eq_true rfl) ?_
    refine sqr 2 rfl (sp rfl (PE.add rfl rfl (by omega)) rfl (pur 1 rfl ?_))
    exact Z8 ⟨⟨(k + 1, l ++ [⟨ua, ub⟩], tq2 + 1 + 1, m46), by dsimp only; omega, ⟨by simp [hll], fun g hg => (List.mem_append.1 hg).elim (hlg g) (fun h9 => by rw [List.mem_singleton.1 h9]; exact hgo2)⟩, by dsimp only; omega, by assumption⟩, o57.cast (by simp [Zg])⟩ (fun w h9 => ((h9.del b56).del b10).perm (by first | exact .refl _ | exact (Zd _ [_] _).symm))
   refine Z19 ?_ ?_
   ·
    refine alc rfl Z36 rfl (fun b10 => ?_)
    refine bg (fun w hs => ⟨(lh (v := .int .i64 x15) sc3 rfl rfl) w hs, (lh (v := .int .i64 x15) sc3 rfl rfl) w hs, trivial⟩) ?_
    refine Zs bk ?_
    refine cl rfl Z23 rfl rfl (Z0a l0 a0 c0 bk hgl _ _ (by omega) (by assumption) (x15) _ _) ?_
    rintro _ _ R1 ⟨x31, m31, hx31, rfl, hm31, rfl, hR1⟩
    obtain rfl := hR1.symm
    refine bg (fun w hs => ⟨trivial, (lh (v := .int .i64 x15) sc3 rfl rfl) w hs, trivial⟩) ?_
    refine tk rfl (PE.build (out := [.int .i64 ((k : Int) % x15), .int .i64 x31]) Z71 Z36 rfl rfl) rfl ?_
    refine sto rfl rfl rfl Z8o rfl rfl rfl rfl ?_
    refine bgT (Z0 (sqt 5 rfl (sp rfl (PE.fA ZN rfl) rfl (spL rfl rfl (lh sc3 rfl rfl) rfl (sp rfl (PE.fA ZB rfl) rfl (spL rfl rfl (lh sc3 rfl rfl) rfl (pur 1 rfl ?_)))))))
    refine Z2L (ι := {x : Int × Int // ((0 ≤ x.1 ∧ x.1 < x15) ∧ (0 ≤ x.2 ∧ x.2 < x15) ∧ x.1 ≠ x.2)}) (fun x => ⟨[(0, .pointer (some ⟨bk, 0, none⟩)), (6, .pointer (some ⟨b6, 0, none⟩)), (8, .pointer (some ⟨b8, 0, none⟩)), (10, .pointer (some ⟨b10, 0, none⟩)), (20, .int .i64 n20), (21, .int .i64 k)], (b10, cel 46 [.int .i64 (x.1.1), .int .i64 (x.1.2)]) :: (bk, cel 72 [.slice a0 l0.length c0, .int .i64 (tq2 + 1), .int .u32 (m31)]) :: (o.G ++ (b8, cel 26 (htl ⟨x15, l, []⟩ o.fs (.slice none 0 0))) :: (b6, cel 26 [.int .i64 0, .slice none 0 0, .slice none 0 0]) :: H), R⟩) ?_ ?_
    ·
     refine Z1 rfl ?_ ?_ <;> intro hc1 <;> try simp only [cS] at hc1
     ·
      have hr2 : 0 ≤ (x31 + 1) % x15 ∧ (x31 + 1) % x15 < x15 := ⟨Int.emod_nonneg _ (by omega), Int.emod_lt_of_pos _ (by omega)⟩
      have hne : (x31 + 1) % x15 ≠ x31 := by
        rcases Int.lt_or_le (x31 + 1) x15 with h9 | h9
        · rw [Int.emod_eq_of_lt (by omega) h9]; omega
        · rw [show x31 + 1 = x15 by omega, Int.emod_self]; omega
      refine sqr 8 rfl (sp rfl (PE.fA ZB rfl) rfl (spL rfl rfl (lh sc3 rfl rfl) rfl (sp rfl (PE.add rfl rfl (by omega)) rfl (sp rfl (PE.fA Z04 rfl) rfl (spL rfl rfl (lh (v := .int .i64 x15) sc3 rfl rfl) rfl (sp rfl (PE.rem rfl rfl (by omega)) rfl (sp rfl (PE.fA ZB rfl) rfl ?_)))))))
      refine ZD (l' := [.int .i64 ((k : Int) % x15), .int .i64 ((x31 + 1) % x15)]) rfl rfl rfl cn3 rfl rfl rfl rfl (nl rfl) ?_
      exact ZA ⟨((k : Int) % x15, (x31 + 1) % x15), ⟨hrm, hr2, by dsimp only; omega⟩⟩ (fun w h9 => h9.perm (by first | exact .refl _ | exact List.Perm.swap _ _ _))
     ·
      refine Z2 ?_
      exact ZA ⟨((k : Int) % x15, x31), ⟨hrm, by dsimp only; omega, by dsimp only; omega⟩⟩ (fun w h9 => h9.perm (by first | exact .refl _ | exact List.Perm.swap _ _ _))
    rintro ⟨⟨ga, gb⟩, hgo⟩
    dsimp only at hgo ⊢
    refine Z0 (sqt 2 rfl ?_)
    refine Zs bk ?_
    refine pur 1 rfl ?_
    refine cl rfl Zan rfl rfl (Z6G l0 a0 c0 bk hgl _ _ (by omega) (by assumption) (2) _ _) ?_
    rintro _ _ R1 ⟨x46, m46, rfl, hm46, rfl, hR1⟩
    obtain rfl := hR1.symm
    refine Z2L (ι := {x : Int × Int // ((0 ≤ x.1 ∧ x.1 < x15) ∧ (0 ≤ x.2 ∧ x.2 < x15) ∧ x.1 ≠ x.2)}) (fun x => ⟨[(0, .pointer (some ⟨bk, 0, none⟩)), (6, .pointer (some ⟨b6, 0, none⟩)), (8, .pointer (some ⟨b8, 0, none⟩)), (10, .pointer (some ⟨b10, 0, none⟩)), (20, .int .i64 n20), (21, .int .i64 k)], (bk, cel 72 [.slice a0 l0.length c0, .int .i64 (tq2 + 1 + 1), .int .u32 (m46)]) :: (b10, cel 46 [.int .i64 (x.1.1), .int .i64 (x.1.2)]) :: (o.G ++ (b8, cel 26 (htl ⟨x15, l, []⟩ o.fs (.slice none 0 0))) :: (b6, cel 26 [.int .i64 0, .slice none 0 0, .slice none 0 0]) :: H), R⟩) ?_ ?_
    refine Z1 rfl ?_ ?_ <;> intro hc2
    refine sqr 8 rfl (sp rfl (PE.fA ZB rfl) rfl (spL rfl rfl (lh sc3 rfl rfl) rfl (sp rfl (PE.fA ZN rfl) rfl (spL rfl rfl (lh sc3 rfl rfl) rfl (sp rfl (PE.fA ZN rfl) rfl ?_)))))
    refine ZD (l' := [.int .i64 (gb), .int .i64 (gb)]) rfl rfl rfl cn3 rfl rfl rfl rfl (nl rfl) ?_
    refine sp rfl (PE.fA ZB rfl) rfl ?_
    refine ZD (l' := [.int .i64 (gb), .int .i64 (ga)]) rfl rfl rfl cn3 rfl rfl rfl rfl (nl rfl) ?_
    first | exact ZA ⟨(gb, ga), ⟨hgo.2.1, hgo.1, Ne.symm hgo.2.2⟩⟩ idH | exact ZA ⟨(ga, gb), hgo⟩ idH
    refine Z2 ?_
    first | exact ZA ⟨(gb, ga), ⟨hgo.2.1, hgo.1, Ne.symm hgo.2.2⟩⟩ idH | exact ZA ⟨(ga, gb), hgo⟩ idH
    rintro ⟨⟨ua, ub⟩, hgo2⟩
    dsimp only at hgo2 ⊢
    refine sqr 7 rfl (sp rfl (PE.fA ZO rfl) rfl (spL rfl rfl (lh Z3j rfl rfl) rfl (spL rfl rfl (lhA [.int .i64 ua, .int .i64 ub] Z5s rfl rfl rfl) rfl ?_)))
    refine bsl (out := [_, _]) rfl ZcR Z36 rfl rfl rfl rfl rfl rfl (fun b56 => ?_)
    refine apO (o) rfl Zcz rfl rfl (Z0i (row := Z1u ⟨ua, ub⟩) rfl) rfl rfl ((by rw [ZP]; simp only [List.length_singleton]; omega)) rfl (fun o57 => ?_)
    refine sp rfl (PE.fA ZO rfl) rfl ?_
    refine ZD (l' := htl ⟨x15, l ++ [⟨ua, ub⟩], []⟩ o57.fs (.slice none 0 0)) rfl rfl rfl ZdZ rfl (by rw [o57.cells.1]; first | done | rfl) (by rw [o57.cells.1]; simp [o57.cells.2]) (by rw [o57.cells.1]; first | done | rfl) (by rw [o57.cells.1]; first | done | exact Nat.le_of_ble_eq_true rfl) ?_
    refine sqr 2 rfl (sp rfl (PE.add rfl rfl (by omega)) rfl (pur 1 rfl ?_))
    exact Z8 ⟨⟨(k + 1, l ++ [⟨ua, ub⟩], tq2 + 1 + 1, m46), by dsimp only; omega, ⟨by simp [hll], fun g hg => (List.mem_append.1 hg).elim (hlg g) (fun h9 => by rw [List.mem_singleton.1 h9]; exact hgo2)⟩, by dsimp only; omega, by assumption⟩, o57.cast (by simp [Zg])⟩ (fun w h9 => ((h9.del b56).del b10).perm (by first | exact .refl _ | exact (Zd _ [_] _).symm))
   exact Z1X
  obtain rfl : k = n20 := by omega
  obtain ⟨ag, cg, he, hcg, hf⟩ := o.freezeC
  rw [ZP] at hcg
  rw [he, ZP]
  refine Zs bk ?_
  refine Sy.heap (H' := _) (fun w h9 => hf (h9.perm (List.perm_middle (l₁ := o.G) (a := _)).symm)) ?_
  clear he hf
  obtain ⟨B, rfl⟩ : ∃ B : Nat, x15 = B := ⟨x15.toNat, by omega⟩
  refine Z9 (Za (Za (Zn (sqt 1 rfl (pur 1 rfl (Z0 (sqt 3 rfl (sp rfl (PE.fA Z04 rfl) rfl (spL rfl rfl (lh sc3 rfl rfl) rfl (pur 1 rfl (Z4 ?_)))))))))))
  refine Zh (ι := (x : {x : Nat × (Nat → Bool) × Int × Int // x.1 ≤ B ∧ (tq ≤ x.2.2.1 ∧ x.2.2.1 ≤ tq + 40 + x.1) ∧ (0 ≤ x.2.2.2 ∧ x.2.2.2 ≤ 4294967295)}) × OSl 3 1 (Z3 (Z0k x.1.2.1 x.1.1))) (fun x => ⟨[(0, .pointer (some ⟨bk, 0, none⟩)), (6, .pointer (some ⟨b6, 0, none⟩)), (8, .pointer (some ⟨b8, 0, none⟩)), (11, x.2.fs), (61, .int .i64 B), (62, .int .i64 x.1.1.1)],
    (bk, cel 72 [.slice a0 l0.length c0, .int .i64 (x.1.1.2.2.1), .int .u32 (x.1.1.2.2.2)]) :: (x.2.G ++ (b8, cel 26 (htl ⟨B, l, []⟩ (.slice ag l.length cg) (.slice none 0 0))) :: (b6, cel 26 [.int .i64 0, .slice none 0 0, .slice none 0 0]) :: H), RowsA ag 2 (Zg l) :: R⟩) (fun x => B - x.1.1.1) ⟨⟨(0, fun _ => false, tq2, mx2), by omega, by dsimp only; omega, by assumption⟩, OSl.nil _ _⟩ ?_ (fun x => ?_)
  exact Zo idH
  obtain ⟨⟨⟨i, p, tq3, mx3⟩, hi, htq3, hmx3⟩, o2⟩ := x
  dsimp only at hi htq3 hmx3 o2 ⊢
  have hfl := Z0B p i
  refine sqt 1 rfl (pur 1 rfl (Z0 ?_))
  refine Z1 rfl ?_ ?_ <;> intro hc3 <;> try simp only [cS] at hc3
  refine Z2 (Z0 (Z4 (sqt 2 rfl (pur 2 rfl (sqt 2 rfl ?_)))))
  refine Zs bk ?_
  refine pur 1 rfl ?_
  refine cl rfl Zan rfl rfl (Z6G l0 a0 c0 bk hgl _ _ (by omega) (by assumption) (3) _ _) ?_
  rintro _ _ R1 ⟨x66, m66, rfl, hm66, rfl, hR1⟩
  obtain rfl := hR1.symm
  refine Z1 rfl ?_ ?_ <;> intro hc4 <;> try simp only [cS] at hc4
  refine sqr 5 rfl (pur 2 rfl ?_)
  refine bsl (out := [_]) rfl Z08 zl3 rfl rfl rfl rfl rfl rfl (fun b69 => ?_)
  refine apO (o2) rfl Z34 rfl rfl (Z0i (row := [.int .i64 i]) rfl) rfl rfl ((by rw [irl]; simp only [List.length_singleton]; omega)) rfl (fun o70 => ?_)
  refine pur 1 rfl (sqr 2 rfl (sp rfl (PE.add rfl rfl (by omega)) rfl (pur 1 rfl ?_)))
  have hput := Z41 p i true
  exact Z8 ⟨⟨(i + 1, fun j => bif decide (j = i) then true else p j, tq3 + 1, m66), by dsimp only; omega, by dsimp only; omega, by assumption⟩, o70.cast (by rw [hput]; simp [Z3])⟩ (fun w h9 => (h9.del b69).perm (by first | exact .refl _ | exact (Zd _ [_] _).symm))
  refine Z2 (sqr 2 rfl (sp rfl (PE.add rfl rfl (by omega)) rfl (pur 1 rfl ?_)))
  have hput := Z41 p i false
  exact Z8 ⟨⟨(i + 1, fun j => bif decide (j = i) then false else p j, tq3 + 1, m66), by dsimp only; omega, by dsimp only; omega, by assumption⟩, o2.cast (by rw [hput]; simp [Z3])⟩ idH
  obtain rfl : i = B := by omega
  obtain ⟨ar, cr, he, hcr, hf⟩ := o2.freezeC
  rw [irl] at hcr
  rw [he, irl]
  refine Zs bk ?_
  refine Sy.heap (H' := _) (fun w h9 => hf (h9.perm (List.perm_middle (l₁ := o2.G) (a := _)).symm)) ?_
  clear he hf
  refine Z9 (Za (Za (Zn (sqt 4 rfl (spL rfl rfl (lhA (htl ⟨(i : Int), l, []⟩ (.slice ag l.length cg) (.slice none 0 0)) Z0h rfl rfl rfl) rfl (pur 1 rfl ?_))))))
  refine ZD (l' := htl ⟨(i : Int), l, []⟩ (.slice ag l.length cg) (.slice none 0 0)) rfl rfl rfl Z9p rfl rfl rfl rfl (Nat.le_refl _) ?_
  refine pur 1 rfl (Z6 ?_)
  exact Zm (vs := [_, _]) rfl (.cons (RV.cell rfl (lhA [_, _, _] Z0h rfl rfl rfl)) (.cons (RV.tmp rfl) .nil)) rfl ⟨⟨(i : Int), l, []⟩, p, ag, ar, cg, cr, tq3, mx3, ⟨by dsimp only; omega, by dsimp only; omega, hlg, rfl⟩, hcg, hcr, rfl, by omega, by assumption, rfl, rfl⟩ (fun w h9 => St.norows ((h9.del b8).del b6))
theorem Zec : Z4G Try.prog 93 = some 2 := by kernel_rfl
theorem Zb6 : arN Try.prog 93 = some (2, 1) := by kernel_rfl
theorem Zee : Z0w Try.prog 93 = some 2 := by kernel_rfl
theorem Zel : elN Try.prog 94 = some 2 := by kernel_rfl
theorem ZdS : Z63 Try.prog 94 = true := by kernel_rfl
theorem Zef : slE Try.prog 94 = some (93, 2) := by kernel_rfl
theorem ZcF : ZI Try.prog 93 = some ([.int .i64 0, .int .i64 0]) := by kernel_rfl
theorem FnV.lendO {P : Program} {f : FuncId} {v : Value} {e sz : Nat} {rows : List (List Value)} (o : OSl e sz rows) (mk : Value → List Value) {T : Z7} {R : Z5}
    (h : ∀ (a : Option Addr) (c : Nat) (B : World → Prop), FnV P f (mk (.slice a rows.length c)) T (RowsA a sz rows :: B :: R) v) : FnV P f (mk o.fs) (o.G ++ T) R v := fun w hw => by
  obtain ⟨fs, G, hl, his⟩ := o
  rcases his with ⟨rfl, rfl, rfl⟩ | ⟨b, cap, junk, rfl, rfl, h1, h2, h3⟩
  · have h3 : St T (RowsA none sz [] :: (fun _ => True) :: R) w := St.also (St.also hw (f := fun _ => True) (fun _ _ => trivial)) (fun w' _ i row hi => by simp at hi)
    refine CallsIn.mono (h none 0 _ w h3) ?_
    rintro e' w' ⟨u, H', R', ⟨rfl, rfl, rfl⟩, he, hs'⟩
    exact ⟨_, _, R, ⟨rfl, rfl, rfl⟩, he, hs'.ftail.ftail⟩
  · exact FnV.lend (H := (b, cel e (rows.flatten ++ junk)) :: T) (b := b) (e := e) (sz := sz) (rows := rows) (junk := junk) hl (fun B => h _ cap B) w hw
set_option maxHeartbeats 400000 in
theorem ZdO (l0 : List Int) (a0 : Option Addr) (c0 bk : Nat) (hgl : l0.length ≤ 9223372036854775807) (tq mx : Int) (htq : 0 ≤ tq ∧ tq ≤ 1000000) (hmx : 0 ≤ mx ∧ mx ≤ 4294967295) (h : Hse) (ag as_ : Option Addr) (cg cs : Nat) (hok : h.ok) (H : Z7) (R : Z5) [hG : MemRows a0 1 (Z1H l0) R] :
    Fn Try.prog 21 [.pointer (some ⟨bk, 0, none⟩), h.v (h.sg ag cg) (h.ss as_ cs)] ((bk, cel 72 [.slice a0 l0.length c0, .int .i64 (tq), .int .u32 (mx)]) :: H) R (fun v H' R' => ∃ (d : Nat → Int) (af ak : Option Addr) (cf ck : Nat) (tq' mx' : Int), (Z0k (fun j => decide (d j = 0)) h.bins.toNat).length ≤ cf ∧ (Z0k (fun j => decide (d j = 1)) h.bins.toNat).length ≤ ck ∧ v = .tuple #[.slice af (Z0k (fun j => decide (d j = 0)) h.bins.toNat).length cf, .slice ak (Z0k (fun j => decide (d j = 1)) h.bins.toNat).length ck] ∧ (tq ≤ tq' ∧ tq' ≤ tq + 10) ∧ (0 ≤ mx' ∧ mx' ≤ 4294967295) ∧ H' = (bk, cel 72 [.slice a0 l0.length c0, .int .i64 (tq'), .int .u32 (mx')]) :: H ∧ R' = RowsA ak 1 (Z3 (Z0k (fun j => decide (d j = 1)) h.bins.toNat)) :: RowsA af 1 (Z3 (Z0k (fun j => decide (d j = 0)) h.bins.toNat)) :: R) := by
 refine Zi Try.func21 rfl Try.ntmps21 rfl ?_
 refine sqt 3 rfl ?_
 have hbn := hok.bins
 obtain ⟨B, hB⟩ : ∃ B : Nat, h.bins = B := ⟨h.bins.toNat, by omega⟩
 rw [show h.bins.toNat = B by omega]
 refine bx rfl rfl rfl (fun b3 => pur 2 rfl (sqt 2 rfl (pur 2 rfl (Z0 (sqt 3 rfl (sp rfl (PE.fA Z04 rfl) rfl (spL rfl rfl (lh (v := .int .i64 h.bins) sc3 rfl rfl) rfl ?_)))))))
 rw [hB]
 refine pur 1 rfl (Z4 ?_)
 refine Zh (ι := (x : {x : Nat × (Nat → Int) × Int × Int // x.1 ≤ B ∧ (tq ≤ x.2.2.1 ∧ x.2.2.1 ≤ tq + x.1) ∧ (0 ≤ x.2.2.2 ∧ x.2.2.2 ≤ 4294967295)}) × OSl 3 1 (Z3 (Z0k (fun j => decide (x.1.2.1 j = 0)) x.1.1)) × OSl 3 1 (Z3 (Z0k (fun j => decide (x.1.2.1 j = 1)) x.1.1))) (fun x => ⟨[(0, .pointer (some ⟨bk, 0, none⟩)), (6, x.2.1.fs), (7, x.2.2.fs), (10, .int .i64 B), (11, .int .i64 x.1.1.1)],
   (bk, cel 72 [.slice a0 l0.length c0, .int .i64 (x.1.1.2.2.1), .int .u32 (x.1.1.2.2.2)]) :: (x.2.1.G ++ (x.2.2.G ++ ((b3, cel 26 (htl h (h.sg ag cg) (h.ss as_ cs))) :: H))), R⟩) (fun x => B - x.1.1.1) ⟨⟨(0, fun _ => 0, tq, mx), by omega, by dsimp only; omega, by assumption⟩, OSl.nil _ _, OSl.nil _ _⟩ ?_ (fun x => ?_)
 ·
  exact Zo (fun w h9 => h9.perm (by first | exact .refl _ | exact List.Perm.swap _ _ _))
 obtain ⟨⟨⟨k, d, tq2, mx2⟩, hk, htq2, hmx2⟩, o1, o2⟩ := x
 dsimp only at hk htq2 hmx2 o1 o2 ⊢
 have hf1 := Z0B (fun j => decide (d j = 0)) k
 have hf2 := Z0B (fun j => decide (d j = 1)) k
 refine sqt 1 rfl (pur 1 rfl (Z0 ?_))
 refine Z1 rfl ?_ ?_ <;> intro hc0 <;> try simp only [cS] at hc0
 refine Z2 (Z0 (Z4 (sqt 2 rfl (pur 2 rfl (sqt 2 rfl ?_)))))
 refine Zs bk ?_
 refine pur 1 rfl ?_
 refine cl rfl Z23 rfl rfl (Z0a l0 a0 c0 bk hgl _ _ (by omega) (by assumption) (3) _ _) ?_
 rintro _ _ R1 ⟨x15, m15, hx15, rfl, hm15, rfl, hR1⟩
 obtain rfl := hR1.symm
 have hp : ∀ v : Int, Z0k (fun j => decide ((bif decide (j = k) then x15 else d j) = v)) (k + 1) = Z0k (fun j => decide (d j = v)) k ++ bif decide (x15 = v) then [(k : Int)] else [] := fun v => by
   rw [← Z41]
   exact Z3o fun j _ => by by_cases e : j = k <;> simp [e]
 refine Z4 (sqt 2 rfl (pur 2 rfl ?_))
 refine Z1 rfl ?_ ?_ <;> intro hc1 <;> try simp only [cS] at hc1
 refine sqr 5 rfl (pur 2 rfl ?_)
 refine bsl (out := [_]) rfl Z08 zl3 rfl rfl rfl rfl rfl rfl (fun b20 => ?_)
 refine apO (o1) rfl Z34 rfl rfl (Z0i (row := [.int .i64 k]) rfl) rfl rfl ((by rw [irl]; simp only [List.length_singleton]; omega)) rfl (fun o21 => ?_)
 refine pur 1 rfl (sqr 2 rfl (sp rfl (PE.add rfl rfl (by omega)) rfl (pur 1 rfl ?_)))
 exact Z8 ⟨⟨(k + 1, fun j => bif decide (j = k) then x15 else d j, tq2 + 1, m15), by dsimp only; omega, by dsimp only; omega, by assumption⟩, o21.cast (by rw [hp 0, dT hc1]; simp [Z3]), o2.cast (by rw [hp 1, dF (show ¬ x15 = 1 by omega)]; simp [Z3])⟩ (fun w h9 => (h9.del b20).perm (by first | exact .refl _ | exact (Zd _ [_] _).symm))
 refine sqt 2 rfl (pur 2 rfl ?_)
 refine Z1 rfl ?_ ?_ <;> intro hc2 <;> try simp only [cS] at hc2
 refine sqr 5 rfl (pur 2 rfl ?_)
 refine bsl (out := [_]) rfl Z08 zl3 rfl rfl rfl rfl rfl rfl (fun b26 => ?_)
 refine apO (o2) rfl Z34 rfl rfl (Z0i (row := [.int .i64 k]) rfl) rfl rfl ((by rw [irl]; simp only [List.length_singleton]; omega)) rfl (fun o27 => ?_)
 refine pur 1 rfl (sqr 2 rfl (sp rfl (PE.add rfl rfl (by omega)) rfl (pur 1 rfl ?_)))
 exact Z8 ⟨⟨(k + 1, fun j => bif decide (j = k) then x15 else d j, tq2 + 1, m15), by dsimp only; omega, by dsimp only; omega, by assumption⟩, o1.cast (by rw [hp 0, dF hc1]; simp [Z3]), o27.cast (by rw [hp 1, dT hc2]; simp [Z3])⟩ (fun w h9 => (h9.del b26).perm (by first | exact .refl _ | exact (Zd _ [_] _).symm | exact (Zd _ (_ :: _) _)))
 refine Z2 (sqr 2 rfl (sp rfl (PE.add rfl rfl (by omega)) rfl (pur 1 rfl ?_)))
 exact Z8 ⟨⟨(k + 1, fun j => bif decide (j = k) then x15 else d j, tq2 + 1, m15), by dsimp only; omega, by dsimp only; omega, by assumption⟩, o1.cast (by rw [hp 0, dF hc1]; simp [Z3]), o2.cast (by rw [hp 1, dF hc2]; simp [Z3])⟩ idH
 obtain rfl : k = B := by omega
 obtain ⟨af, cf, he1, hc9, hz1⟩ := o1.freezeC
 obtain ⟨ak, ck, he2, hc8, hz2⟩ := o2.freezeC
 rw [irl] at hc9 hc8
 rw [he1, he2, irl, irl]
 refine Zs bk ?_
 refine Sy.heap (H' := _) (fun w h9 => hz1 (h9.perm (List.perm_middle (l₁ := o1.G) (a := _)).symm)) ?_
 refine Sy.heap (H' := _) (fun w h9 => hz2 (h9.perm (List.perm_middle (l₁ := o2.G) (a := _)).symm)) ?_
 clear he1 he2 hz1 hz2
 refine Z9 (Za (Za (Zn (sqt 4 rfl (pur 4 rfl (Z6 ?_))))))
 exact rtB rfl rfl rfl rfl ⟨d, af, ak, cf, ck, tq2, mx2, hc9, hc8, rfl, ⟨htq2.1, by omega⟩, hmx2, rfl, rfl⟩ (fun w h9 => h9.del b3)
set_option maxHeartbeats 1000000 in
theorem Z8q (h : Hse) (ag as_ : Option Addr) (cg cs : Nat) (hok : h.ok) (fr : List Int) (af : Option Addr) (cf : Nat) (hfl0 : fr.length ≤ 1000000) (hfr : ∀ x ∈ fr, 0 ≤ x) (pl : List PL) (ap : Option Addr) (cp : Nat) (hpl : pl.length ≤ 1000000) (hpt : (lls pl).flatten.length ≤ 1000000) (hpx : ∀ x ∈ (lls pl).flatten, 0 ≤ x) (H : Z7) (R : Z5) [hG : MemRows ag 2 (Zg h.gaps) R] [hF : MemRows af 1 (Z3 fr) R] [hP : MemRows ap 1 (ZG pl) R] [hI : MemF (Inn pl) R] :
    Fn Try.prog 19 [h.v (h.sg ag cg) (h.ss as_ cs), .slice af fr.length cf, .slice ap pl.length cp] H R (fun v H' R' => ∃ (a : Option Addr) (c : Nat), v = .slice a h.bins.toNat c ∧ H' = H ∧ R' = RowsA a 1 (Z3 (Z3p h.gaps (clP pl) (msk fr) h.bins.toNat)) :: R) := by
 refine Zi Try.func19 rfl Try.ntmps19 rfl ?_
 refine sqt 2 rfl ?_
 have hbn := hok.bins
 have hgn := hok.gl
 obtain ⟨B, hB⟩ : ∃ B : Nat, h.bins = B := ⟨h.bins.toNat, by omega⟩
 rw [show h.bins.toNat = B by omega]
 refine bx rfl rfl rfl (fun b3 => pur 1 rfl (sqt 4 rfl (sp rfl (PE.fA Z04 rfl) rfl (spL rfl rfl (lh (v := .int .i64 h.bins) sc3 rfl rfl) rfl ?_))))
 rw [hB]
 refine mkS rfl Z34 zl3 rfl rfl (Nat.le_refl _) ⟨by omega, by omega⟩ rfl (fun b17 => ?_)
 rw [Zdv, Z8Q (in0 fr)]
 refine pur 1 rfl (Z0 (sqt 3 rfl (pur 1 rfl (sp rfl (PE.lenSl Zx rfl) rfl (pur 1 rfl (Z4 ?_))))))
 refine Zh (ι := {k : Nat // k ≤ B}) (fun x => ⟨[(0, h.v (h.sg ag cg) (h.ss as_ cs)), (1, .slice af fr.length cf), (2, .slice ap pl.length cp), (3, .pointer (some ⟨b3, 0, none⟩)), (7, .slice (some ⟨b17, 0, none⟩) B B), (19, .int .i64 B), (20, .int .i64 x.1)], (b17, cel 3 (Zl (ini (in0 fr) B x.1))) :: (b3, cel 26 (htl h (h.sg ag cg) (h.ss as_ cs))) :: H, R⟩) (fun x => B - x.1) ⟨0, by omega⟩ ?_ (fun x => ?_)
 exact Zo idH
 obtain ⟨k, hk⟩ := x
 dsimp only at hk ⊢
 refine sqt 1 rfl (pur 1 rfl (Z0 ?_))
 refine Z1 rfl ?_ ?_ <;> intro hc0 <;> try simp only [cS] at hc0
 refine Z2 (Z0 (Z4 (sqt 2 rfl (pur 2 rfl (sqt 4 rfl (pur 2 rfl (sp rfl (PE.indexAddr Z15 rfl rfl (by omega) (by omega)) rfl ?_)))))))
 refine ZD (l' := Zl ((ini (in0 fr) B k).set k 100)) rfl rfl rfl cn3 rfl rfl rfl (Z1e (by rw [ZQ]; omega) (by show 0 + ((k : Nat) : Int).toNat * 1 = k; omega)) (by rw [Zb]; (first | rw [ZQ] | rw [List.length_set, ZQ] | rw [hfl]); show 0 + ((k : Nat) : Int).toNat * 1 + 1 ≤ _; omega) ?_
 refine sqt 3 rfl (pur 2 rfl ?_)
 refine clV rfl Z4P rfl rfl (Zz fr af cf (k : Int) (by omega) _ _) ?_
 refine Z1 rfl ?_ ?_ <;> intro hc1 <;> try simp only [cS] at hc1
 refine sqr 4 rfl (pur 2 rfl (sp rfl (PE.indexAddr Z15 rfl rfl (by omega) (by omega)) rfl ?_))
 refine ZD (l' := Zl (((ini (in0 fr) B k).set k 100).set k 0)) rfl rfl rfl cn3 rfl rfl rfl (Z1e (by rw [List.length_set, ZQ]; omega) (by show 0 + ((k : Nat) : Int).toNat * 1 = k; omega)) (by rw [Zb]; (first | rw [ZQ] | rw [List.length_set, ZQ] | rw [hfl]); show 0 + ((k : Nat) : Int).toNat * 1 + 1 ≤ _; omega) ?_
 refine sqr 2 rfl (sp rfl (PE.add rfl rfl (by omega)) rfl (pur 1 rfl ?_))
 rw [Z5W, Z6X (k := k) (by omega) (by unfold in0; rw [show Z3f fr (k : Int) = _ from hc1]; rfl)]
 exact Z8 ⟨k + 1, by omega⟩ idH
 refine Z2 (sqr 2 rfl (sp rfl (PE.add rfl rfl (by omega)) rfl (pur 1 rfl ?_)))
 rw [Z6X (k := k) (by omega) (by unfold in0; rw [show Z3f fr (k : Int) = _ from hc1]; rfl)]
 exact Z8 ⟨k + 1, by omega⟩ idH
 obtain rfl : k = B := by omega
 have hst := FolI.start (gs := h.gaps) (cl := (clP pl)) hfr k
 refine Z9 (Za (Za (Zn (sqt 1 rfl (pur 1 rfl (Z0 (sqt 1 rfl (pur 1 rfl (Z4 ?_)))))))))
 refine Zh (ι := (x : {x : Nat × List Int // x.1 ≤ 20 ∧ FolI h.gaps (clP pl) (msk fr) k x.1 (Z2v h.gaps ((clP pl) x.1) (lvp h.gaps (clP pl) (msk fr) x.1) 0) x.2}) × OSl 3 1 (Z3 (Z3n pl x.1.1))) (fun x => ⟨[(0, h.v (h.sg ag cg) (h.ss as_ cs)), (1, .slice af fr.length cf), (2, .slice ap pl.length cp), (3, .pointer (some ⟨b3, 0, none⟩)), (7, .slice (some ⟨b17, 0, none⟩) k k), (9, x.2.fs), (33, .int .i64 x.1.1.1)], x.2.G ++ ((b17, cel 3 (Zl (x.1.1.2))) :: (b3, cel 26 (htl h (h.sg ag cg) (h.ss as_ cs))) :: H), R⟩) (fun x => 20 - x.1.1.1) ⟨⟨(0, ini (in0 fr) k k), by omega, hst⟩, OSl.nil _ _⟩ ?_ (fun x => ?_)
 exact Zo idH
 obtain ⟨⟨⟨w, o⟩, hw, hfo⟩, oc⟩ := x
 dsimp only at hw hfo oc ⊢
 have hcl := Z1T pl w
 have hcl2 := Z1T pl (w + 1)
 refine sqt 1 rfl (pur 1 rfl (Z0 ?_))
 refine Z1 rfl ?_ ?_ <;> intro hc2 <;> try simp only [cS] at hc2
 refine Z2 (Z0 (Z4 (sqt 2 rfl (pur 2 rfl (Z0 (sqt 4 rfl (pur 2 rfl (sp rfl (PE.lenSl Z6m rfl) rfl (pur 1 rfl ?_)))))))))
 refine Z2L (ι := OSl 3 1 (Z3 (Z3n pl (w + 1)))) (fun oc => ⟨[(0, h.v (h.sg ag cg) (h.ss as_ cs)), (1, .slice af fr.length cf), (2, .slice ap pl.length cp), (3, .pointer (some ⟨b3, 0, none⟩)), (7, .slice (some ⟨b17, 0, none⟩) k k), (9, oc.fs), (10, .int .i64 w), (33, .int .i64 w)], oc.G ++ ((b17, cel 3 (Zl (o))) :: (b3, cel 26 (htl h (h.sg ag cg) (h.ss as_ cs))) :: H), R⟩) ?_ ?_
 refine Z1 rfl ?_ ?_ <;> intro hc3 <;> try simp only [cS] at hc3
 obtain ⟨x, hx⟩ : ∃ x, pl[w]? = some x := ⟨_, List.getElem?_eq_getElem (by omega)⟩
 have hst := Z2O hx
 have hsl := congrArg List.length hst
 rw [List.length_append] at hsl
 refine Zj (a := ap) (sz := 1) (rows := ZG pl) (ne0 (by rw [Z0n]; omega)) (fun ba oa he => ?_)
 subst he
 refine Sy.heap (fun w h9 => St.inn (x := x) h9 (List.mem_of_getElem? hx)) ?_
 refine sqr 7 rfl (pur 3 rfl (sp rfl (PE.indexAddr Zbi rfl rfl (by omega) (by omega)) rfl (spL rfl rfl (lf0 Z29 (Z7m hx) rfl) rfl ?_)))
 refine apO (news := Z3 x.l) oc rfl Z34 rfl rfl (Z7t) (irl _) (by simp [Z05, Z3, Value.oneCell']) (by rw [irl, irl]; omega) rfl (fun o45 => ?_)
 refine pur 1 rfl ?_
 first | exact ZA (o45.cast (by rw [hst]; simp [Z3])) (fun w h9 => h9.ftail) | exact ZA (oc.cast (by rw [Z5q (by omega)])) idH
 refine Z2 ?_
 first | exact ZA (o45.cast (by rw [hst]; simp [Z3])) (fun w h9 => h9.ftail) | exact ZA (oc.cast (by rw [Z5q (by omega)])) idH
 intro oc
 dsimp only
 refine sqt 4 rfl (sp rfl (PE.fA ZO rfl) rfl (spL rfl rfl (lh Z3j rfl rfl) rfl (sp rfl (PE.lenSl Z3h rfl) rfl (pur 1 rfl (Z4 ?_)))))
 refine Zh (ι := {x : Nat × List Int // x.1 ≤ h.gaps.length ∧ FolI h.gaps (clP pl) (msk fr) k w (Z2v h.gaps ((clP pl) w) (lvp h.gaps (clP pl) (msk fr) w) (x.1)) x.2}) (fun x => ⟨[(0, h.v (h.sg ag cg) (h.ss as_ cs)), (1, .slice af fr.length cf), (2, .slice ap pl.length cp), (3, .pointer (some ⟨b3, 0, none⟩)), (7, .slice (some ⟨b17, 0, none⟩) k k), (9, oc.fs), (10, .int .i64 w), (33, .int .i64 w), (47, h.sg ag cg), (48, .int .i64 h.gaps.length), (49, .int .i64 x.1.1)], oc.G ++ ((b17, cel 3 (Zl (x.1.2))) :: (b3, cel 26 (htl h (h.sg ag cg) (h.ss as_ cs))) :: H), R⟩) (fun x => h.gaps.length - x.1.1) ⟨(0, o), by omega, hfo⟩ ?_ (fun x => ?_)
 exact Zo idH
 obtain ⟨⟨i, o⟩, hi, hfo⟩ := x
 dsimp only at hi hfo ⊢
 refine sqt 1 rfl (pur 1 rfl (Z0 ?_))
 refine Z1 rfl ?_ ?_ <;> intro hc4 <;> try simp only [cS] at hc4
 obtain ⟨gg, hg⟩ : ∃ g, h.gaps[i]? = some g := ⟨_, List.getElem?_eq_getElem (by omega)⟩
 have hgo := hok.gaps gg (List.mem_of_getElem? hg)
 refine Zj (a := ag) (sz := 2) (rows := Zg h.gaps) (ne0 (by rw [ZP]; omega)) (fun ba oa he => ?_)
 subst he
 refine Z2 (Z0 (Z4 (sqt 6 rfl (pur 1 rfl (sp rfl (PE.indexAddr Z6e rfl rfl (by omega) (by omega)) rfl (spL rfl rfl (lfA Z5s (row := Z1u gg) (Z18 hg) rfl) rfl (alc rfl Z36 rfl (fun b12 => pur 1 rfl ?_))))))))
 refine ZD (l' := Z1u gg) rfl rfl rfl Z8o rfl rfl rfl rfl (nl rfl) ?_
 refine Z0 (sqt 3 rfl (pur 2 rfl ?_))
 refine Sy.heap (H' := oc.G ++ ((b12, cel 46 (Z1u gg)) :: _)) (fun w h9 => h9.perm (Zd [_] _ _)) ?_
 refine clV rfl Z4P rfl rfl (FnV.lendO oc (fun v => [v, .int .i64 i]) (fun a5 c5 _ => by rw [irl]; exact Zz (Z3n pl (w + 1)) a5 c5 (i : Int) (by omega) _ _)) ?_
 refine Z1 rfl ?_ ?_ <;> intro hc5 <;> try simp only [cS] at hc5
 have hcb : (clP pl w).testBit i = true := by unfold clP; rw [← Z4U (fun x hx => hpx x (Z5w hx))]; exact hc5
 refine Z9 (Za (Zn (sqr 2 rfl (sp rfl (PE.add rfl rfl (by omega)) rfl (pur 1 rfl ?_)))))
 exact Z8 ⟨(i + 1, o), by dsimp only; omega, hfo.shut hcb⟩ (fun w h9 => h9.del b12)
 have hcb : (clP pl w).testBit i = false := by unfold clP; rw [← Z4U (fun x hx => hpx x (Z5w hx))]; exact hc5
 refine Z2 (sqt 13 rfl (sp rfl (PE.fA ZN rfl) rfl (spL rfl rfl (lh sc3 rfl rfl) rfl (sp rfl (PE.fA ZB rfl) rfl (spL rfl rfl (lh sc3 rfl rfl) rfl (sp rfl (PE.buildArr (out := [_, _]) Zb6 ZcF rfl rfl) rfl (sp rfl (PE.fA ZB rfl) rfl (spL rfl rfl (lh sc3 rfl rfl) rfl (sp rfl (PE.fA ZN rfl) rfl (spL rfl rfl (lh sc3 rfl rfl) rfl (sp rfl (PE.buildArr (out := [_, _]) Zb6 ZcF rfl rfl) rfl ?_)))))))))))
 refine bsl (out := [_, _, _, _]) rfl Zef ZcF rfl rfl rfl rfl rfl rfl (fun b67 => ?_)
 refine sp rfl (PE.lenSl ZdS rfl) rfl (pur 1 rfl (Z4 ?_))
 refine Zh (ι := {x : Nat × List Int // x.1 ≤ 2 ∧ FolI h.gaps (clP pl) (msk fr) k w (Zd8 (lvp h.gaps (clP pl) (msk fr) w) (Z2v h.gaps ((clP pl) w) (lvp h.gaps (clP pl) (msk fr) w) (i)) gg x.1) x.2}) (fun x => ⟨[(0, h.v (h.sg (some ⟨ba, oa, none⟩) cg) (h.ss as_ cs)), (1, .slice af fr.length cf), (2, .slice ap pl.length cp), (3, .pointer (some ⟨b3, 0, none⟩)), (7, .slice (some ⟨b17, 0, none⟩) k k), (9, oc.fs), (10, .int .i64 w), (33, .int .i64 w), (47, h.sg (some ⟨ba, oa, none⟩) cg), (48, .int .i64 h.gaps.length), (49, .int .i64 i), (67, .slice (some ⟨b67, 0, none⟩) 2 2), (68, .int .i64 2), (69, .int .i64 x.1.1)], (b67, cel 93 (Ze1 gg)) :: (oc.G ++ ((b12, cel 46 (Z1u gg)) :: (b17, cel 3 (Zl (x.1.2))) :: (b3, cel 26 (htl h (h.sg (some ⟨ba, oa, none⟩) cg) (h.ss as_ cs))) :: H)), R⟩) (fun x => 2 - x.1.1) ⟨(0, o), by omega, hfo⟩ ?_ (fun x => ?_)
 exact Zo idH
 obtain ⟨⟨j, o⟩, hj, hfo⟩ := x
 dsimp only at hj hfo ⊢
 have hfl := hfo.len
 refine sqt 1 rfl (pur 1 rfl (Z0 ?_))
 refine Z1 rfl ?_ ?_ <;> intro hc6 <;> try simp only [cS] at hc6
 obtain ⟨u, v, rest, hu, hv, hdr, hacc⟩ := ZaO (s := (lvp h.gaps (clP pl) (msk fr) w)) (acc := (Z2v h.gaps ((clP pl) w) (lvp h.gaps (clP pl) (msk fr) w) (i))) (n := k) (show 0 ≤ gg.a ∧ gg.a < (k : Int) by omega) (show 0 ≤ gg.b ∧ gg.b < (k : Int) by omega) (show j < 2 by omega)
 have hbu := hfo.bd (by omega) hu
 have hbv := hfo.bd (by omega) hv
 refine Z2 (Z0 (Z4 (sqt 4 rfl (sp rfl (PE.indexAddr Zel rfl rfl (by omega) (by omega)) rfl (spL rfl rfl (lhA [.int .i64 (u : Int), .int .i64 (v : Int)] Zec rfl (rest := rest) (by rw [← hdr]; congr 1; show 0 + ((j : Nat) : Int).toNat * 2 = j * 2; omega) rfl) rfl (alc rfl ZcF rfl (fun b14 => ?_)))))))
 refine ZD (l' := [.int .i64 (u : Int), .int .i64 (v : Int)]) rfl rfl rfl Zee rfl rfl rfl rfl (nl rfl) ?_
 refine sqt 16 rfl (pur 1 rfl (sp rfl (PE.indexArr Zb6 rfl rfl (by omega) (by omega)) rfl (spL rfl rfl (lh sc3 rfl rfl) rfl (sp rfl (PE.indexAddr Z15 rfl rfl (by omega) (by omega)) rfl (spL rfl rfl (lh sc3 rfl (Z0N (w := o) (k := u) (by omega) (by show 0 + ((u : Nat) : Int).toNat * 1 = u; omega))) rfl (pur 3 rfl ?_))))))
 refine Zv 80 rfl ?_ ?_ <;> intro g80
 simp only [decide_eq_true_eq] at g80
 refine pur 1 rfl ?_
 refine spG rfl rfl rfl rfl (PE.indexArr Zb6 rfl rfl (by omega) (by omega)) rfl ?_
 refine Z37 rfl rfl rfl rfl rfl (lh sc3 rfl rfl) rfl ?_
 refine spG rfl rfl rfl rfl (PE.indexAddr Z15 rfl rfl (by omega) (by omega)) rfl ?_
 refine Z37 rfl rfl rfl rfl rfl (lh sc3 rfl (Z0N (w := o) (k := v) (by omega) (by show 0 + ((v : Nat) : Int).toNat * 1 = v; omega))) rfl (pur 3 rfl ?_)
 refine Z1 rfl ?_ ?_ <;> intro hc7 <;> try simp only [cS] at hc7
 refine Zc [0, 0, 2, 0, 0, 16, 56, 120, 0, 256, 1016, 2047, 4095] (.tk 0 (.tk 1 (.ld 2 (.tk 3 (.tk 4 (.ld 5 (.tk 6 (.ld 7 (tks 8 4 (.big 12 .done)))))))))) Zr (by kernel_rfl) ?_
 refine Zp 1 rfl (tk rfl (PE.indexArr Zb6 rfl rfl (by omega) (by omega)) rfl (ld rfl rfl (lh sc3 rfl rfl) rfl (Zp 1 rfl (tk rfl (PE.indexArr Zb6 rfl rfl (by omega) (by omega)) rfl (ld rfl rfl (lh sc3 rfl rfl) rfl (tk rfl (PE.indexAddr Z15 rfl rfl (by omega) (by omega)) rfl (ld rfl rfl (lh sc3 rfl (Z0N (w := o) (k := v) (by omega) (by show 0 + ((v : Nat) : Int).toNat * 1 = v; omega))) rfl (Zp 1 rfl (tk rfl (PE.add rfl rfl (by omega)) rfl (tk rfl (PE.min rfl rfl) rfl (tk rfl (PE.indexAddr Z15 rfl rfl (by omega) (by omega)) rfl ?_)))))))))))
 refine ZD (l' := Zl (o.set v (min (na o v) ((w : Int) + 1)))) rfl rfl rfl cn3 rfl rfl rfl (Z1e (by omega) (by show 0 + ((v : Nat) : Int).toNat * 1 = v; omega)) (by rw [Zb]; (first | rw [ZQ] | rw [List.length_set, ZQ] | rw [hfl]); show 0 + ((v : Nat) : Int).toNat * 1 + 1 ≤ _; omega) ?_
 refine bgT (sqr 2 rfl (sp rfl (PE.add rfl rfl (by omega)) rfl (pur 1 rfl ?_)))
 exact Z8 ⟨(j + 1, o.set v (min (na o v) ((w : Int) + 1))), by dsimp only; omega, by dsimp only; rw [hacc]; exact hfo.way (by omega) hu hv (by omega) (by omega)⟩ (fun w h9 => h9.del b14)
 refine Z2 (sqr 2 rfl (sp rfl (PE.add rfl rfl (by omega)) rfl (pur 1 rfl ?_)))
 exact Z8 ⟨(j + 1, o), by dsimp only; omega, by dsimp only; rw [hacc]; exact hfo.same (by omega) hu hv (fun h9 => by omega)⟩ (fun w h9 => h9.del b14)
 simp only [decide_eq_false_iff_not] at g80
 refine pur 8 rfl ?_
 refine ZY rfl ?_
 refine Z2 (sqr 2 rfl (sp rfl (PE.add rfl rfl (by omega)) rfl (pur 1 rfl ?_)))
 exact Z8 ⟨(j + 1, o), by dsimp only; omega, by dsimp only; rw [hacc]; exact hfo.same (by omega) hu hv (fun h9 => by omega)⟩ (fun w h9 => h9.del b14)
 obtain rfl : j = 2 := by omega
 refine Z9 (Za (Za (Zn (sqr 2 rfl (sp rfl (PE.add rfl rfl (by omega)) rfl (pur 1 rfl ?_))))))
 exact Z8 ⟨(i + 1, o), by dsimp only; omega, hfo.gap hg hcb⟩ (fun w h9 => (h9.del b67).del b12)
 obtain rfl : i = h.gaps.length := by omega
 have hwk := hfo.week
 refine Z9 (Za (Za (Zn (sqr 2 rfl (sp rfl (PE.add rfl rfl (by omega)) rfl (pur 1 rfl ?_))))))
 exact Z8 ⟨⟨(w + 1, o), by dsimp only; omega, hwk⟩, oc⟩ idH
 obtain rfl : w = 20 := by omega
 obtain rfl := hfo.done rfl
 refine Sy.heap (H' := _ :: (oc.G ++ _)) (fun w h9 => h9.perm (List.perm_middle (l₁ := oc.G) (a := _))) ?_
 refine Sy.heap (fun w h9 => St.rows (sz := 1) (rows := Z3 (Z3p h.gaps (clP pl) (msk fr) k)) (rest := []) (by rw [List.append_nil, show (Z3 (Z3p h.gaps (clP pl) (msk fr) k)).flatten = Zl (Z3p h.gaps (clP pl) (msk fr) k) from Z1V _]; exact h9) (fun r hr => by obtain ⟨x, _, rfl⟩ := List.mem_map.1 hr; rfl)) ?_
 refine Z9 (Za (Za (Zn (sqt 2 rfl (pur 2 rfl (Z6 ?_))))))
 exact rtA rfl rfl rfl ⟨_, k, rfl, rfl, rfl⟩ (fun w h9 => (St.drop (G := oc.G) h9).del b3)
theorem Z9T (l : List Gp) : (Zg l).flatten.length = l.length * 2 := by rw [Z02 (Z7g l), ZP]
theorem Z8m : cal Try.prog 10 = true := by kernel_rfl
theorem ZdT : cal Try.prog 16 = true := by kernel_rfl
theorem Zdq : cal Try.prog 19 = true := by kernel_rfl
theorem Zeg : cal Try.prog 9 = true := by kernel_rfl
theorem Zd7 : Z0w Try.prog 24 = some 1 := by kernel_rfl
theorem ZcG : Z0w Try.prog 38 = some 3 := by kernel_rfl
theorem cn4 : Z0w Try.prog 4 = some 1 := by kernel_rfl
theorem Tru.nil (h : Hse) (l : List Int) : Tru h l [] := ⟨(fun s hs => by cases hs), rfl⟩
set_option maxHeartbeats 400000 in
theorem Z9Y (l0 : List Int) (a0 : Option Addr) (c0 bk : Nat) (hgl : l0.length ≤ 9223372036854775807) (tq mx : Int) (htq : 0 ≤ tq ∧ tq ≤ 1000000) (hmx : 0 ≤ mx ∧ mx ≤ 4294967295) (h : Hse) (ag : Option Addr) (cg : Nat) (hok : h.ok) (hss : h.sights = []) (fr : List Int) (af : Option Addr) (cf : Nat) (hfl0 : fr.length ≤ 1000000) (hfr : ∀ x ∈ fr, 0 ≤ x ∧ x < h.bins) (most : Int) (hmost : 0 ≤ most ∧ most ≤ 8) (H : Z7) (R : Z5) [hG : MemRows a0 1 (Z1H l0) R] [hG : MemRows ag 2 (Zg h.gaps) R] [hF : MemRows af 1 (Z3 fr) R] :
    Fn Try.prog 11 [.pointer (some ⟨bk, 0, none⟩), h.v (h.sg ag cg) (h.ss none 0), .slice af fr.length cf, .int .i64 most] ((bk, cel 72 [.slice a0 l0.length c0, .int .i64 (tq), .int .u32 (mx)]) :: H) R (fun v H' R' => ∃ (ss : List Sgt) (o : OSl 38 3 (Zf ss)) (tq' mx' : Int), Tru h fr ss ∧ (ss.length : Int) ≤ most ∧ v = Hse.v ⟨h.bins, h.gaps, ss⟩ (h.sg ag cg) o.fs ∧ (tq ≤ tq' ∧ tq' ≤ tq + 20) ∧ (0 ≤ mx' ∧ mx' ≤ 4294967295) ∧ H' = (bk, cel 72 [.slice a0 l0.length c0, .int .i64 (tq'), .int .u32 (mx')]) :: (o.G ++ H) ∧ R' = R) := by
 refine Zi Try.func11 rfl Try.ntmps11 rfl ?_
 refine sqt 2 rfl ?_
 have hbn := hok.bins
 refine bx rfl rfl rfl (fun b5 => alc rfl Z87 rfl (fun b8 => sqt 4 rfl (spL rfl rfl (lhA (htl h (h.sg ag cg) (h.ss none 0)) Z0h rfl rfl rfl) rfl (pur 1 rfl ?_))))
 refine Sy.heap (fun w h9 => St.norows9 (sz := 1) h9) ?_
 refine cl rfl Zdq rfl rfl (Z8q h ag none cg 0 hok fr af cf hfl0 (fun x hx => (hfr x hx).1) [] none 0 (by decide) (by decide) (by simp [lls]) _ _) ?_
 rintro _ _ R1 ⟨af2, cf2, rfl, rfl, hR1⟩
 obtain rfl := hR1.symm
 clear hR1
 refine pur 1 rfl (Z0 (sqt 5 rfl ?_))
 refine Zs bk ?_
 refine pur 2 rfl (sp rfl (PE.add rfl rfl (by omega)) rfl ?_)
 refine cl rfl Z23 rfl rfl (Z0a l0 a0 c0 bk hgl _ _ (by omega) (by assumption) (most + 1) _ _) ?_
 rintro _ _ R1 ⟨x17, m17, hx17, rfl, hm17, rfl, hR1⟩
 obtain rfl := hR1.symm
 obtain ⟨n17, rfl⟩ : ∃ n : Nat, x17 = n := ⟨x17.toNat, by omega⟩
 refine pur 1 rfl (Z4 ?_)
 refine Sy.heap (H' := (bk, cel 72 [.slice a0 l0.length c0, .int .i64 (tq + 1), .int .u32 (m17)]) :: (b5, cel 26 (htl ⟨h.bins, h.gaps, []⟩ (h.sg ag cg) (.slice none 0 0))) :: (b8, cel 26 [.int .i64 0, .slice none 0 0, .slice none 0 0]) :: H) (fun w h9 => by
   have e : (htl h (h.sg ag cg) (h.ss none 0)) = (htl ⟨h.bins, h.gaps, []⟩ (h.sg ag cg) (.slice none 0 0)) := by unfold Hse.ss; rw [hss]; rfl
   rw [← e]
   exact h9.perm (by first | exact .refl _ | exact List.Perm.cons _ (List.Perm.swap _ _ _))) ?_
 refine Zh (ι := (x : {x : Nat × List Sgt × Int × Int // x.1 ≤ n17 ∧ (x.2.1.length = x.1 ∧ Tru h fr x.2.1) ∧ (tq ≤ x.2.2.1 ∧ x.2.2.1 ≤ tq + 1 + 2 * x.1) ∧ (0 ≤ x.2.2.2 ∧ x.2.2.2 ≤ 4294967295)}) × OSl 38 3 (Zf x.1.2.1)) (fun x => ⟨[(0, .pointer (some ⟨bk, 0, none⟩)), (5, .pointer (some ⟨b5, 0, none⟩)), (8, .pointer (some ⟨b8, 0, none⟩)), (9, .slice af2 h.bins.toNat cf2), (17, .int .i64 n17), (18, .int .i64 x.1.1.1)],
   (bk, cel 72 [.slice a0 l0.length c0, .int .i64 (x.1.1.2.2.1), .int .u32 (x.1.1.2.2.2)]) :: (x.2.G ++ (b5, cel 26 (htl ⟨h.bins, h.gaps, x.1.1.2.1⟩ (h.sg ag cg) x.2.fs)) :: (b8, cel 26 [.int .i64 0, .slice none 0 0, .slice none 0 0]) :: H), RowsA af2 1 (Z3 (Z3p h.gaps (clP []) (msk fr) h.bins.toNat)) :: R⟩) (fun x => n17 - x.1.1.1) ⟨⟨(0, [], tq + 1, m17), by omega, ⟨rfl, Tru.nil _ _⟩, by dsimp only; omega, by assumption⟩, OSl.nil _ _⟩ ?_ (fun x => ?_)
 exact Zo (fun w h9 => h9.facts (fun g hg => by simp only [List.mem_cons] at hg ⊢; rcases hg with h8 | h8 <;> simp [h8]))
 obtain ⟨⟨⟨k, ss, tq2, mx2⟩, hk, ⟨hsl, htr⟩, htq2, hmx2⟩, o⟩ := x
 dsimp only at hk hsl htr htq2 hmx2 o ⊢
 refine sqt 1 rfl (pur 1 rfl (Z0 ?_))
 refine Z1 rfl ?_ ?_ <;> intro hc0 <;> try simp only [cS] at hc0
 refine Z2 (Z0 (Z4 (Z0 ?_)))
 refine Zc [0, 1, 0, 0, 8, 31, 63, 0, 255] (.tk 0 (.tk 2 (.tk 3 (.ld 4 (.any (.alt 1 (.any (.alt 5 (.tk 6 (.big 7 (.big 8 .done))) (.alt 7 (.big 5 (.tk 6 (.big 8 .done))) .stop))) (.alt 7 (.big 1 (.big 5 (.tk 6 (.big 8 .done)))) .stop))))))) Zr (by kernel_rfl) ?_
 refine Zp 2 rfl (tk rfl (PE.fA Z04 rfl) rfl (ld rfl rfl (lh (v := .int .i64 h.bins) sc3 rfl rfl) rfl ?_))
 refine Z19 ?_ ?_
 refine Zs bk ?_
 refine cl rfl Z23 rfl rfl (Z0a l0 a0 c0 bk hgl _ _ (by omega) (by assumption) (5) _ _) ?_
 rintro _ _ R1 ⟨x21, m21, hx21, rfl, hm21, rfl, hR1⟩
 obtain rfl := hR1.symm
 refine bg (fun w hs => ⟨(lh (v := .int .i64 h.bins) sc3 rfl rfl) w hs, trivial⟩) ?_
 refine Z19 ?_ ?_
 refine Zs bk ?_
 refine cl rfl Z23 rfl rfl (Z0a l0 a0 c0 bk hgl _ _ (by omega) (by assumption) (h.bins) _ _) ?_
 rintro _ _ R1 ⟨x25, m25, hx25, rfl, hm25, rfl, hR1⟩
 obtain rfl := hR1.symm
 refine bgT (tk rfl (PE.build (out := [.int .i64 x21, .int .i64 x25, .bool (false)]) Zb8 Z4O rfl rfl) rfl (alc rfl Z4O rfl (fun b10 => bgT ?_)))
 refine sto rfl rfl rfl ZcG rfl rfl rfl rfl ?_
 refine bgT (Z0 ?_)
 refine Zc [0, 0, 2, 7, 15, 0, 32, 127, 255, 511] (.tk 0 (.tk 1 (.ld 2 (.tk 3 (.ld 4 (.tk 5 (.ld 6 (.tk 7 (.tk 8 (.big 9 .done)))))))))) Zr (by kernel_rfl) ?_
 have hgf := ZM (l := (Z3p h.gaps (clP []) (msk fr) h.bins.toNat)) (k := x25.toNat) (by rw [Z0R]; omega)
 have hft := Z4X (gs := h.gaps) (cl := clP []) (m := msk fr) (n := h.bins.toNat) (k := x25.toNat) (by omega)
 generalize hfv : na (Z3p h.gaps (clP []) (msk fr) h.bins.toNat) x25.toNat = fv at *
 have hes : exS h.gaps (msk fr) ⟨x21, x25, decide (fv ≤ x21)⟩ = true := Z4Z hok hfr (s := ⟨x21, x25, decide (fv ≤ x21)⟩) (by dsimp only; omega) (by dsimp only; rw [hft]; rfl)
 refine Zj (a := af2) (sz := 1) (rows := Z3 (Z3p h.gaps (clP []) (msk fr) h.bins.toNat)) (by intro h0; have := congrArg List.length h0; rw [irl, Z0R] at this; simp only [List.length_nil] at this; omega) (fun bf bfo hebf => ?_)
 subst hebf
 refine Zp 1 rfl (tk rfl (PE.fA Z2e rfl) rfl (ld rfl rfl (lh sc3 rfl rfl) rfl (tk rfl (PE.indexAddr Z15 rfl rfl (by omega) (by omega)) rfl (ld rfl rfl (lf0 sc3 (ZF hgf) rfl) rfl (tk rfl (PE.fA Z3B rfl) rfl (ld rfl rfl (lh sc3 rfl rfl) rfl (Zp 1 rfl (tk rfl (PE.fA Z4z rfl) rfl ?_))))))))
 refine ZD (l' := [.int .i64 x21, .int .i64 x25, .bool (decide (fv ≤ x21))]) rfl rfl rfl cn4 rfl rfl rfl rfl (nl rfl) ?_
 refine bgT (sqr 7 rfl (sp rfl (PE.fA ZU rfl) rfl (spL rfl rfl (lh Z3q rfl rfl) rfl (spL rfl rfl (lhA [.int .i64 x21, .int .i64 x25, .bool (decide (fv ≤ x21))] Z9R rfl rfl rfl) rfl ?_))))
 refine bsl (out := [_, _, _]) rfl Zbc Z4O rfl rfl rfl rfl rfl rfl (fun b39 => ?_)
 refine apO (o) rfl Zba rfl rfl (Z0i (row := Z2q ⟨x21, x25, decide (fv ≤ x21)⟩) rfl) rfl rfl ((by rw [Z06]; simp only [List.length_singleton]; omega)) rfl (fun o40 => ?_)
 refine sp rfl (PE.fA ZU rfl) rfl ?_
 refine ZD (l' := htl ⟨h.bins, h.gaps, ss ++ [⟨x21, x25, decide (fv ≤ x21)⟩]⟩ (h.sg ag cg) o40.fs) rfl rfl rfl Zd7 rfl (by rw [o40.cells.1]; first | done | rfl) (by rw [o40.cells.1]; simp [o40.cells.2]) (by rw [o40.cells.1]; first | done | rfl) (by rw [o40.cells.1]; first | done | exact Nat.le_of_ble_eq_true rfl) ?_
 refine sqr 2 rfl (sp rfl (PE.add rfl rfl (by omega)) rfl (pur 1 rfl ?_))
 exact Z8 ⟨⟨(k + 1, ss ++ [⟨x21, x25, decide (fv ≤ x21)⟩], tq2 + 1 + 1, m25), by dsimp only; omega, ⟨by simp [hsl], htr.snoc (by dsimp only; omega) hes⟩, by dsimp only; omega, by assumption⟩, o40.cast (by simp [Zf])⟩ (fun w h9 => ((h9.del b39).del b10).perm (by first | exact .refl _ | exact (Zd _ [_] _).symm))
 refine Z19 ?_ ?_
 refine alc rfl Z4O rfl (fun b10 => ?_)
 refine bg (fun w hs => ⟨(lh (v := .int .i64 h.bins) sc3 rfl rfl) w hs, trivial⟩) ?_
 refine Zs bk ?_
 refine cl rfl Z23 rfl rfl (Z0a l0 a0 c0 bk hgl _ _ (by omega) (by assumption) (h.bins) _ _) ?_
 rintro _ _ R1 ⟨x25, m25, hx25, rfl, hm25, rfl, hR1⟩
 obtain rfl := hR1.symm
 refine bgT (tk rfl (PE.build (out := [.int .i64 x21, .int .i64 x25, .bool (false)]) Zb8 Z4O rfl rfl) rfl ?_)
 refine sto rfl rfl rfl ZcG rfl rfl rfl rfl ?_
 refine bgT (Z0 ?_)
 refine Zc [0, 0, 2, 7, 15, 0, 32, 127, 255, 511] (.tk 0 (.tk 1 (.ld 2 (.tk 3 (.ld 4 (.tk 5 (.ld 6 (.tk 7 (.tk 8 (.big 9 .done)))))))))) Zr (by kernel_rfl) ?_
 have hgf := ZM (l := (Z3p h.gaps (clP []) (msk fr) h.bins.toNat)) (k := x25.toNat) (by rw [Z0R]; omega)
 have hft := Z4X (gs := h.gaps) (cl := clP []) (m := msk fr) (n := h.bins.toNat) (k := x25.toNat) (by omega)
 generalize hfv : na (Z3p h.gaps (clP []) (msk fr) h.bins.toNat) x25.toNat = fv at *
 have hes : exS h.gaps (msk fr) ⟨x21, x25, decide (fv ≤ x21)⟩ = true := Z4Z hok hfr (s := ⟨x21, x25, decide (fv ≤ x21)⟩) (by dsimp only; omega) (by dsimp only; rw [hft]; rfl)
 refine Zj (a := af2) (sz := 1) (rows := Z3 (Z3p h.gaps (clP []) (msk fr) h.bins.toNat)) (by intro h0; have := congrArg List.length h0; rw [irl, Z0R] at this; simp only [List.length_nil] at this; omega) (fun bf bfo hebf => ?_)
 subst hebf
 refine Zp 1 rfl (tk rfl (PE.fA Z2e rfl) rfl (ld rfl rfl (lh sc3 rfl rfl) rfl (tk rfl (PE.indexAddr Z15 rfl rfl (by omega) (by omega)) rfl (ld rfl rfl (lf0 sc3 (ZF hgf) rfl) rfl (tk rfl (PE.fA Z3B rfl) rfl (ld rfl rfl (lh sc3 rfl rfl) rfl (Zp 1 rfl (tk rfl (PE.fA Z4z rfl) rfl ?_))))))))
 refine ZD (l' := [.int .i64 x21, .int .i64 x25, .bool (decide (fv ≤ x21))]) rfl rfl rfl cn4 rfl rfl rfl rfl (nl rfl) ?_
 refine bgT (sqr 7 rfl (sp rfl (PE.fA ZU rfl) rfl (spL rfl rfl (lh Z3q rfl rfl) rfl (spL rfl rfl (lhA [.int .i64 x21, .int .i64 x25, .bool (decide (fv ≤ x21))] Z9R rfl rfl rfl) rfl ?_))))
 refine bsl (out := [_, _, _]) rfl Zbc Z4O rfl rfl rfl rfl rfl rfl (fun b39 => ?_)
 refine apO (o) rfl Zba rfl rfl (Z0i (row := Z2q ⟨x21, x25, decide (fv ≤ x21)⟩) rfl) rfl rfl ((by rw [Z06]; simp only [List.length_singleton]; omega)) rfl (fun o40 => ?_)
 refine sp rfl (PE.fA ZU rfl) rfl ?_
 refine ZD (l' := htl ⟨h.bins, h.gaps, ss ++ [⟨x21, x25, decide (fv ≤ x21)⟩]⟩ (h.sg ag cg) o40.fs) rfl rfl rfl Zd7 rfl (by rw [o40.cells.1]; first | done | rfl) (by rw [o40.cells.1]; simp [o40.cells.2]) (by rw [o40.cells.1]; first | done | rfl) (by rw [o40.cells.1]; first | done | exact Nat.le_of_ble_eq_true rfl) ?_
 refine sqr 2 rfl (sp rfl (PE.add rfl rfl (by omega)) rfl (pur 1 rfl ?_))
 exact Z8 ⟨⟨(k + 1, ss ++ [⟨x21, x25, decide (fv ≤ x21)⟩], tq2 + 1 + 1, m25), by dsimp only; omega, ⟨by simp [hsl], htr.snoc (by dsimp only; omega) hes⟩, by dsimp only; omega, by assumption⟩, o40.cast (by simp [Zf])⟩ (fun w h9 => ((h9.del b39).del b10).perm (by first | exact .refl _ | exact (Zd _ [_] _).symm))
 exact Z1X
 refine Z19 ?_ ?_
 refine alc rfl Z4O rfl (fun b10 => ?_)
 refine bg (fun w hs => ⟨(lh (v := .int .i64 h.bins) sc3 rfl rfl) w hs, trivial⟩) ?_
 refine Zs bk ?_
 refine cl rfl Z23 rfl rfl (Z0a l0 a0 c0 bk hgl _ _ (by omega) (by assumption) (5) _ _) ?_
 rintro _ _ R1 ⟨x21, m21, hx21, rfl, hm21, rfl, hR1⟩
 obtain rfl := hR1.symm
 refine bg (fun w hs => ⟨(lh (v := .int .i64 h.bins) sc3 rfl rfl) w hs, trivial⟩) ?_
 refine Zs bk ?_
 refine cl rfl Z23 rfl rfl (Z0a l0 a0 c0 bk hgl _ _ (by omega) (by assumption) (h.bins) _ _) ?_
 rintro _ _ R1 ⟨x25, m25, hx25, rfl, hm25, rfl, hR1⟩
 obtain rfl := hR1.symm
 refine bgT (tk rfl (PE.build (out := [.int .i64 x21, .int .i64 x25, .bool (false)]) Zb8 Z4O rfl rfl) rfl ?_)
 refine sto rfl rfl rfl ZcG rfl rfl rfl rfl ?_
 refine bgT (Z0 ?_)
 refine Zc [0, 0, 2, 7, 15, 0, 32, 127, 255, 511] (.tk 0 (.tk 1 (.ld 2 (.tk 3 (.ld 4 (.tk 5 (.ld 6 (.tk 7 (.tk 8 (.big 9 .done)))))))))) Zr (by kernel_rfl) ?_
 have hgf := ZM (l := (Z3p h.gaps (clP []) (msk fr) h.bins.toNat)) (k := x25.toNat) (by rw [Z0R]; omega)
 have hft := Z4X (gs := h.gaps) (cl := clP []) (m := msk fr) (n := h.bins.toNat) (k := x25.toNat) (by omega)
 generalize hfv : na (Z3p h.gaps (clP []) (msk fr) h.bins.toNat) x25.toNat = fv at *
 have hes : exS h.gaps (msk fr) ⟨x21, x25, decide (fv ≤ x21)⟩ = true := Z4Z hok hfr (s := ⟨x21, x25, decide (fv ≤ x21)⟩) (by dsimp only; omega) (by dsimp only; rw [hft]; rfl)
 refine Zj (a := af2) (sz := 1) (rows := Z3 (Z3p h.gaps (clP []) (msk fr) h.bins.toNat)) (by intro h0; have := congrArg List.length h0; rw [irl, Z0R] at this; simp only [List.length_nil] at this; omega) (fun bf bfo hebf => ?_)
 subst hebf
 refine Zp 1 rfl (tk rfl (PE.fA Z2e rfl) rfl (ld rfl rfl (lh sc3 rfl rfl) rfl (tk rfl (PE.indexAddr Z15 rfl rfl (by omega) (by omega)) rfl (ld rfl rfl (lf0 sc3 (ZF hgf) rfl) rfl (tk rfl (PE.fA Z3B rfl) rfl (ld rfl rfl (lh sc3 rfl rfl) rfl (Zp 1 rfl (tk rfl (PE.fA Z4z rfl) rfl ?_))))))))
 refine ZD (l' := [.int .i64 x21, .int .i64 x25, .bool (decide (fv ≤ x21))]) rfl rfl rfl cn4 rfl rfl rfl rfl (nl rfl) ?_
 refine bgT (sqr 7 rfl (sp rfl (PE.fA ZU rfl) rfl (spL rfl rfl (lh Z3q rfl rfl) rfl (spL rfl rfl (lhA [.int .i64 x21, .int .i64 x25, .bool (decide (fv ≤ x21))] Z9R rfl rfl rfl) rfl ?_))))
 refine bsl (out := [_, _, _]) rfl Zbc Z4O rfl rfl rfl rfl rfl rfl (fun b39 => ?_)
 refine apO (o) rfl Zba rfl rfl (Z0i (row := Z2q ⟨x21, x25, decide (fv ≤ x21)⟩) rfl) rfl rfl ((by rw [Z06]; simp only [List.length_singleton]; omega)) rfl (fun o40 => ?_)
 refine sp rfl (PE.fA ZU rfl) rfl ?_
 refine ZD (l' := htl ⟨h.bins, h.gaps, ss ++ [⟨x21, x25, decide (fv ≤ x21)⟩]⟩ (h.sg ag cg) o40.fs) rfl rfl rfl Zd7 rfl (by rw [o40.cells.1]; first | done | rfl) (by rw [o40.cells.1]; simp [o40.cells.2]) (by rw [o40.cells.1]; first | done | rfl) (by rw [o40.cells.1]; first | done | exact Nat.le_of_ble_eq_true rfl) ?_
 refine sqr 2 rfl (sp rfl (PE.add rfl rfl (by omega)) rfl (pur 1 rfl ?_))
 exact Z8 ⟨⟨(k + 1, ss ++ [⟨x21, x25, decide (fv ≤ x21)⟩], tq2 + 1 + 1, m25), by dsimp only; omega, ⟨by simp [hsl], htr.snoc (by dsimp only; omega) hes⟩, by dsimp only; omega, by assumption⟩, o40.cast (by simp [Zf])⟩ (fun w h9 => ((h9.del b39).del b10).perm (by first | exact .refl _ | exact (Zd _ [_] _).symm))
 exact Z1X
 obtain rfl : k = n17 := by omega
 refine Z9 (Za (Za (Zn (sqt 2 rfl (spL rfl rfl (lhA (htl ⟨h.bins, h.gaps, ss⟩ (h.sg ag cg) o.fs) Z0h rfl rfl rfl) rfl ?_)))))
 refine ZD (l' := htl ⟨h.bins, h.gaps, ss⟩ (h.sg ag cg) o.fs) rfl rfl rfl Z9p rfl rfl (by show (htl _ _ o.fs).all (·.oneCell') = true; simp only [htl, List.all_cons, List.all_nil, o.cells.2, Bool.and_true]; rfl) rfl (Nat.le_refl _) ?_
 refine Z6 ?_
 exact Zm (vs := [_]) rfl (.cons (RV.cell rfl (lhA [_, _, _] Z0h rfl rfl rfl)) .nil) rfl ⟨ss, o, tq2, mx2, htr, by omega, rfl, by omega, by assumption, rfl, rfl⟩ (fun w h9 => St.ftail ((h9.del b8).del b5))
theorem ZcL : cal Try.prog 11 = true := by kernel_rfl
theorem ZcS : cal Try.prog 17 = true := by kernel_rfl
theorem Z9a {h : Hse} {l k : List Int} (hk : h.ok) (h1 : ZT h.bins l = 0) (h2 : ZT h.bins k = 0) (h3 : ∀ x ∈ l, x ∉ k) : h.botE l k = 0 := by
  have h4 : l.any (Z3f k) = false := List.any_eq_false.2 fun x hx h5 => h3 x hx (hasI_iff.1 h5)
  unfold Hse.botE
  rw [hse_ok.2 hk, h1, h2, h4]; rfl
theorem Z7k {d : Nat → Int} {n : Nat} : ∀ x ∈ Z0k (fun j => decide (d j = 0)) n, x ∉ Z0k (fun j => decide (d j = 1)) n := fun x h1 h2 => by
  obtain ⟨k, _, h3, rfl⟩ := fltK_mem.1 h1
  obtain ⟨k', _, h4, h5⟩ := fltK_mem.1 h2
  obtain rfl : k = k' := by omega
  have := of_decide_eq_true h3; have := of_decide_eq_true h4; omega
theorem Z9C (h : Hse) (ag as_ : Option Addr) (cg cs : Nat) (hok : h.ok) (fr to_ : List Int) (af at_ : Option Addr) (cf ct : Nat) (hlf : fr.length ≤ 1000000) (hlt : to_.length ≤ 1000000) (hfc : fr.length ≤ cf) (htc : to_.length ≤ ct) (hb : h.botE fr to_ = 0) (H : Z7) (R : Z5) [hG : MemRows ag 2 (Zg h.gaps) R] [hS : MemRows as_ 3 (Zf h.sights) R] [hF : MemRows af 1 (Z3 fr) R] [hT : MemRows at_ 1 (Z3 to_) R] : Fn Try.prog 23 [h.v (h.sg ag cg) (h.ss as_ cs), .slice af fr.length cf, .slice at_ to_.length ct] H R (fun v H' R' => ∃ (X : Nat) (a : Option Addr) (c : Nat), Cut h.gaps (msk fr) (msk to_) (Z17 X h.gaps).length ∧ Shut h.gaps (msk (Z17 X h.gaps)) (msk fr) (msk to_) ∧ (Z17 X h.gaps).length ≤ c ∧ v = .tuple #[.slice a (Z17 X h.gaps).length c, .int .i64 0] ∧ H' = H ∧ R' = RowsA a 1 (Z3 (Z17 X h.gaps)) :: R) := fun w hw => by
  refine CallsIn.mono (ZbH h ag as_ cg cs (by have := hok.gl; omega) (by have := hok.sl; omega) fr to_ af at_ cf ct hlf hlt hfc htc H R w hw) ?_
  rintro e' w' ⟨u, H', R', ⟨rfl, hq⟩, he, hs'⟩
  rcases hq with ⟨h1, _⟩ | ⟨_, f, V, a, c, h2, h3, h4, rfl, rfl⟩
  · exact absurd hb h1
  · obtain ⟨h5, h6⟩ := h3.cut (Z3G (Z2b hb)) h2
    exact ⟨_, _, _, ⟨Z1t V, a, c, h5, h6, h4, rfl, rfl, rfl⟩, he, hs'⟩
theorem Zd6 : cal Try.prog 21 = true := by kernel_rfl
theorem Z99 (a b : List Sgt) : Zf (a ++ b) = Zf a ++ Zf b := List.map_append
theorem Z5d (l : List Sgt) : (Zf l).flatten.length = l.length * 3 := by rw [Z02 (Z4e l), Z06]
def Z9i {e sz : Nat} {rows : List (List Value)} (b cap n : Nat) (junk : List Value) (hl : ∀ r ∈ rows, r.length = sz) (hn : n = rows.length) (h1 : rows.length * sz + junk.length = cap * sz) (h2 : rows.length ≤ cap) (h3 : cap ≤ 9223372036854775807) : OSl e sz rows :=
  ⟨.slice (some ⟨b, 0, none⟩) n cap, [(b, cel e (rows.flatten ++ junk))], hl, .inr ⟨b, cap, junk, by rw [hn], rfl, h1, h2, h3⟩⟩
def Hse.add (h : Hse) (s : Sgt) : Hse := ⟨h.bins, h.gaps, h.sights ++ [s]⟩
theorem Zax {y : List Nat} {n : Nat} (hp : y.Pairwise (· < ·)) (hn : ∀ j ∈ y, j < n) : cnt n (msk (y.map fun (j : Nat) => (j : Int))) = y.length := by
  rw [← Z1o]
  congr 1
  refine Z3H (List.pairwise_lt_range.filter _) hp fun x => ?_
  rw [List.mem_filter, List.mem_range, Zt (fun j hj => by obtain ⟨k, _, rfl⟩ := List.mem_map.1 hj; omega)]
  constructor
  · rintro ⟨_, h⟩
    obtain ⟨k, hk, e⟩ := List.mem_map.1 h
    obtain rfl : k = x := by omega
    exact hk
  · intro h; exact ⟨hn x h, List.mem_map.2 ⟨x, h, rfl⟩⟩
theorem Z8K {n m : Nat} (h : m < 2 ^ n) : msk (((List.range n).filter fun i => m.testBit i).map fun (j : Nat) => (j : Int)) = m := ZX fun k => by
  rw [Bool.eq_iff_iff, Zt (fun j hj => by obtain ⟨k, _, rfl⟩ := List.mem_map.1 hj; omega)]
  constructor
  · intro h1
    obtain ⟨j, hj, e⟩ := List.mem_map.1 h1
    obtain rfl : j = k := by omega
    exact (List.mem_filter.1 hj).2
  · intro h1; exact List.mem_map.2 ⟨k, List.mem_filter.2 ⟨List.mem_range.2 (Z0H h h1), h1⟩, rfl⟩
structure Org (h : Hse) (few : List Int) : Prop where
  lt : ∀ x ∈ few, 0 ≤ x ∧ x < h.bins
  srt : few.Pairwise (· < ·)
  ex : Z2r h.gaps (msk few) h.sights = true
  len : few.length = cnt h.bins.toNat (msk few)
  min : ∀ m, m < 2 ^ h.bins.toNat → Z2r h.gaps m h.sights = true → few.length ≤ cnt h.bins.toNat m
theorem Z9l {h : Hse} (hk : h.ok) (ha : h.agr h.sights = true) : ∃ few, h.orgR = (few, 0) ∧ Org h few := by
  have hb := hk.bins
  obtain ⟨m, hm, he⟩ := (Z26 hk hk.sights).1 ha
  have hset : ∀ m, m < 2 ^ h.bins.toNat → Z2r h.gaps m h.sights = true → (fun l => Z2r h.gaps (msk l) h.sights) (((List.range h.bins.toNat).filter fun i => m.testBit i).map fun (j : Nat) => (j : Int)) = true := fun m hm he => by
    dsimp only; rw [Z8K hm]; exact he
  obtain ⟨x, hx⟩ := Z6l (has := fun l => Z2r h.gaps (msk l) h.sights) (n := h.bins.toNat) (y := (List.range h.bins.toNat).filter fun i => m.testBit i) (List.pairwise_lt_range.filter _) (fun j hj => List.mem_range.1 (List.mem_filter.1 hj).1) (hset m hm he)
  refine ⟨x, ?_, ?_⟩
  · unfold Hse.orgR
    rw [hse_ok.2 hk, ha, hx]; rfl
  · obtain ⟨⟨y, rfl, h1, h2, h3⟩, h4⟩ := Z4V hx
    refine ⟨fun z hz => ?_, h1.map _ (fun a b hab => by omega), h3, by rw [Zax h1 h2, List.length_map], fun m' hm' he' => ?_⟩
    · obtain ⟨j, hj, rfl⟩ := List.mem_map.1 hz
      have := h2 j hj; omega
    · have h5 := h4 ((List.range h.bins.toNat).filter fun i => m'.testBit i) (Nat.le_trans (List.length_filter_le _ _) (by simp)) (List.pairwise_lt_range.filter _) (fun j hj => List.mem_range.1 (List.mem_filter.1 hj).1) (hset m' hm' he')
      unfold ahB at h5
      rw [List.length_map, List.length_map, Z1o] at h5
      rw [List.length_map]
      rcases Nat.lt_or_ge (cnt h.bins.toNat m') y.length with h6 | h6
      · rw [decide_eq_true (show cnt h.bins.toNat m' ≠ y.length by omega), decide_eq_true h6] at h5; cases h5
      · exact h6
structure DelI (l : List Int) (p : Int → Bool) (i j : Nat) (c : List Int) : Prop where
  len : c.length = l.length
  le : i < j ∧ j ≤ l.length
  pre : c.take i = (l.take j).filter (fun x => !p x)
  suf : ∀ q, j ≤ q → c[q]? = l[q]?
theorem Z1v {l : List Int} {j : Nat} {x : Int} (h : l[j]? = some x) : l.take (j + 1) = l.take j ++ [x] := by rw [List.take_add_one, h]; rfl
theorem DelI.start {l : List Int} {p : Int → Bool} {k : Nat} (h : l.findIdx? p = some k) : DelI l p k (k + 1) l := by
  obtain ⟨h1, h2, h3⟩ := List.findIdx?_eq_some_iff_getElem.1 h
  refine ⟨rfl, ⟨by omega, by omega⟩, ?_, fun _ _ => rfl⟩
  rw [Z1v (List.getElem?_eq_getElem h1), List.filter_append, List.filter_cons, h2]
  have : (l.take k).filter (fun x => !p x) = l.take k := List.filter_eq_self.2 fun x hx => by
    obtain ⟨q, hq, rfl⟩ := List.mem_iff_getElem.1 hx
    rw [List.length_take] at hq
    rw [List.getElem_take]
    have := h3 q (by omega)
    simpa using this
  rw [this]; simp
theorem DelI.skip {l : List Int} {p : Int → Bool} {i j : Nat} {c : List Int} (h : DelI l p i j c) {x : Int} (hx : l[j]? = some x) (hp : p x = true) : DelI l p i (j + 1) c := by
  have hj := (List.getElem?_eq_some_iff.1 hx).1
  refine ⟨h.len, ⟨by have := h.le; omega, by omega⟩, ?_, fun q hq => h.suf q (by omega)⟩
  rw [h.pre, Z1v hx, List.filter_append, List.filter_cons, hp]; simp
theorem DelI.keep {l : List Int} {p : Int → Bool} {i j : Nat} {c : List Int} (h : DelI l p i j c) {x : Int} (hx : l[j]? = some x) (hp : p x = false) : DelI l p (i + 1) (j + 1) (c.set i x) := by
  have hj := (List.getElem?_eq_some_iff.1 hx).1
  have hl := h.le
  have hn := h.len
  refine ⟨by rw [List.length_set]; exact hn, ⟨by omega, by omega⟩, ?_, fun q hq => by rw [List.getElem?_set_ne (by omega)]; exact h.suf q (by omega)⟩
  rw [Z1v hx, List.filter_append, List.filter_cons, hp, ← h.pre, Z1v (l := c.set i x) (x := x) (by rw [List.getElem?_set_self (by omega)]), List.take_set_of_le (Nat.le_refl _)]; rfl
theorem DelI.done {l : List Int} {p : Int → Bool} {i : Nat} {c : List Int} (h : DelI l p i l.length c) : c.take i = l.filter (fun x => !p x) ∧ i = (l.filter (fun x => !p x)).length := by
  have h1 := h.pre
  rw [List.take_length] at h1
  refine ⟨h1, ?_⟩
  rw [← h1, List.length_take, h.len]
  have := h.le; omega
end Go.Proofs.Ythfgcnmcipcbbaa
namespace Go.Proofs.Ythfgcnmcipcbbaa
set_option linter.unusedSimpArgs false
set_option linter.unusedVariables false
structure Bij (n : Nat) (R : Nat → Nat → Prop) : Prop where
  lt : ∀ u u', R u u' → u < n ∧ u' < n
  to : ∀ u, u < n → ∃ u', R u u'
  fr : ∀ u', u' < n → ∃ u, R u u'
  f : ∀ u u' v', R u u' → R u v' → u' = v'
  i : ∀ u v u', R u u' → R v u' → u = v
theorem Bij.symm {n : Nat} {R : Nat → Nat → Prop} (h : Bij n R) : Bij n fun u' u => R u u' := ⟨fun u u' h1 => (h.lt u' u h1).symm, h.fr, h.to, fun u u' v' h1 h2 => h.i u' v' u h1 h2, fun u v u' h1 h2 => h.f u' u v h1 h2⟩
structure Img (n : Nat) (R : Nat → Nat → Prop) (m m' : Nat) : Prop where
  lt : m < 2 ^ n
  lt' : m' < 2 ^ n
  bit : ∀ u u', R u u' → m.testBit u = m'.testBit u'
theorem Img.symm {n : Nat} {R : Nat → Nat → Prop} {m m' : Nat} (h : Img n R m m') : Img n (fun u' u => R u u') m' m := ⟨h.lt', h.lt, fun u u' h1 => (h.bit u' u h1).symm⟩
theorem Img.ex {n : Nat} {R : Nat → Nat → Prop} (hb : Bij n R) {m : Nat} (hm : m < 2 ^ n) : ∃ m', Img n R m m' := by
  classical
  obtain ⟨t, h1, h2⟩ := Z54 (fun u' => decide (∃ u, R u u' ∧ m.testBit u = true)) n
  refine ⟨t, hm, h1, fun u u' h => ?_⟩
  rw [h2 u', decide_eq_true (hb.lt u u' h).2, Bool.true_and, Bool.eq_iff_iff, decide_eq_true_eq]
  exact ⟨fun h3 => ⟨u, h, h3⟩, fun ⟨v, h3, h4⟩ => by rw [hb.i u v u' h h3]; exact h4⟩
theorem Img.unique {n : Nat} {R : Nat → Nat → Prop} (hb : Bij n R) {m a b : Nat} (h1 : Img n R m a) (h2 : Img n R m b) : a = b := ZX fun k => by
  rcases Nat.lt_or_ge k n with hk | hk
  · obtain ⟨u, hu⟩ := hb.fr k hk
    rw [← h1.bit u k hu, ← h2.bit u k hu]
  · rw [Z55 h1.lt' hk, Z55 h2.lt' hk]
theorem Img.zero {n : Nat} {R : Nat → Nat → Prop} : Img n R 0 0 := ⟨Nat.two_pow_pos _, Nat.two_pow_pos _, fun u u' _ => by rw [Nat.zero_testBit, Nat.zero_testBit]⟩
theorem Img.or {n : Nat} {R : Nat → Nat → Prop} {a a' b b' : Nat} (h1 : Img n R a a') (h2 : Img n R b b') : Img n R (a ||| b) (a' ||| b') := ⟨Z8e h1.lt h2.lt, Z8e h1.lt' h2.lt', fun u u' h => by rw [Nat.testBit_or, Nat.testBit_or, h1.bit u u' h, h2.bit u u' h]⟩
theorem Img.and {n : Nat} {R : Nat → Nat → Prop} (hb : Bij n R) {a a' b b' : Nat} (h1 : Img n R a a') (h2 : Img n R b b') (h : a &&& b = 0) : a' &&& b' = 0 := and_zero.2 fun k hk => by
  obtain ⟨u, hu⟩ := hb.fr k (Z0H h1.lt' hk)
  rw [← h2.bit u k hu]
  exact and_zero.1 h u (by rw [h1.bit u k hu]; exact hk)
theorem Img.cnt {n : Nat} {R : Nat → Nat → Prop} (hb : Bij n R) {m m' : Nat} (h : Img n R m m') : cnt n m = cnt n m' := by
  classical
  have hex : ∃ f : Nat → Nat, ∀ u, u < n → R u (f u) := ⟨fun u => if h : u < n then Classical.choose (hb.to u h) else 0, fun u hu => by
    dsimp only; rw [dif_pos hu]; exact Classical.choose_spec (hb.to u hu)⟩
  obtain ⟨f, hf⟩ := hex
  have hp : ((List.range n).map f).Perm (List.range n) := by
    refine (List.perm_ext_iff_of_nodup ?_ List.nodup_range).2 fun x => ?_
    · rw [List.nodup_iff_pairwise_ne, List.pairwise_map]
      refine List.pairwise_lt_range.imp_of_mem fun {a b} ha hb9 hab e => ?_
      have h1 := hf a (List.mem_range.1 ha)
      have h2 := hf b (List.mem_range.1 hb9)
      rw [← e] at h2
      have := hb.i a b _ h1 h2
      omega
    · rw [List.mem_range, List.mem_map]
      constructor
      · rintro ⟨u, hu, rfl⟩; exact (hb.lt _ _ (hf u (List.mem_range.1 hu))).2
      · intro hx
        obtain ⟨u, hu⟩ := hb.fr x hx
        have hul := (hb.lt u x hu).1
        exact ⟨u, List.mem_range.2 hul, hb.f u _ _ (hf u hul) hu⟩
  show (List.range n).countP (fun k => m.testBit k) = (List.range n).countP (fun k => m'.testBit k)
  have e1 := hp.countP_eq (fun k => m'.testBit k)
  rw [List.countP_map] at e1
  rw [← e1]
  exact List.countP_congr fun k hk => by rw [h.bit k (f k) (hf k (List.mem_range.1 hk))]; rfl
structure Sim (n : Nat) (gs gs' : List Gp) (R Q : Nat → Nat → Prop) : Prop where
  bin : Bij n R
  gap : Bij gs.length Q
  len : gs'.length = gs.length
  gp : ∀ i i' g g', Q i i' → gs[i]? = some g → gs'[i']? = some g' → R g.a.toNat g'.b.toNat ∧ R g.b.toNat g'.a.toNat
theorem Sim.symm {n : Nat} {gs gs' : List Gp} {R Q : Nat → Nat → Prop} (h : Sim n gs gs' R Q) : Sim n gs' gs (fun u' u => R u u') (fun i' i => Q i i') := ⟨h.bin.symm, by rw [h.len]; exact h.gap.symm, h.len.symm, fun i i' g g' h1 h2 h3 => by
  have := h.gp i' i g' g h1 h3 h2
  exact ⟨this.2, this.1⟩⟩
theorem Sim.wth {n : Nat} {gs gs' : List Gp} {R Q : Nat → Nat → Prop} (h : Sim n gs gs' R Q) : Wth gs n := fun g hg => by
  obtain ⟨i, hi⟩ := List.getElem?_of_mem hg
  have hl := (List.getElem?_eq_some_iff.1 hi).1
  obtain ⟨i', hq⟩ := h.gap.to i hl
  have hl' : i' < gs'.length := by rw [h.len]; exact (h.gap.lt i i' hq).2
  have h1 := h.gp i i' g gs'[i'] hq hi (List.getElem?_eq_getElem hl')
  exact ⟨(h.bin.lt _ _ h1.1).1, (h.bin.lt _ _ h1.2).1⟩
theorem Sim.adj {n : Nat} {gs gs' : List Gp} {R Q : Nat → Nat → Prop} (h : Sim n gs gs' R Q) {c c' u v u' v' : Nat} (hc : Img gs.length Q c c') (hu : R u u') (hv : R v v') (ha : Adj gs c u v) : Adj gs' c' u' v' := by
  obtain ⟨i, g, h1, h2, h3⟩ := ha
  have hl := (List.getElem?_eq_some_iff.1 h1).1
  obtain ⟨i', hq⟩ := h.gap.to i hl
  have hl' : i' < gs'.length := by rw [h.len]; exact (h.gap.lt i i' hq).2
  have h4 : gs'[i']? = some gs'[i'] := List.getElem?_eq_getElem hl'
  have h5 := h.gp i i' g _ hq h1 h4
  refine ⟨i', _, h4, by rw [← hc.bit i i' hq]; exact h2, ?_⟩
  rcases h3 with ⟨h6, h7⟩ | ⟨h6, h7⟩
  · right
    rw [h6] at h5; rw [h7] at h5
    exact ⟨(h.bin.f u _ _ h5.1 hu), (h.bin.f v _ _ h5.2 hv)⟩
  · left
    rw [h6] at h5; rw [h7] at h5
    exact ⟨(h.bin.f u _ _ h5.2 hu), (h.bin.f v _ _ h5.1 hv)⟩
theorem Sim.spr {n : Nat} {gs gs' : List Gp} {R Q : Nat → Nat → Prop} (h : Sim n gs gs' R Q) {c c' m m' : Nat} (hc : Img gs.length Q c c') (hm : Img n R m m') : Img n R (spr gs c m) (spr gs' c' m') := by
  refine ⟨Z2i h.wth hm.lt, Z2i h.symm.wth hm.lt', fun u u' hu => ?_⟩
  rw [Bool.eq_iff_iff, spr_test, spr_test]
  constructor
  · rintro (h1 | ⟨w, h1, h2⟩)
    · exact .inl (by rw [← hm.bit u u' hu]; exact h1)
    · obtain ⟨w', hw⟩ := h.bin.to w (h2.lt h.wth).1
      exact .inr ⟨w', by rw [← hm.bit w w' hw]; exact h1, h.adj hc hw hu h2⟩
  · rintro (h1 | ⟨w', h1, h2⟩)
    · exact .inl (by rw [hm.bit u u' hu]; exact h1)
    · obtain ⟨w, hw⟩ := h.bin.fr w' (h2.lt h.symm.wth).1
      exact .inr ⟨w, by rw [hm.bit w w' hw]; exact h1, h.symm.adj (by rw [h.len]; exact hc.symm) hw hu h2⟩
theorem Sim.lv {n : Nat} {gs gs' : List Gp} {R Q : Nat → Nat → Prop} (h : Sim n gs gs' R Q) {c c' m m' : Nat} (hc : Img gs.length Q c c') (hm : Img n R m m') : ∀ t, Img n R (lv gs c m t) (lv gs' c' m' t)
  | 0 => hm
  | t + 1 => h.spr hc (h.lv hc hm t)
theorem Sim.wk {n : Nat} {gs gs' : List Gp} {R Q : Nat → Nat → Prop} (h : Sim n gs gs' R Q) {c c' m m' u u' : Nat} (hc : Img gs.length Q c c') (hm : Img n R m m') (hu : R u u') : wk gs c m u = wk gs' c' m' u' := by
  unfold Go.Proofs.Ythfgcnmcipcbbaa.wk
  rw [show (fun t => (Go.Proofs.Ythfgcnmcipcbbaa.lv gs c m t).testBit u) = fun t => (Go.Proofs.Ythfgcnmcipcbbaa.lv gs' c' m' t).testBit u' from funext fun t => (h.lv hc hm t).bit u u' hu]
theorem Sim.shut {n : Nat} {gs gs' : List Gp} {R Q : Nat → Nat → Prop} (h : Sim n gs gs' R Q) {c c' S S' K K' : Nat} (hc : Img gs.length Q c c') (hS : Img n R S S') (hK : Img n R K K') (hs : Shut gs c S K) : Shut gs' c' S' K' := fun t v' hv => by
  obtain ⟨v, hr⟩ := h.bin.fr v' (Z0H (h.lv hc hS t).lt' hv)
  rw [← hK.bit v v' hr]
  exact hs t v (by rw [(h.lv hc hS t).bit v v' hr]; exact hv)
theorem Sim.cutLe {n : Nat} {gs gs' : List Gp} {R Q : Nat → Nat → Prop} (h : Sim n gs gs' R Q) {S S' K K' m m' : Nat} (hS : Img n R S S') (hK : Img n R K K') (h1 : Cut gs S K m) (h2 : Cut gs' S' K' m') : m' ≤ m := by
  obtain ⟨C, h3, h4, h5⟩ := h1.1
  obtain ⟨C', h6⟩ := Img.ex h.gap h3
  have h7 := h2.2 _ ⟨C', by rw [h.len]; exact h6.lt', h.shut h6 hS hK h4, rfl⟩
  rw [h.len, ← h6.cnt h.gap, h5] at h7; exact h7
theorem Sim.cut {n : Nat} {gs gs' : List Gp} {R Q : Nat → Nat → Prop} (h : Sim n gs gs' R Q) {S S' K K' m m' : Nat} (hS : Img n R S S') (hK : Img n R K K') (h1 : Cut gs S K m) (h2 : Cut gs' S' K' m') : m = m' := Nat.le_antisymm (h.symm.cutLe hS.symm hK.symm h2 h1) (h.cutLe hS hK h1 h2)
theorem Sim.pl {n : Nat} {gs gs' : List Gp} {R Q : Nat → Nat → Prop} (h : Sim n gs gs' R Q) {K K' sp m c k : Nat} (hK : Img n R K K') (hp : Pl gs K sp m c k) : ∀ {m' c' : Nat}, Img n R m m' → Img gs.length Q c c' → Pl gs' K' sp m' c' k := by
  induction hp with
  | @stay m c l hl hc hs he hk =>
    intro m' c' hm hc9
    obtain ⟨l', h1⟩ := Img.ex h.gap hl
    have h2 := h.spr (hc9.or h1) hm
    rw [he] at h2
    have e := h1.cnt h.gap
    rw [e]
    rw [← h.len]
    exact .stay (by rw [h.len]; exact h1.lt') (h1.and h.gap hc9 hc) (by rw [h.len, ← e]; exact hs) (h2.unique h.bin hm) (hm.and h.bin hK hk)
  | @go m c l k hl hc hs hne hk hp ih =>
    intro m' c' hm hc9
    obtain ⟨l', h1⟩ := Img.ex h.gap hl
    have h2 := h.spr (hc9.or h1) hm
    have e := h1.cnt h.gap
    rw [e]
    rw [← h.len]
    refine .go (by rw [h.len]; exact h1.lt') (h1.and h.gap hc9 hc) (by rw [h.len, ← e]; exact hs) (fun e2 => hne ?_) (h2.and h.bin hK hk) (ih h2 (hc9.or h1))
    rw [e2] at h2
    exact h2.symm.unique h.bin.symm hm.symm
theorem Sim.plan {n : Nat} {gs gs' : List Gp} {R Q : Nat → Nat → Prop} (h : Sim n gs gs' R Q) {S S' K K' sp k : Nat} (hS : Img n R S S') (hK : Img n R K K') : Pl gs K sp S 0 k ↔ Pl gs' K' sp S' 0 k :=
  ⟨fun hp => h.pl hK hp hS Img.zero, fun hp => h.symm.pl hK.symm hp hS.symm Img.zero⟩
theorem Img.map {n : Nat} {R : Nat → Nat → Prop} (hb : Bij n R) {l l' : List Int} (hl : ∀ x ∈ l, 0 ≤ x ∧ x < n) (h1 : ∀ x ∈ l, ∃ y ∈ l', R x.toNat y.toNat) (h2 : ∀ y ∈ l', 0 ≤ y ∧ ∃ x ∈ l, R x.toNat y.toNat) : Img n R (msk l) (msk l') := by
  refine ⟨Z0p hl, Z0p fun y hy => ?_, fun u u' hu => ?_⟩
  · obtain ⟨h3, x, hx, h4⟩ := h2 y hy
    have := (hb.lt _ _ h4).2
    omega
  · rw [Bool.eq_iff_iff, Zt (fun x hx => (hl x hx).1), Zt (fun y hy => (h2 y hy).1)]
    constructor
    · intro h
      obtain ⟨y, hy, h3⟩ := h1 _ h
      rw [Int.toNat_natCast] at h3
      have := hb.f u _ _ hu h3
      have h5 := (h2 y hy).1
      rw [show (u' : Int) = y by omega]; exact hy
    · intro h
      obtain ⟨_, x, hx, h3⟩ := h2 _ h
      rw [Int.toNat_natCast] at h3
      have := hb.i u _ _ hu h3
      have h5 := (hl x hx).1
      rw [show (u : Int) = x by omega]; exact hx
open Go
theorem Zdc : cal Try.prog 68 = true := by kernel_rfl
structure Ord (p : List Nat) (n : Nat) : Prop where
  len : p.length = n
  nd : p.Nodup
  lt : ∀ i ∈ p, i < n
theorem Ord.nil : Ord [] 0 := ⟨rfl, List.nodup_nil, by simp⟩
theorem Ord.ins {p : List Nat} {n j : Nat} (h : Ord p n) (hj : j ≤ n) : Ord (p.take j ++ n :: p.drop j) (n + 1) := by
  have hp : (p.take j ++ n :: p.drop j).Perm (n :: p) := by
    have h1 := List.perm_middle (a := n) (l₁ := p.take j) (l₂ := p.drop j)
    rwa [List.take_append_drop] at h1
  refine ⟨by rw [hp.length_eq]; simp [h.len], hp.nodup_iff.2 (List.nodup_cons.2 ⟨fun h1 => Nat.lt_irrefl _ (h.lt n h1), h.nd⟩), fun i hi => ?_⟩
  rcases List.mem_cons.1 (hp.mem_iff.1 hi) with rfl | h1
  · omega
  · have := h.lt i h1; omega
theorem Zaz {xs : List Int} {rest : List Value} {i : Nat} {x : Int} (hi : i < xs.length) (hr : 1 ≤ rest.length) : spl (spl (Zl xs ++ rest) (0 + (i + 1) * 1) (Zl (xs.drop i))) (0 + i * 1) [.int .i64 x] = Zl (xs.take i ++ x :: xs.drop i) ++ rest.drop 1 := by
  rw [show 0 + (i + 1) * 1 = i + 1 from by omega, show 0 + i * 1 = i from by omega]
  obtain ⟨A, y, B, rfl, rfl⟩ := Z4F hi
  obtain ⟨r0, r, rfl⟩ : ∃ r0 r, rest = r0 :: r := by cases rest with
    | nil => simp at hr
    | cons a b => exact ⟨a, b, rfl⟩
  rw [List.drop_left, List.take_left]
  have e1 : Zl (A ++ y :: B) ++ r0 :: r = (Zl A ++ [.int .i64 y]) ++ ((Zl B ++ [r0]) ++ r) := by simp [Zl]
  have h1 := Z3a (p := Zl A ++ [.int .i64 y]) (q := Zl B ++ [r0]) (s := r) (vs := Zl (y :: B)) (by simp [Zl])
  rw [show (Zl A ++ [Value.int .i64 y]).length = A.length + 1 by simp [Zl]] at h1
  have h2 := Z3a (p := Zl A) (q := [.int .i64 y]) (s := Zl (y :: B) ++ r) (vs := [.int .i64 x]) rfl
  rw [show (Zl A).length = A.length by simp [Zl]] at h2
  rw [e1, h1, List.append_assoc, h2]
  simp [Zl]
theorem Z9Z {xs : List Int} {z junk : List Value} {i : Nat} {x : Int} (hi : i < xs.length) (hz : z.length = xs.length + 1 - i) : spl (spl ((Zl (xs.take i)) ++ (z ++ junk)) (0 + i * 1) [.int .i64 x]) (0 + (i + 1) * 1) (Zl (xs.drop i)) = Zl (xs.take i ++ x :: xs.drop i) ++ junk := by
  rw [show 0 + (i + 1) * 1 = i + 1 from by omega, show 0 + i * 1 = i from by omega]
  obtain ⟨A, y, B, rfl, rfl⟩ := Z4F hi
  obtain ⟨z0, z1, rfl⟩ : ∃ z0 z1, z = z0 :: z1 := by cases z with
    | nil => simp only [List.length_nil, List.length_append, List.length_cons] at hz; omega
    | cons a b => exact ⟨a, b, rfl⟩
  rw [List.drop_left, List.take_left]
  have h1 := Z3a (p := Zl A) (q := [z0]) (s := z1 ++ junk) (vs := [.int .i64 x]) rfl
  rw [show (Zl A).length = A.length by simp [Zl]] at h1
  have h2 := Z3a (p := Zl A ++ [.int .i64 x]) (q := z1) (s := junk) (vs := Zl (y :: B)) (by simp [Zl] at hz ⊢; omega)
  rw [show (Zl A ++ [Value.int .i64 x]).length = A.length + 1 by simp [Zl]] at h2
  rw [show Zl A ++ (z0 :: z1 ++ junk) = Zl A ++ ([z0] ++ (z1 ++ junk)) from rfl, h1, ← List.append_assoc, h2]
  simp [Zl]
theorem Z6v {l vs : List Value} {off : Nat} (h : off + vs.length ≤ l.length) : (spl l off vs).length = l.length := by
  unfold spl
  simp only [List.length_append, List.length_take, List.length_drop]; omega
theorem Z8P (xs : List Int) (o : OSl 3 1 (Z3 xs)) (i : Nat) (hi : i ≤ xs.length) (hl : xs.length ≤ 1000000) (x : Int) (bv : Nat) (H : Z7) (R : Z5) :
    Fn Try.prog 68 [o.fs, .int .i64 i, .slice (some ⟨bv, 0, none⟩) 1 1] ((bv, cel 3 [.int .i64 x]) :: (o.G ++ H)) R (fun v H' R' => ∃ o' : OSl 3 1 (Z3 (xs.take i ++ x :: xs.drop i)), v = o'.fs ∧ H' = o'.G ++ H ∧ R' = R) := by
 obtain ⟨a, c, he, hcc, _⟩ := o.freezeC
 rw [show (Z3 xs).length = xs.length from List.length_map _] at he hcc
 refine Zi Try.func68 rfl Try.ntmps68 rfl ?_
 refine sqt 1 rfl (pur 1 rfl (sqt 3 rfl (pur 2 rfl (sp rfl (PE.slLoA Z08 (congrArg some he) rfl hi) rfl (sqt 3 rfl (pur 1 rfl (sp rfl (PE.lenSl Zx rfl) rfl (pur 1 rfl (Z0 (sqt 2 rfl (pur 2 rfl ?_)))))))))))
 refine Z1 rfl ?_ ?_ <;> intro hc0
 exact absurd hc0 (by simp)
 refine Z2 (sqt 3 rfl (pur 1 rfl (sp rfl (PE.lenSl Zx (congrArg some he)) rfl (pur 1 rfl (Z0 (sqt 3 rfl (pur 3 rfl ?_)))))))
 refine Z1 rfl ?_ ?_ <;> intro hc1 <;> try simp only [cS] at hc1
 obtain rfl : i = xs.length := by omega
 refine sqt 4 rfl (pur 2 rfl ?_)
 refine apO (o) rfl Z34 rfl rfl (Z0i (row := [.int .i64 x]) rfl) rfl rfl ((by simp only [Z3, List.length_map, List.length_singleton]; omega)) rfl (fun o25 => ?_)
 refine pur 1 rfl (Z6 ?_)
 exact rtA rfl rfl rfl ⟨o25.cast (by simp [Z3]), rfl, rfl, rfl⟩ (fun w h => h.del bv)
 have hin : i < xs.length := by omega
 have hir : (Z3 xs).length = xs.length := List.length_map _
 obtain ⟨b, cap, junk, hfs, hG, hj, hcap, hmx⟩ := o.is.resolve_left (fun h => by rw [h.1] at hir; simp at hir; omega)
 rw [hir] at hfs hcap hj
 rw [hfs, hG, Z0q]
 refine Sy.heap (H' := (bv, cel 3 [.int .i64 x]) :: (b, cel 3 (Zl xs ++ junk)) :: H) idH ?_
 clear he
 refine Z2 (Z0 (sqt 6 rfl (pur 2 rfl (sp rfl (PE.add rfl rfl (by omega)) rfl (pur 1 rfl (sp rfl (PE.capSl Zx rfl) rfl (pur 1 rfl ?_)))))))
 refine Z1 rfl ?_ ?_ <;> intro hc2 <;> try simp only [cS] at hc2
 refine sqt 10 rfl (pur 2 rfl (sp rfl (PE.slHi Z08 rfl rfl (by omega)) rfl (pur 2 rfl (sp rfl (PE.add rfl rfl (by omega)) rfl (pur 1 rfl (sp rfl (PE.sub rfl rfl (by omega)) rfl ?_))))))
 rw [show (xs.length : Int) + ((1 : Nat) : Int) - i = ((xs.length + 1 - i : Nat) : Int) from by omega]
 refine apZ rfl Z34 ik3 zl3 rfl rfl (by omega) (by omega) (by omega) (by omega) (by rw [List.length_append, Zb]; omega) rfl (fun b2 cap2 jk2 hc1 hc2 hc3 => ?_)
 refine pur 1 rfl (sqt 5 rfl (pur 2 rfl ?_))
 rw [show i + (xs.length + 1 - i) = xs.length + 1 from by omega] at hc1 hc3 ⊢
 rw [show (Zl xs ++ junk).take (i * 1) = Zl (xs.take i) from by rw [Nat.mul_one, List.take_append_of_le_length (by rw [Zb]; omega)]; simp [Zl, List.map_take]]
 refine sp rfl (PE.slLo Z08 rfl rfl (by omega) (by omega)) rfl (pur 1 rfl ?_)
 refine ZcJ [.int .i64 x] rfl Z08 rfl rfl (by show 1 = Nat.min 1 (xs.length + 1 - i) * 1; rw [show Nat.min 1 (xs.length + 1 - i) = 1 from Nat.min_eq_left (by omega)]) (Z5U (l := [.int .i64 x]) (e2 := 3) (fun j v h => by simpa using h)) rfl (by simp only [List.length_append, Zb, List.length_take, Z1l, List.length_singleton]; omega) rfl ?_
 refine Z0 ?_
 refine Zc [0, 0, 0, 6, 15, 0, 0, 96, 255] (tks 0 8 (.big 8 .done)) Zr (by kernel_rfl) ?_
 refine Zp 3 rfl (tk rfl (PE.add rfl rfl (by omega)) rfl ?_)
 rw [show (i : Int) + ((1 : Nat) : Int) = ((i + 1 : Nat) : Int) from by omega]
 refine tk rfl (PE.slLo Z08 rfl rfl (by omega) (by omega)) rfl (Zp 2 rfl (tk rfl (PE.slLo Z08 rfl rfl (by omega) (by omega)) rfl ?_))
 refine ZcJ (Zl (xs.drop i)) rfl Z08 rfl rfl (by rw [Zb, List.length_drop, show xs.length + 1 - (i + 1) = xs.length - i from by omega]; simp) (Z5U (l := Zl xs ++ junk) (e2 := 3) (fun j v h => by
   have h1 := (List.getElem?_eq_some_iff.1 h).1
   rw [Zb, List.length_drop] at h1
   rw [show 0 + i * 1 + j = i + j from by omega, List.getElem?_append_left (by rw [Zb]; omega)]
   simpa [Zl] using h)) (Z0A _) (by rw [Z6v (by simp only [List.length_append, Zb, List.length_take, Z1l, List.length_singleton, List.length_drop]; omega)]; simp only [List.length_append, Zb, List.length_take, Z1l, List.length_singleton, List.length_drop]; omega) rfl ?_
 refine bgT (sqt 2 rfl ?_)
 rw [Z9Z hin (by rw [Z1l])]
 refine pur 2 rfl (Z6 ?_)
 obtain ⟨ys, hys⟩ : ∃ ys, ys = xs.take i ++ x :: xs.drop i := ⟨_, rfl⟩
 have hyl : ys.length = xs.length + 1 := by rw [hys]; simp; omega
 rw [← hys]
 have hyi : (Z3 ys).length = xs.length + 1 := by rw [List.length_map, hyl]
 exact rtA rfl rfl rfl ⟨(⟨.slice (some ⟨b2, 0, none⟩) (Z3 ys).length cap2, [(b2, cel 3 ((Z3 ys).flatten ++ jk2))], Z7O _, .inr ⟨b2, cap2, jk2, rfl, rfl, by rw [hyi]; first | omega | (rw [List.length_drop]; omega), by rw [hyi]; omega, hc2⟩⟩ : OSl 3 1 (Z3 ys)).cast (by rw [hys]), congrArg (fun q => Value.slice (some ⟨b2, 0, none⟩) q cap2) hyi.symm, rfl, rfl⟩ (fun w h => by
   show St ((b2, cel 3 ((Z3 ys).flatten ++ jk2)) :: H) R w
   rw [Z0q]
   exact ((h.del bv).del b))
 refine Z2 (sqt 6 rfl (pur 3 rfl (sp rfl (PE.add rfl rfl (by omega)) rfl ?_)))
 rw [show (xs.length : Int) + ((1 : Nat) : Int) = ((xs.length + 1 : Nat) : Int) from by omega]
 refine sp rfl (PE.slHi Z08 rfl rfl (by omega)) rfl (pur 1 rfl (Z0 (sqt 8 rfl (pur 4 rfl (sp rfl (PE.add rfl rfl (by omega)) rfl ?_)))))
 rw [show (i : Int) + ((1 : Nat) : Int) = ((i + 1 : Nat) : Int) from by omega]
 refine sp rfl (PE.slLo Z08 rfl rfl (by omega) (by omega)) rfl ?_
 refine clX rfl rfl rfl (fun w hs => Z9L (xa := [.int .i64 x]) (xb := Zl xs ++ junk) (eA := 3) (eB := 3) (tS := 27) (tR := 4) Try.func99 (by kernel_rfl) (by kernel_rfl) (by kernel_rfl) (by kernel_rfl) Z08 (fun e9 => ?_) (by simp [Zl]; intro e9 _; rw [e9] at hin; simp at hin) (hs.held (bv, _) (by simp)) (hs.held (b, _) (by simp))) ?_
 · subst e9
   have := hs.nd
   simp at this
 refine pur 1 rfl ?_
 refine Z0l (rfl) ?_
 refine Z0 ?_
 refine Zc [0, 0, 0, 6, 15, 0, 0, 96, 255] (tks 0 8 (.big 8 .done)) Zr (by kernel_rfl) ?_
 refine Zp 3 rfl (tk rfl (PE.add rfl rfl (by omega)) rfl ?_)
 rw [show (i : Int) + ((1 : Nat) : Int) = ((i + 1 : Nat) : Int) from by omega]
 refine tk rfl (PE.slLo Z08 rfl rfl (by omega) (by omega)) rfl (Zp 2 rfl (tk rfl (PE.slLo Z08 rfl rfl (by omega) (by omega)) rfl ?_))
 refine ZcJ (Zl (xs.drop i)) rfl Z08 rfl rfl (by rw [Zb, List.length_drop, show xs.length + 1 - (i + 1) = xs.length - i from by omega, show Nat.min (xs.length + 1 - i) (xs.length - i) = xs.length - i from Nat.min_eq_right (by omega)]; omega) (Z5U (l := Zl xs ++ junk) (e2 := 3) (fun j v h => by
   have h1 := (List.getElem?_eq_some_iff.1 h).1
   rw [Zb, List.length_drop] at h1
   rw [show 0 + i * 1 + j = i + j from by omega, List.getElem?_append_left (by rw [Zb]; omega)]
   simpa [Zl] using h)) (Z0A _) (by simp only [List.length_append, Zb, List.length_drop]; omega) rfl ?_
 refine bgT (sqt 5 rfl (pur 2 rfl (sp rfl (PE.slLo Z08 rfl rfl (by omega) (by omega)) rfl (pur 1 rfl ?_))))
 refine ZcJ [.int .i64 x] rfl Z08 rfl rfl (by show 1 = Nat.min 1 (xs.length + 1 - i) * 1; rw [show Nat.min 1 (xs.length + 1 - i) = 1 from Nat.min_eq_left (by omega)]) (Z5U (l := [.int .i64 x]) (e2 := 3) (fun j v h => by simpa using h)) rfl (by rw [Z6v (by simp only [List.length_append, Zb, List.length_singleton, List.length_drop]; omega)]; simp only [List.length_append, Zb, List.length_singleton, List.length_drop]; omega) rfl ?_
 refine sqt 2 rfl ?_
 rw [Zaz hin (by omega)]
 refine pur 2 rfl (Z6 ?_)
 obtain ⟨ys, hys⟩ : ∃ ys, ys = xs.take i ++ x :: xs.drop i := ⟨_, rfl⟩
 have hyl : ys.length = xs.length + 1 := by rw [hys]; simp; omega
 rw [← hys]
 have hyi : (Z3 ys).length = xs.length + 1 := by rw [List.length_map, hyl]
 exact rtA rfl rfl rfl ⟨(⟨.slice (some ⟨b, 0, none⟩) (Z3 ys).length cap, [(b, cel 3 ((Z3 ys).flatten ++ junk.drop 1))], Z7O _, .inr ⟨b, cap, junk.drop 1, rfl, rfl, by rw [hyi]; first | omega | (rw [List.length_drop]; omega), by rw [hyi]; omega, hmx⟩⟩ : OSl 3 1 (Z3 ys)).cast (by rw [hys]), congrArg (fun q => Value.slice (some ⟨b, 0, none⟩) q cap) hyi.symm, rfl, rfl⟩ (fun w h => by
   show St ((b, cel 3 ((Z3 ys).flatten ++ junk.drop 1)) :: H) R w
   rw [Z0q]
   exact h.del bv)
theorem Z3c (l0 : List Int) (a0 : Option Addr) (c0 bk : Nat) (hgl : l0.length ≤ 9223372036854775807) (tq mx : Int) (htq : 0 ≤ tq ∧ tq ≤ 100000) (hmx : 0 ≤ mx ∧ mx ≤ 4294967295) (n : Nat) (hn : n ≤ 1000) (H : Z7) (R : Z5) [hG : MemRows a0 1 (Z1H l0) R] :
    Fn Try.prog 29 [.pointer (some ⟨bk, 0, none⟩), .int .i64 n] ((bk, cel 72 [.slice a0 l0.length c0, .int .i64 (tq), .int .u32 (mx)]) :: H) R (fun v H' R' => ∃ (p : List Nat) (o : OSl 3 1 (Z3 (p.map fun (j : Nat) => (j : Int)))) (tq' mx' : Int), Ord p n ∧ v = o.fs ∧ (tq ≤ tq' ∧ tq' ≤ tq + n) ∧ (0 ≤ mx' ∧ mx' ≤ 4294967295) ∧ H' = (bk, cel 72 [.slice a0 l0.length c0, .int .i64 (tq'), .int .u32 (mx')]) :: (o.G ++ H) ∧ R' = R) := by
 refine Zi Try.func29 rfl Try.ntmps29 rfl ?_
 refine sqt 1 rfl (pur 1 rfl (sqt 1 rfl (pur 1 rfl (Z0 (sqt 2 rfl (pur 2 rfl (Z4 ?_)))))))
 refine Zh (ι := (x : {x : Nat × List Nat × Int × Int // x.1 ≤ n ∧ Ord x.2.1 x.1 ∧ (tq ≤ x.2.2.1 ∧ x.2.2.1 ≤ tq + x.1) ∧ (0 ≤ x.2.2.2 ∧ x.2.2.2 ≤ 4294967295)}) × OSl 3 1 (Z3 (x.1.2.1.map fun (j : Nat) => (j : Int)))) (fun x => ⟨[(0, .pointer (some ⟨bk, 0, none⟩)), (5, x.2.fs), (7, .int .i64 n), (8, .int .i64 x.1.1.1)], (bk, cel 72 [.slice a0 l0.length c0, .int .i64 (x.1.1.2.2.1), .int .u32 (x.1.1.2.2.2)]) :: (x.2.G ++ H), R⟩) (fun x => n - x.1.1.1) ⟨⟨(0, [], tq, mx), by omega, Ord.nil, by dsimp only; omega, by assumption⟩, OSl.nil _ _⟩ ?_ (fun x => ?_)
 exact Zo idH
 obtain ⟨⟨⟨k, p, tq2, mx2⟩, hk, hp, htq2, hmx2⟩, o⟩ := x
 dsimp only at hk hp htq2 hmx2 o ⊢
 have hpl := hp.len
 refine sqt 1 rfl (pur 1 rfl (Z0 ?_))
 refine Z1 rfl ?_ ?_ <;> intro hc0 <;> try simp only [cS] at hc0
 refine Z2 (Z0 (Z4 (sqt 2 rfl (pur 2 rfl (sqr 9 rfl (pur 3 rfl (sp rfl (PE.add rfl rfl (by omega)) rfl ?_)))))))
 refine cl rfl Z23 rfl rfl (Z0a l0 a0 c0 bk hgl _ _ (by omega) (by assumption) ((k : Int) + 1) _ _) ?_
 rintro _ _ R1 ⟨x15, m15, hx15, rfl, hm15, rfl, hR1⟩
 obtain rfl := hR1.symm
 obtain ⟨j, hj⟩ : ∃ j : Nat, x15 = j := ⟨x15.toNat, by omega⟩
 rw [hj]
 have hjk : j ≤ k := by omega
 refine pur 1 rfl ?_
 refine bsl (out := [_]) rfl Z08 zl3 rfl rfl rfl rfl rfl rfl (fun b17 => ?_)
 refine Sy.heap (H' := (b17, cel 3 [.int .i64 (k : Int)]) :: (o.G ++ ((bk, cel 72 [.slice a0 l0.length c0, .int .i64 (tq2 + 1), .int .u32 (m15)]) :: H))) (fun w h => h.perm (List.Perm.cons _ List.perm_middle.symm)) ?_
 refine cl rfl Zdc rfl rfl (Z8P (p.map fun (j : Nat) => (j : Int)) o j (by simp [hpl]; omega) (by simp [hpl]; omega) (k : Int) b17 _ _) ?_
 rintro _ _ R1 ⟨o18, rfl, rfl, hR1⟩
 obtain rfl := hR1.symm
 clear hR1
 refine pur 1 rfl (sqr 2 rfl (sp rfl (PE.add rfl rfl (by omega)) rfl (pur 1 rfl ?_)))
 exact Z8 ⟨⟨(k + 1, p.take j ++ k :: p.drop j, tq2 + 1, m15), by omega, hp.ins hjk, by dsimp only; omega, by assumption⟩, o18.cast (by simp [Z3, List.map_take, List.map_drop])⟩ (fun w h => h.perm List.perm_middle)
 obtain rfl : k = n := by omega
 refine Z9 (Za (Za (Zn (sqt 2 rfl (pur 2 rfl (Z6 ?_))))))
 exact rtA rfl rfl rfl ⟨p, o, tq2, mx2, hp, rfl, by omega, by assumption, rfl, rfl⟩ idH
theorem Z1Q {h : Hse} (hk : h.ok) (l : List Int) : (h.weeksV l).length = h.bins.toNat := by
  unfold Hse.weeksV
  rw [List.length_take, Z1Y, ZK]
  have := hk.bins; omega
theorem Z4E {h : Hse} (hk : h.ok) (l : List Int) {k : Nat} (hk2 : k < h.bins.toNat) : na (h.weeksV l) k = wkN h.gaps (msk l) k := by
  have hb := hk.bins
  unfold na Hse.weeksV wkR
  rw [List.getD_eq_getElem?_getD, List.getElem?_take, if_pos hk2, List.getElem?_map, ZM (by rw [ZK]; omega), Z1B (by omega)]; rfl
theorem Z8G {h : Hse} (hk : h.ok) {l : List Int} (hl : ZT h.bins l = 0) : h.lsE l = 0 := (Z9n (hse_ok.2 hk)).trans hl
theorem Ord.bij {p : List Nat} {n : Nat} (h : Ord p n) : Bij n fun u u' => p[u]? = some u' := by
  have hl := h.len
  refine ⟨fun u u' h1 => ⟨by have := (List.getElem?_eq_some_iff.1 h1).1; omega, h.lt u' (List.mem_of_getElem? h1)⟩, fun u hu => ⟨_, List.getElem?_eq_getElem (by omega)⟩, fun u' hu => ?_, fun u u' v' h1 h2 => by rw [h1] at h2; exact Option.some.inj h2, fun u v u' h1 h2 => ?_⟩
  · have hm : u' ∈ p := Classical.byContradiction fun hn => by
      have h1 := List.Nodup.length_le_of_subset (l₁ := u' :: p) (l₂ := List.range n) (List.nodup_cons.2 ⟨hn, h.nd⟩) (fun x hx => by
        rcases List.mem_cons.1 hx with rfl | hx
        · exact List.mem_range.2 hu
        · exact List.mem_range.2 (h.lt x hx))
      rw [List.length_cons, List.length_range] at h1; omega
    exact List.getElem?_of_mem hm
  · obtain ⟨a1, a2⟩ := List.getElem?_eq_some_iff.1 h1
    obtain ⟨b1, b2⟩ := List.getElem?_eq_some_iff.1 h2
    have hp := List.nodup_iff_pairwise_ne.1 h.nd
    rcases Nat.lt_trichotomy u v with h3 | h3 | h3
    · exact absurd (a2.trans b2.symm) (List.pairwise_iff_getElem.1 hp u v a1 b1 h3)
    · exact h3
    · exact absurd (b2.trans a2.symm) (List.pairwise_iff_getElem.1 hp v u b1 a1 h3)
def inl (p : List Nat) : List Int := p.map fun (j : Nat) => (j : Int)
theorem ZS (p : List Nat) : (inl p).length = p.length := List.length_map _
theorem Z9P {p : List Nat} {u u' : Nat} (h : p[u]? = some u') : na (inl p) u = u' := Z98 (by unfold inl; rw [List.getElem?_map, h]; rfl)
theorem Z3X {p : List Nat} {u u' : Nat} (h : p[u]? = some u') : (inl p)[u]? = some (u' : Int) := by unfold inl; rw [List.getElem?_map, h]; rfl
def imG (p : List Nat) (g : Gp) : Gp := ⟨na (inl p) g.b.toNat, na (inl p) g.a.toNat⟩
def imS (p : List Nat) (x : Sgt) : Sgt := ⟨x.week, na (inl p) x.bin.toNat, x.seen⟩
def rnm (p : List Nat) (l : List Int) : List Int := l.map fun k => na (inl p) k.toNat
structure RnG (p s : List Nat) (gs : List Gp) (i : Nat) (G : List Gp) : Prop where
  len : G.length = gs.length
  at_ : ∀ j, j < i → ∀ g k, gs[j]? = some g → s[j]? = some k → G[k]? = some (imG p g)
theorem RnG.step {p s : List Nat} {gs G : List Gp} {i k : Nat} {g : Gp} (h : RnG p s gs i G) (hs : Ord s gs.length) (hg : gs[i]? = some g) (hk : s[i]? = some k) : RnG p s gs (i + 1) (G.set k (imG p g)) := by
  have hb := hs.bij
  have hkl := (hb.lt i k hk).2
  refine ⟨by rw [List.length_set]; exact h.len, fun j hj g' k' h1 h2 => ?_⟩
  by_cases e : j = i
  · subst e
    rw [hg] at h1; rw [hk] at h2
    obtain rfl := Option.some.inj h1
    obtain rfl := Option.some.inj h2
    exact List.getElem?_set_self (by rw [h.len]; exact hkl)
  · have hne : k ≠ k' := fun e2 => by subst e2; exact e (hb.i j i k h2 hk)
    rw [List.getElem?_set_ne hne]
    exact h.at_ j (by omega) g' k' h1 h2
structure RnS (p s : List Nat) (ss : List Sgt) (i : Nat) (S : List Sgt) : Prop where
  len : S.length = ss.length
  at_ : ∀ j, j < i → ∀ x k, ss[j]? = some x → s[j]? = some k → S[k]? = some (imS p x)
theorem RnS.step {p s : List Nat} {ss S : List Sgt} {i k : Nat} {x : Sgt} (h : RnS p s ss i S) (hs : Ord s ss.length) (hg : ss[i]? = some x) (hk : s[i]? = some k) : RnS p s ss (i + 1) (S.set k (imS p x)) := by
  have hb := hs.bij
  have hkl := (hb.lt i k hk).2
  refine ⟨by rw [List.length_set]; exact h.len, fun j hj g' k' h1 h2 => ?_⟩
  by_cases e : j = i
  · subst e
    rw [hg] at h1; rw [hk] at h2
    obtain rfl := Option.some.inj h1
    obtain rfl := Option.some.inj h2
    exact List.getElem?_set_self (by rw [h.len]; exact hkl)
  · have hne : k ≠ k' := fun e2 => by subst e2; exact e (hb.i j i k h2 hk)
    rw [List.getElem?_set_ne hne]
    exact h.at_ j (by omega) g' k' h1 h2
structure Rnm (q t : Hse) (p s r : List Nat) : Prop where
  bins : t.bins = q.bins
  op : Ord p q.bins.toNat
  os : Ord s q.gaps.length
  or : Ord r q.sights.length
  gs : RnG p s q.gaps q.gaps.length t.gaps
  ss : RnS p r q.sights q.sights.length t.sights
theorem Rnm.p {q t : Hse} {p s r : List Nat} (h : Rnm q t p s r) {u : Nat} (hu : u < q.bins.toNat) : ∃ u', p[u]? = some u' ∧ u' < q.bins.toNat ∧ na (inl p) u = u' := by
  obtain ⟨u', h1⟩ := h.op.bij.to u hu
  exact ⟨u', h1, (h.op.bij.lt u u' h1).2, Z9P h1⟩
theorem Rnm.gap {q t : Hse} {p s r : List Nat} (h : Rnm q t p s r) {g' : Gp} (hg : g' ∈ t.gaps) : ∃ g ∈ q.gaps, g' = imG p g := by
  obtain ⟨k, hk⟩ := List.getElem?_of_mem hg
  have hkl := (List.getElem?_eq_some_iff.1 hk).1
  rw [h.gs.len] at hkl
  obtain ⟨i, hi⟩ := h.os.bij.fr k hkl
  have hil := (h.os.bij.lt i k hi).1
  have h1 := h.gs.at_ i hil _ k (List.getElem?_eq_getElem hil) hi
  rw [hk] at h1
  exact ⟨_, List.getElem_mem hil, Option.some.inj h1⟩
theorem Rnm.sgt {q t : Hse} {p s r : List Nat} (h : Rnm q t p s r) {x' : Sgt} (hx : x' ∈ t.sights) : ∃ x ∈ q.sights, x' = imS p x := by
  obtain ⟨k, hk⟩ := List.getElem?_of_mem hx
  have hkl := (List.getElem?_eq_some_iff.1 hk).1
  rw [h.ss.len] at hkl
  obtain ⟨i, hi⟩ := h.or.bij.fr k hkl
  have hil := (h.or.bij.lt i k hi).1
  have h1 := h.ss.at_ i hil _ k (List.getElem?_eq_getElem hil) hi
  rw [hk] at h1
  exact ⟨_, List.getElem_mem hil, Option.some.inj h1⟩
theorem Rnm.sgt2 {q t : Hse} {p s r : List Nat} (h : Rnm q t p s r) {x : Sgt} (hx : x ∈ q.sights) : imS p x ∈ t.sights := by
  obtain ⟨i, hi⟩ := List.getElem?_of_mem hx
  have hil := (List.getElem?_eq_some_iff.1 hi).1
  obtain ⟨k, hk⟩ := h.or.bij.to i hil
  exact List.mem_of_getElem? (h.ss.at_ i hil x k hi hk)
theorem Rnm.ok {q t : Hse} {p s r : List Nat} (h : Rnm q t p s r) (hq : q.ok) : t.ok := by
  have hb := hq.bins
  refine ⟨by rw [h.bins]; exact hb, by rw [h.gs.len]; exact hq.gl, by rw [h.ss.len]; exact hq.sl, fun g' hg => ?_, fun x' hx => ?_⟩
  · obtain ⟨g, h1, rfl⟩ := h.gap hg
    have h2 := hq.gaps g h1
    obtain ⟨a', a1, a2, a3⟩ := h.p (u := g.a.toNat) (by omega)
    obtain ⟨b', b1, b2, b3⟩ := h.p (u := g.b.toNat) (by omega)
    have hne : a' ≠ b' := fun e => by
      subst e
      have := h.op.bij.i _ _ _ a1 b1
      omega
    unfold imG
    rw [a3, b3, h.bins]
    exact ⟨by dsimp only; omega, by dsimp only; omega, by dsimp only; omega⟩
  · obtain ⟨x, h1, rfl⟩ := h.sgt hx
    have h2 := hq.sights x h1
    obtain ⟨a', a1, a2, a3⟩ := h.p (u := x.bin.toNat) (by omega)
    unfold imS
    rw [a3, h.bins]
    exact ⟨h2.1, by dsimp only; omega, by dsimp only; omega⟩
theorem Rnm.sim {q t : Hse} {p s r : List Nat} (h : Rnm q t p s r) (hq : q.ok) : Sim q.bins.toNat q.gaps t.gaps (fun u u' => p[u]? = some u') (fun i i' => s[i]? = some i') := ⟨h.op.bij, h.os.bij, h.gs.len, fun i i' g g' h1 h2 h3 => by
  have h4 := h.gs.at_ i (List.getElem?_eq_some_iff.1 h2).1 g i' h2 h1
  rw [h3] at h4
  obtain rfl := Option.some.inj h4
  have h5 := hq.gaps g (List.mem_of_getElem? h2)
  have hb := hq.bins
  obtain ⟨a', a1, a2, a3⟩ := h.p (u := g.a.toNat) (by omega)
  obtain ⟨b', b1, b2, b3⟩ := h.p (u := g.b.toNat) (by omega)
  unfold imG
  rw [a3, b3]
  exact ⟨a1, b1⟩⟩
theorem Rnm.lst {q t : Hse} {p s r : List Nat} (h : Rnm q t p s r) (hq : q.ok) {l : List Int} (hl : ∀ x ∈ l, 0 ≤ x ∧ x < q.bins) : Img q.bins.toNat (fun u u' => p[u]? = some u') (msk l) (msk (rnm p l)) := by
  have hb := hq.bins
  refine Img.map h.op.bij (fun x hx => by have := hl x hx; omega) (fun x hx => ?_) (fun y hy => ?_)
  · have := hl x hx
    obtain ⟨a', a1, a2, a3⟩ := h.p (u := x.toNat) (by omega)
    exact ⟨_, List.mem_map_of_mem hx, by rw [a3]; exact a1⟩
  · obtain ⟨x, hx, rfl⟩ := List.mem_map.1 hy
    have := hl x hx
    obtain ⟨a', a1, a2, a3⟩ := h.p (u := x.toNat) (by omega)
    rw [a3]
    exact ⟨by omega, x, hx, a1⟩
theorem Rnm.inr {q t : Hse} {p s r : List Nat} (h : Rnm q t p s r) {l : List Int} (hl : ∀ x ∈ l, 0 ≤ x ∧ x < q.bins) : ∀ y ∈ rnm p l, 0 ≤ y ∧ y < t.bins := fun y hy => by
  obtain ⟨x, hx, rfl⟩ := List.mem_map.1 hy
  have := hl x hx
  obtain ⟨a', a1, a2, a3⟩ := h.p (u := x.toNat) (by omega)
  rw [a3, h.bins]; omega
theorem Rnm.eqv {q t : Hse} {p s r : List Nat} (h : Rnm q t p s r) {x y : Int} (hx : 0 ≤ x ∧ x < q.bins) (hy : 0 ≤ y ∧ y < q.bins) (e : na (inl p) x.toNat = na (inl p) y.toNat) : x = y := by
  obtain ⟨a', a1, a2, a3⟩ := h.p (u := x.toNat) (by omega)
  obtain ⟨b', b1, b2, b3⟩ := h.p (u := y.toNat) (by omega)
  rw [a3, b3] at e
  obtain rfl : a' = b' := by omega
  have := h.op.bij.i _ _ _ a1 b1
  omega
theorem Rnm.ls {q t : Hse} {p s r : List Nat} (h : Rnm q t p s r) {l : List Int} (hl : ∀ x ∈ l, 0 ≤ x ∧ x < q.bins) (hn : l.Nodup) : ZT t.bins (rnm p l) = 0 := Z5D (h.inr hl) (by
  unfold rnm
  rw [List.nodup_iff_pairwise_ne, List.pairwise_map]
  exact (List.nodup_iff_pairwise_ne.1 hn).imp_of_mem fun {a b} ha hb hab e => hab (h.eqv (hl a ha) (hl b hb) e))
theorem Rnm.apart {q t : Hse} {p s r : List Nat} (h : Rnm q t p s r) {l k : List Int} (hl : ∀ x ∈ l, 0 ≤ x ∧ x < q.bins) (hk : ∀ x ∈ k, 0 ≤ x ∧ x < q.bins) (ha : ∀ x ∈ l, x ∉ k) : ∀ x ∈ rnm p l, x ∉ rnm p k := fun x h1 h2 => by
  obtain ⟨y, hy, rfl⟩ := List.mem_map.1 h1
  obtain ⟨z, hz, e⟩ := List.mem_map.1 h2
  have := h.eqv (hk z hz) (hl y hy) e
  subst this
  exact ha z hy hz
theorem Rnm.weeks {q t : Hse} {p s r : List Nat} (h : Rnm q t p s r) (hq : q.ok) {l : List Int} (hl : ∀ x ∈ l, 0 ≤ x ∧ x < q.bins) {u u' : Nat} (hu : p[u]? = some u') : na (q.weeksV l) u = na (t.weeksV (rnm p l)) u' := by
  have h1 := h.op.bij.lt u u' hu
  rw [Z4E hq l h1.1, Z4E (h.ok hq) (rnm p l) (by rw [h.bins]; exact h1.2)]
  unfold wkN
  rw [(h.sim hq).wk Img.zero (h.lst hq hl) hu]
theorem Rnm.ex {q t : Hse} {p s r : List Nat} (h : Rnm q t p s r) (hq : q.ok) {m m' : Nat} (hm : Img q.bins.toNat (fun u u' => p[u]? = some u') m m') : Z2r q.gaps m q.sights = Z2r t.gaps m' t.sights := by
  have hb := hq.bins
  have key : ∀ x ∈ q.sights, exS q.gaps m x = exS t.gaps m' (imS p x) := fun x hx => by
    have h1 := hq.sights x hx
    obtain ⟨a', a1, a2, a3⟩ := h.p (u := x.bin.toNat) (by omega)
    unfold exS imS
    rw [(h.sim hq).wk Img.zero hm a1, a3, Int.toNat_natCast]
  unfold Z2r
  rw [Bool.eq_iff_iff, List.all_eq_true, List.all_eq_true]
  constructor
  · intro h1 x' hx
    obtain ⟨x, h2, rfl⟩ := h.sgt hx
    rw [← key x h2]; exact h1 x h2
  · intro h1 x hx
    rw [key x hx]; exact h1 _ (h.sgt2 hx)
theorem Rnm.agr {q t : Hse} {p s r : List Nat} (h : Rnm q t p s r) (hq : q.ok) (ha : q.agr q.sights = true) : t.agr t.sights = true := by
  obtain ⟨m, h1, h2⟩ := (Z26 hq hq.sights).1 ha
  obtain ⟨m', h3⟩ := Img.ex h.op.bij h1
  have hok := h.ok hq
  exact (Z26 hok hok.sights).2 ⟨m', by rw [h.bins]; exact h3.lt', by rw [← h.ex hq h3]; exact h2⟩
theorem Rnm.org {q t : Hse} {p s r : List Nat} (h : Rnm q t p s r) (hq : q.ok) {few now : List Int} (h1 : Org q few) (h2 : Org t now) : few.length = now.length := by
  have hb := hq.bins
  have hm1 : msk few < 2 ^ q.bins.toNat := Z0p fun x hx => by have := h1.lt x hx; omega
  have hm2 : msk now < 2 ^ q.bins.toNat := Z0p fun x hx => by have := h2.lt x hx; rw [h.bins] at this; omega
  obtain ⟨m', h3⟩ := Img.ex h.op.bij hm1
  obtain ⟨m, h4⟩ := Img.ex h.op.bij.symm hm2
  have h5 := h2.min m' (by rw [h.bins]; exact h3.lt') (by rw [← h.ex hq h3]; exact h1.ex)
  have h6 := h1.min m h4.lt' (by rw [h.ex hq h4.symm]; exact h2.ex)
  rw [h.bins, ← h3.cnt h.op.bij, ← h1.len] at h5
  rw [h4.symm.cnt h.op.bij, ← h.bins, ← h2.len] at h6
  omega
theorem Z6K {sz : Nat} {rows : List (List Value)} (hs : ∀ r ∈ rows, r.length = sz) {junk row : List Value} {k i : Nat} (hk : k < rows.length) (hr : row.length = sz) (e : i = k * sz) : spl (rows.flatten ++ junk) i row = (rows.set k row).flatten ++ junk := by
  obtain ⟨A, y, C, rfl, rfl⟩ := Z4F hk
  have ha : A.flatten.length = A.length * sz := Z02 fun r hr => hs r (List.mem_append_left _ hr)
  have h1 := Z3a (p := A.flatten) (q := y) (s := C.flatten ++ junk) (vs := row) (by rw [hr]; exact hs y (by simp))
  rw [e, ← ha, show (A ++ y :: C).flatten ++ junk = A.flatten ++ (y ++ (C.flatten ++ junk)) by simp, h1]
  simp
theorem Zcc {G : List Gp} {junk : List Value} {k i : Nat} {g : Gp} (hk : k < G.length) (e : i = k * 2) : spl ((Zg G).flatten ++ junk) i (Z1u g) = (Zg (G.set k g)).flatten ++ junk := by
  rw [Z6K (Z7g G) (by rw [ZP]; exact hk) rfl e]
  unfold Zg; rw [List.map_set]
theorem Zbp {G : List Sgt} {junk : List Value} {k i : Nat} {g : Sgt} (hk : k < G.length) (e : i = k * 3) : spl ((Zf G).flatten ++ junk) i (Z2q g) = (Zf (G.set k g)).flatten ++ junk := by
  rw [Z6K (Z4e G) (by rw [Z06]; exact hk) rfl e]
  unfold Zf; rw [List.map_set]
theorem Zc0 {G : List Sgt} {junk : List Value} {k i : Nat} {g : Sgt} (v : Int) (hk : G[k]? = some g) (e : i = k * 3 + 1) : spl ((Zf G).flatten ++ junk) i [.int .i64 v] = (Zf (G.set k { g with bin := v })).flatten ++ junk := by
  obtain ⟨hkl, he⟩ := List.getElem?_eq_some_iff.1 hk
  obtain ⟨A, y, C, rfl, rfl⟩ := Z4F hkl
  rw [List.getElem_append_right (Nat.le_refl _)] at he
  simp at he
  subst he
  have ha : (Zf A).flatten.length = A.length * 3 := Z5d A
  have h1 := Z3a (p := (Zf A).flatten ++ [.int .i64 y.week]) (q := [.int .i64 y.bin]) (s := [.bool y.seen] ++ ((Zf C).flatten ++ junk)) (vs := [.int .i64 v]) rfl
  rw [List.length_append, ha] at h1
  rw [e, show (Zf (A ++ y :: C)).flatten ++ junk = ((Zf A).flatten ++ [.int .i64 y.week]) ++ ([.int .i64 y.bin] ++ ([.bool y.seen] ++ ((Zf C).flatten ++ junk))) by rw [Z99]; simp [Zf, Z2q]]
  refine Eq.trans h1 ?_
  rw [List.set_append_right _ _ (Nat.le_refl _), Z99]
  simp [Zf, Z2q]
theorem Z5l (h : Hse) (ag as_ : Option Addr) (cg cs : Nat) (hok : h.ok) (l : List Int) (a : Option Addr) (c : Nat) (hle : ZT h.bins l = 0) (hl : l.length ≤ 1000000) (hlc : l.length ≤ c) (H : Z7) (R : Z5) [hG : MemRows ag 2 (Zg h.gaps) R] [hS : MemRows as_ 3 (Zf h.sights) R] [hR : MemRows a 1 (Z3 l) R] : Fn Try.prog 18 [h.v (h.sg ag cg) (h.ss as_ cs), .slice a l.length c] H R (fun v H' R' => ∃ a c', v = .tuple #[.slice a h.bins.toNat c', .int .i64 0] ∧ H' = H ∧ R' = RowsA a 1 (Z3 (h.weeksV l)) :: R) := fun w hw => by
  refine CallsIn.mono (Z6Z h ag as_ cg cs (by have := hok.gl; omega) (by have := hok.sl; omega) l a c (by omega) hlc H R w hw) ?_
  rintro e' w' ⟨u, H', R', ⟨a', c', h1, rfl, rfl, rfl⟩, he, hs'⟩
  have e := Z4x (Z8G hok hle)
  rw [e] at hs' he
  exact ⟨_, _, _, ⟨a', c', by rw [Z1Q hok], rfl, rfl⟩, he, hs'⟩
set_option maxHeartbeats 400000 in
theorem Z2N (p : List Nat) (ap : Option Addr) (cp bx : Nat) (l : List Int) (a : Option Addr) (c : Nat) (hl : l.length ≤ 1000000) (hx : ∀ x ∈ l, 0 ≤ x ∧ x < p.length) (hp : p.length ≤ 1000000) (H : Z7) (R : Z5) [mX : MemRows (some ⟨bx, 0, none⟩) 1 [[.slice ap p.length cp]] R] [hP : MemRows ap 1 (Z3 (inl p)) R] [hR : MemRows a 1 (Z3 l) R] :
    Fn Try.prog 30 [.slice a l.length c, .pointer (some ⟨bx, 0, none⟩)] H R (fun v H' R' => ∃ a c', (rnm p l).length ≤ c' ∧ v = .slice a (rnm p l).length c' ∧ H' = H ∧ R' = RowsA a 1 (Z3 (rnm p l)) :: R) := by
 refine Zi Try.func30 rfl Try.ntmps30 rfl ?_
 refine sqt 1 rfl (pur 1 rfl (sqt 1 rfl (pur 1 rfl (Z0 (sqt 3 rfl (pur 1 rfl (sp rfl (PE.lenSl Zx rfl) rfl (pur 1 rfl (Z4 ?_)))))))))
 refine Zh (ι := (k : {k : Nat // k ≤ l.length}) × OSl 3 1 (Z3 (rnm p (l.take k.1)))) (fun y => ⟨[(1, .pointer (some ⟨bx, 0, none⟩)), (4, y.2.fs), (7, .slice a l.length c), (8, .int .i64 l.length), (9, .int .i64 y.1.1)], y.2.G ++ H, R⟩) (fun y => l.length - y.1.1) ⟨⟨0, Nat.zero_le _⟩, OSl.nil _ _⟩ ?_ (fun y => ?_)
 exact Zo idH
 obtain ⟨⟨k, hk⟩, o⟩ := y
 dsimp only at hk o ⊢
 have hrl : (rnm p (l.take k)).length = k := by unfold rnm; rw [List.length_map, List.length_take]; omega
 refine sqt 1 rfl (pur 1 rfl (Z0 ?_))
 refine Z1 rfl ?_ ?_ <;> intro hc0 <;> try simp only [cS] at hc0
 obtain ⟨z, hz⟩ : ∃ z, l[k]? = some z := ⟨_, List.getElem?_eq_getElem (by omega)⟩
 have hzr := hx z (List.mem_of_getElem? hz)
 have hst : rnm p (l.take (k + 1)) = rnm p (l.take k) ++ [na (inl p) z.toNat] := by unfold rnm; rw [List.take_add_one, hz, List.map_append]; rfl
 refine Zj (a := a) (sz := 1) (rows := Z3 l) (ne0 (by rw [irl]; omega)) (fun ba bao heba => ?_)
 subst heba
 refine Zj (a := ap) (sz := 1) (rows := Z3 (inl p)) (by intro h0; have := congrArg List.length h0; rw [irl] at this; simp only [List.length_nil] at this; rw [ZS] at this; omega) (fun bp bpo hebp => ?_)
 subst hebp
 refine Z2 (Z0 (Z4 (sqt 3 rfl (sp rfl (PE.indexAddr Z15 rfl rfl (by omega) (by omega)) rfl (spL rfl rfl (lf0 sc3 (ZF hz) rfl) rfl (pur 1 rfl (sqr 8 rfl (pur 1 rfl (spL rfl rfl (lfB (sz := 1) Z29 rfl) rfl (pur 1 rfl (sp rfl (PE.indexAddr Z15 rfl rfl (by omega) (by omega)) rfl (spL rfl rfl (lf0 sc3 (ZF (ZM (l := inl p) (k := z.toNat) (by rw [ZS]; omega))) rfl) rfl ?_))))))))))))
 refine bsl (out := [_]) rfl Z08 zl3 rfl rfl rfl rfl rfl rfl (fun b18 => ?_)
 refine apO (o) rfl Z34 rfl rfl (Z0i (row := [.int .i64 (na (inl p) z.toNat)]) rfl) rfl rfl ((by rw [irl]; simp only [List.length_singleton]; omega)) rfl (fun o19 => ?_)
 refine pur 1 rfl (sqr 2 rfl (sp rfl (PE.add rfl rfl (by omega)) rfl (pur 1 rfl ?_)))
 exact Z8 ⟨⟨k + 1, by omega⟩, o19.cast (by rw [hst]; simp [Z3])⟩ (fun w h9 => h9.del b18)
 obtain rfl : k = l.length := by omega
 obtain ⟨ac, cc, he, hcc, hzz⟩ := (o.cast (show Z3 (rnm p (l.take l.length)) = Z3 (rnm p l) from by rw [List.take_length])).freezeC
 rw [irl] at hcc
 rw [show o.fs = _ from he, irl]
 refine Sy.heap (fun w h9 => hzz h9) ?_
 clear he hzz
 refine Z9 (Za (Za (Zn (sqt 2 rfl (pur 2 rfl (Z6 ?_))))))
 exact rtA rfl rfl rfl ⟨ac, cc, hcc, rfl, rfl, rfl⟩ drp
end Go.Proofs.Ythfgcnmcipcbbaa
