/- Walks of the functions of the program, and the laws that join them: what the last theorem of this claim needs, in order. -/
import Derived.Test.Ythfgcnmcipcbbaawb4
namespace Go.Proofs.Ythfgcnmcipcbbaa
set_option linter.unusedSimpArgs false
set_option linter.unusedVariables false
open Go
theorem Zc9 : cal Try.prog 24 = true := by kernel_rfl
def ZdV (h : Hse) (fr to_ : List Int) (H : Z9) (R : Z5) : Value → Z9 → Z5 → Prop := fun v H' R' => H' = H ∧ R' = R ∧ ((h.botE fr to_ ≠ 0 ∧ v = .tuple #[.int .i64 0, .int .i64 (h.botE fr to_)]) ∨
  (h.botE fr to_ = 0 ∧ ∃ s : Nat, s ≤ 10 ∧ (∃ n, Pl h.gaps (msk to_) s (msk fr) 0 n) ∧ (∀ s', s' < s → ∀ n, ¬ Pl h.gaps (msk to_) s' (msk fr) 0 n) ∧ v = .tuple #[.int .i64 (s : Int), .int .i64 0]))
theorem Zaz {h : Hse} {fr to_ : List Int} {s : Nat} (hb : h.botE fr to_ = 0) (hs : s ≤ 10) : h.rcE fr to_ (s : Int) = 0 := by
  have : inB (s : Int) 0 10 = true := by simp [inB]; omega
  unfold Hse.rcE; rw [hb, this]; rfl
theorem Z6H {h : Hse} {fr to_ : List Int} (hb : h.Bot fr to_) : Two h.gaps (msk fr) (msk to_) := by
  obtain ⟨q1, q2, q3, q4, q5, q6⟩ := Z1b hb
  have hok := hb.ok
  exact ⟨fun g hg => by have := hok.gaps g hg; have := hok.bins; omega, fun i g hg => by have := hok.gaps g (List.mem_of_getElem? hg); omega, Z1d fun x hx => q1 x hx, Z1d fun x hx => q2 x hx, fun v hv => by
    cases hk : (msk to_).testBit v with
    | false => rfl
    | true => exact absurd ((Zx (fun k hk => (q2 k hk).1) v).1 hk) (hb.no _ ((Zx (fun k hk => (q1 k hk).1) v).1 hv))⟩
theorem Z87 {h : Hse} {fr to_ : List Int} (hb : h.Bot fr to_) : ∃ n, Pl h.gaps (msk to_) 10 (msk fr) 0 n := by
  have ht := Z6H hb
  have hp := Nat.two_pow_pos h.gaps.length
  exact ⟨_, Pl.once ht.w ht.s (show 2 ^ h.gaps.length - 1 < 2 ^ h.gaps.length by omega) (Z8w ht) (Nat.le_trans (Z3n _ _) hb.ok.gl)⟩
set_option maxHeartbeats 400000 in
theorem Z9U (h : Hse) (ag as_ : Option Addr) (cg cs : Nat) (hlg : h.gaps.length ≤ 9223372036854775807) (hls : h.sights.length ≤ 9223372036854775807) (fr to_ : List Int) (af at_ : Option Addr) (cf ct : Nat) (hlf : fr.length ≤ 1000000) (hlt : to_.length ≤ 1000000) (hfc : fr.length ≤ cf) (htc : to_.length ≤ ct) (H : Z9) (R : Z5) [hG : MemRows ag 2 (Zi h.gaps) R] [hS : MemRows as_ 3 (Zd h.sights) R] [hF : MemRows af 1 (Z7 fr) R] [hT : MemRows at_ 1 (Z7 to_) R] :
    Fn Try.prog 22 [h.v (h.sg ag cg) (h.ss as_ cs), .slice af fr.length cf, .slice at_ to_.length ct] H R (ZdV h fr to_ H R) := by
 refine Zj Try.func22 rfl Try.ntmps22 rfl ?_
 refine sqt 3 rfl (bx rfl rfl rfl (fun b3 => pur 2 rfl (Z0 (sqt 5 rfl (spL rfl rfl (lhA (htl h (h.sg ag cg) (h.ss as_ cs)) Z0A rfl rfl rfl) rfl (pur 2 rfl ?_))))))
 refine clV rfl Z8D rfl rfl (Z5l h ag as_ cg cs hlg hls fr to_ af at_ cf ct (by omega) (by omega) hfc htc _ _) ?_
 refine pur 1 rfl (sqt 2 rfl (pur 2 rfl ?_))
 refine Z1 rfl ?_ ?_ <;> intro hc0
 have hbe : h.botE fr to_ ≠ 0 := of_decide_eq_true hc0
 refine sqt 3 rfl (pur 3 rfl (Z6 ?_))
 exact rtB rfl rfl rfl rfl ⟨rfl, rfl, .inl ⟨hbe, rfl⟩⟩ (fun w h9 => h9.del b3)
 ·
  have hbe : h.botE fr to_ = 0 := Classical.byContradiction fun e => by rw [decide_eq_true e] at hc0; cases hc0
  have hb := Z3t hbe
  obtain ⟨n0, hn0⟩ := Z87 hb
  refine Z2 (sqt 1 rfl (pur 1 rfl (Z4 ?_)))
  refine Zg (ι := {s : Nat // s ≤ 10 ∧ ∀ s', s' < s → ∀ n, ¬ Pl h.gaps (msk to_) s' (msk fr) 0 n}) (fun s => ⟨[(1, .slice af fr.length cf), (2, .slice at_ to_.length ct), (3, .pointer (some ⟨b3, 0, none⟩)), (9, .int .i64 (s.1 : Int))], (b3, cel 26 (htl h (h.sg ag cg) (h.ss as_ cs))) :: H, R⟩) (fun s => 11 - s.1) ⟨0, by omega, fun s' h9 => absurd h9 (Nat.not_lt_zero _)⟩ ?_ (fun s => ?_)
  exact Zq idH
  ·
   obtain ⟨s, hs, hno⟩ := s
   dsimp only at hs hno ⊢
   have hrz := Zaz hbe hs
   refine Z0 (Z4 (sqt 10 rfl (spL rfl rfl (lhA (htl h (h.sg ag cg) (h.ss as_ cs)) Z0A rfl rfl rfl) rfl (pur 3 rfl ?_))))
   refine cl rfl Zc9 rfl rfl (Z9v h ag as_ cg cs hlg hls fr to_ af at_ cf ct hlf hlt hfc htc (s : Int) _ _) ?_
   rintro _ _ R1 ⟨rfl, hq⟩
   rcases hq with ⟨h9, _⟩ | ⟨_, hnp, rfl, hR1⟩ | ⟨_, ls, pl, a, c, _, _, _, _, _, hls2, rfl, hR1⟩
   · exact absurd hrz h9
   all_goals obtain rfl := hR1.symm
   all_goals clear hR1
   all_goals rw [Int.toNat_natCast] at *
   refine pur 5 rfl (sqt 2 rfl (pur 2 rfl ?_))
   refine Z1 rfl ?_ ?_ <;> intro hc1
   exact absurd hc1 (by decide)
   have hs10 : s ≠ 10 := fun e => hnp n0 (by rw [e]; exact hn0)
   refine Z2 (sqr 3 rfl (pur 1 rfl (sp rfl (PE.add rfl rfl (by omega)) rfl (pur 1 rfl ?_))))
   exact Za ⟨s + 1, by omega, fun s' h9 => (Nat.lt_succ_iff_lt_or_eq.1 h9).elim (hno s') (fun e => by subst e; exact hnp)⟩ idH
   refine pur 5 rfl (sqt 2 rfl (pur 2 rfl ?_))
   refine Z1 rfl ?_ ?_ <;> intro hc1
   refine sqt 3 rfl (pur 3 rfl (Z6 ?_))
   exact rtB rfl rfl rfl rfl ⟨rfl, rfl, .inr ⟨hbe, s, hs, ⟨_, hls2.1⟩, hno, rfl⟩⟩ (fun w h9 => St.sub (h9.del b3))
   exact absurd hc1 (by decide)
theorem Zdk : cal Try.prog 98 = true := by kernel_rfl
theorem ik3 : Z9g Try.prog 3 = some .i64 := by kernel_rfl
section steps
variable {P : Program} {r : Option Nat} {ops : Array Oper} {n : Nat} {L : Zk} {D : List Deferred} {H : Z9} {R : Z5} {K : Act → World → Prop}
  {i d : Nat} {ty : TypeId} {pos : String} {af : Array Edge}
theorem ZdX {t tn e sz by_ k : Nat} {kq kn : IntKind} {s x : Operand} {zl : List Value} (ho : ops[i]? = some ⟨some d, .call { callee := .builtin .append, args := #[s, x], argTypes := #[t, tn] }, ty, pos, af, none⟩)
    (ht : apT P t = some (e, sz, by_)) (htn : Z9g P tn = some kn) (hz : ZM P e = some zl) (hs : ev L s = some (.slice none 0 0)) (hx : ev L x = some (.int kq k))
    (hk : 0 < k) (hs0 : 0 < sz) (hb : k * by_ ≤ 140737488355328 ∧ k ≤ 9223372036854775807) (hd : Nat.blt d n = true)
    (h : ∀ (b' cap' : Nat) (junk : List Value), k ≤ cap' → cap' ≤ 9223372036854775807 → k * sz + junk.length = cap' * sz → Sy n ((d, .slice (some ⟨b', 0, none⟩) k cap') :: L) D ((b', cel e (Z1l k zl ++ junk)) :: H) R K) : Sy n L D H R (stp P r ops i K) := fun a w ha hD hw => by
  unfold apT at ht
  split at ht
  case h_2 => cases ht
  rename_i e' hu
  split at ht
  case h_2 => cases ht
  rename_i ie hi
  split at ht
  case h_2 => cases ht
  rename_i z hzz
  cases hzs : Nat.beq z.cells.size ie.size with
  | false => rw [hzs] at ht; cases ht
  | true =>
  rw [hzs, cond_true] at ht
  cases ht
  have hzs := Nat.eq_of_beq_eq_true hzs
  have hzl : z.cells.toList = zl := by
    have : ZM P e = some z.cells.toList := by simp [ZM, hi, hzz]
    rw [this] at hz; exact Option.some.inj hz
  have hun : P.underlying tn = some (.int kn) := by
    unfold Z9g at htn
    split at htn
    · rename_i q hq; cases htn; exact hq
    · cases htn
  have hold : (Builtin.firstCells ie.size 0 (.slice none 0 0)).run P w.drew = .ok ([] : List Value).toArray w.drew := by
    simp [Builtin.firstCells, Sem.run_pure]
  have h2 := Lib.run_append_grow_zeros (P := P) w t tn ty e ie z kq kn hu hun hi hzz none 0 0 [] hold k hk hs0 (by omega) (by omega) (by omega) (growslice_fits (by omega) (by rw [Nat.zero_add]; exact hb.1))
  rw [Nat.zero_add] at h2
  have hge := grownCap_ge w k 0 e
  have hcm : grownCap w k 0 e ≤ maxLen := grownCap_le_maxLen w _ 0 e (by simp only [maxLen]; omega)
  have hrep : ∀ q, (Builtin.zeroCells z.cells q).toList = Z1l q zl := fun q => by rw [← hzl]; simp [Builtin.zeroCells, Z1l]
  have e1 : (.cells (([] : List Value).toArray ++ Builtin.zeroCells z.cells k ++ Builtin.zeroCells z.cells (grownCap w k 0 e - k)) e : Obj) = cel e (Z1l k zl ++ (Builtin.zeroCells z.cells (grownCap w k 0 e - k)).toList) := by
    unfold cel; congr 1; apply Array.toList_inj.1; simp [hrep]
  refine Zr ho (Zf _ rfl _) (v := .slice (some ⟨w.heap.size, 0, none⟩) k (grownCap w k 0 e)) (w' := w.drew.alloc (cel e (Z1l k zl ++ (Builtin.zeroCells z.cells (grownCap w k 0 e - k)).toList))) ?_
    (h w.heap.size (grownCap w k 0 e) (Builtin.zeroCells z.cells (grownCap w k 0 e - k)).toList hge (by simp only [maxLen] at hcm; omega) ?_ _ _ (ha.put (by simpa using hd) _) hD (hw.drew.alloc _))
  · simp only [execOp, resolve, invoke, builtin, Sem.run_bind, Sem.run_pure, Result.andThen, List.map_toArray, List.map_cons, List.map_nil, ha.reads _ _ hs, ha.reads _ _ hx]
    rw [e1] at h2
    rw [h2]
  · simp only [Array.length_toList, size_zeroCells, hzs, ← Nat.add_mul]
    congr 1; omega
end steps
theorem Z7u {k : Nat} {v : Value} : (Z1l k [v]).length = k := by simp [Z1l]
def Z3r (pl : List PL) (k : Nat) : List Int := (lls (pl.take k)).flatten
theorem Z2I {pl : List PL} {k : Nat} {x : PL} (h : pl[k]? = some x) : Z3r pl (k + 1) = Z3r pl k ++ x.l := by
  unfold Z3r lls
  rw [List.take_add_one, h, Option.toList_some, List.map_append, List.flatten_append]; simp
theorem Z1Y (pl : List PL) : ∀ k, (Z3r pl k).length ≤ (lls pl).flatten.length := fun k => by
  unfold Z3r lls
  have h : pl.map (·.l) = (pl.take k).map (·.l) ++ (pl.drop k).map (·.l) := by rw [← List.map_append, List.take_append_drop]
  rw [h, List.flatten_append, List.length_append]; omega
theorem ZaJ (k : Nat) (hk : k ≤ 1000000) (H : Z9) (R : Z5) :
    Fn Try.prog 98 [.slice none 0 0, .int .i64 (k : Int)] H R (fun v H' R' => ∃ o : OSl 3 1 [], v = o.fs ∧ H' = o.G ++ H ∧ R' = R) := by
 refine Zj Try.func98 rfl Try.ntmps98 rfl ?_
 refine sqt 1 rfl (pur 1 rfl (Z0 (sqt 2 rfl (pur 2 rfl ?_))))
 refine Z1 rfl ?_ ?_ <;> intro hc0
 simp only [decide_eq_true_eq] at hc0
 omega
 refine Z2 (Z0 (sqt 8 rfl (pur 2 rfl (sp rfl (PE.capSl ZE rfl) rfl (pur 1 rfl (sp rfl (PE.lenSl ZE rfl) rfl (sp rfl (PE.sub rfl rfl (by omega)) rfl (sp rfl (PE.sub rfl rfl (by omega)) rfl ?_))))))))
 rw [show (k : Int) - (((0 : Nat) : Int) - ((0 : Nat) : Int)) = (k : Int) by omega]
 refine pur 1 rfl (sqt 2 rfl (pur 2 rfl ?_))
 refine Z1 rfl ?_ ?_ <;> intro hc1
 try simp only [cS] at hc1
 refine sqr 10 rfl (pur 2 rfl (sp rfl (PE.capSl ZE rfl) rfl (sp rfl (PE.slHi (h := 0) Z13 rfl rfl (by omega)) rfl (pur 1 rfl ?_))))
 refine ZdX rfl Z43 ik3 zl3 rfl rfl (by omega) (by omega) (by omega) rfl (fun b2 cap2 jk2 hc1 hc2 hc3 => ?_)
 refine pur 1 rfl (sp rfl (PE.lenSl ZE rfl) rfl (sp rfl (PE.slHi (h := 0) Z13 rfl rfl (by omega)) rfl (pur 1 rfl (sqt 2 rfl (pur 2 rfl (Z6 ?_))))))
 exact rtA rfl rfl rfl ⟨⟨.slice (some ⟨b2, 0, none⟩) 0 cap2, [(b2, cel 3 (Z1l k [.int .i64 0] ++ jk2))], by simp, .inr ⟨b2, cap2, Z1l k [.int .i64 0] ++ jk2, rfl, rfl, by rw [List.length_append, Z7u]; simp only [List.length_nil]; omega, Nat.zero_le _, hc2⟩⟩, rfl, rfl, rfl⟩ idH
 refine Z2 (sqt 2 rfl (pur 2 rfl (Z6 ?_)))
 exact rtA rfl rfl rfl ⟨OSl.nil _ _, rfl, rfl, rfl⟩ idH
set_option maxHeartbeats 400000 in
theorem Z2n (pl : List PL) (ap : Option Addr) (cp : Nat) (hpl : pl.length ≤ 1000000) (htl : (lls pl).flatten.length ≤ 1000000) (H : Z9) (R : Z5) [hP : MemRows ap 1 (ZG pl) R] [hI : MemF (Inn pl) R] :
    Fn Try.prog 66 [.slice ap pl.length cp] H R (fun v H' R' => ∃ o : OSl 3 1 (Z7 (lls pl).flatten), v = o.fs ∧ H' = o.G ++ H ∧ R' = R) := by
 refine Zj Try.func66 rfl Try.ntmps66 rfl ?_
 refine sqt 1 rfl (pur 1 rfl (sqt 1 rfl (pur 1 rfl (Z0 (sqt 3 rfl (pur 1 rfl (sp rfl (PE.lenSl Z6i rfl) rfl (pur 1 rfl (Z4 ?_)))))))))
 refine Zg (ι := {k : Nat // k ≤ pl.length}) (fun k => ⟨[(0, .slice ap pl.length cp), (3, .int .i64 ((Z3r pl k.1).length : Nat)), (9, .slice ap pl.length cp), (10, .int .i64 pl.length), (11, .int .i64 k.1)], H, R⟩) (fun k => pl.length - k.1) ⟨0, Nat.zero_le _⟩ ?_ (fun k => ?_)
 exact Zq idH
 obtain ⟨k, hk⟩ := k
 dsimp only at hk ⊢
 have hcl := Z1Y pl k
 have hcl2 := Z1Y pl (k + 1)
 refine sqt 1 rfl (pur 1 rfl (Z0 ?_))
 refine Z1 rfl ?_ ?_ <;> intro hc0 <;> try simp only [cS] at hc0
 obtain ⟨x, hx⟩ : ∃ x, pl[k]? = some x := ⟨_, List.getElem?_eq_getElem (by omega)⟩
 have hst := congrArg List.length (Z2I hx)
 rw [List.length_append] at hst
 refine Zn (a := ap) (sz := 1) (rows := ZG pl) (ne0 (by rw [Z0g]; omega)) (fun ba oa he => ?_)
 subst he
 refine Z2 (Z0 (Z4 (sqt 3 rfl (sp rfl (PE.indexAddr Zce rfl rfl (by omega) (by omega)) rfl (spL rfl rfl (lf0 Z35 (Z6n hx) rfl) rfl (pur 1 rfl (sqt 5 rfl (pur 2 rfl (sp rfl (PE.lenSl ZE rfl) rfl (sp rfl (PE.add rfl rfl (by omega)) rfl ?_))))))))))
 rw [show ((Z3r pl k).length : Int) + (x.l.length : Int) = ((Z3r pl (k + 1)).length : Int) by omega]
 refine pur 1 rfl (sqt 2 rfl (pur 2 rfl ?_))
 refine Z1 rfl ?_ ?_ <;> intro hc1
 simp only [decide_eq_true_eq] at hc1
 omega
 refine Z2 (sqr 2 rfl (sp rfl (PE.add rfl rfl (by omega)) rfl (pur 1 rfl ?_)))
 exact Za ⟨k + 1, by omega⟩ idH
 obtain rfl : k = pl.length := by omega
 refine Zb (Zc (Zc (Zp (sqt 3 rfl (pur 1 rfl ?_)))))
 refine cl rfl Zdk rfl rfl (ZaJ (Z3r pl pl.length).length (by omega) _ _) ?_
 rintro _ _ R1 ⟨o0, rfl, rfl, hR1⟩
 obtain rfl := hR1.symm
 clear hR1
 refine pur 1 rfl (Z0 (sqt 3 rfl (pur 1 rfl (sp rfl (PE.lenSl Z6i rfl) rfl (pur 1 rfl (Z4 ?_))))))
 refine Zg (ι := (k : {k : Nat // k ≤ pl.length}) × OSl 3 1 (Z7 (Z3r pl k.1))) (fun y => ⟨[(6, y.2.fs), (25, .slice ap pl.length cp), (26, .int .i64 pl.length), (27, .int .i64 y.1.1)], y.2.G ++ H, R⟩) (fun y => pl.length - y.1.1) ⟨⟨0, Nat.zero_le _⟩, o0⟩ ?_ (fun y => ?_)
 exact Zq idH
 obtain ⟨⟨k, hk⟩, o⟩ := y
 dsimp only at hk o ⊢
 have hcl := Z1Y pl k
 have hcl2 := Z1Y pl (k + 1)
 refine sqt 1 rfl (pur 1 rfl (Z0 ?_))
 refine Z1 rfl ?_ ?_ <;> intro hc2 <;> try simp only [cS] at hc2
 obtain ⟨x, hx⟩ : ∃ x, pl[k]? = some x := ⟨_, List.getElem?_eq_getElem (by omega)⟩
 have hst := Z2I hx
 have hsl := congrArg List.length hst
 rw [List.length_append] at hsl
 refine Zn (a := ap) (sz := 1) (rows := ZG pl) (ne0 (by rw [Z0g]; omega)) (fun ba oa he => ?_)
 subst he
 refine Sy.heap (fun w h => St.inn (x := x) h (List.mem_of_getElem? hx)) ?_
 refine Z2 (Z0 (Z4 (sqt 3 rfl (sp rfl (PE.indexAddr Zce rfl rfl (by omega) (by omega)) rfl (spL rfl rfl (lf0 Z35 (Z6n hx) rfl) rfl (pur 1 rfl (sqr 4 rfl (pur 2 rfl ?_))))))))
 refine apO (news := Z7 x.l) o rfl Z43 rfl rfl (Z7v) (irl _) (by simp [ZY, Z7, Value.oneCell']) (by rw [irl, irl]; omega) rfl (fun o33 => ?_)
 refine pur 1 rfl (sqr 2 rfl (sp rfl (PE.add rfl rfl (by omega)) rfl (pur 1 rfl ?_)))
 exact Za ⟨⟨k + 1, by omega⟩, o33.cast (by rw [hst]; simp [Z7])⟩ (fun w h => h.ftail)
 obtain rfl : k = pl.length := by omega
 refine Zb (Zc (Zc (Zp (sqt 2 rfl (pur 2 rfl (Z6 ?_))))))
 exact rtA rfl rfl rfl ⟨o.cast (by unfold Z3r; rw [List.take_length]), rfl, rfl, rfl⟩ idH
theorem Z8l : cal Try.prog 66 = true := by kernel_rfl
def ZdN (h : Hse) (fr to_ : List Int) (spd : Int) (H : Z9) (R : Z5) : Value → Z9 → Z5 → Prop := fun v H' R' => H' = H ∧ R' = R ∧ ((h.rcE fr to_ spd ≠ 0 ∧ v = .tuple #[.int .i64 0, .int .i64 (h.rcE fr to_ spd)]) ∨
  (h.rcE fr to_ spd = 0 ∧ (∀ n, ¬ Pl h.gaps (msk to_) spd.toNat (msk fr) 0 n) ∧ v = .tuple #[.int .i64 0, .int .i64 6]) ∨
  (h.rcE fr to_ spd = 0 ∧ ∃ n : Nat, n ≤ 10 ∧ Lst (Pl h.gaps (msk to_) spd.toNat (msk fr) 0) n ∧ v = .tuple #[.int .i64 (n : Int), .int .i64 0]))
theorem Z5n {gs : List Gp} (hg : gs.length ≤ 10) : ∀ {ls : List Nat}, (∀ l ∈ ls, l < 2 ^ gs.length) → ((ls.map Z1I).flatten).length = Z7Z gs ls
  | [], _ => rfl
  | l :: ls, h => by
    rw [List.map_cons, List.flatten_cons, List.length_append, Z5n hg (fun x hx => h x (List.mem_cons_of_mem _ hx)), Z5c (h l (by simp)) hg]; rfl
theorem St.norows9 {sz : Nat} {H : Z9} {R : Z5} {w : World} (h : St H R w) : St H (Inn [] :: RowsA none sz (ZG []) :: R) w := St.inn0 (St.norows (sz := sz) h)
set_option maxHeartbeats 400000 in
theorem Z8N (h : Hse) (ag as_ : Option Addr) (cg cs : Nat) (hlg : h.gaps.length ≤ 9223372036854775807) (hls : h.sights.length ≤ 9223372036854775807) (fr to_ : List Int) (af at_ : Option Addr) (cf ct : Nat) (hlf : fr.length ≤ 1000000) (hlt : to_.length ≤ 1000000) (hfc : fr.length ≤ cf) (htc : to_.length ≤ ct) (spd : Int) (H : Z9) (R : Z5) [hG : MemRows ag 2 (Zi h.gaps) R] [hS : MemRows as_ 3 (Zd h.sights) R] [hF : MemRows af 1 (Z7 fr) R] [hT : MemRows at_ 1 (Z7 to_) R] :
    Fn Try.prog 25 [h.v (h.sg ag cg) (h.ss as_ cs), .slice af fr.length cf, .slice at_ to_.length ct, .int .i64 spd] H R (ZdN h fr to_ spd H R) := by
 refine Zj Try.func25 rfl Try.ntmps25 rfl ?_
 refine sqt 3 rfl (bx rfl rfl rfl (fun b4 => pur 2 rfl (sqt 10 rfl (spL rfl rfl (lhA (htl h (h.sg ag cg) (h.ss as_ cs)) Z0A rfl rfl rfl) rfl (pur 3 rfl ?_)))))
 refine cl rfl Zc9 rfl rfl (Z9v h ag as_ cg cs hlg hls fr to_ af at_ cf ct hlf hlt hfc htc spd _ _) ?_
 rintro _ _ R1 ⟨rfl, hq⟩
 rcases hq with ⟨h9, rfl, hR1⟩ | ⟨h9, hnp, rfl, hR1⟩ | ⟨h9, ls, pl, a, c, hll, hpk, hpc, hlb, hrun, hlst, rfl, hR1⟩
 all_goals obtain rfl := hR1.symm
 all_goals clear hR1
 refine pur 5 rfl (sqt 6 rfl ?_)
 refine Sy.heap (fun w h => St.norows9 (sz := 1) h) ?_
 refine pur 1 rfl ?_
 refine cl rfl Z8l rfl rfl (Z2n [] none 0 (by decide) (by decide) _ _) ?_
 rintro _ _ R1 ⟨o, rfl, rfl, hR1⟩
 obtain rfl := hR1.symm
 clear hR1
 obtain ⟨ao, co, heo, hfz⟩ := o.freeze
 rw [heo, irl]
 refine Sy.heap (fun w h => hfz h) ?_
 clear hfz heo
 refine sp rfl (PE.lenSl ZE rfl) rfl (pur 3 rfl (Z6 ?_))
 exact rtB rfl rfl rfl rfl ⟨rfl, rfl, .inl ⟨h9, rfl⟩⟩ (fun w h9 => St.sub (h9.del b4))
 refine pur 5 rfl (sqt 6 rfl ?_)
 refine Sy.heap (fun w h => St.norows9 (sz := 1) h) ?_
 refine pur 1 rfl ?_
 refine cl rfl Z8l rfl rfl (Z2n [] none 0 (by decide) (by decide) _ _) ?_
 rintro _ _ R1 ⟨o, rfl, rfl, hR1⟩
 obtain rfl := hR1.symm
 clear hR1
 obtain ⟨ao, co, heo, hfz⟩ := o.freeze
 rw [heo, irl]
 refine Sy.heap (fun w h => hfz h) ?_
 clear hfz heo
 refine sp rfl (PE.lenSl ZE rfl) rfl (pur 3 rfl (Z6 ?_))
 exact rtB rfl rfl rfl rfl ⟨rfl, rfl, .inr (.inl ⟨h9, hnp, rfl⟩)⟩ (fun w h9 => St.sub (h9.del b4))
 refine pur 5 rfl (sqt 6 rfl ?_)
 have hgl := (ZbS h9).1.ok.gl
 have hlen : (lls pl).flatten.length = Z7Z h.gaps ls := by rw [hll]; exact Z5n hgl hlb
 have hs10 := hlst.1.few
 have hpl : pl.length = ls.length := by have := congrArg List.length hll; rw [Z4U, List.length_map] at this; exact this
 refine pur 1 rfl ?_
 refine cl rfl Z8l rfl rfl (Z2n pl a c (by omega) (by omega) _ _) ?_
 rintro _ _ R1 ⟨o, rfl, rfl, hR1⟩
 obtain rfl := hR1.symm
 clear hR1
 obtain ⟨ao, co, heo, hfz⟩ := o.freeze
 rw [heo, irl, hlen]
 refine Sy.heap (fun w h => hfz h) ?_
 clear hfz heo
 refine sp rfl (PE.lenSl ZE rfl) rfl (pur 3 rfl (Z6 ?_))
 exact rtB rfl rfl rfl rfl ⟨rfl, rfl, .inr (.inr ⟨h9, Z7Z h.gaps ls, by omega, hlst, rfl⟩)⟩ (fun w h9 => St.sub (h9.del b4))
theorem Zbs : cal Try.prog 107 = true := by kernel_rfl
theorem Zbt : cal Try.prog 108 = true := by kernel_rfl
theorem ZbB : cal Try.prog 116 = true := by kernel_rfl
theorem Zdm : cal Try.prog 55 = true := by kernel_rfl
theorem Zd0 : cal Try.prog 88 = true := by kernel_rfl
theorem Zdr : cal Try.prog 89 = true := by kernel_rfl
theorem ZcK : cal Try.prog 90 = true := by kernel_rfl
def Hse.ledE (h : Hse) (fr to_ : List Int) (ls : List (List Int)) : Int := bif decide (h.botE fr to_ ≠ 0) then h.botE fr to_ else bif decide (Z0a h.gaps.length ls.flatten ≠ 0) then Z0a h.gaps.length ls.flatten else bif !(ls.all fun l => Z80 h.gaps 0 fr to_ l) then 8 else 0
def Hse.ledR (h : Hse) (fr to_ : List Int) (ls : List (List Int)) : Int := bif decide (h.ledE fr to_ ls = 0) then ls.length else 0
theorem Z75 (pl : List PL) (p : List Int → Bool) : (pl.all fun x => p x.l) = (lls pl).all p := by unfold lls; rw [List.all_map]; rfl
theorem Z4K {h : Hse} {fr to_ : List Int} {ls : List (List Int)} {e : Int} (he : h.ledE fr to_ ls = e) (h0 : e ≠ 0) : h.ledR fr to_ ls = 0 := by unfold Hse.ledR; rw [he, decide_eq_false h0]; rfl
theorem Z74 (xs : List PL) (a : Option Addr) (c g : Nat) (fst cap : List Value) (p : PL → Bool) (hg : cal Try.prog g = true) (hl : xs.length ≤ 9223372036854775807) (H : Z9) (R : Z5) [hR : MemRows a 1 (ZG xs) R] (hp : ∀ x, x ∈ xs → FnV Try.prog g (fst ++ [.slice x.a x.l.length x.c] ++ cap) H R (.bool (p x))) :
    FnV Try.prog 116 [.slice a xs.length c, .func (.func g) fst.toArray cap.toArray] H R (.int .i64 (match xs.findIdx? p with | some k => (k : Int) | none => -1)) := by
 refine Zj Try.func116 rfl Try.ntmps116 rfl ?_
 refine sqt 1 rfl (pur 1 rfl (Z0 (sqt 3 rfl (pur 1 rfl (sp rfl (PE.lenSl Z6i rfl) rfl (pur 1 rfl (Z4 ?_)))))))
 refine Zg (ι := {k : Nat // k ≤ xs.length ∧ ∀ x ∈ xs.take k, p x = false}) (fun k => ⟨[(0, .slice a xs.length c), (1, .func (.func g) fst.toArray cap.toArray), (7, .int .i64 xs.length), (8, .int .i64 k.1)], H, R⟩) (fun k => xs.length - k.1) ⟨0, by simp⟩ ?_ (fun k => ?_)
 exact Zq idH
 obtain ⟨k, hk, hn⟩ := k
 dsimp only
 refine sqt 1 rfl (pur 1 rfl (Z0 ?_))
 refine Z1 rfl ?_ ?_ <;> intro hc0
 simp only [cS] at hc0
 obtain ⟨x, hx⟩ : ∃ x, xs[k]? = some x := ⟨_, List.getElem?_eq_getElem (by omega)⟩
 have hxm := List.mem_of_getElem? hx
 refine Zn (a := a) (sz := 1) (rows := ZG xs) (by cases xs <;> simp_all [ZG]) (fun b off he => ?_)
 subst he
 refine Z2 (Z0 (Z4 (sqt 2 rfl (pur 2 rfl (sqt 6 rfl (pur 3 rfl (sp rfl (PE.indexAddr Zce rfl rfl (by omega) (by omega)) rfl (spL rfl rfl (lf0 Z35 (by simp [ZG, hx]; rfl) rfl) rfl ?_))))))))
 refine Z6j rfl rfl (hg) rfl rfl (hp x hxm) ?_
 refine Z1 rfl ?_ ?_ <;> intro hc1
 refine sqt 2 rfl (pur 2 rfl (Z6 ?_))
 first | (exact rtA rfl rfl rfl ⟨by rw [Z04 hx hn hc1]; rfl, rfl, rfl⟩ idH) | (exact rtA rfl rfl rfl ⟨by rw [ZR (by simpa using hn)]; rfl, rfl, rfl⟩ idH)
 refine Z2 (sqr 2 rfl (sp rfl (PE.add rfl rfl (by omega)) rfl (pur 1 rfl ?_)))
 exact Za ⟨k + 1, by omega, Z17 hx hn hc1⟩ idH
 simp only [cS] at hc0
 obtain rfl : k = xs.length := by omega
 refine Zb (Zc (Zc (Zp (sqt 1 rfl (pur 1 rfl (Z6 ?_))))))
 first | (exact rtA rfl rfl rfl ⟨by rw [Z04 hx hn hc1]; rfl, rfl, rfl⟩ idH) | (exact rtA rfl rfl rfl ⟨by rw [ZR (by simpa using hn)]; rfl, rfl, rfl⟩ idH)
theorem Z76 (xs : List PL) (a : Option Addr) (c g : Nat) (fst cap : List Value) (p : PL → Bool) (hg : cal Try.prog g = true) (hl : xs.length ≤ 9223372036854775807) (H : Z9) (R : Z5) [hR : MemRows a 1 (ZG xs) R] (hp : ∀ x, x ∈ xs → FnV Try.prog g (fst ++ [.slice x.a x.l.length x.c] ++ cap) H R (.bool (p x))) :
    FnV Try.prog 107 [.slice a xs.length c, .func (.func g) fst.toArray cap.toArray] H R (.bool (xs.any p)) := by
 refine Zj Try.func107 rfl Try.ntmps107 rfl ?_
 refine sqt 1 rfl (pur 1 rfl (sqt 5 rfl (pur 2 rfl ?_)))
 refine clV rfl ZbB rfl rfl (Z74 xs a c g fst cap p hg hl _ _ hp) ?_
 refine pur 2 rfl (Z6 ?_)
 exact rtA rfl rfl rfl ⟨by simp only [Z08]; exact Z2z _ _, rfl, rfl⟩ drp
theorem Z72 (x : PL) (g bf : Nat) (fst cap : List Value) (p : Bool) (hg : cal Try.prog g = true) (H : Z9) (R : Z5) [hM : Mem1 bf (cel 67 [.func (.func g) fst.toArray cap.toArray]) H] (hp : FnV Try.prog g (fst ++ [.slice x.a x.l.length x.c] ++ cap) H R (.bool p)) :
    FnV Try.prog 108 [.slice x.a x.l.length x.c, .pointer (some ⟨bf, 0, none⟩)] H R (.bool !p) := by
 refine Zj Try.func108 rfl Try.ntmps108 rfl ?_
 refine sqt 1 rfl (pur 1 rfl (sqt 5 rfl (spL rfl rfl (lh ZdC rfl rfl) rfl (pur 1 rfl ?_))))
 refine Z6j rfl rfl (hg) rfl rfl (hp) ?_
 refine pur 2 rfl (Z6 ?_)
 exact rtA rfl rfl rfl ⟨rfl, rfl, rfl⟩ drp
theorem Z4M (xs : List PL) (a : Option Addr) (c g : Nat) (fst cap : List Value) (p : PL → Bool) (hg : cal Try.prog g = true) (hl : xs.length ≤ 9223372036854775807) (H : Z9) (R : Z5) [hR : MemRows a 1 (ZG xs) R] (hp : ∀ b x, x ∈ xs → FnV Try.prog g (fst ++ [.slice x.a x.l.length x.c] ++ cap) ((b, cel 67 [.func (.func g) fst.toArray cap.toArray]) :: H) R (.bool (p x))) :
    FnV Try.prog 88 [.slice a xs.length c, .func (.func g) fst.toArray cap.toArray] H R (.bool (xs.all p)) := by
 refine Zj Try.func88 rfl Try.ntmps88 rfl ?_
 refine sqt 2 rfl (bx rfl rfl rfl (fun b3 => pur 1 rfl (sqt 5 rfl (pur 1 rfl (sp rfl (PE.makeFunc rfl rfl) rfl ?_)))))
 refine clV rfl Zbs rfl rfl (Z76 xs a c 108 [] [_] (fun x => !p x) Zbt hl _ _ (hp := fun x hx => Z72 x g _ fst cap (p x) hg _ _ (hp := hp _ x hx))) ?_
 refine pur 2 rfl (Z6 ?_)
 exact rtA rfl rfl rfl ⟨by simp only [Z08]; rw [Z0L], rfl, rfl⟩ drp
theorem Z8T (h : Hse) (ag as_ : Option Addr) (cg cs : Nat) (hok : h.ok) (fr to_ : List Int) (af at_ : Option Addr) (cf ct b4 b5 b6 : Nat) (hfr : ∀ x ∈ fr, 0 ≤ x ∧ x < 7) (hfl : fr.length ≤ 1000) (hnt : to_.length ≤ 1000000) (x : PL) (pl : List PL) (hxm : x ∈ pl) (hp : ∀ k ∈ x.l, 0 ≤ k) (hpl : x.l.length ≤ 1000000) (H : Z9) (R : Z5) [hG : MemRows ag 2 (Zi h.gaps) R] [hS : MemRows as_ 3 (Zd h.sights) R] [hF : MemRows af 1 (Z7 fr) R] [hT : MemRows at_ 1 (Z7 to_) R] [m4 : Mem1 b4 (cel 26 (htl h (h.sg ag cg) (h.ss as_ cs))) H] [m5 : Mem1 b5 (cel 27 [.slice af fr.length cf]) H] [m6 : Mem1 b6 (cel 27 [.slice at_ to_.length ct]) H] [hI : MemF (Inn pl) R] :
    FnV Try.prog 89 [.slice x.a x.l.length x.c, .pointer (some ⟨b4, 0, none⟩), .pointer (some ⟨b5, 0, none⟩), .pointer (some ⟨b6, 0, none⟩)] H R (.bool (Z80 h.gaps 0 fr to_ x.l)) := by
 refine Zj Try.func89 rfl Try.ntmps89 rfl ?_
 refine sqt 1 rfl ?_
 refine Sy.heap (fun w h => St.inn (x := x) h hxm) ?_
 refine pur 1 rfl (Z0 ?_)
 refine Ze [0, 1, 0, 0, 0, 31, 63] (.ld 0 (.ld 2 (.ld 3 (.tk 4 (.big 1 (.big 5 (.tk 6 .done))))))) Zu (by kernel_rfl) ?_
 refine ld rfl rfl (lhA (htl h (h.sg ag cg) (h.ss as_ cs)) Z0A rfl rfl rfl) rfl (ld rfl rfl (lh Z35 rfl rfl) rfl (ld rfl rfl (lh Z35 rfl rfl) rfl (Zl 1 rfl ?_)))
 refine cl rfl Z66 rfl rfl (Z6b h ag as_ cg cs _ _) ?_
 rintro _ _ _ ⟨bd, rfl, rfl, rfl⟩
 refine bg (fun w hs => ⟨(lh Z35 rfl rfl) w hs, (lh Z35 rfl rfl) w hs, trivial, trivial⟩) ?_
 refine clV rfl ZcK rfl rfl (ZaC (dkA h ag as_ cg cs bd) (Z0F h ag as_ cg cs hok bd) fr to_ x.l af at_ x.a cf ct x.c hfr hfl hnt hp hpl _ _) ?_
 refine bgT (Zl 1 rfl (Z6 ?_))
 exact rtA rfl rfl rfl ⟨rfl, rfl, rfl⟩ (fun w h9 => h9.ftail.ftail)
set_option maxHeartbeats 400000 in
theorem Z9P (h : Hse) (ag as_ : Option Addr) (cg cs : Nat) (hlg : h.gaps.length ≤ 9223372036854775807) (hls : h.sights.length ≤ 9223372036854775807) (fr to_ : List Int) (af at_ : Option Addr) (cf ct : Nat) (hlf : fr.length ≤ 1000000) (hlt : to_.length ≤ 1000000) (hfc : fr.length ≤ cf) (htc : to_.length ≤ ct) (pl : List PL) (ap : Option Addr) (cp : Nat) (hpl : pl.length ≤ 1000000) (htot : (lls pl).flatten.length ≤ 1000000) (H : Z9) (R : Z5) [hG : MemRows ag 2 (Zi h.gaps) R] [hS : MemRows as_ 3 (Zd h.sights) R] [hF : MemRows af 1 (Z7 fr) R] [hT : MemRows at_ 1 (Z7 to_) R] [hP : MemRows ap 1 (ZG pl) R] [hI : MemF (Inn pl) R] :
    FnV Try.prog 48 [h.v (h.sg ag cg) (h.ss as_ cs), .slice af fr.length cf, .slice at_ to_.length ct, .slice ap pl.length cp] H R (.tuple #[.int .i64 (h.ledR fr to_ (lls pl)), .int .i64 (h.ledE fr to_ (lls pl))]) := by
 refine Zj Try.func48 rfl Try.ntmps48 rfl ?_
 refine sqt 5 rfl (bx rfl rfl rfl (fun b4 => bx rfl rfl rfl (fun b5 => bx rfl rfl rfl (fun b6 => pur 2 rfl (Z0 (sqt 5 rfl (spL rfl rfl (lhA (htl h (h.sg ag cg) (h.ss as_ cs)) Z0A rfl rfl rfl) rfl (spL rfl rfl (lh Z35 rfl rfl) rfl (spL rfl rfl (lh Z35 rfl rfl) rfl ?_)))))))))
 refine clV rfl Z8D rfl rfl (Z5l h ag as_ cg cs hlg hls fr to_ af at_ cf ct (by omega) (by omega) hfc htc _ _) ?_
 refine pur 1 rfl (sqt 2 rfl (pur 2 rfl ?_))
 refine Z1 rfl ?_ ?_ <;> intro hc0
 have hbe : h.botE fr to_ ≠ 0 := of_decide_eq_true hc0
 have e : h.ledE fr to_ (lls pl) = h.botE fr to_ := by unfold Hse.ledE; rw [dT hbe]; rfl
 refine sqt 3 rfl (pur 3 rfl (Z6 ?_))
 exact rtB rfl rfl rfl rfl ⟨by rw [Z4K e (by assumption), e] <;> rfl, rfl, rfl⟩ drp
 have hbe : h.botE fr to_ = 0 := Classical.byContradiction fun e => by rw [decide_eq_true e] at hc0; cases hc0
 have hb := Z3t hbe
 obtain ⟨q1, q2, q3, q4, q5, q6⟩ := Z1b hb
 have hok := hb.ok
 refine Z2 (Z0 (Z0 ?_))
 refine Ze [0, 1, 0, 4, 15, 31] (.tk 0 (.ld 2 (.tk 3 (.big 1 (.big 4 (.tk 5 .done)))))) Zu (by kernel_rfl) ?_
 refine Zl 1 rfl (ld rfl rfl (lhA (htl h (h.sg ag cg) (h.ss as_ cs)) Z0A rfl rfl rfl) rfl (tk rfl (PE.makeFunc rfl rfl) rfl ?_))
 refine cl rfl Z8l rfl rfl (Z2n pl ap cp hpl htot _ _) ?_
 rintro _ _ R1 ⟨o, rfl, rfl, hR1⟩
 obtain rfl := hR1.symm
 clear hR1
 obtain ⟨ac, cc, heo, hcc, hfz⟩ := o.freezeC
 rw [irl] at hcc
 rw [heo, irl]
 refine Sy.heap (fun w h => hfz h) ?_
 clear hfz heo
 refine bg (fun w hs => ⟨(lhA (htl h (h.sg ag cg) (h.ss as_ cs)) Z0A rfl rfl rfl) w hs, trivial⟩) ?_
 refine clV rfl ZaF rfl rfl (Z3v (lls pl).flatten ac cc 55 [h.v (h.sg ag cg) (h.ss as_ cs)] [] (fun k => inB k 0 ((h.gaps.length : Int) - 1)) Zdm (by omega) hcc _ _ (fun _ z _ => Zdl h (by have := hok.gl; omega) ag cg (h.ss as_ cs) z _ _)) ?_
 refine bgT (Zl 1 rfl (sqt 2 rfl (pur 2 rfl ?_)))
 refine Z1 rfl ?_ ?_ <;> intro hc1
 have hle : Z0a h.gaps.length (lls pl).flatten ≠ 0 := of_decide_eq_true hc1
 have e : h.ledE fr to_ (lls pl) = Z0a h.gaps.length (lls pl).flatten := by unfold Hse.ledE; rw [hbe, dT hle]; rfl
 refine sqt 3 rfl (pur 3 rfl (Z6 ?_))
 exact rtB rfl rfl rfl rfl ⟨by rw [Z4K e (by assumption), e] <;> rfl, rfl, rfl⟩ (fun w h9 => St.sub (((h9.del b6).del b5).del b4))
 have hle : Z0a h.gaps.length (lls pl).flatten = 0 := Classical.byContradiction fun e => by rw [show decide (Z94 (fun k => inB k 0 ((h.gaps.length : Int) - 1)) (lls pl).flatten ≠ 0) = true from decide_eq_true e] at hc1; cases hc1
 have hlx := (Z1e hle).1
 have hin : ∀ x ∈ pl, (∀ k ∈ x.l, 0 ≤ k) ∧ x.l.length ≤ 1000000 := fun x hx => by
   have hm : x.l ∈ lls pl := List.mem_map.2 ⟨x, hx, rfl⟩
   refine ⟨fun k hk => (hlx k (List.mem_flatten.2 ⟨_, hm, hk⟩)).1, ?_⟩
   have := List.Sublist.length_le (List.sublist_flatten_of_mem hm)
   omega
 refine Z2 (Z0 (sqt 4 rfl (pur 1 rfl (sp rfl (PE.makeFunc rfl rfl) rfl ?_))))
 refine clV rfl Zd0 rfl rfl (Z4M pl ap cp 89 [] [_, _, _] (fun x => Z80 h.gaps 0 fr to_ x.l) Zdr (by omega) _ _ (fun _ x hx => Z8T h ag as_ cg cs hok fr to_ af at_ cf ct b4 b5 b6 q1 (by omega) hlt x pl hx (hin x hx).1 (hin x hx).2 _ _)) ?_
 refine pur 1 rfl ?_
 refine Z1 rfl ?_ ?_ <;> intro hc2
 have hc9 : (!(pl.all fun x => Z80 h.gaps 0 fr to_ x.l)) = true := hc2
 rw [Z75 pl (fun l => Z80 h.gaps 0 fr to_ l)] at hc9
 have h8 : (8 : Int) ≠ 0 := by decide
 have e : h.ledE fr to_ (lls pl) = 8 := by unfold Hse.ledE; rw [hbe, hle, hc9]; rfl
 refine sqt 2 rfl (pur 2 rfl (Z6 ?_))
 exact rtB rfl rfl rfl rfl ⟨by rw [Z4K e (by assumption), e] <;> rfl, rfl, rfl⟩ (fun w h9 => St.sub (((h9.del b6).del b5).del b4))
 have hc9 : (!(pl.all fun x => Z80 h.gaps 0 fr to_ x.l)) = false := hc2
 rw [Z75 pl (fun l => Z80 h.gaps 0 fr to_ l)] at hc9
 have e : h.ledE fr to_ (lls pl) = 0 := by unfold Hse.ledE; rw [hbe, hle, hc9]; rfl
 have er : h.ledR fr to_ (lls pl) = pl.length := by unfold Hse.ledR; rw [e, Z4U]; rfl
 refine Z2 (sqt 4 rfl (pur 1 rfl (sp rfl (PE.lenSl Z6i rfl) rfl (pur 2 rfl (Z6 ?_)))))
 exact rtB rfl rfl rfl rfl ⟨by rw [er, e] <;> rfl, rfl, rfl⟩ (fun w h9 => St.sub (((h9.del b6).del b5).del b4))
theorem Z9i : Z0l Try.prog 26 = some 3 := by kernel_rfl
theorem Zcw : Z14 Try.prog 26 = some [(0, 1), (1, 1), (2, 1)] := by kernel_rfl
theorem ZaT : Z14 Try.prog 38 = some [(0, 1), (1, 1), (2, 1)] := by kernel_rfl
theorem Zdf : slE Try.prog 23 = some (46, 2) := by kernel_rfl
theorem Z83 : ZM Try.prog 26 = some ([.int .i64 0, .slice none 0 0, .slice none 0 0]) := by kernel_rfl
def Z6m : List Gp := [⟨0, 1⟩, ⟨0, 2⟩, ⟨1, 3⟩, ⟨2, 3⟩, ⟨3, 4⟩, ⟨4, 5⟩, ⟨1, 2⟩]
def sixS : List Sgt := [⟨2, 3, true⟩, ⟨1, 1, false⟩, ⟨2, 4, false⟩]
abbrev six (k : Nat) : Hse := ⟨6, Z6m, sixS.take k⟩
theorem Z6g (l : List Sgt) (k : Nat) : (Zd l).take k = Zd (l.take k) := (List.map_take).symm
theorem Zai {k : Nat} (hk : k ≤ 3) : (six k).sights.length = k := by
  show (sixS.take k).length = k
  rw [List.length_take]; show min k 3 = k; omega
set_option maxHeartbeats 400000 in
theorem Z4e (k : Nat) (hk : k ≤ 3) (H : Z9) (R : Z5) :
    Fn Try.prog 47 [.int .i64 (k : Int)] H R (fun v H' R' => ∃ (ag as_ : Option Addr) (cg cs : Nat), v = (six k).v ((six k).sg ag cg) ((six k).ss as_ cs) ∧ k ≤ cs ∧ H' = H ∧ R' = RowsA ag 2 (Zi (six k).gaps) :: RowsA as_ 3 (Zd (six k).sights) :: R) := by
 refine Zj Try.func47 rfl Try.ntmps47 rfl ?_
 refine sqt 1 rfl (alc rfl Z83 rfl (fun b2 => sqt 5 rfl (sp rfl (PE.build (out := [_, _, _]) ZaT Z4x rfl rfl) rfl (sp rfl (PE.build (out := [_, _, _]) ZaT Z4x rfl rfl) rfl (sp rfl (PE.build (out := [_, _, _]) ZaT Z4x rfl rfl) rfl ?_)))))
 refine bsl (out := [_, _, _, _, _, _, _, _, _]) rfl Z9Q Z4x rfl rfl rfl rfl rfl rfl (fun b7 => ?_)
 refine pur 1 rfl (sqt 17 rfl (sp rfl (PE.build (out := [_, _]) Z81 Z33 rfl rfl) rfl (sp rfl (PE.build (out := [_, _]) Z81 Z33 rfl rfl) rfl (sp rfl (PE.build (out := [_, _]) Z81 Z33 rfl rfl) rfl (sp rfl (PE.build (out := [_, _]) Z81 Z33 rfl rfl) rfl (sp rfl (PE.build (out := [_, _]) Z81 Z33 rfl rfl) rfl (sp rfl (PE.build (out := [_, _]) Z81 Z33 rfl rfl) rfl (sp rfl (PE.build (out := [_, _]) Z81 Z33 rfl rfl) rfl ?_))))))))
 refine bsl (out := [_, _, _, _, _, _, _, _, _, _, _, _, _, _]) rfl Zdf Z33 rfl rfl rfl rfl rfl rfl (fun b15 => ?_)
 refine pur 3 rfl (sp rfl (PE.lenSl Z4L rfl) rfl (sp rfl (PE.min rfl rfl) rfl (sp rfl (PE.max rfl rfl) rfl ?_)))
 rw [show max (0 : Int) (min (k : Int) ((3 : Nat) : Int)) = (k : Int) by omega]
 refine sp rfl (PE.slHi (h := k) Z9Q rfl rfl (by omega)) rfl (sp rfl (PE.build (out := [_, _, _]) Zcw Z83 rfl rfl) rfl ?_)
 refine ZI (l' := [.int .i64 6, .slice (some ⟨b15, 0, none⟩) 7 7, .slice (some ⟨b7, 0, none⟩) k 3]) rfl rfl rfl Z9i rfl rfl rfl rfl (nl rfl) ?_
 refine Z6 ?_
 refine Sy.heap (fun w h9 => St.rows (sz := 3) (rows := Zd sixS) (rest := []) (h9.pull b7) (by simp [Zd, sixS, Z1N])) ?_
 refine Sy.heap (fun w h9 => St.rows (sz := 2) (rows := Zi Z6m) (rest := []) (h9.pull b15) (by simp [Zi, Z6m, Z1q])) ?_
 refine Sy.heap (fun w h9 => (show St _ (RowsA (some ⟨b7, 0, none⟩) 3 (Zd (sixS.take k)) :: _) w from Z6g sixS k ▸ St.rowsTake (a := some ⟨b7, 0, none⟩) (sz := 3) (rows := Zd sixS) h9 k)) ?_
 exact Zm (vs := [_]) rfl (.cons (RV.cell rfl (lhA [_, _, _] Z0A rfl rfl rfl)) .nil) rfl ⟨some ⟨b15, 0, none⟩, some ⟨b7, 0, none⟩, 7, 3, by unfold Hse.v Hse.sg Hse.ss htl; rw [Zai hk]; rfl, hk, rfl, rfl⟩ (fun w h9 => St.sub (h9.del b2))
theorem Zcx : cal Try.prog 91 = true := by kernel_rfl
theorem Z3I : Wth Z6m 7 := by
  intro g hg
  simp only [Z6m, List.mem_cons, List.not_mem_nil, or_false] at hg
  rcases hg with rfl | rfl | rfl | rfl | rfl | rfl | rfl <;> decide
theorem six_w : ((six 0).weeksR [0]).1 = [0, 1, 1, 2, 3, 4] ∧ ((six 0).weeksR [0]).2 = 0 := ⟨by kernel_rfl, by kernel_rfl⟩
theorem six_o : ((six 2).orgR).1 = [4] ∧ ((six 2).orgR).2 = 0 := ⟨by kernel_rfl, by kernel_rfl⟩
theorem six_s : ((six 2).surR 1).1 = [4, 5] ∧ ((six 2).surR 1).2 = 0 := ⟨by kernel_rfl, by kernel_rfl⟩
theorem six_c : ((six 3).claR).1 = [0, 1, 2] ∧ ((six 3).claR).2 = 0 := ⟨by kernel_rfl, by kernel_rfl⟩
theorem six_l : (six 0).ledR [0] [3] [[0, 2], [1, 3]] = 2 ∧ (six 0).ledE [0] [3] [[0, 2], [1, 3]] = 0 := ⟨by kernel_rfl, by kernel_rfl⟩
theorem six_b : (six 0).botE [0] [5] = 0 ∧ (six 0).botE [0] [3] = 0 ∧ (six 0).rcE [0] [1] 1 = 0 := ⟨by kernel_rfl, by kernel_rfl, by kernel_rfl⟩
theorem ZbO : plD Z6m 2 1 8 1 0 3 = true := by kernel_rfl
theorem Zbe : plD Z6m 2 1 8 1 0 2 = false := by kernel_rfl
theorem ZaV : plD Z6m 8 0 8 1 0 10 = false := by kernel_rfl
theorem Zb7 : plD Z6m 8 1 8 1 0 10 = true := by kernel_rfl
theorem Zbc : plD Z6m 32 10 8 1 0 1 = true := by kernel_rfl
theorem Zb0 : plD Z6m 32 10 8 1 0 0 = false := by kernel_rfl
theorem six_few : Lst (Pl (six 0).gaps (msk [1]) (1 : Int).toNat (msk [0]) 0) 3 := Z7E Z3I (by decide) ZbO Zbe
theorem Zaf : Lst (Pl (six 0).gaps (msk [5]) 10 (msk [0]) 0) 1 := Z7E Z3I (by decide) Zbc Zb0
theorem Z9L {s : Nat} (h1 : ∃ n, Pl (six 0).gaps (msk [3]) s (msk [0]) 0 n) (h2 : ∀ s', s' < s → ∀ n, ¬ Pl (six 0).gaps (msk [3]) s' (msk [0]) 0 n) : s = 1 := by
  rcases Nat.lt_trichotomy s 1 with h3 | h3 | h3
  · obtain rfl : s = 0 := by omega
    obtain ⟨n, hn⟩ := h1
    have hf := hn.few
    have h4 := Z4Z (n := 10) (f := 8) Z3I (by decide) (by omega) hn (by have : (six 0).gaps.length = 7 := rfl; omega)
    have h5 : plD Z6m 8 0 8 1 0 10 = true := h4
    rw [ZaV] at h5
    cases h5
  · exact h3
  · obtain ⟨k, _, hk⟩ := Z3W Zb7
    exact absurd hk (h2 1 h3 k)
theorem Z60 {f : Nat → Int} {V : List (Nat × Int)} (hf : Flw f (msk [0]) (msk [5]) (six 0).gaps) (hs : Shn (six 0).gaps (fun _ => true) f (msk [0]) (msk [5]) V) : (Z1o (Z1n V) (six 0).gaps).length = 1 := by
  have hc := (hs.cut (Z6H (Z3t six_b.1)) hf).1
  have hl : (Z1o (Z1n V) (six 0).gaps).length ≤ 7 := by
    unfold Z1o
    rw [List.length_map]
    exact Nat.le_trans (List.length_filter_le _ _) (by decide)
  exact (Cut.plan (sp := 10) Z3I (by decide) hc (by omega)).unique Zaf
theorem Z8g (xs ys : List Int) (a a2 : Option Addr) (c c2 : Nat) (hl : xs.length ≤ 9223372036854775807) (hl2 : ys.length ≤ 9223372036854775807) (H : Z9) (R : Z5) [hR : MemRows a 1 (Z7 xs) R] [hR2 : MemRows a2 1 (Z7 ys) R] :
    FnV Try.prog 91 [.slice a xs.length c, .slice a2 ys.length c2] H R (.bool (decide (xs = ys))) := by
 refine Zj Try.func91 rfl Try.ntmps91 rfl ?_
 refine sqt 1 rfl (pur 1 rfl (Z0 (sqt 5 rfl (pur 1 rfl (sp rfl (PE.lenSl ZE rfl) rfl (pur 1 rfl (sp rfl (PE.lenSl ZE rfl) rfl (pur 1 rfl ?_))))))))
 refine Z1 rfl ?_ ?_ <;> intro hc0
 have hne : xs ≠ ys := fun e => by subst e; simp at hc0
 refine sqt 1 rfl (pur 1 rfl (Z6 ?_))
 exact rtA rfl rfl rfl ⟨by first | (simp only [Z08]; rw [dT heq]; done) | (simp only [Z08]; rw [dF hne]), rfl, rfl⟩ idH
 have hle : xs.length = ys.length := by simp only [cS] at hc0; omega
 refine Z2 (Z0 (sqt 3 rfl (pur 1 rfl (sp rfl (PE.lenSl ZE rfl) rfl (pur 1 rfl (Z4 ?_))))))
 refine Zg (ι := {k : Nat // k ≤ xs.length ∧ xs.take k = ys.take k}) (fun k => ⟨[(0, .slice a xs.length c), (1, .slice a2 ys.length c2), (12, .int .i64 xs.length), (13, .int .i64 k.1)], H, R⟩) (fun k => xs.length - k.1) ⟨0, by simp⟩ ?_ (fun k => ?_)
 exact Zq idH
 obtain ⟨k, hk, hn⟩ := k
 dsimp only
 refine sqt 1 rfl (pur 1 rfl (Z0 ?_))
 refine Z1 rfl ?_ ?_ <;> intro hc1
 simp only [cS] at hc1
 obtain ⟨x, hx⟩ : ∃ x, xs[k]? = some x := ⟨_, List.getElem?_eq_getElem (by omega)⟩
 obtain ⟨z, hz⟩ : ∃ z, ys[k]? = some z := ⟨_, List.getElem?_eq_getElem (by omega)⟩
 refine Zn (a := a) (sz := 1) (rows := Z7 xs) (by intro h0; simp [Z7] at h0; simp [h0] at hx) (fun b off he => ?_)
 subst he
 refine Zn (a := a2) (sz := 1) (rows := Z7 ys) (by intro h0; simp [Z7] at h0; simp [h0] at hz) (fun b2 off2 he => ?_)
 subst he
 refine Z2 (Z0 (Z4 (sqt 2 rfl (pur 2 rfl (Z0 ?_)))))
 refine Ze [0, 0, 3, 7, 0, 0, 48, 112, 255] (tks 0 3 (.ld 3 (tks 4 3 (.ld 7 (.tk 8 .done))))) Zu (by kernel_rfl) ?_
 refine Zl 2 rfl (tk rfl (PE.indexAddr Z1p rfl rfl (by omega) (by omega)) rfl (ld rfl rfl (lf0 sc3 (by simp [Z7, hx]; rfl) rfl) rfl (Zl 2 rfl (tk rfl (PE.indexAddr Z1p rfl rfl (by omega) (by omega)) rfl (ld rfl rfl (lf0 sc3 (by simp [Z7, hz]; rfl) rfl) rfl (Zl 1 rfl ?_))))))
 refine Z1 rfl ?_ ?_ <;> intro hc2
 have hne : xs ≠ ys := fun e => by subst e; rw [hx] at hz; cases hz; simp at hc2
 refine sqt 1 rfl (pur 1 rfl (Z6 ?_))
 exact rtA rfl rfl rfl ⟨by first | (simp only [Z08]; rw [dT heq]; done) | (simp only [Z08]; rw [dF hne]), rfl, rfl⟩ idH
 have hxz : x = z := by simpa using hc2
 refine Z2 (sqr 2 rfl (sp rfl (PE.add rfl rfl (by omega)) rfl (pur 1 rfl ?_)))
 exact Za ⟨k + 1, by omega, by rw [List.take_add_one, List.take_add_one, hn, hx, hz, hxz]⟩ idH
 simp only [cS] at hc1
 obtain rfl : k = xs.length := by omega
 have heq : xs = ys := by
   rw [List.take_length] at hn
   exact hn.trans (by rw [hle]; exact List.take_length)
 refine Zb (Zc (Zc (Zp (sqt 1 rfl (pur 1 rfl (Z6 ?_))))))
 exact rtA rfl rfl rfl ⟨by first | (simp only [Z08]; rw [dT heq]; done) | (simp only [Z08]; rw [dF hne]), rfl, rfl⟩ idH
theorem Z2q (xs ys : List Int) (a a2 : Option Addr) (c c2 : Nat) (hl : xs.length ≤ 9223372036854775807) (hl2 : ys.length ≤ 9223372036854775807) (H : Z9) (R : Z5) [hR : MemRows a 1 (Z7 xs) R] [hR2 : MemRows a2 1 (Z7 ys) R] :
    FnV Try.prog 49 [.slice a xs.length c, .slice a2 ys.length c2] H R (.bool (decide (xs = ys))) := by
 refine Zj Try.func49 rfl Try.ntmps49 rfl ?_
 refine sqt 1 rfl (pur 1 rfl (sqt 4 rfl (pur 2 rfl ?_)))
 refine clV rfl Zcx rfl rfl (Z8g xs ys a a2 c c2 hl hl2 _ _) ?_
 refine pur 1 rfl (Z6 ?_)
 exact rtA rfl rfl rfl ⟨rfl, rfl, rfl⟩ drp
theorem Z9x : cal Try.prog 12 = true := by kernel_rfl
theorem Z88 : cal Try.prog 14 = true := by kernel_rfl
theorem Za0 : cal Try.prog 15 = true := by kernel_rfl
theorem ZcQ : cal Try.prog 18 = true := by kernel_rfl
theorem Zd1 : cal Try.prog 22 = true := by kernel_rfl
theorem Zdt : cal Try.prog 23 = true := by kernel_rfl
theorem ZcZ : cal Try.prog 25 = true := by kernel_rfl
theorem Z47 : cal Try.prog 47 = true := by kernel_rfl
theorem Zcs : cal Try.prog 48 = true := by kernel_rfl
theorem Z8u : cal Try.prog 49 = true := by kernel_rfl
set_option maxHeartbeats 1000000 in
theorem Z7K (H : Z9) (R : Z5) :
    FnV Try.prog 16 [] H R (.bool true) := by
 refine Zj Try.func16 rfl Try.ntmps16 rfl ?_
 refine sqt 1 rfl (pur 1 rfl (sqt 8 rfl ?_))
 refine cl rfl Z47 rfl rfl (Z4e 0 (by decide) _ _) ?_
 rintro _ _ R1 ⟨ag18, as18, cg18, cs18, rfl, _, rfl, hR1⟩
 obtain rfl := hR1.symm
 clear hR1
 refine bsl (out := [_]) rfl Z13 zl3 rfl rfl rfl rfl rfl rfl (fun b19 => ?_)
 refine Sy.heap (fun w h9 => St.rows (sz := 1) (rows := Z7 [0]) (rest := []) (h9.pull b19) (by simp)) ?_
 refine cl rfl ZcQ rfl rfl (Zap (six 0) ag18 as18 cg18 cs18 (by decide) (by decide) [0] (some ⟨b19, 0, none⟩) 1 (by decide) (by decide) _ _) ?_
 rintro _ _ R1 ⟨a1, c1, _, rfl, rfl, hR1⟩
 obtain rfl := hR1.symm
 clear hR1
 rw [six_w.1, six_w.2]
 refine pur 5 rfl (sqt 7 rfl ?_)
 refine cl rfl Z47 rfl rfl (Z4e 2 (by decide) _ _) ?_
 rintro _ _ R1 ⟨ag24, as24, cg24, cs24, rfl, _, rfl, hR1⟩
 obtain rfl := hR1.symm
 clear hR1
 refine cl rfl Z88 rfl rfl (Z1B (six 2) ag24 as24 cg24 cs24 (by decide) (by decide) _ _) ?_
 rintro _ _ R1 ⟨a2, c2, _, rfl, rfl, hR1⟩
 obtain rfl := hR1.symm
 clear hR1
 rw [six_o.1, six_o.2]
 refine pur 5 rfl (sqt 7 rfl ?_)
 refine cl rfl Z47 rfl rfl (Z4e 2 (by decide) _ _) ?_
 rintro _ _ R1 ⟨ag29, as29, cg29, cs29, rfl, _, rfl, hR1⟩
 obtain rfl := hR1.symm
 clear hR1
 refine cl rfl Za0 rfl rfl (Z3G (six 2) ag29 as29 cg29 cs29 (by decide) (by decide) 1 _ _) ?_
 rintro _ _ R1 ⟨a3, c3, _, rfl, rfl, hR1⟩
 obtain rfl := hR1.symm
 clear hR1
 rw [six_s.1, six_s.2]
 refine pur 5 rfl (sqt 7 rfl ?_)
 refine cl rfl Z47 rfl rfl (Z4e 3 (by decide) _ _) ?_
 rintro _ _ R1 ⟨ag34, as34, cg34, cs34, rfl, _, rfl, hR1⟩
 obtain rfl := hR1.symm
 clear hR1
 refine cl rfl Z9x rfl rfl (Z56 (six 3) ag34 as34 cg34 cs34 (by decide) (by decide) _ _) ?_
 rintro _ _ R1 ⟨a4, c4, _, rfl, rfl, hR1⟩
 obtain rfl := hR1.symm
 clear hR1
 rw [six_c.1, six_c.2]
 refine pur 5 rfl (sqt 9 rfl ?_)
 refine cl rfl Z47 rfl rfl (Z4e 0 (by decide) _ _) ?_
 rintro _ _ R1 ⟨ag39, as39, cg39, cs39, rfl, _, rfl, hR1⟩
 obtain rfl := hR1.symm
 clear hR1
 refine bsl (out := [_]) rfl Z13 zl3 rfl rfl rfl rfl rfl rfl (fun b40 => ?_)
 refine bsl (out := [_]) rfl Z13 zl3 rfl rfl rfl rfl rfl rfl (fun b41 => ?_)
 refine Sy.heap (fun w h9 => St.rows (sz := 1) (rows := Z7 [0]) (rest := []) (h9.pull b40) (by simp)) ?_
 refine Sy.heap (fun w h9 => St.rows (sz := 1) (rows := Z7 [1]) (rest := []) (h9.pull b41) (by simp)) ?_
 refine cl rfl ZcZ rfl rfl (Z8N (six 0) ag39 as39 cg39 cs39 (by decide) (by decide) [0] [1] (some ⟨b40, 0, none⟩) (some ⟨b41, 0, none⟩) 1 1 (by decide) (by decide) (by decide) (by decide) 1 _ _) ?_
 rintro _ _ R1 ⟨rfl, hR1, hq⟩
 obtain rfl := hR1.symm
 clear hR1
 rcases hq with ⟨h9, _⟩ | ⟨_, hn, _⟩ | ⟨_, n, _, hn, rfl⟩
 · exact absurd six_b.2.2 h9
 · exact absurd six_few.1 (hn 3)
 obtain rfl := hn.unique six_few
 refine pur 5 rfl (sqt 12 rfl ?_)
 refine cl rfl Z47 rfl rfl (Z4e 0 (by decide) _ _) ?_
 rintro _ _ R1 ⟨Z5A, as46, cg46, cs46, rfl, _, rfl, hR1⟩
 obtain rfl := hR1.symm
 clear hR1
 refine bsl (out := [_]) rfl Z13 zl3 rfl rfl rfl rfl rfl rfl (fun b47 => ?_)
 refine bsl (out := [_]) rfl Z13 zl3 rfl rfl rfl rfl rfl rfl (fun b48 => ?_)
 refine bsl (out := [_, _]) rfl Z13 zl3 rfl rfl rfl rfl rfl rfl (fun b49 => ?_)
 refine bsl (out := [_, _]) rfl Z13 zl3 rfl rfl rfl rfl rfl rfl (fun b50 => ?_)
 refine bsl (out := [_, _]) rfl Zci Za7 rfl rfl rfl rfl rfl rfl (fun b51 => ?_)
 refine Sy.heap (fun w h9 => St.rows (sz := 1) (rows := Z7 [0]) (rest := []) (h9.pull b47) (by simp)) ?_
 refine Sy.heap (fun w h9 => St.rows (sz := 1) (rows := Z7 [3]) (rest := []) (h9.pull b48) (by simp)) ?_
 refine Sy.heap (fun w h9 => St.rows (sz := 1) (rows := Z7 [0, 2]) (rest := []) (h9.pull b49) (by simp)) ?_
 refine Sy.heap (fun w h9 => St.rows (sz := 1) (rows := Z7 [1, 3]) (rest := []) (h9.pull b50) (by simp)) ?_
 refine Sy.heap (fun w h9 => St.rows (sz := 1) (rows := ZG [⟨some ⟨b49, 0, none⟩, 2, [0, 2]⟩, ⟨some ⟨b50, 0, none⟩, 2, [1, 3]⟩]) (rest := []) (h9.pull b51) (by simp [ZG, Z61])) ?_
 refine Sy.heap (fun w h9 => St.inn0 h9) ?_
 refine Sy.heap (fun w h9 => (show St _ (Inn [⟨some ⟨b49, 0, none⟩, 2, [0, 2]⟩] :: _) w from St.innSnoc (l := []) ⟨some ⟨b49, 0, none⟩, 2, [0, 2]⟩ h9)) ?_
 refine Sy.heap (fun w h9 => (show St _ (Inn [⟨some ⟨b49, 0, none⟩, 2, [0, 2]⟩, ⟨some ⟨b50, 0, none⟩, 2, [1, 3]⟩] :: _) w from St.innSnoc (l := [⟨some ⟨b49, 0, none⟩, 2, [0, 2]⟩]) ⟨some ⟨b50, 0, none⟩, 2, [1, 3]⟩ h9)) ?_
 refine cl rfl Zcs rfl rfl (Z9P (six 0) Z5A as46 cg46 cs46 (by decide) (by decide) [0] [3] (some ⟨b47, 0, none⟩) (some ⟨b48, 0, none⟩) 1 1 (by decide) (by decide) (by decide) (by decide) [⟨some ⟨b49, 0, none⟩, 2, [0, 2]⟩, ⟨some ⟨b50, 0, none⟩, 2, [1, 3]⟩] (some ⟨b51, 0, none⟩) 2 (by show 2 ≤ 1000000; decide) (by show 4 ≤ 1000000; decide) _ _) ?_
 rintro _ _ _ ⟨rfl, rfl, rfl⟩
 rw [show lls [⟨some ⟨b49, 0, none⟩, 2, [0, 2]⟩, ⟨some ⟨b50, 0, none⟩, 2, [1, 3]⟩] = [[0, 2], [1, 3]] from rfl, six_l.1, six_l.2]
 refine pur 5 rfl (sqt 9 rfl ?_)
 refine cl rfl Z47 rfl rfl (Z4e 0 (by decide) _ _) ?_
 rintro _ _ R1 ⟨ag56, as56, cg56, cs56, rfl, _, rfl, hR1⟩
 obtain rfl := hR1.symm
 clear hR1
 refine bsl (out := [_]) rfl Z13 zl3 rfl rfl rfl rfl rfl rfl (fun b57 => ?_)
 refine bsl (out := [_]) rfl Z13 zl3 rfl rfl rfl rfl rfl rfl (fun b58 => ?_)
 refine Sy.heap (fun w h9 => St.rows (sz := 1) (rows := Z7 [0]) (rest := []) (h9.pull b57) (by simp)) ?_
 refine Sy.heap (fun w h9 => St.rows (sz := 1) (rows := Z7 [5]) (rest := []) (h9.pull b58) (by simp)) ?_
 refine cl rfl Zdt rfl rfl (Zdh (six 0) ag56 as56 cg56 cs56 (by decide) (by decide) [0] [5] (some ⟨b57, 0, none⟩) (some ⟨b58, 0, none⟩) 1 1 (by decide) (by decide) (by decide) (by decide) _ _) ?_
 rintro _ _ R1 ⟨rfl, hq⟩
 rcases hq with ⟨h9, _⟩ | ⟨_, f, V, a5, c5, hf, hs, _, rfl, hR1⟩
 · exact absurd six_b.1 h9
 obtain rfl := hR1.symm
 clear hR1
 rw [Z60 hf hs]
 refine pur 5 rfl (sqt 9 rfl ?_)
 refine cl rfl Z47 rfl rfl (Z4e 0 (by decide) _ _) ?_
 rintro _ _ R1 ⟨ag63, as63, cg63, cs63, rfl, _, rfl, hR1⟩
 obtain rfl := hR1.symm
 clear hR1
 refine bsl (out := [_]) rfl Z13 zl3 rfl rfl rfl rfl rfl rfl (fun b64 => ?_)
 refine bsl (out := [_]) rfl Z13 zl3 rfl rfl rfl rfl rfl rfl (fun b65 => ?_)
 refine Sy.heap (fun w h9 => St.rows (sz := 1) (rows := Z7 [0]) (rest := []) (h9.pull b64) (by simp)) ?_
 refine Sy.heap (fun w h9 => St.rows (sz := 1) (rows := Z7 [3]) (rest := []) (h9.pull b65) (by simp)) ?_
 refine cl rfl Zd1 rfl rfl (Z9U (six 0) ag63 as63 cg63 cs63 (by decide) (by decide) [0] [3] (some ⟨b64, 0, none⟩) (some ⟨b65, 0, none⟩) 1 1 (by decide) (by decide) (by decide) (by decide) _ _) ?_
 rintro _ _ R1 ⟨rfl, hR1, hq⟩
 obtain rfl := hR1.symm
 clear hR1
 rcases hq with ⟨h9, _⟩ | ⟨_, n, _, hn1, hn2, rfl⟩
 · exact absurd six_b.2.1 h9
 obtain rfl := Z9L hn1 hn2
 refine pur 5 rfl (sqt 68 rfl (pur 3 rfl ?_))
 refine Zt 71 rfl ?_ ?_ <;> intro g71
 refine pur 4 rfl ?_
 refine Zt 75 rfl ?_ ?_ <;> intro g75
 refine pur 4 rfl ?_
 refine Zt 79 rfl ?_ ?_ <;> intro g79
 refine pur 4 rfl ?_
 refine Zt 83 rfl ?_ ?_ <;> intro g83
 refine pur 4 rfl ?_
 refine Zt 87 rfl ?_ ?_ <;> intro g87
 refine pur 4 rfl ?_
 refine Zt 91 rfl ?_ ?_ <;> intro g91
 refine pur 4 rfl ?_
 refine Zt 95 rfl ?_ ?_ <;> intro g95
 refine pur 4 rfl ?_
 refine Zt 99 rfl ?_ ?_ <;> intro g99
 refine pur 1 rfl ?_
 refine Zcj (out := [_, _, _, _, _, _]) rfl rfl rfl rfl Z13 zl3 rfl rfl rfl rfl rfl rfl (fun b101 => ?_)
 refine Sy.heap (fun w h9 => St.rows (sz := 1) (rows := Z7 [0, 1, 1, 2, 3, 4]) (rest := []) (h9.pull b101) (by simp)) ?_
 refine Z8A rfl rfl rfl rfl Z8u rfl rfl (Z2q [0, 1, 1, 2, 3, 4] [0, 1, 1, 2, 3, 4] a1 (some ⟨b101, 0, none⟩) c1 6 (by decide) (by decide) _ _) ?_
 refine pur 2 rfl ?_
 refine Zt 104 rfl ?_ ?_ <;> intro g104
 refine pur 1 rfl ?_
 refine Zcj (out := [_]) rfl rfl rfl rfl Z13 zl3 rfl rfl rfl rfl rfl rfl (fun b106 => ?_)
 refine Sy.heap (fun w h9 => St.rows (sz := 1) (rows := Z7 [4]) (rest := []) (h9.pull b106) (by simp)) ?_
 refine Z8A rfl rfl rfl rfl Z8u rfl rfl (Z2q [4] [4] a2 (some ⟨b106, 0, none⟩) c2 1 (by decide) (by decide) _ _) ?_
 refine pur 2 rfl ?_
 refine Zt 109 rfl ?_ ?_ <;> intro g109
 refine pur 1 rfl ?_
 refine Zcj (out := [_, _]) rfl rfl rfl rfl Z13 zl3 rfl rfl rfl rfl rfl rfl (fun b111 => ?_)
 refine Sy.heap (fun w h9 => St.rows (sz := 1) (rows := Z7 [4, 5]) (rest := []) (h9.pull b111) (by simp)) ?_
 refine Z8A rfl rfl rfl rfl Z8u rfl rfl (Z2q [4, 5] [4, 5] a3 (some ⟨b111, 0, none⟩) c3 2 (by decide) (by decide) _ _) ?_
 refine pur 2 rfl ?_
 refine Zt 114 rfl ?_ ?_ <;> intro g114
 refine pur 1 rfl ?_
 refine Zcj (out := [_, _, _]) rfl rfl rfl rfl Z13 zl3 rfl rfl rfl rfl rfl rfl (fun b116 => ?_)
 refine Sy.heap (fun w h9 => St.rows (sz := 1) (rows := Z7 [0, 1, 2]) (rest := []) (h9.pull b116) (by simp)) ?_
 refine Z8A rfl rfl rfl rfl Z8u rfl rfl (Z2q [0, 1, 2] [0, 1, 2] a4 (some ⟨b116, 0, none⟩) c4 3 (by decide) (by decide) _ _) ?_
 refine pur 2 rfl ?_
 refine Zt 119 rfl ?_ ?_ <;> intro g119
 refine pur 4 rfl ?_
 refine Zt 123 rfl ?_ ?_ <;> intro g123
 refine pur 4 rfl ?_
 refine Zt 127 rfl ?_ ?_ <;> intro g127
 refine pur 1 rfl ?_
 refine spG rfl rfl rfl rfl (PE.lenSl ZE rfl) rfl ?_
 refine pur 3 rfl ?_
 refine Zt 132 rfl ?_ ?_ <;> intro g132
 refine pur 4 rfl (Z6 ?_)
 exact rtA rfl rfl rfl ⟨rfl, rfl, rfl⟩ (fun w h9 => St.sub h9)
 exact absurd g132 (by decide)
 exact absurd g127 (by decide)
 exact absurd g123 (by decide)
 exact absurd g119 (by decide)
 exact absurd g114 (by decide)
 exact absurd g109 (by decide)
 exact absurd g104 (by decide)
 exact absurd g99 (by decide)
 exact absurd g95 (by decide)
 exact absurd g91 (by decide)
 exact absurd g87 (by decide)
 exact absurd g83 (by decide)
 exact absurd g79 (by decide)
 exact absurd g75 (by decide)
 exact absurd g71 (by decide)
theorem Zcn : apT Try.prog 23 = some (46, 2, 16) := by kernel_rfl
theorem Z2B : cal Try.prog 36 = true := by kernel_rfl
theorem ZcJ : cal Try.prog 50 = true := by kernel_rfl
theorem ZcE : cal Try.prog 51 = true := by kernel_rfl
theorem Zd4 : cal Try.prog 77 = true := by kernel_rfl
theorem Zcz : Z0l Try.prog 70 = some 1 := by kernel_rfl
theorem ZdI : elN Try.prog 22 = some 1 := by kernel_rfl
theorem Z5t : Z28 Try.prog 72 0 = some 0 := by kernel_rfl
theorem Z2P : Z28 Try.prog 72 1 = some 1 := by kernel_rfl
theorem Z0s : Z28 Try.prog 72 2 = some 2 := by kernel_rfl
theorem ZdA : Z9g Try.prog 70 = some .u32 := by kernel_rfl
theorem Z8Z : Z5I Try.prog 22 = true := by kernel_rfl
theorem ZdL : Z14 Try.prog 72 = some [(0, 1), (1, 1), (2, 1)] := by kernel_rfl
theorem Zcl : Z2f Try.prog 22 = true := by kernel_rfl
theorem sc5 : Z2f Try.prog 5 = true := by kernel_rfl
theorem Z73 : Z2f Try.prog 70 = true := by kernel_rfl
theorem us3 : (Try.prog.underlying 3).isSome = true := by kernel_rfl
theorem us5 : (Try.prog.underlying 5).isSome = true := by kernel_rfl
theorem Zcp : (Try.prog.underlying 70).isSome = true := by kernel_rfl
theorem ZdO : ZM Try.prog 72 = some ([.slice none 0 0, .int .i64 0, .int .u32 0]) := by kernel_rfl
def Z70 (x : Int) : List Value := [.int .u8 x]
def Z2c (l : List Int) : List (List Value) := l.map Z70
theorem Z6Z (g : List Int) (ag : Option Addr) (cg : Nat) (hgl : g.length ≤ 9223372036854775807) (H : Z9) (R : Z5) :
    Fn Try.prog 10 [.slice ag g.length cg] H R (fun v H' R' => ∃ bk, ∃ mx : Int, (0 ≤ mx ∧ mx ≤ 4294967295) ∧ v = .pointer (some ⟨bk, 0, none⟩) ∧ H' = (bk, cel 72 [.slice ag g.length cg, .int .i64 (0), .int .u32 (mx)]) :: H ∧ R' = R) := by
 refine Zj Try.func10 rfl Try.ntmps10 rfl ?_
 refine sqt 1 rfl (pur 1 rfl (sqt 8 rfl (pur 2 rfl (sp rfl (PE.lenSl Z8Z rfl) rfl ?_))))
 refine spE rfl (PE.convU us3 ZdA rfl) rfl ?_
 rintro _ ⟨u6, rfl, hu6⟩
 refine spE rfl (PE.xorU rfl rfl) rfl ?_
 rintro _ ⟨u7, rfl, hu7⟩
 refine sp rfl (PE.build (out := [_, _, _]) ZdL ZdO rfl rfl) rfl (bx rfl rfl rfl (fun b9 => pur 1 rfl (Z6 ?_)))
 exact rtA rfl rfl rfl ⟨b9, u7, hu7, rfl, rfl, rfl⟩ idH
theorem Z6B (g : List Int) (ag : Option Addr) (cg bk : Nat) (hgl : g.length ≤ 9223372036854775807) (tq mx : Int) (htq : 0 ≤ tq ∧ tq ≤ 1000000000) (hmx : 0 ≤ mx ∧ mx ≤ 4294967295) (H : Z9) (R : Z5) [hG : MemRows ag 1 (Z2c g) R] :
    Fn Try.prog 77 [.pointer (some ⟨bk, 0, none⟩)] ((bk, cel 72 [.slice ag g.length cg, .int .i64 (tq), .int .u32 (mx)]) :: H) R (fun v H' R' => ∃ x m' : Int, (0 ≤ x ∧ x ≤ 65535) ∧ v = .int .i64 x ∧ (0 ≤ m' ∧ m' ≤ 4294967295) ∧ H' = (bk, cel 72 [.slice ag g.length cg, .int .i64 (tq + 1), .int .u32 (m')]) :: H ∧ R' = R) := by
 refine Zj Try.func77 rfl Try.ntmps77 rfl ?_
 refine sqt 1 rfl (pur 1 rfl (Z0 (sqt 6 rfl (pur 1 rfl (sp rfl (PE.nilCheck rfl) rfl (sp rfl (PE.fA Z5t rfl) rfl (spL rfl rfl (lh Zcl rfl rfl) rfl (sp rfl (PE.lenSl Z8Z rfl) rfl (pur 1 rfl (sqt 2 rfl (pur 2 rfl ?_)))))))))))
 refine Z1 rfl ?_ ?_ <;> intro hc0 <;> try simp only [cS] at hc0
 obtain ⟨y, hy⟩ : ∃ y, g[(tq % g.length).toNat]? = some y := ⟨_, List.getElem?_eq_getElem (by have := Int.emod_lt_of_pos tq hc0; have := Int.emod_nonneg tq (show (g.length : Int) ≠ 0 by omega); omega)⟩
 refine Zn (a := ag) (sz := 1) (rows := Z2c g) (by intro h0; simp [Z2c] at h0; simp [h0] at hy) (fun bgr ogr he => ?_)
 subst he
 refine Ze [0, 0, 2, 6, 14, 0, 32, 96, 224, 0, 512, 1536, 3584, 0, 15872, 32736, 65504, 131040, 262142, 524286, 1048575, 2097151, 4194303] (tks 0 4 (.ld 4 (tks 5 3 (.ld 8 (tks 9 3 (.ld 12 (tks 13 3 (.ld 16 (tks 17 5 (.big 22 .done)))))))))) Zu (by kernel_rfl) ?_
 refine Zl 2 rfl (tk rfl (PE.nilCheck rfl) rfl (tk rfl (PE.fA Z0s rfl) rfl (ld rfl rfl (lh Z73 rfl rfl) rfl (Zl 1 rfl (tk rfl (PE.nilCheck rfl) rfl (tk rfl (PE.fA Z5t rfl) rfl (ld rfl rfl (lh Zcl rfl rfl) rfl (Zl 1 rfl (tk rfl (PE.nilCheck rfl) rfl (tk rfl (PE.fA Z2P rfl) rfl (ld rfl rfl (lh sc3 rfl rfl) rfl (Zl 1 rfl (tk rfl (PE.rem rfl rfl (by omega)) rfl (tk rfl (PE.indexAddr ZdI rfl rfl (by exact Int.emod_nonneg tq (by omega)) (by exact Int.emod_lt_of_pos tq hc0)) rfl (ld rfl rfl (lf0 (x := .int .u8 y) sc5 (by simp [Z2c, Z70, hy]; rfl) rfl) rfl ?_)))))))))))))))
 refine tkE rfl (PE.convU us5 ZdA rfl) rfl ?_
 rintro _ ⟨u28, rfl, hu28⟩
 refine tkE rfl (PE.xorU rfl rfl) rfl ?_
 rintro _ ⟨u29, rfl, hu29⟩
 refine tkE rfl (PE.mulU rfl rfl) rfl ?_
 rintro _ ⟨u30, rfl, hu30⟩
 refine tk rfl (PE.nilCheck rfl) rfl (tk rfl (PE.fA Z0s rfl) rfl ?_)
 refine sto rfl rfl rfl Zcz rfl rfl rfl rfl ?_
 refine bgT (sqt 8 rfl (pur 1 rfl (sp rfl (PE.nilCheck rfl) rfl (sp rfl (PE.fA Z2P rfl) rfl (spL rfl rfl (lh sc3 rfl rfl) rfl (sp rfl (PE.add rfl rfl (by omega)) rfl (sp rfl (PE.nilCheck rfl) rfl (sp rfl (PE.fA Z2P rfl) rfl ?_))))))))
 refine sto rfl rfl rfl cn3 rfl rfl rfl rfl ?_
 refine Z0 (Z0 ?_)
 refine Ze [0, 1, 3, 7, 0, 16, 48, 112, 240, 511] (tks 0 3 (.ld 3 (tks 4 3 (.ld 7 (.tk 8 (.tk 9 .done)))))) Zu (by kernel_rfl) ?_
 refine Zl 1 rfl (tk rfl (PE.nilCheck rfl) rfl (tk rfl (PE.fA Z2P rfl) rfl (ld rfl rfl (lh sc3 rfl rfl) rfl (Zl 1 rfl (tk rfl (PE.nilCheck rfl) rfl (tk rfl (PE.fA Z5t rfl) rfl (ld rfl rfl (lh Zcl rfl rfl) rfl (tk rfl (PE.lenSl Z8Z rfl) rfl (Zl 1 rfl ?_)))))))))
 refine Z1 rfl ?_ ?_ <;> intro hc1 <;> try simp only [cS] at hc1
 refine sqr 10 rfl (pur 2 rfl (sp rfl (PE.nilCheck rfl) rfl (sp rfl (PE.fA Z0s rfl) rfl (spL rfl rfl (lh Z73 rfl rfl) rfl ?_))))
 refine spE rfl (PE.mulU rfl rfl) rfl ?_
 rintro _ ⟨u55, rfl, hu55⟩
 refine spE rfl (PE.addU rfl rfl) rfl ?_
 rintro _ ⟨u56, rfl, hu56⟩
 refine sp rfl (PE.nilCheck rfl) rfl (sp rfl (PE.fA Z0s rfl) rfl ?_)
 refine sto rfl rfl rfl Zcz rfl rfl rfl rfl ?_
 refine Z0 ?_
 refine Ze [0, 1, 3, 7, 0, 16, 48, 112, 240, 511, 1023, 2047, 4095, 8191] (tks 0 3 (.ld 3 (tks 4 3 (.ld 7 (tks 8 6 .done))))) Zu (by kernel_rfl) ?_
 refine Zl 1 rfl (tk rfl (PE.nilCheck rfl) rfl (tk rfl (PE.fA Z0s rfl) rfl (ld rfl rfl (lh Z73 rfl rfl) rfl (Zl 1 rfl (tk rfl (PE.nilCheck rfl) rfl (tk rfl (PE.fA Z0s rfl) rfl (ld rfl rfl (lh Z73 rfl rfl) rfl ?_)))))))
 refine tkE rfl (PE.shrU rfl rfl (by decide) (by omega) (by omega)) rfl ?_
 rintro _ ⟨u67, rfl, hu67⟩
 refine tkE rfl (PE.xorU rfl rfl) rfl ?_
 rintro _ ⟨u68, rfl, hu68⟩
 refine tkE rfl (PE.shrU rfl rfl (by decide) (by omega) (by omega)) rfl ?_
 rintro _ ⟨u69, rfl, hu69⟩
 refine tkE rfl (PE.andU rfl rfl (by decide) (by decide)) rfl ?_
 rintro _ ⟨u70, rfl, hu70⟩
 refine tk rfl (PE.conv64 Zcp ik3 rfl (by omega)) rfl (Zl 1 rfl (Z6 ?_))
 first
   | exact rtA rfl rfl rfl ⟨u70, _, hu70, rfl, hu56, rfl, rfl⟩ idH
   | exact rtA rfl rfl rfl ⟨u70, _, hu70, rfl, hu30, rfl, rfl⟩ idH
   | exact rtA rfl rfl rfl ⟨u70, _, hu70, rfl, hmx, rfl, rfl⟩ idH
 refine Z2 (Z0 ?_)
 refine Ze [0, 1, 3, 7, 0, 16, 48, 112, 240, 511, 1023, 2047, 4095, 8191] (tks 0 3 (.ld 3 (tks 4 3 (.ld 7 (tks 8 6 .done))))) Zu (by kernel_rfl) ?_
 refine Zl 1 rfl (tk rfl (PE.nilCheck rfl) rfl (tk rfl (PE.fA Z0s rfl) rfl (ld rfl rfl (lh Z73 rfl rfl) rfl (Zl 1 rfl (tk rfl (PE.nilCheck rfl) rfl (tk rfl (PE.fA Z0s rfl) rfl (ld rfl rfl (lh Z73 rfl rfl) rfl ?_)))))))
 refine tkE rfl (PE.shrU rfl rfl (by decide) (by omega) (by omega)) rfl ?_
 rintro _ ⟨u67, rfl, hu67⟩
 refine tkE rfl (PE.xorU rfl rfl) rfl ?_
 rintro _ ⟨u68, rfl, hu68⟩
 refine tkE rfl (PE.shrU rfl rfl (by decide) (by omega) (by omega)) rfl ?_
 rintro _ ⟨u69, rfl, hu69⟩
 refine tkE rfl (PE.andU rfl rfl (by decide) (by decide)) rfl ?_
 rintro _ ⟨u70, rfl, hu70⟩
 refine tk rfl (PE.conv64 Zcp ik3 rfl (by omega)) rfl (Zl 1 rfl (Z6 ?_))
 first
   | exact rtA rfl rfl rfl ⟨u70, _, hu70, rfl, hu56, rfl, rfl⟩ idH
   | exact rtA rfl rfl rfl ⟨u70, _, hu70, rfl, hu30, rfl, rfl⟩ idH
   | exact rtA rfl rfl rfl ⟨u70, _, hu70, rfl, hmx, rfl, rfl⟩ idH
 refine Z2 (sqt 8 rfl (pur 1 rfl (sp rfl (PE.nilCheck rfl) rfl (sp rfl (PE.fA Z2P rfl) rfl (spL rfl rfl (lh sc3 rfl rfl) rfl (sp rfl (PE.add rfl rfl (by omega)) rfl (sp rfl (PE.nilCheck rfl) rfl (sp rfl (PE.fA Z2P rfl) rfl ?_))))))))
 refine sto rfl rfl rfl cn3 rfl rfl rfl rfl ?_
 refine Z0 (Z0 ?_)
 refine Ze [0, 1, 3, 7, 0, 16, 48, 112, 240, 511] (tks 0 3 (.ld 3 (tks 4 3 (.ld 7 (.tk 8 (.tk 9 .done)))))) Zu (by kernel_rfl) ?_
 refine Zl 1 rfl (tk rfl (PE.nilCheck rfl) rfl (tk rfl (PE.fA Z2P rfl) rfl (ld rfl rfl (lh sc3 rfl rfl) rfl (Zl 1 rfl (tk rfl (PE.nilCheck rfl) rfl (tk rfl (PE.fA Z5t rfl) rfl (ld rfl rfl (lh Zcl rfl rfl) rfl (tk rfl (PE.lenSl Z8Z rfl) rfl (Zl 1 rfl ?_)))))))))
 refine Z1 rfl ?_ ?_ <;> intro hc1 <;> try simp only [cS] at hc1
 refine sqr 10 rfl (pur 2 rfl (sp rfl (PE.nilCheck rfl) rfl (sp rfl (PE.fA Z0s rfl) rfl (spL rfl rfl (lh Z73 rfl rfl) rfl ?_))))
 refine spE rfl (PE.mulU rfl rfl) rfl ?_
 rintro _ ⟨u55, rfl, hu55⟩
 refine spE rfl (PE.addU rfl rfl) rfl ?_
 rintro _ ⟨u56, rfl, hu56⟩
 refine sp rfl (PE.nilCheck rfl) rfl (sp rfl (PE.fA Z0s rfl) rfl ?_)
 refine sto rfl rfl rfl Zcz rfl rfl rfl rfl ?_
 refine Z0 ?_
 refine Ze [0, 1, 3, 7, 0, 16, 48, 112, 240, 511, 1023, 2047, 4095, 8191] (tks 0 3 (.ld 3 (tks 4 3 (.ld 7 (tks 8 6 .done))))) Zu (by kernel_rfl) ?_
 refine Zl 1 rfl (tk rfl (PE.nilCheck rfl) rfl (tk rfl (PE.fA Z0s rfl) rfl (ld rfl rfl (lh Z73 rfl rfl) rfl (Zl 1 rfl (tk rfl (PE.nilCheck rfl) rfl (tk rfl (PE.fA Z0s rfl) rfl (ld rfl rfl (lh Z73 rfl rfl) rfl ?_)))))))
 refine tkE rfl (PE.shrU rfl rfl (by decide) (by omega) (by omega)) rfl ?_
 rintro _ ⟨u67, rfl, hu67⟩
 refine tkE rfl (PE.xorU rfl rfl) rfl ?_
 rintro _ ⟨u68, rfl, hu68⟩
 refine tkE rfl (PE.shrU rfl rfl (by decide) (by omega) (by omega)) rfl ?_
 rintro _ ⟨u69, rfl, hu69⟩
 refine tkE rfl (PE.andU rfl rfl (by decide) (by decide)) rfl ?_
 rintro _ ⟨u70, rfl, hu70⟩
 refine tk rfl (PE.conv64 Zcp ik3 rfl (by omega)) rfl (Zl 1 rfl (Z6 ?_))
 first
   | exact rtA rfl rfl rfl ⟨u70, _, hu70, rfl, hu56, rfl, rfl⟩ idH
   | exact rtA rfl rfl rfl ⟨u70, _, hu70, rfl, hu30, rfl, rfl⟩ idH
   | exact rtA rfl rfl rfl ⟨u70, _, hu70, rfl, hmx, rfl, rfl⟩ idH
 refine Z2 (Z0 ?_)
 refine Ze [0, 1, 3, 7, 0, 16, 48, 112, 240, 511, 1023, 2047, 4095, 8191] (tks 0 3 (.ld 3 (tks 4 3 (.ld 7 (tks 8 6 .done))))) Zu (by kernel_rfl) ?_
 refine Zl 1 rfl (tk rfl (PE.nilCheck rfl) rfl (tk rfl (PE.fA Z0s rfl) rfl (ld rfl rfl (lh Z73 rfl rfl) rfl (Zl 1 rfl (tk rfl (PE.nilCheck rfl) rfl (tk rfl (PE.fA Z0s rfl) rfl (ld rfl rfl (lh Z73 rfl rfl) rfl ?_)))))))
 refine tkE rfl (PE.shrU rfl rfl (by decide) (by omega) (by omega)) rfl ?_
 rintro _ ⟨u67, rfl, hu67⟩
 refine tkE rfl (PE.xorU rfl rfl) rfl ?_
 rintro _ ⟨u68, rfl, hu68⟩
 refine tkE rfl (PE.shrU rfl rfl (by decide) (by omega) (by omega)) rfl ?_
 rintro _ ⟨u69, rfl, hu69⟩
 refine tkE rfl (PE.andU rfl rfl (by decide) (by decide)) rfl ?_
 rintro _ ⟨u70, rfl, hu70⟩
 refine tk rfl (PE.conv64 Zcp ik3 rfl (by omega)) rfl (Zl 1 rfl (Z6 ?_))
 first
   | exact rtA rfl rfl rfl ⟨u70, _, hu70, rfl, hu56, rfl, rfl⟩ idH
   | exact rtA rfl rfl rfl ⟨u70, _, hu70, rfl, hu30, rfl, rfl⟩ idH
   | exact rtA rfl rfl rfl ⟨u70, _, hu70, rfl, hmx, rfl, rfl⟩ idH
theorem Z0m (g : List Int) (ag : Option Addr) (cg bk : Nat) (hgl : g.length ≤ 9223372036854775807) (tq mx : Int) (htq : 0 ≤ tq ∧ tq ≤ 1000000000) (hmx : 0 ≤ mx ∧ mx ≤ 4294967295) (n : Int) (H : Z9) (R : Z5) [hG : MemRows ag 1 (Z2c g) R] :
    Fn Try.prog 36 [.pointer (some ⟨bk, 0, none⟩), .int .i64 n] ((bk, cel 72 [.slice ag g.length cg, .int .i64 (tq), .int .u32 (mx)]) :: H) R (fun v H' R' => ∃ x m' : Int, (0 ≤ x ∧ x < max 1 n) ∧ v = .int .i64 x ∧ (0 ≤ m' ∧ m' ≤ 4294967295) ∧ H' = (bk, cel 72 [.slice ag g.length cg, .int .i64 (tq + 1), .int .u32 (m')]) :: H ∧ R' = R) := by
 refine Zj Try.func36 rfl Try.ntmps36 rfl ?_
 refine sqt 1 rfl (pur 1 rfl (sqt 6 rfl (pur 1 rfl ?_)))
 refine cl rfl Zd4 rfl rfl (Z6B g ag cg bk hgl tq mx htq hmx _ _) ?_
 rintro _ _ _ ⟨x, m', hx, rfl, hm', rfl, rfl⟩
 refine pur 1 rfl (sp rfl (PE.max rfl rfl) rfl (sp rfl (PE.rem rfl rfl (by omega)) rfl (pur 1 rfl (Z6 ?_))))
 exact rtA rfl rfl rfl ⟨_, m', ⟨Int.emod_nonneg _ (by omega), Int.emod_lt_of_pos _ (by omega)⟩, rfl, hm', rfl, rfl⟩ idH
theorem Z9F (g : List Int) (ag : Option Addr) (cg bk : Nat) (hgl : g.length ≤ 9223372036854775807) (tq mx : Int) (htq : 0 ≤ tq ∧ tq ≤ 1000000000) (hmx : 0 ≤ mx ∧ mx ≤ 4294967295) (lo hi : Int) (hb : -1000000 ≤ lo ∧ lo ≤ 1000000 ∧ -1000000 ≤ hi ∧ hi ≤ 1000000) (H : Z9) (R : Z5) [hG : MemRows ag 1 (Z2c g) R] :
    Fn Try.prog 35 [.pointer (some ⟨bk, 0, none⟩), .int .i64 lo, .int .i64 hi] ((bk, cel 72 [.slice ag g.length cg, .int .i64 (tq), .int .u32 (mx)]) :: H) R (fun v H' R' => ∃ x m' : Int, (lo ≤ x ∧ x < lo + max 1 (hi - lo + 1)) ∧ v = .int .i64 x ∧ (0 ≤ m' ∧ m' ≤ 4294967295) ∧ H' = (bk, cel 72 [.slice ag g.length cg, .int .i64 (tq + 1), .int .u32 (m')]) :: H ∧ R' = R) := by
 refine Zj Try.func35 rfl Try.ntmps35 rfl ?_
 refine sqt 1 rfl (pur 1 rfl (sqt 9 rfl (pur 4 rfl (sp rfl (PE.sub rfl rfl (by omega)) rfl (sp rfl (PE.add rfl rfl (by omega)) rfl ?_)))))
 refine cl rfl Z2B rfl rfl (Z0m g ag cg bk hgl tq mx htq hmx (hi - lo + 1) _ _) ?_
 rintro _ _ _ ⟨x, m', hx, rfl, hm', rfl, rfl⟩
 refine sp rfl (PE.add rfl rfl (by omega)) rfl (pur 1 rfl (Z6 ?_))
 exact rtA rfl rfl rfl ⟨lo + x, m', ⟨by omega, by omega⟩, rfl, hm', rfl, rfl⟩ idH
theorem Z59 (g : List Int) (ag : Option Addr) (cg bk : Nat) (hgl : g.length ≤ 9223372036854775807) (tq mx : Int) (htq : 0 ≤ tq ∧ tq ≤ 1000000000) (hmx : 0 ≤ mx ∧ mx ≤ 4294967295) (n : Int) (H : Z9) (R : Z5) [hG : MemRows ag 1 (Z2c g) R] :
    Fn Try.prog 13 [.pointer (some ⟨bk, 0, none⟩), .int .i64 n] ((bk, cel 72 [.slice ag g.length cg, .int .i64 (tq), .int .u32 (mx)]) :: H) R (fun v H' R' => ∃ (x : Bool) (m' : Int), v = .bool x ∧ (0 ≤ m' ∧ m' ≤ 4294967295) ∧ H' = (bk, cel 72 [.slice ag g.length cg, .int .i64 (tq + 1), .int .u32 (m')]) :: H ∧ R' = R) := by
 refine Zj Try.func13 rfl Try.ntmps13 rfl ?_
 refine sqt 1 rfl (pur 1 rfl (sqt 5 rfl (pur 2 rfl ?_)))
 refine cl rfl Z2B rfl rfl (Z0m g ag cg bk hgl tq mx htq hmx n _ _) ?_
 rintro _ _ _ ⟨x, m', hx, rfl, hm', rfl, rfl⟩
 refine pur 2 rfl (Z6 ?_)
 exact rtA rfl rfl rfl ⟨_, m', rfl, hm', rfl, rfl⟩ idH
theorem Z7J (xs : List Gp) (a : Option Addr) (c : Nat) (hl : xs.length ≤ 1000000) (H : Z9) (R : Z5) [hR : MemRows a 2 (Zi xs) R] :
    Fn Try.prog 50 [.slice a xs.length c] H R (fun v H' R' => ∃ o : OSl 46 2 (Zi xs), v = o.fs ∧ o.here ∧ H' = o.G ++ H ∧ R' = R) := by
 refine Zj Try.func50 rfl Try.ntmps50 rfl ?_
 refine sqt 1 rfl (pur 1 rfl (sqt 6 rfl (pur 1 rfl (sp rfl (PE.lenSl Z3F rfl) rfl ?_))))
 refine mkO rfl Zcn Z33 rfl rfl ⟨by omega, by omega⟩ rfl (fun o ho => ?_)
 refine pur 1 rfl ?_
 refine ZcU (news := Zi xs) o rfl Zcn rfl rfl (Z7v) (by simp [Zi]) (by simp [ZY, Zi, Z1q, Value.oneCell']) ⟨by simp [Zi]; omega, by simp [Zi]; omega⟩ rfl ho (fun o2 ho2 => ?_)
 refine pur 1 rfl (Z6 ?_)
 exact rtA rfl rfl rfl ⟨o2.cast (by simp), rfl, ho2, rfl, rfl⟩ idH
theorem Z6q (xs : List Sgt) (a : Option Addr) (c : Nat) (hl : xs.length ≤ 1000000) (H : Z9) (R : Z5) [hR : MemRows a 3 (Zd xs) R] :
    Fn Try.prog 51 [.slice a xs.length c] H R (fun v H' R' => ∃ o : OSl 38 3 (Zd xs), v = o.fs ∧ o.here ∧ H' = o.G ++ H ∧ R' = R) := by
 refine Zj Try.func51 rfl Try.ntmps51 rfl ?_
 refine sqt 1 rfl (pur 1 rfl (sqt 6 rfl (pur 1 rfl (sp rfl (PE.lenSl Z4L rfl) rfl ?_))))
 refine mkO rfl Z9B Z4x rfl rfl ⟨by omega, by omega⟩ rfl (fun o ho => ?_)
 refine pur 1 rfl ?_
 refine ZcU (news := Zd xs) o rfl Z9B rfl rfl (Z7v) (by simp [Zd]) (by simp [ZY, Zd, Z1N, Value.oneCell', Value.oneCell']) ⟨by simp [Zd]; omega, by simp [Zd]; omega⟩ rfl ho (fun o2 ho2 => ?_)
 refine pur 1 rfl (Z6 ?_)
 exact rtA rfl rfl rfl ⟨o2.cast (by simp), rfl, ho2, rfl, rfl⟩ idH
theorem Zdb (h : Hse) (ag as_ : Option Addr) (cg cs : Nat) (hlg : h.gaps.length ≤ 1000000) (hls : h.sights.length ≤ 1000000) (H : Z9) (R : Z5) [hG : MemRows ag 2 (Zi h.gaps) R] [hS : MemRows as_ 3 (Zd h.sights) R] :
    Fn Try.prog 17 [h.v (h.sg ag cg) (h.ss as_ cs)] H R (fun v H' R' => ∃ (og : OSl 46 2 (Zi h.gaps)) (os : OSl 38 3 (Zd h.sights)), v = h.v og.fs os.fs ∧ H' = os.G ++ (og.G ++ H) ∧ R' = R) := by
 refine Zj Try.func17 rfl Try.ntmps17 rfl ?_
 refine sqt 2 rfl (bx rfl rfl rfl (fun b1 => alc rfl Z83 rfl (fun b2 => Z0 ?_)))
 refine Ze [0, 1, 0, 4, 12, 0, 32, 124, 255, 511] (.tk 0 (.ld 1 (.tk 2 (.ld 3 (.tk 5 (.ld 6 (.big 4 (.big 7 (.tk 8 (.big 9 .done)))))))))) Zu (by kernel_rfl) ?_
 refine tk rfl (PE.fA Z0p rfl) rfl (ld rfl rfl (lh sc3 rfl rfl) rfl (tk rfl (PE.fA Z00 rfl) rfl (ld rfl rfl (lh Z4a rfl rfl) rfl (tk rfl (PE.fA Zw rfl) rfl (ld rfl rfl (lh Z1O rfl rfl) rfl ?_)))))
 refine cl rfl ZcJ rfl rfl (Z7J h.gaps ag cg hlg _ _) ?_
 rintro _ _ R1 ⟨og, rfl, hog, rfl, hR1⟩
 obtain rfl := hR1.symm
 clear hR1
 refine bg (fun w hs => ⟨(lh Z1O rfl rfl) w hs, trivial, (lh sc3 rfl rfl) w hs, trivial⟩) ?_
 refine cl rfl ZcE rfl rfl (Z6q h.sights as_ cs hls _ _) ?_
 rintro _ _ R1 ⟨os, rfl, hos, rfl, hR1⟩
 obtain rfl := hR1.symm
 clear hR1
 refine bg (fun w hs => ⟨trivial, (lh sc3 rfl rfl) w hs, trivial⟩) ?_
 refine tk rfl (PE.build (out := htl h og.fs os.fs) Zcw Z83 rfl (by simp only [Z3S, og.cells.1, os.cells.1, List.getElem?_cons_zero, List.getElem?_cons_succ]; rfl)) rfl ?_
 refine ZI (l' := htl h og.fs os.fs) rfl rfl rfl Z9i rfl rfl (by show (htl _ og.fs os.fs).all (·.oneCell') = true; simp only [htl, List.all_cons, List.all_nil, og.cells.2, os.cells.2, Bool.and_true]; rfl) rfl (Nat.le_refl _) ?_
 refine bgT (Z6 ?_)
 exact Zm (vs := [_]) rfl (.cons (RV.cell rfl (lhA [_, _, _] Z0A rfl rfl rfl)) .nil) rfl ⟨og, os, rfl, rfl, rfl⟩ (fun w h9 => ((h9.del b2).del b1))
theorem Z8m : cal Try.prog 13 = true := by kernel_rfl
theorem Zda : cal Try.prog 35 = true := by kernel_rfl
theorem ZdD : Z0l Try.prog 23 = some 1 := by kernel_rfl
theorem Z6h {p q : Nat → Bool} {k : Nat} (h : ∀ j < k, p j = q j) : Z12 p k = Z12 q k := by
  unfold Z12
  rw [List.filter_congr fun j hj => h j (List.mem_range.1 hj)]
theorem Z5m (p : Nat → Bool) (k : Nat) (b : Bool) : Z12 (fun j => bif decide (j = k) then b else p j) (k + 1) = Z12 p k ++ bif b then [(k : Int)] else [] := by
  rw [Z2E, Z6h (q := p) fun j hj => by rw [decide_eq_false (show ¬ j = k by omega)]; rfl, decide_eq_true rfl]; rfl
theorem fltK_mem {p : Nat → Bool} {n : Nat} {j : Int} : j ∈ Z12 p n ↔ ∃ k : Nat, k < n ∧ p k = true ∧ j = k := by
  unfold Z12
  rw [List.mem_map]
  constructor
  · rintro ⟨k, h1, h2⟩
    rw [List.mem_filter, List.mem_range] at h1
    exact ⟨k, h1.1, h1.2, h2.symm⟩
  · rintro ⟨k, h1, h2, rfl⟩; exact ⟨k, List.mem_filter.2 ⟨List.mem_range.2 h1, h2⟩, rfl⟩
theorem Z89 (p : Nat → Bool) (n : Nat) : (Z12 p n).Pairwise (· < ·) := (List.pairwise_lt_range.filter _).map _ fun a b h => by omega
theorem Z6a (p : Nat → Bool) (n : Nat) : (Z12 p n).Nodup := List.nodup_iff_pairwise_ne.2 ((Z89 p n).imp fun h => by omega)
theorem Z7b (p : Nat → Bool) {n : Int} (hn : 0 ≤ n) : ∀ x ∈ Z12 p n.toNat, 0 ≤ x ∧ x < n := fun x hx => by
  obtain ⟨k, h1, _, rfl⟩ := fltK_mem.1 hx; omega
theorem Za1 (p : Nat → Bool) {n : Int} (hn : 0 ≤ n) : Z0a n (Z12 p n.toNat) = 0 := Z8j (Z7b p hn) (Z6a p _)
structure MadeW (h : Hse) (nb ng : Int) : Prop where
  bins : 2 ≤ h.bins ∧ h.bins ≤ nb
  gl : (h.gaps.length : Int) ≤ ng
  gaps : ∀ g ∈ h.gaps, (0 ≤ g.a ∧ g.a < h.bins) ∧ (0 ≤ g.b ∧ g.b < h.bins) ∧ g.a ≠ g.b
  none : h.sights = []
theorem MadeW.ok {h : Hse} {nb ng : Int} (hm : MadeW h nb ng) (h1 : nb ≤ 7) (h2 : ng ≤ 10) : h.ok := ⟨by have := hm.bins; omega, by have := hm.gl; omega, by rw [hm.none]; exact Nat.zero_le _, hm.gaps, by rw [hm.none]; simp⟩
def ini (f : Nat → Int) (n k : Nat) : List Int := (List.range n).map fun j => bif decide (j < k) then f j else 0
theorem ZO (f : Nat → Int) (n k : Nat) : (ini f n k).length = n := by simp [ini]
theorem Z5i {f : Nat → Int} {n k j : Nat} (hj : j < n) : na (ini f n k) j = bif decide (j < k) then f j else 0 := by
  unfold na ini
  rw [List.getD_eq_getElem?_getD, List.getElem?_map, List.getElem?_range hj]; rfl
theorem Z8C (f : Nat → Int) (n : Nat) : List.replicate n 0 = ini f n 0 := by
  apply List.ext_getElem?
  intro j
  rcases Nat.lt_or_ge j n with h | h
  · rw [Z0c (l := ini f n 0) (by rw [ZO]; exact h), Z5i h, List.getElem?_replicate, if_pos h]; rfl
  · rw [List.getElem?_eq_none (by simpa using h), List.getElem?_eq_none (by rw [ZO]; exact h)]
theorem Z7t {f : Nat → Int} {n k : Nat} (hk : k < n) {v : Int} (hv : f k = v) : (ini f n k).set k v = ini f n (k + 1) := by
  apply List.ext_getElem?
  intro j
  rcases Nat.lt_or_ge j n with hj | hj
  · rw [Z0c (l := (ini f n k).set k _) (by rw [List.length_set, ZO]; exact hj), Z0c (by rw [ZO]; exact hj), Z1M (by rw [ZO]; exact hk), Z5i hj, Z5i hj]
    by_cases e : k = j
    · subst e; rw [decide_eq_true rfl, decide_eq_true (Nat.lt_succ_self k), ← hv]; rfl
    · rw [decide_eq_false e, show decide (j < k + 1) = decide (j < k) from decide_eq_decide.2 (by omega)]; rfl
  · rw [List.getElem?_eq_none (by rw [List.length_set, ZO]; exact hj), List.getElem?_eq_none (by rw [ZO]; exact hj)]
def clP (pl : List PL) (t : Nat) : Nat := msk (Z3r pl (t + 1))
def in0 (fr : List Int) (j : Nat) : Int := bif Z36 fr j then 0 else 100
theorem Z4J {l : List Int} (h : ∀ x ∈ l, 0 ≤ x) (j : Nat) : Z36 l (j : Int) = (msk l).testBit j := by rw [Bool.eq_iff_iff, hasI_iff, Zx h]
theorem FolI.start {gs : List Gp} {cl : Nat → Nat} {fr : List Int} (h : ∀ x ∈ fr, 0 ≤ x) (n : Nat) : FolI gs cl (msk fr) n 0 (Z2o gs (cl 0) (lvp gs cl (msk fr) 0) 0) (ini (in0 fr) n n) := ⟨ZO _ _ _, fun k hk => by
  rw [Z5i hk, decide_eq_true hk, cond_true]
  unfold in0
  rw [Z4J h]
  show _ = bif (msk fr).testBit k then fol gs cl (msk fr) 0 k else bif (msk fr).testBit k then _ else 100
  cases hb : (msk fr).testBit k with
  | false => rfl
  | true =>
    rw [cond_true, cond_true]
    exact (Z5f (t := 0) (Nat.le_refl _) hb (fun i hi => absurd hi (Nat.not_lt_zero _))).symm⟩
def ZcN (s acc : Nat) (g : Gp) : Nat → Nat
  | 0 => acc
  | 1 => acc ||| (bif s.testBit g.a.toNat then 2 ^ g.b.toNat else 0)
  | _ => (acc ||| (bif s.testBit g.a.toNat then 2 ^ g.b.toNat else 0)) ||| (bif s.testBit g.b.toNat then 2 ^ g.a.toNat else 0)
def ZdB (g : Gp) : List Value := [.int .i64 g.a, .int .i64 g.b, .int .i64 g.b, .int .i64 g.a]
theorem Zac {s acc n : Nat} {g : Gp} (ha : 0 ≤ g.a ∧ g.a < n) (hb : 0 ≤ g.b ∧ g.b < n) {j : Nat} (hj : j < 2) : ∃ u v : Nat, ∃ rest : List Value, u < n ∧ v < n ∧ (ZdB g).drop (j * 2) = [.int .i64 u, .int .i64 v] ++ rest ∧ ZcN s acc g (j + 1) = ZcN s acc g j ||| (bif s.testBit u then 2 ^ v else 0) := by
  have h1 : ((g.a.toNat : Nat) : Int) = g.a := by omega
  have h2 : ((g.b.toNat : Nat) : Int) = g.b := by omega
  match j, hj with
  | 0, _ => exact ⟨g.a.toNat, g.b.toNat, [.int .i64 g.b, .int .i64 g.a], by omega, by omega, by rw [h1, h2]; rfl, rfl⟩
  | 1, _ => exact ⟨g.b.toNat, g.a.toNat, [], by omega, by omega, by rw [h1, h2]; rfl, rfl⟩
theorem Z5w {pl : List PL} {k : Nat} (h : pl.length ≤ k) : Z3r pl (k + 1) = Z3r pl k := by unfold Z3r; rw [List.take_of_length_le (by omega), List.take_of_length_le h]
theorem Z5e {pl : List PL} {k : Nat} {x : Int} (h : x ∈ Z3r pl k) : x ∈ (lls pl).flatten := by
  unfold Z3r at h
  obtain ⟨l, h1, h2⟩ := List.mem_flatten.1 h
  obtain ⟨y, h3, rfl⟩ := List.mem_map.1 h1
  exact List.mem_flatten.2 ⟨_, List.mem_map_of_mem (List.mem_of_mem_take h3), h2⟩
theorem ZbZ (l0 : List Int) (a0 : Option Addr) (c0 bk : Nat) (hgl : l0.length ≤ 9223372036854775807) (tq mx : Int) (htq : 0 ≤ tq ∧ tq ≤ 1000000) (hmx : 0 ≤ mx ∧ mx ≤ 4294967295) (nb ng : Int) (hnb : 2 ≤ nb ∧ nb ≤ 7) (hng : 0 ≤ ng ∧ ng ≤ 10) (H : Z9) (R : Z5) [hG : MemRows a0 1 (Z2c l0) R] :
    Fn Try.prog 9 [.pointer (some ⟨bk, 0, none⟩), .int .i64 nb, .int .i64 ng] ((bk, cel 72 [.slice a0 l0.length c0, .int .i64 (tq), .int .u32 (mx)]) :: H) R (fun v H' R' => ∃ (h : Hse) (p : Nat → Bool) (ag ar : Option Addr) (cg cr : Nat) (tq' mx' : Int), MadeW h nb ng ∧ h.gaps.length ≤ cg ∧ (Z12 p h.bins.toNat).length ≤ cr ∧ v = .tuple #[h.v (h.sg ag cg) (h.ss none 0), .slice ar (Z12 p h.bins.toNat).length cr] ∧ (tq ≤ tq' ∧ tq' ≤ tq + 100) ∧ (0 ≤ mx' ∧ mx' ≤ 4294967295) ∧ H' = (bk, cel 72 [.slice a0 l0.length c0, .int .i64 (tq'), .int .u32 (mx')]) :: H ∧ R' = RowsA none 3 (Zd h.sights) :: RowsA ar 1 (Z7 (Z12 p h.bins.toNat)) :: RowsA ag 2 (Zi h.gaps) :: R) := by
 refine Zj Try.func9 rfl Try.ntmps9 rfl ?_
 refine sqt 2 rfl (alc rfl Z83 rfl (fun b6 => pur 1 rfl (sqt 6 rfl (pur 2 rfl ?_))))
 refine ZA bk ?_
 refine cl rfl Zda rfl rfl (Z9F l0 a0 c0 bk hgl _ _ (by omega) (by assumption) (2) (nb) (by first | omega | (dsimp only; omega)) _ _) ?_
 rintro _ _ R1 ⟨x15, m15, hx15, rfl, hm15, rfl, hR1⟩
 obtain rfl := hR1.symm
 refine sp rfl (PE.build (out := htl ⟨x15, [], []⟩ (.slice none 0 0) (.slice none 0 0)) Zcw Z83 rfl rfl) rfl (alc rfl Z83 rfl (fun b8 => ?_))
 refine sto rfl rfl rfl Z9i rfl rfl rfl rfl ?_
 refine Z0 (sqt 5 rfl ?_)
 refine ZA bk ?_
 refine pur 2 rfl (sp rfl (PE.add rfl rfl (by omega)) rfl ?_)
 refine cl rfl Z2B rfl rfl (Z0m l0 a0 c0 bk hgl _ _ (by omega) (by assumption) (ng + 1) _ _) ?_
 rintro _ _ R1 ⟨x20, m20, hx20, rfl, hm20, rfl, hR1⟩
 obtain rfl := hR1.symm
 refine pur 1 rfl (Z4 ?_)
 obtain ⟨n20, rfl⟩ : ∃ n : Nat, x20 = n := ⟨x20.toNat, by omega⟩
 refine Zg (ι := (x : {x : Nat × List Gp × Int × Int // x.1 ≤ n20 ∧ (x.2.1.length = x.1 ∧ ∀ g ∈ x.2.1, ((0 ≤ g.a ∧ g.a < x15) ∧ (0 ≤ g.b ∧ g.b < x15) ∧ g.a ≠ g.b)) ∧ (tq ≤ x.2.2.1 ∧ x.2.2.1 ≤ tq + 2 + 2 * x.1) ∧ (0 ≤ x.2.2.2 ∧ x.2.2.2 ≤ 4294967295)}) × OSl 46 2 (Zi x.1.2.1)) (fun x => ⟨[(0, .pointer (some ⟨bk, 0, none⟩)), (6, .pointer (some ⟨b6, 0, none⟩)), (8, .pointer (some ⟨b8, 0, none⟩)), (20, .int .i64 n20), (21, .int .i64 x.1.1.1)],
   (bk, cel 72 [.slice a0 l0.length c0, .int .i64 (x.1.1.2.2.1), .int .u32 (x.1.1.2.2.2)]) :: (x.2.G ++ (b8, cel 26 (htl ⟨x15, x.1.1.2.1, []⟩ x.2.fs (.slice none 0 0))) :: (b6, cel 26 [.int .i64 0, .slice none 0 0, .slice none 0 0]) :: H), R⟩) (fun x => n20 - x.1.1.1) ⟨⟨(0, [], tq + 1 + 1, m20), by omega, ⟨rfl, by simp⟩, by dsimp only; omega, by assumption⟩, OSl.nil _ _⟩ ?_ (fun x => ?_)
 exact Zq idH
 ·
  obtain ⟨⟨⟨k, l, tq2, mx2⟩, hk, ⟨hll, hlg⟩, htq2, hmx2⟩, o⟩ := x
  dsimp only at hk hll hlg htq2 hmx2 o ⊢
  refine sqt 1 rfl (pur 1 rfl (Z0 ?_))
  refine Z1 rfl ?_ ?_ <;> intro hc0 <;> try simp only [cS] at hc0
  ·
   have hrm : 0 ≤ (k : Int) % x15 ∧ (k : Int) % x15 < x15 := ⟨Int.emod_nonneg _ (by omega), Int.emod_lt_of_pos _ (by omega)⟩
   refine Z2 (Z0 (Z4 (sqt 2 rfl (pur 2 rfl (Z0 ?_)))))
   refine Ze [0, 0, 2, 7, 0, 0, 32, 112, 255, 0, 1023] (.tk 0 (.tk 1 (.ld 2 (tks 3 3 (.ld 6 (.any (.alt 7 (.tk 8 (.big 9 (.big 10 .done))) (.alt 9 (.big 7 (.tk 8 (.big 10 .done))) .stop)))))))) Zu (by kernel_rfl) ?_
   refine Zl 1 rfl (tk rfl (PE.fA Z0p rfl) rfl (ld rfl rfl (lh (v := .int .i64 x15) sc3 rfl rfl) rfl (tk rfl (PE.rem rfl rfl (by omega)) rfl (Zl 1 rfl (tk rfl (PE.fA Z0p rfl) rfl (ld rfl rfl (lh (v := .int .i64 x15) sc3 rfl rfl) rfl ?_))))))
   refine Z0Y ?_ ?_
   ·
    refine ZA bk ?_
    refine cl rfl Z2B rfl rfl (Z0m l0 a0 c0 bk hgl _ _ (by omega) (by assumption) (x15) _ _) ?_
    rintro _ _ R1 ⟨x31, m31, hx31, rfl, hm31, rfl, hR1⟩
    obtain rfl := hR1.symm
    refine bg (fun w hs => ⟨trivial, (lh (v := .int .i64 x15) sc3 rfl rfl) w hs, trivial⟩) ?_
    refine tk rfl (PE.build (out := [.int .i64 ((k : Int) % x15), .int .i64 x31]) Z81 Z33 rfl rfl) rfl (alc rfl Z33 rfl (fun b10 => ?_))
    refine bg (fun w hs => ⟨(lh (v := .int .i64 x15) sc3 rfl rfl) w hs, trivial⟩) ?_
    refine sto rfl rfl rfl Z9f rfl rfl rfl rfl ?_
    refine bgT (Z0 (sqt 5 rfl (sp rfl (PE.fA ZN rfl) rfl (spL rfl rfl (lh sc3 rfl rfl) rfl (sp rfl (PE.fA ZF rfl) rfl (spL rfl rfl (lh sc3 rfl rfl) rfl (pur 1 rfl ?_)))))))
    refine Z2X (ι := {x : Int × Int // ((0 ≤ x.1 ∧ x.1 < x15) ∧ (0 ≤ x.2 ∧ x.2 < x15) ∧ x.1 ≠ x.2)}) (fun x => ⟨[(0, .pointer (some ⟨bk, 0, none⟩)), (6, .pointer (some ⟨b6, 0, none⟩)), (8, .pointer (some ⟨b8, 0, none⟩)), (10, .pointer (some ⟨b10, 0, none⟩)), (20, .int .i64 n20), (21, .int .i64 k)], (b10, cel 46 [.int .i64 (x.1.1), .int .i64 (x.1.2)]) :: (bk, cel 72 [.slice a0 l0.length c0, .int .i64 (tq2 + 1), .int .u32 (m31)]) :: (o.G ++ (b8, cel 26 (htl ⟨x15, l, []⟩ o.fs (.slice none 0 0))) :: (b6, cel 26 [.int .i64 0, .slice none 0 0, .slice none 0 0]) :: H), R⟩) ?_ ?_
    ·
     refine Z1 rfl ?_ ?_ <;> intro hc1 <;> try simp only [cS] at hc1
     ·
      have hr2 : 0 ≤ (x31 + 1) % x15 ∧ (x31 + 1) % x15 < x15 := ⟨Int.emod_nonneg _ (by omega), Int.emod_lt_of_pos _ (by omega)⟩
      have hne : (x31 + 1) % x15 ≠ x31 := by
        rcases Int.lt_or_le (x31 + 1) x15 with h9 | h9
        · rw [Int.emod_eq_of_lt (by omega) h9]; omega
        · rw [show x31 + 1 = x15 by omega, Int.emod_self]; omega
      refine sqr 8 rfl (sp rfl (PE.fA ZF rfl) rfl (spL rfl rfl (lh sc3 rfl rfl) rfl (sp rfl (PE.add rfl rfl (by omega)) rfl (sp rfl (PE.fA Z0p rfl) rfl (spL rfl rfl (lh (v := .int .i64 x15) sc3 rfl rfl) rfl (sp rfl (PE.rem rfl rfl (by omega)) rfl (sp rfl (PE.fA ZF rfl) rfl ?_)))))))
      refine ZI (l' := [.int .i64 ((k : Int) % x15), .int .i64 ((x31 + 1) % x15)]) rfl rfl rfl cn3 rfl rfl rfl rfl (nl rfl) ?_
      exact ZC ⟨((k : Int) % x15, (x31 + 1) % x15), ⟨hrm, hr2, by dsimp only; omega⟩⟩ (fun w h9 => h9.perm (by first | exact .refl _ | exact List.Perm.swap _ _ _))
     ·
      refine Z2 ?_
      exact ZC ⟨((k : Int) % x15, x31), ⟨hrm, by dsimp only; omega, by dsimp only; omega⟩⟩ (fun w h9 => h9.perm (by first | exact .refl _ | exact List.Perm.swap _ _ _))
    rintro ⟨⟨ga, gb⟩, hgo⟩
    dsimp only at hgo ⊢
    refine Z0 (sqt 2 rfl ?_)
    refine ZA bk ?_
    refine pur 1 rfl ?_
    refine cl rfl Z8m rfl rfl (Z59 l0 a0 c0 bk hgl _ _ (by omega) (by assumption) (2) _ _) ?_
    rintro _ _ R1 ⟨x46, m46, rfl, hm46, rfl, hR1⟩
    obtain rfl := hR1.symm
    refine Z2X (ι := {x : Int × Int // ((0 ≤ x.1 ∧ x.1 < x15) ∧ (0 ≤ x.2 ∧ x.2 < x15) ∧ x.1 ≠ x.2)}) (fun x => ⟨[(0, .pointer (some ⟨bk, 0, none⟩)), (6, .pointer (some ⟨b6, 0, none⟩)), (8, .pointer (some ⟨b8, 0, none⟩)), (10, .pointer (some ⟨b10, 0, none⟩)), (20, .int .i64 n20), (21, .int .i64 k)], (bk, cel 72 [.slice a0 l0.length c0, .int .i64 (tq2 + 1 + 1), .int .u32 (m46)]) :: (b10, cel 46 [.int .i64 (x.1.1), .int .i64 (x.1.2)]) :: (o.G ++ (b8, cel 26 (htl ⟨x15, l, []⟩ o.fs (.slice none 0 0))) :: (b6, cel 26 [.int .i64 0, .slice none 0 0, .slice none 0 0]) :: H), R⟩) ?_ ?_
    refine Z1 rfl ?_ ?_ <;> intro hc2
    refine sqr 8 rfl (sp rfl (PE.fA ZF rfl) rfl (spL rfl rfl (lh sc3 rfl rfl) rfl (sp rfl (PE.fA ZN rfl) rfl (spL rfl rfl (lh sc3 rfl rfl) rfl (sp rfl (PE.fA ZN rfl) rfl ?_)))))
    refine ZI (l' := [.int .i64 (gb), .int .i64 (gb)]) rfl rfl rfl cn3 rfl rfl rfl rfl (nl rfl) ?_
    refine sp rfl (PE.fA ZF rfl) rfl ?_
    refine ZI (l' := [.int .i64 (gb), .int .i64 (ga)]) rfl rfl rfl cn3 rfl rfl rfl rfl (nl rfl) ?_
    first | exact ZC ⟨(gb, ga), ⟨hgo.2.1, hgo.1, Ne.symm hgo.2.2⟩⟩ idH | exact ZC ⟨(ga, gb), hgo⟩ idH
    refine Z2 ?_
    first | exact ZC ⟨(gb, ga), ⟨hgo.2.1, hgo.1, Ne.symm hgo.2.2⟩⟩ idH | exact ZC ⟨(ga, gb), hgo⟩ idH
    rintro ⟨⟨ua, ub⟩, hgo2⟩
    dsimp only at hgo2 ⊢
    refine sqr 7 rfl (sp rfl (PE.fA Z00 rfl) rfl (spL rfl rfl (lh Z4a rfl rfl) rfl (spL rfl rfl (lhA [.int .i64 ua, .int .i64 ub] Z5A rfl rfl rfl) rfl ?_)))
    refine bsl (out := [_, _]) rfl Zdf Z33 rfl rfl rfl rfl rfl rfl (fun b56 => ?_)
    refine apO (o) rfl Zcn rfl rfl (Z0B (row := Z1q ⟨ua, ub⟩) rfl) rfl rfl ((by rw [Z0v]; simp only [List.length_singleton]; omega)) rfl (fun o57 => ?_)
    refine sp rfl (PE.fA Z00 rfl) rfl ?_
    refine ZI (l' := htl ⟨x15, l ++ [⟨ua, ub⟩], []⟩ o57.fs (.slice none 0 0)) rfl rfl rfl ZdD rfl (by rw [o57.cells.1]; first | done | rfl) (by rw [o57.cells.1]; simp [o57.cells.2]) (by rw [o57.cells.1]; first | done | rfl) (by rw [o57.cells.1]; first | done | exact Nat.le_of_ble_eq_true rfl) ?_
    refine sqr 2 rfl (sp rfl (PE.add rfl rfl (by omega)) rfl (pur 1 rfl ?_))
    exact Za ⟨⟨(k + 1, l ++ [⟨ua, ub⟩], tq2 + 1 + 1, m46), by dsimp only; omega, ⟨by simp [hll], fun g hg => (List.mem_append.1 hg).elim (hlg g) (fun h9 => by rw [List.mem_singleton.1 h9]; exact hgo2)⟩, by dsimp only; omega, by assumption⟩, o57.cast (by simp [Zi])⟩ (fun w h9 => ((h9.del b56).del b10).perm (by first | exact .refl _ | exact (Zh _ [_] _).symm))
   refine Z0Y ?_ ?_
   ·
    refine alc rfl Z33 rfl (fun b10 => ?_)
    refine bg (fun w hs => ⟨(lh (v := .int .i64 x15) sc3 rfl rfl) w hs, (lh (v := .int .i64 x15) sc3 rfl rfl) w hs, trivial⟩) ?_
    refine ZA bk ?_
    refine cl rfl Z2B rfl rfl (Z0m l0 a0 c0 bk hgl _ _ (by omega) (by assumption) (x15) _ _) ?_
    rintro _ _ R1 ⟨x31, m31, hx31, rfl, hm31, rfl, hR1⟩
    obtain rfl := hR1.symm
    refine bg (fun w hs => ⟨trivial, (lh (v := .int .i64 x15) sc3 rfl rfl) w hs, trivial⟩) ?_
    refine tk rfl (PE.build (out := [.int .i64 ((k : Int) % x15), .int .i64 x31]) Z81 Z33 rfl rfl) rfl ?_
    refine sto rfl rfl rfl Z9f rfl rfl rfl rfl ?_
    refine bgT (Z0 (sqt 5 rfl (sp rfl (PE.fA ZN rfl) rfl (spL rfl rfl (lh sc3 rfl rfl) rfl (sp rfl (PE.fA ZF rfl) rfl (spL rfl rfl (lh sc3 rfl rfl) rfl (pur 1 rfl ?_)))))))
    refine Z2X (ι := {x : Int × Int // ((0 ≤ x.1 ∧ x.1 < x15) ∧ (0 ≤ x.2 ∧ x.2 < x15) ∧ x.1 ≠ x.2)}) (fun x => ⟨[(0, .pointer (some ⟨bk, 0, none⟩)), (6, .pointer (some ⟨b6, 0, none⟩)), (8, .pointer (some ⟨b8, 0, none⟩)), (10, .pointer (some ⟨b10, 0, none⟩)), (20, .int .i64 n20), (21, .int .i64 k)], (b10, cel 46 [.int .i64 (x.1.1), .int .i64 (x.1.2)]) :: (bk, cel 72 [.slice a0 l0.length c0, .int .i64 (tq2 + 1), .int .u32 (m31)]) :: (o.G ++ (b8, cel 26 (htl ⟨x15, l, []⟩ o.fs (.slice none 0 0))) :: (b6, cel 26 [.int .i64 0, .slice none 0 0, .slice none 0 0]) :: H), R⟩) ?_ ?_
    ·
     refine Z1 rfl ?_ ?_ <;> intro hc1 <;> try simp only [cS] at hc1
     ·
      have hr2 : 0 ≤ (x31 + 1) % x15 ∧ (x31 + 1) % x15 < x15 := ⟨Int.emod_nonneg _ (by omega), Int.emod_lt_of_pos _ (by omega)⟩
      have hne : (x31 + 1) % x15 ≠ x31 := by
        rcases Int.lt_or_le (x31 + 1) x15 with h9 | h9
        · rw [Int.emod_eq_of_lt (by omega) h9]; omega
        · rw [show x31 + 1 = x15 by omega, Int.emod_self]; omega
      refine sqr 8 rfl (sp rfl (PE.fA ZF rfl) rfl (spL rfl rfl (lh sc3 rfl rfl) rfl (sp rfl (PE.add rfl rfl (by omega)) rfl (sp rfl (PE.fA Z0p rfl) rfl (spL rfl rfl (lh (v := .int .i64 x15) sc3 rfl rfl) rfl (sp rfl (PE.rem rfl rfl (by omega)) rfl (sp rfl (PE.fA ZF rfl) rfl ?_)))))))
      refine ZI (l' := [.int .i64 ((k : Int) % x15), .int .i64 ((x31 + 1) % x15)]) rfl rfl rfl cn3 rfl rfl rfl rfl (nl rfl) ?_
      exact ZC ⟨((k : Int) % x15, (x31 + 1) % x15), ⟨hrm, hr2, by dsimp only; omega⟩⟩ (fun w h9 => h9.perm (by first | exact .refl _ | exact List.Perm.swap _ _ _))
     ·
      refine Z2 ?_
      exact ZC ⟨((k : Int) % x15, x31), ⟨hrm, by dsimp only; omega, by dsimp only; omega⟩⟩ (fun w h9 => h9.perm (by first | exact .refl _ | exact List.Perm.swap _ _ _))
    rintro ⟨⟨ga, gb⟩, hgo⟩
    dsimp only at hgo ⊢
    refine Z0 (sqt 2 rfl ?_)
    refine ZA bk ?_
    refine pur 1 rfl ?_
    refine cl rfl Z8m rfl rfl (Z59 l0 a0 c0 bk hgl _ _ (by omega) (by assumption) (2) _ _) ?_
    rintro _ _ R1 ⟨x46, m46, rfl, hm46, rfl, hR1⟩
    obtain rfl := hR1.symm
    refine Z2X (ι := {x : Int × Int // ((0 ≤ x.1 ∧ x.1 < x15) ∧ (0 ≤ x.2 ∧ x.2 < x15) ∧ x.1 ≠ x.2)}) (fun x => ⟨[(0, .pointer (some ⟨bk, 0, none⟩)), (6, .pointer (some ⟨b6, 0, none⟩)), (8, .pointer (some ⟨b8, 0, none⟩)), (10, .pointer (some ⟨b10, 0, none⟩)), (20, .int .i64 n20), (21, .int .i64 k)], (bk, cel 72 [.slice a0 l0.length c0, .int .i64 (tq2 + 1 + 1), .int .u32 (m46)]) :: (b10, cel 46 [.int .i64 (x.1.1), .int .i64 (x.1.2)]) :: (o.G ++ (b8, cel 26 (htl ⟨x15, l, []⟩ o.fs (.slice none 0 0))) :: (b6, cel 26 [.int .i64 0, .slice none 0 0, .slice none 0 0]) :: H), R⟩) ?_ ?_
    refine Z1 rfl ?_ ?_ <;> intro hc2
    refine sqr 8 rfl (sp rfl (PE.fA ZF rfl) rfl (spL rfl rfl (lh sc3 rfl rfl) rfl (sp rfl (PE.fA ZN rfl) rfl (spL rfl rfl (lh sc3 rfl rfl) rfl (sp rfl (PE.fA ZN rfl) rfl ?_)))))
    refine ZI (l' := [.int .i64 (gb), .int .i64 (gb)]) rfl rfl rfl cn3 rfl rfl rfl rfl (nl rfl) ?_
    refine sp rfl (PE.fA ZF rfl) rfl ?_
    refine ZI (l' := [.int .i64 (gb), .int .i64 (ga)]) rfl rfl rfl cn3 rfl rfl rfl rfl (nl rfl) ?_
    first | exact ZC ⟨(gb, ga), ⟨hgo.2.1, hgo.1, Ne.symm hgo.2.2⟩⟩ idH | exact ZC ⟨(ga, gb), hgo⟩ idH
    refine Z2 ?_
    first | exact ZC ⟨(gb, ga), ⟨hgo.2.1, hgo.1, Ne.symm hgo.2.2⟩⟩ idH | exact ZC ⟨(ga, gb), hgo⟩ idH
    rintro ⟨⟨ua, ub⟩, hgo2⟩
    dsimp only at hgo2 ⊢
    refine sqr 7 rfl (sp rfl (PE.fA Z00 rfl) rfl (spL rfl rfl (lh Z4a rfl rfl) rfl (spL rfl rfl (lhA [.int .i64 ua, .int .i64 ub] Z5A rfl rfl rfl) rfl ?_)))
    refine bsl (out := [_, _]) rfl Zdf Z33 rfl rfl rfl rfl rfl rfl (fun b56 => ?_)
    refine apO (o) rfl Zcn rfl rfl (Z0B (row := Z1q ⟨ua, ub⟩) rfl) rfl rfl ((by rw [Z0v]; simp only [List.length_singleton]; omega)) rfl (fun o57 => ?_)
    refine sp rfl (PE.fA Z00 rfl) rfl ?_
    refine ZI (l' := htl ⟨x15, l ++ [⟨ua, ub⟩], []⟩ o57.fs (.slice none 0 0)) rfl rfl rfl ZdD rfl (by rw [o57.cells.1]; first | done | rfl) (by rw [o57.cells.1]; simp [o57.cells.2]) (by rw [o57.cells.1]; first | done | rfl) (by rw [o57.cells.1]; first | done | exact Nat.le_of_ble_eq_true rfl) ?_
    refine sqr 2 rfl (sp rfl (PE.add rfl rfl (by omega)) rfl (pur 1 rfl ?_))
    exact Za ⟨⟨(k + 1, l ++ [⟨ua, ub⟩], tq2 + 1 + 1, m46), by dsimp only; omega, ⟨by simp [hll], fun g hg => (List.mem_append.1 hg).elim (hlg g) (fun h9 => by rw [List.mem_singleton.1 h9]; exact hgo2)⟩, by dsimp only; omega, by assumption⟩, o57.cast (by simp [Zi])⟩ (fun w h9 => ((h9.del b56).del b10).perm (by first | exact .refl _ | exact (Zh _ [_] _).symm))
   exact Z1X
  obtain rfl : k = n20 := by omega
  obtain ⟨ag, cg, he, hcg, hf⟩ := o.freezeC
  rw [Z0v] at hcg
  rw [he, Z0v]
  refine ZA bk ?_
  refine Sy.heap (H' := _) (fun w h9 => hf (h9.perm (List.perm_middle (l₁ := o.G) (a := _)).symm)) ?_
  clear he hf
  obtain ⟨B, rfl⟩ : ∃ B : Nat, x15 = B := ⟨x15.toNat, by omega⟩
  refine Zb (Zc (Zc (Zp (sqt 1 rfl (pur 1 rfl (Z0 (sqt 3 rfl (sp rfl (PE.fA Z0p rfl) rfl (spL rfl rfl (lh sc3 rfl rfl) rfl (pur 1 rfl (Z4 ?_)))))))))))
  refine Zg (ι := (x : {x : Nat × (Nat → Bool) × Int × Int // x.1 ≤ B ∧ (tq ≤ x.2.2.1 ∧ x.2.2.1 ≤ tq + 40 + x.1) ∧ (0 ≤ x.2.2.2 ∧ x.2.2.2 ≤ 4294967295)}) × OSl 3 1 (Z7 (Z12 x.1.2.1 x.1.1))) (fun x => ⟨[(0, .pointer (some ⟨bk, 0, none⟩)), (6, .pointer (some ⟨b6, 0, none⟩)), (8, .pointer (some ⟨b8, 0, none⟩)), (11, x.2.fs), (61, .int .i64 B), (62, .int .i64 x.1.1.1)],
    (bk, cel 72 [.slice a0 l0.length c0, .int .i64 (x.1.1.2.2.1), .int .u32 (x.1.1.2.2.2)]) :: (x.2.G ++ (b8, cel 26 (htl ⟨B, l, []⟩ (.slice ag l.length cg) (.slice none 0 0))) :: (b6, cel 26 [.int .i64 0, .slice none 0 0, .slice none 0 0]) :: H), RowsA ag 2 (Zi l) :: R⟩) (fun x => B - x.1.1.1) ⟨⟨(0, fun _ => false, tq2, mx2), by omega, by dsimp only; omega, by assumption⟩, OSl.nil _ _⟩ ?_ (fun x => ?_)
  exact Zq idH
  obtain ⟨⟨⟨i, p, tq3, mx3⟩, hi, htq3, hmx3⟩, o2⟩ := x
  dsimp only at hi htq3 hmx3 o2 ⊢
  have hfl := Z2s p i
  refine sqt 1 rfl (pur 1 rfl (Z0 ?_))
  refine Z1 rfl ?_ ?_ <;> intro hc3 <;> try simp only [cS] at hc3
  refine Z2 (Z0 (Z4 (sqt 2 rfl (pur 2 rfl (sqt 2 rfl ?_)))))
  refine ZA bk ?_
  refine pur 1 rfl ?_
  refine cl rfl Z8m rfl rfl (Z59 l0 a0 c0 bk hgl _ _ (by omega) (by assumption) (3) _ _) ?_
  rintro _ _ R1 ⟨x66, m66, rfl, hm66, rfl, hR1⟩
  obtain rfl := hR1.symm
  refine Z1 rfl ?_ ?_ <;> intro hc4 <;> try simp only [cS] at hc4
  refine sqr 5 rfl (pur 2 rfl ?_)
  refine bsl (out := [_]) rfl Z13 zl3 rfl rfl rfl rfl rfl rfl (fun b69 => ?_)
  refine apO (o2) rfl Z43 rfl rfl (Z0B (row := [.int .i64 i]) rfl) rfl rfl ((by rw [irl]; simp only [List.length_singleton]; omega)) rfl (fun o70 => ?_)
  refine pur 1 rfl (sqr 2 rfl (sp rfl (PE.add rfl rfl (by omega)) rfl (pur 1 rfl ?_)))
  have hput := Z5m p i true
  exact Za ⟨⟨(i + 1, fun j => bif decide (j = i) then true else p j, tq3 + 1, m66), by dsimp only; omega, by dsimp only; omega, by assumption⟩, o70.cast (by rw [hput]; simp [Z7])⟩ (fun w h9 => (h9.del b69).perm (by first | exact .refl _ | exact (Zh _ [_] _).symm))
  refine Z2 (sqr 2 rfl (sp rfl (PE.add rfl rfl (by omega)) rfl (pur 1 rfl ?_)))
  have hput := Z5m p i false
  exact Za ⟨⟨(i + 1, fun j => bif decide (j = i) then false else p j, tq3 + 1, m66), by dsimp only; omega, by dsimp only; omega, by assumption⟩, o2.cast (by rw [hput]; simp [Z7])⟩ idH
  obtain rfl : i = B := by omega
  obtain ⟨ar, cr, he, hcr, hf⟩ := o2.freezeC
  rw [irl] at hcr
  rw [he, irl]
  refine ZA bk ?_
  refine Sy.heap (H' := _) (fun w h9 => hf (h9.perm (List.perm_middle (l₁ := o2.G) (a := _)).symm)) ?_
  clear he hf
  refine Zb (Zc (Zc (Zp (sqt 4 rfl (spL rfl rfl (lhA (htl ⟨(i : Int), l, []⟩ (.slice ag l.length cg) (.slice none 0 0)) Z0A rfl rfl rfl) rfl (pur 1 rfl ?_))))))
  refine ZI (l' := htl ⟨(i : Int), l, []⟩ (.slice ag l.length cg) (.slice none 0 0)) rfl rfl rfl Z9i rfl rfl rfl rfl (Nat.le_refl _) ?_
  refine pur 1 rfl (Z6 ?_)
  exact Zm (vs := [_, _]) rfl (.cons (RV.cell rfl (lhA [_, _, _] Z0A rfl rfl rfl)) (.cons (RV.tmp rfl) .nil)) rfl ⟨⟨(i : Int), l, []⟩, p, ag, ar, cg, cr, tq3, mx3, ⟨by dsimp only; omega, by dsimp only; omega, hlg, rfl⟩, hcg, hcr, rfl, by omega, by assumption, rfl, rfl⟩ (fun w h9 => St.norows ((h9.del b8).del b6))
theorem ZdY : Z4y Try.prog 93 = some 2 := by kernel_rfl
theorem ZaS : arN Try.prog 93 = some (2, 1) := by kernel_rfl
theorem ZdM : Z0l Try.prog 93 = some 2 := by kernel_rfl
theorem ZdG : elN Try.prog 94 = some 2 := by kernel_rfl
theorem ZcX : Z5I Try.prog 94 = true := by kernel_rfl
theorem ZdS : slE Try.prog 94 = some (93, 2) := by kernel_rfl
theorem Zch : ZM Try.prog 93 = some ([.int .i64 0, .int .i64 0]) := by kernel_rfl
theorem FnV.lendO {P : Program} {f : FuncId} {v : Value} {e sz : Nat} {rows : List (List Value)} (o : OSl e sz rows) (mk : Value → List Value) {T : Z9} {R : Z5}
    (h : ∀ (a : Option Addr) (c : Nat) (B : World → Prop), FnV P f (mk (.slice a rows.length c)) T (RowsA a sz rows :: B :: R) v) : FnV P f (mk o.fs) (o.G ++ T) R v := fun w hw => by
  obtain ⟨fs, G, hl, his⟩ := o
  rcases his with ⟨rfl, rfl, rfl⟩ | ⟨b, cap, junk, rfl, rfl, h1, h2, h3⟩
  · have h3 : St T (RowsA none sz [] :: (fun _ => True) :: R) w := St.also (St.also hw (f := fun _ => True) (fun _ _ => trivial)) (fun w' _ i row hi => by simp at hi)
    refine CallsIn.mono (h none 0 _ w h3) ?_
    rintro e' w' ⟨u, H', R', ⟨rfl, rfl, rfl⟩, he, hs'⟩
    exact ⟨_, _, R, ⟨rfl, rfl, rfl⟩, he, hs'.ftail.ftail⟩
  · exact FnV.lend (H := (b, cel e (rows.flatten ++ junk)) :: T) (b := b) (e := e) (sz := sz) (rows := rows) (junk := junk) hl (fun B => h _ cap B) w hw
set_option maxHeartbeats 1000000 in
theorem Z8K (h : Hse) (ag as_ : Option Addr) (cg cs : Nat) (hok : h.ok) (fr : List Int) (af : Option Addr) (cf : Nat) (hfl0 : fr.length ≤ 1000000) (hfr : ∀ x ∈ fr, 0 ≤ x) (pl : List PL) (ap : Option Addr) (cp : Nat) (hpl : pl.length ≤ 1000000) (hpt : (lls pl).flatten.length ≤ 1000000) (hpx : ∀ x ∈ (lls pl).flatten, 0 ≤ x) (H : Z9) (R : Z5) [hG : MemRows ag 2 (Zi h.gaps) R] [hF : MemRows af 1 (Z7 fr) R] [hP : MemRows ap 1 (ZG pl) R] [hI : MemF (Inn pl) R] :
    Fn Try.prog 19 [h.v (h.sg ag cg) (h.ss as_ cs), .slice af fr.length cf, .slice ap pl.length cp] H R (fun v H' R' => ∃ (a : Option Addr) (c : Nat), v = .slice a h.bins.toNat c ∧ H' = H ∧ R' = RowsA a 1 (Z7 (Z3k h.gaps (clP pl) (msk fr) h.bins.toNat)) :: R) := by
 refine Zj Try.func19 rfl Try.ntmps19 rfl ?_
 refine sqt 2 rfl ?_
 have hbn := hok.bins
 have hgn := hok.gl
 obtain ⟨B, hB⟩ : ∃ B : Nat, h.bins = B := ⟨h.bins.toNat, by omega⟩
 rw [show h.bins.toNat = B by omega]
 refine bx rfl rfl rfl (fun b3 => pur 1 rfl (sqt 4 rfl (sp rfl (PE.fA Z0p rfl) rfl (spL rfl rfl (lh (v := .int .i64 h.bins) sc3 rfl rfl) rfl ?_))))
 rw [hB]
 refine mkS rfl Z43 zl3 rfl rfl (Nat.le_refl _) ⟨by omega, by omega⟩ rfl (fun b17 => ?_)
 rw [ZcO, Z8C (in0 fr)]
 refine pur 1 rfl (Z0 (sqt 3 rfl (pur 1 rfl (sp rfl (PE.lenSl ZE rfl) rfl (pur 1 rfl (Z4 ?_))))))
 refine Zg (ι := {k : Nat // k ≤ B}) (fun x => ⟨[(0, h.v (h.sg ag cg) (h.ss as_ cs)), (1, .slice af fr.length cf), (2, .slice ap pl.length cp), (3, .pointer (some ⟨b3, 0, none⟩)), (7, .slice (some ⟨b17, 0, none⟩) B B), (19, .int .i64 B), (20, .int .i64 x.1)], (b17, cel 3 (Zs (ini (in0 fr) B x.1))) :: (b3, cel 26 (htl h (h.sg ag cg) (h.ss as_ cs))) :: H, R⟩) (fun x => B - x.1) ⟨0, by omega⟩ ?_ (fun x => ?_)
 exact Zq idH
 obtain ⟨k, hk⟩ := x
 dsimp only at hk ⊢
 refine sqt 1 rfl (pur 1 rfl (Z0 ?_))
 refine Z1 rfl ?_ ?_ <;> intro hc0 <;> try simp only [cS] at hc0
 refine Z2 (Z0 (Z4 (sqt 2 rfl (pur 2 rfl (sqt 4 rfl (pur 2 rfl (sp rfl (PE.indexAddr Z1p rfl rfl (by omega) (by omega)) rfl ?_)))))))
 refine ZI (l' := Zs ((ini (in0 fr) B k).set k 100)) rfl rfl rfl cn3 rfl rfl rfl (Z1a (by rw [ZO]; omega) (by show 0 + ((k : Nat) : Int).toNat * 1 = k; omega)) (by rw [Zo]; (first | rw [ZO] | rw [List.length_set, ZO] | rw [hfl]); show 0 + ((k : Nat) : Int).toNat * 1 + 1 ≤ _; omega) ?_
 refine sqt 3 rfl (pur 2 rfl ?_)
 refine clV rfl Z4Y rfl rfl (Zz fr af cf (k : Int) (by omega) _ _) ?_
 refine Z1 rfl ?_ ?_ <;> intro hc1 <;> try simp only [cS] at hc1
 refine sqr 4 rfl (pur 2 rfl (sp rfl (PE.indexAddr Z1p rfl rfl (by omega) (by omega)) rfl ?_))
 refine ZI (l' := Zs (((ini (in0 fr) B k).set k 100).set k 0)) rfl rfl rfl cn3 rfl rfl rfl (Z1a (by rw [List.length_set, ZO]; omega) (by show 0 + ((k : Nat) : Int).toNat * 1 = k; omega)) (by rw [Zo]; (first | rw [ZO] | rw [List.length_set, ZO] | rw [hfl]); show 0 + ((k : Nat) : Int).toNat * 1 + 1 ≤ _; omega) ?_
 refine sqr 2 rfl (sp rfl (PE.add rfl rfl (by omega)) rfl (pur 1 rfl ?_))
 rw [Z5g, Z7t (k := k) (by omega) (by unfold in0; rw [show Z36 fr (k : Int) = _ from hc1]; rfl)]
 exact Za ⟨k + 1, by omega⟩ idH
 refine Z2 (sqr 2 rfl (sp rfl (PE.add rfl rfl (by omega)) rfl (pur 1 rfl ?_)))
 rw [Z7t (k := k) (by omega) (by unfold in0; rw [show Z36 fr (k : Int) = _ from hc1]; rfl)]
 exact Za ⟨k + 1, by omega⟩ idH
 obtain rfl : k = B := by omega
 have hst := FolI.start (gs := h.gaps) (cl := (clP pl)) hfr k
 refine Zb (Zc (Zc (Zp (sqt 1 rfl (pur 1 rfl (Z0 (sqt 1 rfl (pur 1 rfl (Z4 ?_)))))))))
 refine Zg (ι := (x : {x : Nat × List Int // x.1 ≤ 20 ∧ FolI h.gaps (clP pl) (msk fr) k x.1 (Z2o h.gaps ((clP pl) x.1) (lvp h.gaps (clP pl) (msk fr) x.1) 0) x.2}) × OSl 3 1 (Z7 (Z3r pl x.1.1))) (fun x => ⟨[(0, h.v (h.sg ag cg) (h.ss as_ cs)), (1, .slice af fr.length cf), (2, .slice ap pl.length cp), (3, .pointer (some ⟨b3, 0, none⟩)), (7, .slice (some ⟨b17, 0, none⟩) k k), (9, x.2.fs), (33, .int .i64 x.1.1.1)], x.2.G ++ ((b17, cel 3 (Zs (x.1.1.2))) :: (b3, cel 26 (htl h (h.sg ag cg) (h.ss as_ cs))) :: H), R⟩) (fun x => 20 - x.1.1.1) ⟨⟨(0, ini (in0 fr) k k), by omega, hst⟩, OSl.nil _ _⟩ ?_ (fun x => ?_)
 exact Zq idH
 obtain ⟨⟨⟨w, o⟩, hw, hfo⟩, oc⟩ := x
 dsimp only at hw hfo oc ⊢
 have hcl := Z1Y pl w
 have hcl2 := Z1Y pl (w + 1)
 refine sqt 1 rfl (pur 1 rfl (Z0 ?_))
 refine Z1 rfl ?_ ?_ <;> intro hc2 <;> try simp only [cS] at hc2
 refine Z2 (Z0 (Z4 (sqt 2 rfl (pur 2 rfl (Z0 (sqt 4 rfl (pur 2 rfl (sp rfl (PE.lenSl Z6i rfl) rfl (pur 1 rfl ?_)))))))))
 refine Z2X (ι := OSl 3 1 (Z7 (Z3r pl (w + 1)))) (fun oc => ⟨[(0, h.v (h.sg ag cg) (h.ss as_ cs)), (1, .slice af fr.length cf), (2, .slice ap pl.length cp), (3, .pointer (some ⟨b3, 0, none⟩)), (7, .slice (some ⟨b17, 0, none⟩) k k), (9, oc.fs), (10, .int .i64 w), (33, .int .i64 w)], oc.G ++ ((b17, cel 3 (Zs (o))) :: (b3, cel 26 (htl h (h.sg ag cg) (h.ss as_ cs))) :: H), R⟩) ?_ ?_
 refine Z1 rfl ?_ ?_ <;> intro hc3 <;> try simp only [cS] at hc3
 obtain ⟨x, hx⟩ : ∃ x, pl[w]? = some x := ⟨_, List.getElem?_eq_getElem (by omega)⟩
 have hst := Z2I hx
 have hsl := congrArg List.length hst
 rw [List.length_append] at hsl
 refine Zn (a := ap) (sz := 1) (rows := ZG pl) (ne0 (by rw [Z0g]; omega)) (fun ba oa he => ?_)
 subst he
 refine Sy.heap (fun w h9 => St.inn (x := x) h9 (List.mem_of_getElem? hx)) ?_
 refine sqr 7 rfl (pur 3 rfl (sp rfl (PE.indexAddr Zce rfl rfl (by omega) (by omega)) rfl (spL rfl rfl (lf0 Z35 (Z6n hx) rfl) rfl ?_)))
 refine apO (news := Z7 x.l) oc rfl Z43 rfl rfl (Z7v) (irl _) (by simp [ZY, Z7, Value.oneCell']) (by rw [irl, irl]; omega) rfl (fun o45 => ?_)
 refine pur 1 rfl ?_
 first | exact ZC (o45.cast (by rw [hst]; simp [Z7])) (fun w h9 => h9.ftail) | exact ZC (oc.cast (by rw [Z5w (by omega)])) idH
 refine Z2 ?_
 first | exact ZC (o45.cast (by rw [hst]; simp [Z7])) (fun w h9 => h9.ftail) | exact ZC (oc.cast (by rw [Z5w (by omega)])) idH
 intro oc
 dsimp only
 refine sqt 4 rfl (sp rfl (PE.fA Z00 rfl) rfl (spL rfl rfl (lh Z4a rfl rfl) rfl (sp rfl (PE.lenSl Z3F rfl) rfl (pur 1 rfl (Z4 ?_)))))
 refine Zg (ι := {x : Nat × List Int // x.1 ≤ h.gaps.length ∧ FolI h.gaps (clP pl) (msk fr) k w (Z2o h.gaps ((clP pl) w) (lvp h.gaps (clP pl) (msk fr) w) (x.1)) x.2}) (fun x => ⟨[(0, h.v (h.sg ag cg) (h.ss as_ cs)), (1, .slice af fr.length cf), (2, .slice ap pl.length cp), (3, .pointer (some ⟨b3, 0, none⟩)), (7, .slice (some ⟨b17, 0, none⟩) k k), (9, oc.fs), (10, .int .i64 w), (33, .int .i64 w), (47, h.sg ag cg), (48, .int .i64 h.gaps.length), (49, .int .i64 x.1.1)], oc.G ++ ((b17, cel 3 (Zs (x.1.2))) :: (b3, cel 26 (htl h (h.sg ag cg) (h.ss as_ cs))) :: H), R⟩) (fun x => h.gaps.length - x.1.1) ⟨(0, o), by omega, hfo⟩ ?_ (fun x => ?_)
 exact Zq idH
 obtain ⟨⟨i, o⟩, hi, hfo⟩ := x
 dsimp only at hi hfo ⊢
 refine sqt 1 rfl (pur 1 rfl (Z0 ?_))
 refine Z1 rfl ?_ ?_ <;> intro hc4 <;> try simp only [cS] at hc4
 obtain ⟨gg, hg⟩ : ∃ g, h.gaps[i]? = some g := ⟨_, List.getElem?_eq_getElem (by omega)⟩
 have hgo := hok.gaps gg (List.mem_of_getElem? hg)
 refine Zn (a := ag) (sz := 2) (rows := Zi h.gaps) (ne0 (by rw [Z0v]; omega)) (fun ba oa he => ?_)
 subst he
 refine Z2 (Z0 (Z4 (sqt 6 rfl (pur 1 rfl (sp rfl (PE.indexAddr Z7Y rfl rfl (by omega) (by omega)) rfl (spL rfl rfl (lfA Z5A (row := Z1q gg) (Z1r hg) rfl) rfl (alc rfl Z33 rfl (fun b12 => pur 1 rfl ?_))))))))
 refine ZI (l' := Z1q gg) rfl rfl rfl Z9f rfl rfl rfl rfl (nl rfl) ?_
 refine Z0 (sqt 3 rfl (pur 2 rfl ?_))
 refine Sy.heap (H' := oc.G ++ ((b12, cel 46 (Z1q gg)) :: _)) (fun w h9 => h9.perm (Zh [_] _ _)) ?_
 refine clV rfl Z4Y rfl rfl (FnV.lendO oc (fun v => [v, .int .i64 i]) (fun a5 c5 _ => by rw [irl]; exact Zz (Z3r pl (w + 1)) a5 c5 (i : Int) (by omega) _ _)) ?_
 refine Z1 rfl ?_ ?_ <;> intro hc5 <;> try simp only [cS] at hc5
 have hcb : (clP pl w).testBit i = true := by unfold clP; rw [← Z4J (fun x hx => hpx x (Z5e hx))]; exact hc5
 refine Zb (Zc (Zp (sqr 2 rfl (sp rfl (PE.add rfl rfl (by omega)) rfl (pur 1 rfl ?_)))))
 exact Za ⟨(i + 1, o), by dsimp only; omega, hfo.shut hcb⟩ (fun w h9 => h9.del b12)
 have hcb : (clP pl w).testBit i = false := by unfold clP; rw [← Z4J (fun x hx => hpx x (Z5e hx))]; exact hc5
 refine Z2 (sqt 13 rfl (sp rfl (PE.fA ZN rfl) rfl (spL rfl rfl (lh sc3 rfl rfl) rfl (sp rfl (PE.fA ZF rfl) rfl (spL rfl rfl (lh sc3 rfl rfl) rfl (sp rfl (PE.buildArr (out := [_, _]) ZaS Zch rfl rfl) rfl (sp rfl (PE.fA ZF rfl) rfl (spL rfl rfl (lh sc3 rfl rfl) rfl (sp rfl (PE.fA ZN rfl) rfl (spL rfl rfl (lh sc3 rfl rfl) rfl (sp rfl (PE.buildArr (out := [_, _]) ZaS Zch rfl rfl) rfl ?_)))))))))))
 refine bsl (out := [_, _, _, _]) rfl ZdS Zch rfl rfl rfl rfl rfl rfl (fun b67 => ?_)
 refine sp rfl (PE.lenSl ZcX rfl) rfl (pur 1 rfl (Z4 ?_))
 refine Zg (ι := {x : Nat × List Int // x.1 ≤ 2 ∧ FolI h.gaps (clP pl) (msk fr) k w (ZcN (lvp h.gaps (clP pl) (msk fr) w) (Z2o h.gaps ((clP pl) w) (lvp h.gaps (clP pl) (msk fr) w) (i)) gg x.1) x.2}) (fun x => ⟨[(0, h.v (h.sg (some ⟨ba, oa, none⟩) cg) (h.ss as_ cs)), (1, .slice af fr.length cf), (2, .slice ap pl.length cp), (3, .pointer (some ⟨b3, 0, none⟩)), (7, .slice (some ⟨b17, 0, none⟩) k k), (9, oc.fs), (10, .int .i64 w), (33, .int .i64 w), (47, h.sg (some ⟨ba, oa, none⟩) cg), (48, .int .i64 h.gaps.length), (49, .int .i64 i), (67, .slice (some ⟨b67, 0, none⟩) 2 2), (68, .int .i64 2), (69, .int .i64 x.1.1)], (b67, cel 93 (ZdB gg)) :: (oc.G ++ ((b12, cel 46 (Z1q gg)) :: (b17, cel 3 (Zs (x.1.2))) :: (b3, cel 26 (htl h (h.sg (some ⟨ba, oa, none⟩) cg) (h.ss as_ cs))) :: H)), R⟩) (fun x => 2 - x.1.1) ⟨(0, o), by omega, hfo⟩ ?_ (fun x => ?_)
 exact Zq idH
 obtain ⟨⟨j, o⟩, hj, hfo⟩ := x
 dsimp only at hj hfo ⊢
 have hfl := hfo.len
 refine sqt 1 rfl (pur 1 rfl (Z0 ?_))
 refine Z1 rfl ?_ ?_ <;> intro hc6 <;> try simp only [cS] at hc6
 obtain ⟨u, v, rest, hu, hv, hdr, hacc⟩ := Zac (s := (lvp h.gaps (clP pl) (msk fr) w)) (acc := (Z2o h.gaps ((clP pl) w) (lvp h.gaps (clP pl) (msk fr) w) (i))) (n := k) (show 0 ≤ gg.a ∧ gg.a < (k : Int) by omega) (show 0 ≤ gg.b ∧ gg.b < (k : Int) by omega) (show j < 2 by omega)
 have hbu := hfo.bd (by omega) hu
 have hbv := hfo.bd (by omega) hv
 refine Z2 (Z0 (Z4 (sqt 4 rfl (sp rfl (PE.indexAddr ZdG rfl rfl (by omega) (by omega)) rfl (spL rfl rfl (lhA [.int .i64 (u : Int), .int .i64 (v : Int)] ZdY rfl (rest := rest) (by rw [← hdr]; congr 1; show 0 + ((j : Nat) : Int).toNat * 2 = j * 2; omega) rfl) rfl (alc rfl Zch rfl (fun b14 => ?_)))))))
 refine ZI (l' := [.int .i64 (u : Int), .int .i64 (v : Int)]) rfl rfl rfl ZdM rfl rfl rfl rfl (nl rfl) ?_
 refine sqt 16 rfl (pur 1 rfl (sp rfl (PE.indexArr ZaS rfl rfl (by omega) (by omega)) rfl (spL rfl rfl (lh sc3 rfl rfl) rfl (sp rfl (PE.indexAddr Z1p rfl rfl (by omega) (by omega)) rfl (spL rfl rfl (lh sc3 rfl (Z0G (w := o) (k := u) (by omega) (by show 0 + ((u : Nat) : Int).toNat * 1 = u; omega))) rfl (pur 3 rfl ?_))))))
 refine Zt 80 rfl ?_ ?_ <;> intro g80
 simp only [decide_eq_true_eq] at g80
 refine pur 1 rfl ?_
 refine spG rfl rfl rfl rfl (PE.indexArr ZaS rfl rfl (by omega) (by omega)) rfl ?_
 refine Z2H rfl rfl rfl rfl rfl (lh sc3 rfl rfl) rfl ?_
 refine spG rfl rfl rfl rfl (PE.indexAddr Z1p rfl rfl (by omega) (by omega)) rfl ?_
 refine Z2H rfl rfl rfl rfl rfl (lh sc3 rfl (Z0G (w := o) (k := v) (by omega) (by show 0 + ((v : Nat) : Int).toNat * 1 = v; omega))) rfl (pur 3 rfl ?_)
 refine Z1 rfl ?_ ?_ <;> intro hc7 <;> try simp only [cS] at hc7
 refine Ze [0, 0, 2, 0, 0, 16, 56, 120, 0, 256, 1016, 2047, 4095] (.tk 0 (.tk 1 (.ld 2 (.tk 3 (.tk 4 (.ld 5 (.tk 6 (.ld 7 (tks 8 4 (.big 12 .done)))))))))) Zu (by kernel_rfl) ?_
 refine Zl 1 rfl (tk rfl (PE.indexArr ZaS rfl rfl (by omega) (by omega)) rfl (ld rfl rfl (lh sc3 rfl rfl) rfl (Zl 1 rfl (tk rfl (PE.indexArr ZaS rfl rfl (by omega) (by omega)) rfl (ld rfl rfl (lh sc3 rfl rfl) rfl (tk rfl (PE.indexAddr Z1p rfl rfl (by omega) (by omega)) rfl (ld rfl rfl (lh sc3 rfl (Z0G (w := o) (k := v) (by omega) (by show 0 + ((v : Nat) : Int).toNat * 1 = v; omega))) rfl (Zl 1 rfl (tk rfl (PE.add rfl rfl (by omega)) rfl (tk rfl (PE.min rfl rfl) rfl (tk rfl (PE.indexAddr Z1p rfl rfl (by omega) (by omega)) rfl ?_)))))))))))
 refine ZI (l' := Zs (o.set v (min (na o v) ((w : Int) + 1)))) rfl rfl rfl cn3 rfl rfl rfl (Z1a (by omega) (by show 0 + ((v : Nat) : Int).toNat * 1 = v; omega)) (by rw [Zo]; (first | rw [ZO] | rw [List.length_set, ZO] | rw [hfl]); show 0 + ((v : Nat) : Int).toNat * 1 + 1 ≤ _; omega) ?_
 refine bgT (sqr 2 rfl (sp rfl (PE.add rfl rfl (by omega)) rfl (pur 1 rfl ?_)))
 exact Za ⟨(j + 1, o.set v (min (na o v) ((w : Int) + 1))), by dsimp only; omega, by dsimp only; rw [hacc]; exact hfo.way (by omega) hu hv (by omega) (by omega)⟩ (fun w h9 => h9.del b14)
 refine Z2 (sqr 2 rfl (sp rfl (PE.add rfl rfl (by omega)) rfl (pur 1 rfl ?_)))
 exact Za ⟨(j + 1, o), by dsimp only; omega, by dsimp only; rw [hacc]; exact hfo.same (by omega) hu hv (fun h9 => by omega)⟩ (fun w h9 => h9.del b14)
 simp only [decide_eq_false_iff_not] at g80
 refine pur 8 rfl ?_
 refine ZK rfl ?_
 refine Z2 (sqr 2 rfl (sp rfl (PE.add rfl rfl (by omega)) rfl (pur 1 rfl ?_)))
 exact Za ⟨(j + 1, o), by dsimp only; omega, by dsimp only; rw [hacc]; exact hfo.same (by omega) hu hv (fun h9 => by omega)⟩ (fun w h9 => h9.del b14)
 obtain rfl : j = 2 := by omega
 refine Zb (Zc (Zc (Zp (sqr 2 rfl (sp rfl (PE.add rfl rfl (by omega)) rfl (pur 1 rfl ?_))))))
 exact Za ⟨(i + 1, o), by dsimp only; omega, hfo.gap hg hcb⟩ (fun w h9 => (h9.del b67).del b12)
 obtain rfl : i = h.gaps.length := by omega
 have hwk := hfo.week
 refine Zb (Zc (Zc (Zp (sqr 2 rfl (sp rfl (PE.add rfl rfl (by omega)) rfl (pur 1 rfl ?_))))))
 exact Za ⟨⟨(w + 1, o), by dsimp only; omega, hwk⟩, oc⟩ idH
 obtain rfl : w = 20 := by omega
 obtain rfl := hfo.done rfl
 refine Sy.heap (H' := _ :: (oc.G ++ _)) (fun w h9 => h9.perm (List.perm_middle (l₁ := oc.G) (a := _))) ?_
 refine Sy.heap (fun w h9 => St.rows (sz := 1) (rows := Z7 (Z3k h.gaps (clP pl) (msk fr) k)) (rest := []) (by rw [List.append_nil, show (Z7 (Z3k h.gaps (clP pl) (msk fr) k)).flatten = Zs (Z3k h.gaps (clP pl) (msk fr) k) from Z1V _]; exact h9) (fun r hr => by obtain ⟨x, _, rfl⟩ := List.mem_map.1 hr; rfl)) ?_
 refine Zb (Zc (Zc (Zp (sqt 2 rfl (pur 2 rfl (Z6 ?_))))))
 exact rtA rfl rfl rfl ⟨_, k, rfl, rfl, rfl⟩ (fun w h9 => (St.drop (G := oc.G) h9).del b3)
theorem Zam : cal Try.prog 10 = true := by kernel_rfl
theorem Zbj : cal Try.prog 16 = true := by kernel_rfl
theorem Zdc : cal Try.prog 19 = true := by kernel_rfl
theorem ZdP : cal Try.prog 9 = true := by kernel_rfl
theorem ZaY : Z0l Try.prog 24 = some 1 := by kernel_rfl
theorem ZcM : Z0l Try.prog 38 = some 3 := by kernel_rfl
theorem cn4 : Z0l Try.prog 4 = some 1 := by kernel_rfl
theorem Fn.lendV {P : Program} {f : FuncId} {args : List Value} {p : Value → Prop} {b e sz : Nat} {rows : List (List Value)} {junk : List Value} {H T : Z9} {R : Z5} [pl : Pull b (cel e (rows.flatten ++ junk)) H T] (hs : ∀ r ∈ rows, r.length = sz)
    (h : ∀ B : World → Prop, Fn P f args T (RowsA (some ⟨b, 0, none⟩) sz rows :: B :: R) (fun v H' R' => p v ∧ H' = T ∧ ∀ g, g ∈ RowsA (some ⟨b, 0, none⟩) sz rows :: B :: R → g ∈ R')) : Fn P f args H R (fun v H' R' => p v ∧ H' = H ∧ R' = R) := fun w hw => by
  have h1 := hw.perm pl.perm
  have hb : b ∉ ids T := (List.nodup_cons.1 h1.nd).1
  have h3 : St T (RowsA (some ⟨b, 0, none⟩) sz rows :: Z82 b (cel e (rows.flatten ++ junk)) R :: R) w :=
    St.also h1.lend (fun w' hg => Z3b (hg (Z82 b (cel e (rows.flatten ++ junk)) R) (by simp)).1 hs)
  refine CallsIn.mono (h _ w h3) ?_
  rintro e' w' ⟨u, H', R', ⟨hp, rfl, hsub⟩, he, hs'⟩
  exact ⟨u, H, R, ⟨hp, rfl, rfl⟩, he, ((hs'.facts (R' := Z82 b (cel e (rows.flatten ++ junk)) R :: R) (fun g hg => hsub g (List.mem_cons_of_mem _ hg))).unlend hb).perm pl.perm.symm⟩
theorem Fn.lendVO {P : Program} {f : FuncId} {p : Value → Prop} {e sz : Nat} {rows : List (List Value)} (o : OSl e sz rows) (mk : Value → List Value) {T : Z9} {R : Z5}
    (h : ∀ (a : Option Addr) (c : Nat) (B : World → Prop), Fn P f (mk (.slice a rows.length c)) T (RowsA a sz rows :: B :: R) (fun v H' R' => p v ∧ H' = T ∧ ∀ g, g ∈ RowsA a sz rows :: B :: R → g ∈ R')) : Fn P f (mk o.fs) (o.G ++ T) R (fun v H' R' => p v ∧ H' = o.G ++ T ∧ R' = R) := fun w hw => by
  obtain ⟨fs, G, hl, his⟩ := o
  rcases his with ⟨rfl, rfl, rfl⟩ | ⟨b, cap, junk, rfl, rfl, h1, h2, h3⟩
  · have h3 : St T (RowsA none sz [] :: (fun _ => True) :: R) w := St.also (St.also hw (f := fun _ => True) (fun _ _ => trivial)) (fun w' _ i row hi => by simp at hi)
    refine CallsIn.mono (h none 0 _ w h3) ?_
    rintro e' w' ⟨u, H', R', ⟨hp, rfl, hsub⟩, he, hs'⟩
    exact ⟨u, _, R, ⟨hp, rfl, rfl⟩, he, hs'.facts (fun g hg => hsub g (List.mem_cons_of_mem _ (List.mem_cons_of_mem _ hg)))⟩
  · exact Fn.lendV (H := (b, cel e (rows.flatten ++ junk)) :: T) (b := b) (e := e) (sz := sz) (rows := rows) (junk := junk) hl (fun B => h _ cap B) w hw
theorem OSl.withSl {e sz : Nat} {rows : List (List Value)} {p : Prop} (o : OSl e sz rows) (h : ∀ a c, o.fs = .slice a rows.length c → p) : p := by
  obtain ⟨fs, G, hl, his⟩ := o
  rcases his with ⟨rfl, rfl, rfl⟩ | ⟨b, cap, junk, rfl, rfl, h1, h2, h3⟩
  · exact h none 0 rfl
  · exact h _ cap rfl
theorem Tru.nil (h : Hse) (l : List Int) : Tru h l [] := ⟨(fun s hs => by cases hs), rfl⟩
set_option maxHeartbeats 400000 in
theorem Zaa (l0 : List Int) (a0 : Option Addr) (c0 bk : Nat) (hgl : l0.length ≤ 9223372036854775807) (tq mx : Int) (htq : 0 ≤ tq ∧ tq ≤ 1000000) (hmx : 0 ≤ mx ∧ mx ≤ 4294967295) (h : Hse) (ag : Option Addr) (cg : Nat) (hok : h.ok) (hss : h.sights = []) (fr : List Int) (af : Option Addr) (cf : Nat) (hfl0 : fr.length ≤ 1000000) (hfr : ∀ x ∈ fr, 0 ≤ x ∧ x < h.bins) (most : Int) (hmost : 0 ≤ most ∧ most ≤ 8) (H : Z9) (R : Z5) [hG : MemRows a0 1 (Z2c l0) R] [hG : MemRows ag 2 (Zi h.gaps) R] [hF : MemRows af 1 (Z7 fr) R] :
    Fn Try.prog 11 [.pointer (some ⟨bk, 0, none⟩), h.v (h.sg ag cg) (h.ss none 0), .slice af fr.length cf, .int .i64 most] ((bk, cel 72 [.slice a0 l0.length c0, .int .i64 (tq), .int .u32 (mx)]) :: H) R (fun v H' R' => ∃ (ss : List Sgt) (o : OSl 38 3 (Zd ss)) (tq' mx' : Int), Tru h fr ss ∧ (ss.length : Int) ≤ most ∧ v = Hse.v ⟨h.bins, h.gaps, ss⟩ (h.sg ag cg) o.fs ∧ (tq ≤ tq' ∧ tq' ≤ tq + 20) ∧ (0 ≤ mx' ∧ mx' ≤ 4294967295) ∧ H' = (bk, cel 72 [.slice a0 l0.length c0, .int .i64 (tq'), .int .u32 (mx')]) :: (o.G ++ H) ∧ R' = R) := by
 refine Zj Try.func11 rfl Try.ntmps11 rfl ?_
 refine sqt 2 rfl ?_
 have hbn := hok.bins
 refine bx rfl rfl rfl (fun b5 => alc rfl Z83 rfl (fun b8 => sqt 4 rfl (spL rfl rfl (lhA (htl h (h.sg ag cg) (h.ss none 0)) Z0A rfl rfl rfl) rfl (pur 1 rfl ?_))))
 refine Sy.heap (fun w h9 => St.norows9 (sz := 1) h9) ?_
 refine cl rfl Zdc rfl rfl (Z8K h ag none cg 0 hok fr af cf hfl0 (fun x hx => (hfr x hx).1) [] none 0 (by decide) (by decide) (by simp [lls]) _ _) ?_
 rintro _ _ R1 ⟨af2, cf2, rfl, rfl, hR1⟩
 obtain rfl := hR1.symm
 clear hR1
 refine pur 1 rfl (Z0 (sqt 5 rfl ?_))
 refine ZA bk ?_
 refine pur 2 rfl (sp rfl (PE.add rfl rfl (by omega)) rfl ?_)
 refine cl rfl Z2B rfl rfl (Z0m l0 a0 c0 bk hgl _ _ (by omega) (by assumption) (most + 1) _ _) ?_
 rintro _ _ R1 ⟨x17, m17, hx17, rfl, hm17, rfl, hR1⟩
 obtain rfl := hR1.symm
 obtain ⟨n17, rfl⟩ : ∃ n : Nat, x17 = n := ⟨x17.toNat, by omega⟩
 refine pur 1 rfl (Z4 ?_)
 refine Sy.heap (H' := (bk, cel 72 [.slice a0 l0.length c0, .int .i64 (tq + 1), .int .u32 (m17)]) :: (b5, cel 26 (htl ⟨h.bins, h.gaps, []⟩ (h.sg ag cg) (.slice none 0 0))) :: (b8, cel 26 [.int .i64 0, .slice none 0 0, .slice none 0 0]) :: H) (fun w h9 => by
   have e : (htl h (h.sg ag cg) (h.ss none 0)) = (htl ⟨h.bins, h.gaps, []⟩ (h.sg ag cg) (.slice none 0 0)) := by unfold Hse.ss; rw [hss]; rfl
   rw [← e]
   exact h9.perm (by first | exact .refl _ | exact List.Perm.cons _ (List.Perm.swap _ _ _))) ?_
 refine Zg (ι := (x : {x : Nat × List Sgt × Int × Int // x.1 ≤ n17 ∧ (x.2.1.length = x.1 ∧ Tru h fr x.2.1) ∧ (tq ≤ x.2.2.1 ∧ x.2.2.1 ≤ tq + 1 + 2 * x.1) ∧ (0 ≤ x.2.2.2 ∧ x.2.2.2 ≤ 4294967295)}) × OSl 38 3 (Zd x.1.2.1)) (fun x => ⟨[(0, .pointer (some ⟨bk, 0, none⟩)), (5, .pointer (some ⟨b5, 0, none⟩)), (8, .pointer (some ⟨b8, 0, none⟩)), (9, .slice af2 h.bins.toNat cf2), (17, .int .i64 n17), (18, .int .i64 x.1.1.1)],
   (bk, cel 72 [.slice a0 l0.length c0, .int .i64 (x.1.1.2.2.1), .int .u32 (x.1.1.2.2.2)]) :: (x.2.G ++ (b5, cel 26 (htl ⟨h.bins, h.gaps, x.1.1.2.1⟩ (h.sg ag cg) x.2.fs)) :: (b8, cel 26 [.int .i64 0, .slice none 0 0, .slice none 0 0]) :: H), RowsA af2 1 (Z7 (Z3k h.gaps (clP []) (msk fr) h.bins.toNat)) :: R⟩) (fun x => n17 - x.1.1.1) ⟨⟨(0, [], tq + 1, m17), by omega, ⟨rfl, Tru.nil _ _⟩, by dsimp only; omega, by assumption⟩, OSl.nil _ _⟩ ?_ (fun x => ?_)
 exact Zq (fun w h9 => h9.facts (fun g hg => by simp only [List.mem_cons] at hg ⊢; rcases hg with h8 | h8 <;> simp [h8]))
 obtain ⟨⟨⟨k, ss, tq2, mx2⟩, hk, ⟨hsl, htr⟩, htq2, hmx2⟩, o⟩ := x
 dsimp only at hk hsl htr htq2 hmx2 o ⊢
 refine sqt 1 rfl (pur 1 rfl (Z0 ?_))
 refine Z1 rfl ?_ ?_ <;> intro hc0 <;> try simp only [cS] at hc0
 refine Z2 (Z0 (Z4 (Z0 ?_)))
 refine Ze [0, 1, 0, 0, 8, 31, 63, 0, 255] (.tk 0 (.tk 2 (.tk 3 (.ld 4 (.any (.alt 1 (.any (.alt 5 (.tk 6 (.big 7 (.big 8 .done))) (.alt 7 (.big 5 (.tk 6 (.big 8 .done))) .stop))) (.alt 7 (.big 1 (.big 5 (.tk 6 (.big 8 .done)))) .stop))))))) Zu (by kernel_rfl) ?_
 refine Zl 2 rfl (tk rfl (PE.fA Z0p rfl) rfl (ld rfl rfl (lh (v := .int .i64 h.bins) sc3 rfl rfl) rfl ?_))
 refine Z0Y ?_ ?_
 refine ZA bk ?_
 refine cl rfl Z2B rfl rfl (Z0m l0 a0 c0 bk hgl _ _ (by omega) (by assumption) (5) _ _) ?_
 rintro _ _ R1 ⟨x21, m21, hx21, rfl, hm21, rfl, hR1⟩
 obtain rfl := hR1.symm
 refine bg (fun w hs => ⟨(lh (v := .int .i64 h.bins) sc3 rfl rfl) w hs, trivial⟩) ?_
 refine Z0Y ?_ ?_
 refine ZA bk ?_
 refine cl rfl Z2B rfl rfl (Z0m l0 a0 c0 bk hgl _ _ (by omega) (by assumption) (h.bins) _ _) ?_
 rintro _ _ R1 ⟨x25, m25, hx25, rfl, hm25, rfl, hR1⟩
 obtain rfl := hR1.symm
 refine bgT (tk rfl (PE.build (out := [.int .i64 x21, .int .i64 x25, .bool (false)]) ZaT Z4x rfl rfl) rfl (alc rfl Z4x rfl (fun b10 => bgT ?_)))
 refine sto rfl rfl rfl ZcM rfl rfl rfl rfl ?_
 refine bgT (Z0 ?_)
 refine Ze [0, 0, 2, 7, 15, 0, 32, 127, 255, 511] (.tk 0 (.tk 1 (.ld 2 (.tk 3 (.ld 4 (.tk 5 (.ld 6 (.tk 7 (.tk 8 (.big 9 .done)))))))))) Zu (by kernel_rfl) ?_
 have hgf := Z0c (l := (Z3k h.gaps (clP []) (msk fr) h.bins.toNat)) (k := x25.toNat) (by rw [Z0S]; omega)
 have hft := Z54 (gs := h.gaps) (cl := clP []) (m := msk fr) (n := h.bins.toNat) (k := x25.toNat) (by omega)
 generalize hfv : na (Z3k h.gaps (clP []) (msk fr) h.bins.toNat) x25.toNat = fv at *
 have hes : exS h.gaps (msk fr) ⟨x21, x25, decide (fv ≤ x21)⟩ = true := Z4A hok hfr (s := ⟨x21, x25, decide (fv ≤ x21)⟩) (by dsimp only; omega) (by dsimp only; rw [hft]; rfl)
 refine Zn (a := af2) (sz := 1) (rows := Z7 (Z3k h.gaps (clP []) (msk fr) h.bins.toNat)) (by intro h0; have := congrArg List.length h0; rw [irl, Z0S] at this; simp only [List.length_nil] at this; omega) (fun bf bfo hebf => ?_)
 subst hebf
 refine Zl 1 rfl (tk rfl (PE.fA Z3q rfl) rfl (ld rfl rfl (lh sc3 rfl rfl) rfl (tk rfl (PE.indexAddr Z1p rfl rfl (by omega) (by omega)) rfl (ld rfl rfl (lf0 sc3 (Z01 hgf) rfl) rfl (tk rfl (PE.fA Z3g rfl) rfl (ld rfl rfl (lh sc3 rfl rfl) rfl (Zl 1 rfl (tk rfl (PE.fA Z0E rfl) rfl ?_))))))))
 refine ZI (l' := [.int .i64 x21, .int .i64 x25, .bool (decide (fv ≤ x21))]) rfl rfl rfl cn4 rfl rfl rfl rfl (nl rfl) ?_
 refine bgT (sqr 7 rfl (sp rfl (PE.fA Zw rfl) rfl (spL rfl rfl (lh Z1O rfl rfl) rfl (spL rfl rfl (lhA [.int .i64 x21, .int .i64 x25, .bool (decide (fv ≤ x21))] Zab rfl rfl rfl) rfl ?_))))
 refine bsl (out := [_, _, _]) rfl Z9Q Z4x rfl rfl rfl rfl rfl rfl (fun b39 => ?_)
 refine apO (o) rfl Z9B rfl rfl (Z0B (row := Z1N ⟨x21, x25, decide (fv ≤ x21)⟩) rfl) rfl rfl ((by rw [ZQ]; simp only [List.length_singleton]; omega)) rfl (fun o40 => ?_)
 refine sp rfl (PE.fA Zw rfl) rfl ?_
 refine ZI (l' := htl ⟨h.bins, h.gaps, ss ++ [⟨x21, x25, decide (fv ≤ x21)⟩]⟩ (h.sg ag cg) o40.fs) rfl rfl rfl ZaY rfl (by rw [o40.cells.1]; first | done | rfl) (by rw [o40.cells.1]; simp [o40.cells.2]) (by rw [o40.cells.1]; first | done | rfl) (by rw [o40.cells.1]; first | done | exact Nat.le_of_ble_eq_true rfl) ?_
 refine sqr 2 rfl (sp rfl (PE.add rfl rfl (by omega)) rfl (pur 1 rfl ?_))
 exact Za ⟨⟨(k + 1, ss ++ [⟨x21, x25, decide (fv ≤ x21)⟩], tq2 + 1 + 1, m25), by dsimp only; omega, ⟨by simp [hsl], htr.snoc (by dsimp only; omega) hes⟩, by dsimp only; omega, by assumption⟩, o40.cast (by simp [Zd])⟩ (fun w h9 => ((h9.del b39).del b10).perm (by first | exact .refl _ | exact (Zh _ [_] _).symm))
 refine Z0Y ?_ ?_
 refine alc rfl Z4x rfl (fun b10 => ?_)
 refine bg (fun w hs => ⟨(lh (v := .int .i64 h.bins) sc3 rfl rfl) w hs, trivial⟩) ?_
 refine ZA bk ?_
 refine cl rfl Z2B rfl rfl (Z0m l0 a0 c0 bk hgl _ _ (by omega) (by assumption) (h.bins) _ _) ?_
 rintro _ _ R1 ⟨x25, m25, hx25, rfl, hm25, rfl, hR1⟩
 obtain rfl := hR1.symm
 refine bgT (tk rfl (PE.build (out := [.int .i64 x21, .int .i64 x25, .bool (false)]) ZaT Z4x rfl rfl) rfl ?_)
 refine sto rfl rfl rfl ZcM rfl rfl rfl rfl ?_
 refine bgT (Z0 ?_)
 refine Ze [0, 0, 2, 7, 15, 0, 32, 127, 255, 511] (.tk 0 (.tk 1 (.ld 2 (.tk 3 (.ld 4 (.tk 5 (.ld 6 (.tk 7 (.tk 8 (.big 9 .done)))))))))) Zu (by kernel_rfl) ?_
 have hgf := Z0c (l := (Z3k h.gaps (clP []) (msk fr) h.bins.toNat)) (k := x25.toNat) (by rw [Z0S]; omega)
 have hft := Z54 (gs := h.gaps) (cl := clP []) (m := msk fr) (n := h.bins.toNat) (k := x25.toNat) (by omega)
 generalize hfv : na (Z3k h.gaps (clP []) (msk fr) h.bins.toNat) x25.toNat = fv at *
 have hes : exS h.gaps (msk fr) ⟨x21, x25, decide (fv ≤ x21)⟩ = true := Z4A hok hfr (s := ⟨x21, x25, decide (fv ≤ x21)⟩) (by dsimp only; omega) (by dsimp only; rw [hft]; rfl)
 refine Zn (a := af2) (sz := 1) (rows := Z7 (Z3k h.gaps (clP []) (msk fr) h.bins.toNat)) (by intro h0; have := congrArg List.length h0; rw [irl, Z0S] at this; simp only [List.length_nil] at this; omega) (fun bf bfo hebf => ?_)
 subst hebf
 refine Zl 1 rfl (tk rfl (PE.fA Z3q rfl) rfl (ld rfl rfl (lh sc3 rfl rfl) rfl (tk rfl (PE.indexAddr Z1p rfl rfl (by omega) (by omega)) rfl (ld rfl rfl (lf0 sc3 (Z01 hgf) rfl) rfl (tk rfl (PE.fA Z3g rfl) rfl (ld rfl rfl (lh sc3 rfl rfl) rfl (Zl 1 rfl (tk rfl (PE.fA Z0E rfl) rfl ?_))))))))
 refine ZI (l' := [.int .i64 x21, .int .i64 x25, .bool (decide (fv ≤ x21))]) rfl rfl rfl cn4 rfl rfl rfl rfl (nl rfl) ?_
 refine bgT (sqr 7 rfl (sp rfl (PE.fA Zw rfl) rfl (spL rfl rfl (lh Z1O rfl rfl) rfl (spL rfl rfl (lhA [.int .i64 x21, .int .i64 x25, .bool (decide (fv ≤ x21))] Zab rfl rfl rfl) rfl ?_))))
 refine bsl (out := [_, _, _]) rfl Z9Q Z4x rfl rfl rfl rfl rfl rfl (fun b39 => ?_)
 refine apO (o) rfl Z9B rfl rfl (Z0B (row := Z1N ⟨x21, x25, decide (fv ≤ x21)⟩) rfl) rfl rfl ((by rw [ZQ]; simp only [List.length_singleton]; omega)) rfl (fun o40 => ?_)
 refine sp rfl (PE.fA Zw rfl) rfl ?_
 refine ZI (l' := htl ⟨h.bins, h.gaps, ss ++ [⟨x21, x25, decide (fv ≤ x21)⟩]⟩ (h.sg ag cg) o40.fs) rfl rfl rfl ZaY rfl (by rw [o40.cells.1]; first | done | rfl) (by rw [o40.cells.1]; simp [o40.cells.2]) (by rw [o40.cells.1]; first | done | rfl) (by rw [o40.cells.1]; first | done | exact Nat.le_of_ble_eq_true rfl) ?_
 refine sqr 2 rfl (sp rfl (PE.add rfl rfl (by omega)) rfl (pur 1 rfl ?_))
 exact Za ⟨⟨(k + 1, ss ++ [⟨x21, x25, decide (fv ≤ x21)⟩], tq2 + 1 + 1, m25), by dsimp only; omega, ⟨by simp [hsl], htr.snoc (by dsimp only; omega) hes⟩, by dsimp only; omega, by assumption⟩, o40.cast (by simp [Zd])⟩ (fun w h9 => ((h9.del b39).del b10).perm (by first | exact .refl _ | exact (Zh _ [_] _).symm))
 exact Z1X
 refine Z0Y ?_ ?_
 refine alc rfl Z4x rfl (fun b10 => ?_)
 refine bg (fun w hs => ⟨(lh (v := .int .i64 h.bins) sc3 rfl rfl) w hs, trivial⟩) ?_
 refine ZA bk ?_
 refine cl rfl Z2B rfl rfl (Z0m l0 a0 c0 bk hgl _ _ (by omega) (by assumption) (5) _ _) ?_
 rintro _ _ R1 ⟨x21, m21, hx21, rfl, hm21, rfl, hR1⟩
 obtain rfl := hR1.symm
 refine bg (fun w hs => ⟨(lh (v := .int .i64 h.bins) sc3 rfl rfl) w hs, trivial⟩) ?_
 refine ZA bk ?_
 refine cl rfl Z2B rfl rfl (Z0m l0 a0 c0 bk hgl _ _ (by omega) (by assumption) (h.bins) _ _) ?_
 rintro _ _ R1 ⟨x25, m25, hx25, rfl, hm25, rfl, hR1⟩
 obtain rfl := hR1.symm
 refine bgT (tk rfl (PE.build (out := [.int .i64 x21, .int .i64 x25, .bool (false)]) ZaT Z4x rfl rfl) rfl ?_)
 refine sto rfl rfl rfl ZcM rfl rfl rfl rfl ?_
 refine bgT (Z0 ?_)
 refine Ze [0, 0, 2, 7, 15, 0, 32, 127, 255, 511] (.tk 0 (.tk 1 (.ld 2 (.tk 3 (.ld 4 (.tk 5 (.ld 6 (.tk 7 (.tk 8 (.big 9 .done)))))))))) Zu (by kernel_rfl) ?_
 have hgf := Z0c (l := (Z3k h.gaps (clP []) (msk fr) h.bins.toNat)) (k := x25.toNat) (by rw [Z0S]; omega)
 have hft := Z54 (gs := h.gaps) (cl := clP []) (m := msk fr) (n := h.bins.toNat) (k := x25.toNat) (by omega)
 generalize hfv : na (Z3k h.gaps (clP []) (msk fr) h.bins.toNat) x25.toNat = fv at *
 have hes : exS h.gaps (msk fr) ⟨x21, x25, decide (fv ≤ x21)⟩ = true := Z4A hok hfr (s := ⟨x21, x25, decide (fv ≤ x21)⟩) (by dsimp only; omega) (by dsimp only; rw [hft]; rfl)
 refine Zn (a := af2) (sz := 1) (rows := Z7 (Z3k h.gaps (clP []) (msk fr) h.bins.toNat)) (by intro h0; have := congrArg List.length h0; rw [irl, Z0S] at this; simp only [List.length_nil] at this; omega) (fun bf bfo hebf => ?_)
 subst hebf
 refine Zl 1 rfl (tk rfl (PE.fA Z3q rfl) rfl (ld rfl rfl (lh sc3 rfl rfl) rfl (tk rfl (PE.indexAddr Z1p rfl rfl (by omega) (by omega)) rfl (ld rfl rfl (lf0 sc3 (Z01 hgf) rfl) rfl (tk rfl (PE.fA Z3g rfl) rfl (ld rfl rfl (lh sc3 rfl rfl) rfl (Zl 1 rfl (tk rfl (PE.fA Z0E rfl) rfl ?_))))))))
 refine ZI (l' := [.int .i64 x21, .int .i64 x25, .bool (decide (fv ≤ x21))]) rfl rfl rfl cn4 rfl rfl rfl rfl (nl rfl) ?_
 refine bgT (sqr 7 rfl (sp rfl (PE.fA Zw rfl) rfl (spL rfl rfl (lh Z1O rfl rfl) rfl (spL rfl rfl (lhA [.int .i64 x21, .int .i64 x25, .bool (decide (fv ≤ x21))] Zab rfl rfl rfl) rfl ?_))))
 refine bsl (out := [_, _, _]) rfl Z9Q Z4x rfl rfl rfl rfl rfl rfl (fun b39 => ?_)
 refine apO (o) rfl Z9B rfl rfl (Z0B (row := Z1N ⟨x21, x25, decide (fv ≤ x21)⟩) rfl) rfl rfl ((by rw [ZQ]; simp only [List.length_singleton]; omega)) rfl (fun o40 => ?_)
 refine sp rfl (PE.fA Zw rfl) rfl ?_
 refine ZI (l' := htl ⟨h.bins, h.gaps, ss ++ [⟨x21, x25, decide (fv ≤ x21)⟩]⟩ (h.sg ag cg) o40.fs) rfl rfl rfl ZaY rfl (by rw [o40.cells.1]; first | done | rfl) (by rw [o40.cells.1]; simp [o40.cells.2]) (by rw [o40.cells.1]; first | done | rfl) (by rw [o40.cells.1]; first | done | exact Nat.le_of_ble_eq_true rfl) ?_
 refine sqr 2 rfl (sp rfl (PE.add rfl rfl (by omega)) rfl (pur 1 rfl ?_))
 exact Za ⟨⟨(k + 1, ss ++ [⟨x21, x25, decide (fv ≤ x21)⟩], tq2 + 1 + 1, m25), by dsimp only; omega, ⟨by simp [hsl], htr.snoc (by dsimp only; omega) hes⟩, by dsimp only; omega, by assumption⟩, o40.cast (by simp [Zd])⟩ (fun w h9 => ((h9.del b39).del b10).perm (by first | exact .refl _ | exact (Zh _ [_] _).symm))
 exact Z1X
 obtain rfl : k = n17 := by omega
 refine Zb (Zc (Zc (Zp (sqt 2 rfl (spL rfl rfl (lhA (htl ⟨h.bins, h.gaps, ss⟩ (h.sg ag cg) o.fs) Z0A rfl rfl rfl) rfl ?_)))))
 refine ZI (l' := htl ⟨h.bins, h.gaps, ss⟩ (h.sg ag cg) o.fs) rfl rfl rfl Z9i rfl rfl (by show (htl _ _ o.fs).all (·.oneCell') = true; simp only [htl, List.all_cons, List.all_nil, o.cells.2, Bool.and_true]; rfl) rfl (Nat.le_refl _) ?_
 refine Z6 ?_
 exact Zm (vs := [_]) rfl (.cons (RV.cell rfl (lhA [_, _, _] Z0A rfl rfl rfl)) .nil) rfl ⟨ss, o, tq2, mx2, htr, by omega, rfl, by omega, by assumption, rfl, rfl⟩ (fun w h9 => St.ftail ((h9.del b8).del b5))
theorem Zdo : cal Try.prog 11 = true := by kernel_rfl
theorem ZcY : cal Try.prog 17 = true := by kernel_rfl
theorem Z7k (a b : List Sgt) : Zd (a ++ b) = Zd a ++ Zd b := List.map_append
theorem Z4Q (l : List Sgt) : (Zd l).flatten.length = l.length * 3 := by rw [Z0f (Z2r l), ZQ]
theorem Z9S {W : List Sgt} {junk : List Value} {k i j : Nat} {x : Sgt} {v : Value} (hx : W[k]? = some x) (hv : (Z1N x)[j]? = some v) (hj : j < 3) (e : i = k * 3 + j) : ((Zd W).flatten ++ junk)[i]? = some v := by
  have hk := (List.getElem?_eq_some_iff.1 hx).1
  rw [List.getElem?_append_left (by rw [Z4Q]; omega), e]
  exact Z1L (sz := 3) (rows := Zd W) (Z2r W) (Z1F hx) hv
theorem Zbn {A C : List Sgt} {junk : List Value} {x : Sgt} {i : Nat} (b : Bool) (e : i = A.length * 3 + 2) : spl ((Zd (A ++ x :: C)).flatten ++ junk) i [.bool b] = (Zd (A ++ { x with seen := b } :: C)).flatten ++ junk := by
  have ha : (Zd A).flatten.length = A.length * 3 := Z4Q A
  subst e
  have e1 : (Zd (A ++ x :: C)).flatten ++ junk = ((Zd A).flatten ++ [.int .i64 x.week, .int .i64 x.bin]) ++ ([Value.bool x.seen] ++ ((Zd C).flatten ++ junk)) := by
    rw [Z7k, List.flatten_append]
    show ((Zd A).flatten ++ (Z1N x ++ (Zd C).flatten)) ++ junk = _
    simp [Z1N, List.append_assoc]
  have e2 : (Zd (A ++ { x with seen := b } :: C)).flatten ++ junk = ((Zd A).flatten ++ [.int .i64 x.week, .int .i64 x.bin]) ++ ([Value.bool b] ++ ((Zd C).flatten ++ junk)) := by
    rw [Z7k, List.flatten_append]
    show ((Zd A).flatten ++ (Z1N { x with seen := b } ++ (Zd C).flatten)) ++ junk = _
    simp [Z1N, List.append_assoc]
  rw [e1, e2, show A.length * 3 + 2 = ((Zd A).flatten ++ [Value.int .i64 x.week, .int .i64 x.bin]).length by rw [List.length_append, ha]; rfl]
  exact Z9n rfl
def Z99 {e sz : Nat} {rows : List (List Value)} (b cap n : Nat) (junk : List Value) (hl : ∀ r ∈ rows, r.length = sz) (hn : n = rows.length) (h1 : rows.length * sz + junk.length = cap * sz) (h2 : rows.length ≤ cap) (h3 : cap ≤ 9223372036854775807) : OSl e sz rows :=
  ⟨.slice (some ⟨b, 0, none⟩) n cap, [(b, cel e (rows.flatten ++ junk))], hl, .inr ⟨b, cap, junk, by rw [hn], rfl, h1, h2, h3⟩⟩
theorem Cla.few {h : Hse} {x : List Int} (hc : Cla h x) : x.length ≤ h.sights.length := by
  have h1 : (x.map Int.toNat).Pairwise (· < ·) := List.pairwise_map.2 (hc.srt.imp_of_mem fun {a b} ha hb hab => by have := hc.lt a ha; have := hc.lt b hb; omega)
  have h2 := Z4R h1 (n := h.sights.length) (fun j hj => by obtain ⟨i, hi, rfl⟩ := List.mem_map.1 hj; have := hc.lt i hi; omega)
  rwa [List.length_map] at h2
theorem SOk.flip {h : Hse} {A C : List Sgt} {x : Sgt} {b : Bool} (hs : SOk h (A ++ x :: C)) : SOk h (A ++ { x with seen := b } :: C) := fun s h1 => by
  rcases List.mem_append.1 h1 with h2 | h2
  · exact hs s (List.mem_append_left _ h2)
  · rcases List.mem_cons.1 h2 with rfl | h2
    · exact hs x (List.mem_append_right _ (by simp))
    · exact hs s (List.mem_append_right _ (by simp [h2]))
theorem Z7W {h : Hse} (hk : h.ok) : (h.agr h.sights = true ∧ h.orgR.2 = 0) ∨ (h.agr h.sights = false ∧ h.orgR.2 = 7) := by
  unfold Hse.orgR
  rw [hse_ok.2 hk]
  cases h.agr h.sights with
  | true => exact .inl ⟨rfl, rfl⟩
  | false => exact .inr ⟨rfl, rfl⟩
theorem Z4j {h : Hse} (hk : h.ok) : (h.agr h.sights = true ∧ h.claR = ([], 6) ∧ h.orgR.2 = 0 ∧ (h.surR 3).2 = 0) ∨ (h.agr h.sights = false ∧ ∃ x, Cla h x ∧ h.claR = (x, 0) ∧ h.orgR.2 = 7 ∧ (h.surR 3).2 = 7) := by
  have hc := hse_ok.2 hk
  have hi : (!inB 3 0 9) = false := rfl
  rcases Z7W hk with ⟨ha, ho⟩ | ⟨ha, ho⟩
  · refine .inl ⟨ha, ?_, ho, Z9w hc hi ha⟩
    unfold Hse.claR
    rw [hc, (Z7V hk).2 ha]; rfl
  · cases hs : h.claS with
    | none => rw [(Z7V hk).1 hs] at ha; cases ha
    | some x =>
      refine .inr ⟨ha, x, Z5p hs, ?_, ho, Z96 hc hi ha⟩
      unfold Hse.claR
      rw [hc, hs]; rfl
theorem Z3 {p : Sgt → Bool} (l : List Sgt) (s : Sgt) : (l ++ [s]).any p = (l.any p || p s) := by rw [List.any_append, List.any_cons, List.any_nil, Bool.or_false]
theorem Z8X {h : Hse} (hk : h.ok) {l : List Int} (hl : (ZB h.sights l).length ≤ 8) : (Hse.mk h.bins h.gaps (ZB h.sights l)).ok ∧ ((h.agr (ZB h.sights l) = true ∧ (Hse.mk h.bins h.gaps (ZB h.sights l)).orgR.2 = 0) ∨ (h.agr (ZB h.sights l) = false ∧ (Hse.mk h.bins h.gaps (ZB h.sights l)).orgR.2 = 7)) := by
  have h1 : (Hse.mk h.bins h.gaps (ZB h.sights l)).ok := Z2W hk hl (Z6u hk.sights l)
  exact ⟨h1, Z7W h1⟩
theorem Z4f {l : List Int} {k j : Nat} : ((l.take j).eraseIdx k).length ≤ l.length := Nat.le_trans (List.length_eraseIdx_le _ _) (by rw [List.length_take]; omega)
theorem Z8k (h : Hse) (hk : h.ok) (ha : h.agr h.sights = true) (ag as_ : Option Addr) (cg cs : Nat) (H : Z9) (R : Z5) [hG : MemRows ag 2 (Zi h.gaps) R] [hS : MemRows as_ 3 (Zd h.sights) R] : Fn Try.prog 12 [h.v (h.sg ag cg) (h.ss as_ cs)] H R (fun v H' R' => (∃ a c, v = .tuple #[.slice a 0 c, .int .i64 6]) ∧ H' = H ∧ ∀ g, g ∈ R → g ∈ R') := fun w hw => by
  refine CallsIn.mono (Z56 h ag as_ cg cs (by have := hk.gl; omega) (by have := hk.sl; omega) H R w hw) ?_
  rintro e' w' ⟨u, H', R', ⟨a', c', h1, rfl, rfl, rfl⟩, he, hs'⟩
  rcases Z4j hk with ⟨_, e, _⟩ | ⟨hn, _⟩
  · rw [e] at hs' he
    exact ⟨_, _, _, ⟨⟨a', c', rfl⟩, rfl, fun g hg => List.mem_cons_of_mem _ hg⟩, he, hs'⟩
  · rw [ha] at hn; cases hn
set_option maxHeartbeats 1000000 in
theorem Z3U (l0 : List Int) (a0 : Option Addr) (c0 : Nat) (hl0 : l0.length ≤ 9223372036854775807) (l1 : List Int) (a1 : Option Addr) (c1 : Nat) (hl1 : l1.length ≤ 9223372036854775807) (l2 : List Int) (a2 : Option Addr) (c2 : Nat) (hl2 : l2.length ≤ 9223372036854775807) (H : Z9) (R : Z5) [hG0 : MemRows a0 1 (Z2c l0) R] [hG1 : MemRows a1 1 (Z2c l1) R] [hG2 : MemRows a2 1 (Z2c l2) R] :
    Fn Try.prog 3 [.slice a0 l0.length c0, .slice a1 l1.length c1, .slice a2 l2.length c2] H R (fun v H' R' => v = .bool true ∧ H' = H ∧ R' = R) := by
 refine Zj Try.func3 rfl Try.ntmps3 rfl ?_
 refine sqt 1 rfl (pur 1 rfl (sqt 9 rfl (pur 1 rfl ?_)))
 refine cl rfl Zam rfl rfl (Z6Z l0 a0 c0 hl0 _ _) ?_
 rintro _ _ R1 ⟨bk, mk, hmk, rfl, rfl, hR1⟩
 obtain rfl := hR1.symm
 clear hR1
 refine cl rfl ZdP rfl rfl (ZbZ l0 a0 c0 bk hl0 0 mk (by omega) hmk 6 8 (by omega) (by omega) _ _) ?_
 rintro _ _ R1 ⟨h, p, ag, ar, cg, cr, tqb, mxb, hmd, hcg, hcr, rfl, htqb, hmxb, rfl, hR1⟩
 obtain rfl := hR1.symm
 clear hR1
 have hok := hmd.ok (by omega) (by omega)
 have hck := hse_ok.2 hok
 have hbn := hok.bins
 have hgl := hok.gl
 have hsl := hok.sl
 have hnb := hmd.bins
 have hng := hmd.gl
 have hss := hmd.none
 obtain ⟨B, hB⟩ : ∃ B : Nat, h.bins = B := ⟨h.bins.toNat, by omega⟩
 have hBt : h.bins.toNat = B := by omega
 have hfb := Z2s p h.bins.toNat
 have hfr := Z7b p (show 0 ≤ h.bins by omega)
 have hfe := Za1 p (show 0 ≤ h.bins by omega)
 have hm7 : msk (Z12 p h.bins.toNat) < 2 ^ 7 := Z1d fun x hx => by have := hfr x hx; omega
 refine pur 3 rfl (alc rfl Z83 rfl (fun b7 => ?_))
 refine ZI (l' := htl h (h.sg ag cg) (h.ss none 0)) rfl rfl rfl Z9i rfl rfl rfl rfl (nl rfl) ?_
 refine pur 1 rfl (Z0 ?_)
 refine Ze [0, 1, 0, 0, 15, 31] (.tk 0 (.ld 2 (.tk 3 (.big 1 (.big 4 (.big 5 .done)))))) Zu (by kernel_rfl) ?_
 refine Zl 1 rfl (ld rfl rfl (lhA (htl h (h.sg ag cg) (h.ss none 0)) Z0A rfl rfl rfl) rfl (Zl 1 rfl ?_))
 refine cl rfl Zam rfl rfl (Z6Z l1 a1 c1 hl1 _ _) ?_
 rintro _ _ R1 ⟨bq, mq, hmq, rfl, rfl, hR1⟩
 obtain rfl := hR1.symm
 clear hR1
 refine bg (fun w hs => ⟨(lhA (htl h (h.sg ag cg) (h.ss none 0)) Z0A rfl rfl rfl) w hs, trivial⟩) ?_
 refine ZA bq ?_
 refine cl rfl Zdo rfl rfl (Zaa l1 a1 c1 bq hl1 0 mq (by omega) hmq h ag cg hok hss (Z12 p h.bins.toNat) ar cr (by omega) hfr 8 (by omega) _ _) ?_
 rintro _ _ R1 ⟨ss, o, tqc, mxc, htr, hsn, rfl, htqc, hmxc, rfl, hR1⟩
 obtain rfl := hR1.symm
 clear hR1
 have hok1 : Hse.ok ⟨h.bins, h.gaps, ss⟩ := Z2W hok (by omega) htr.ok
 have hag1 := htr.agr hok hfr
 refine bgT ?_
 refine ZI (l' := htl ⟨h.bins, h.gaps, ss⟩ (h.sg ag cg) o.fs) rfl rfl rfl Z9i rfl rfl (by show (htl _ _ o.fs).all (·.oneCell') = true; simp only [htl, List.all_cons, List.all_nil, o.cells.2, Bool.and_true]; rfl) rfl (nl rfl) ?_
 refine bgT (Z0 (sqt 7 rfl (spL rfl rfl (lhA (htl ⟨h.bins, h.gaps, ss⟩ (h.sg ag cg) o.fs) Z0A rfl rfl rfl) rfl ?_)))
 refine Sy.heap (H' := o.G ++ ((bq, cel 72 [.slice a1 l1.length c1, .int .i64 (tqc), .int .u32 (mxc)]) :: (b7, cel 26 (htl ⟨h.bins, h.gaps, ss⟩ (h.sg ag cg) o.fs)) :: (bk, cel 72 [.slice a0 l0.length c0, .int .i64 (tqb), .int .u32 (mxb)]) :: H)) (fun w h9 => h9.perm (List.perm_middle (l₁ := o.G) (a := _)).symm) ?_
 refine cl rfl Z9x rfl rfl (Fn.lendVO (p := fun v => ∃ a c, v = .tuple #[.slice a 0 c, .int .i64 6]) o (fun v => [Hse.v ⟨h.bins, h.gaps, ss⟩ (h.sg ag cg) v]) (fun a5 c5 B9 => by rw [ZQ]; exact Z8k ⟨h.bins, h.gaps, ss⟩ hok1 hag1 ag a5 cg c5 _ _)) ?_
 rintro _ _ R1 ⟨⟨a9, c9, rfl⟩, rfl, hR1⟩
 obtain rfl := hR1.symm
 clear hR1
 refine pur 5 rfl (sqt 2 rfl (pur 2 rfl ?_))
 refine Z1 rfl ?_ ?_ <;> intro hc0
 exact absurd hc0 (by simp)
 ·
  refine Z2 (sqt 3 rfl (pur 1 rfl ?_))
  refine cl rfl Zam rfl rfl (Z6Z l2 a2 c2 hl2 _ _) ?_
  rintro _ _ R1 ⟨br, mr, hmr, rfl, rfl, hR1⟩
  obtain rfl := hR1.symm
  clear hR1
  refine pur 1 rfl (Z0 (sqt 4 rfl (sp rfl (PE.fA Zw rfl) rfl (spL rfl rfl (lh Z1O rfl rfl) rfl ?_))))
  refine sp rfl (o.withSl (fun a8 c8 e8 => PE.lenSl Z4L (by rw [← e8]; rfl))) rfl ?_
  obtain ⟨n, hn⟩ : ∃ n, ss.length = n := ⟨_, rfl⟩
  rw [show (Zd ss).length = n by rw [ZQ]; exact hn]
  refine pur 1 rfl (Z4 ?_)
  refine Zg (ι := (y : {y : Nat × List Sgt × Int × Int // y.1 ≤ n ∧ (y.2.1.length = n ∧ SOk h y.2.1) ∧ (0 ≤ y.2.2.1 ∧ y.2.2.1 ≤ y.1) ∧ (0 ≤ y.2.2.2 ∧ y.2.2.2 ≤ 4294967295)}) × OSl 38 3 (Zd y.1.2.1)) (fun y => ⟨[(7, .pointer (some ⟨b7, 0, none⟩)), (11, .pointer (some ⟨br, 0, none⟩)), (51, .int .i64 n), (52, .int .i64 y.1.1.1)], (br, cel 72 [.slice a2 l2.length c2, .int .i64 (y.1.1.2.2.1), .int .u32 (y.1.1.2.2.2)]) :: (y.2.G ++ ((bq, cel 72 [.slice a1 l1.length c1, .int .i64 (tqc), .int .u32 (mxc)]) :: (b7, cel 26 (htl ⟨h.bins, h.gaps, y.1.1.2.1⟩ (h.sg ag cg) y.2.fs)) :: (bk, cel 72 [.slice a0 l0.length c0, .int .i64 (tqb), .int .u32 (mxb)]) :: H)), RowsA none 3 (Zd h.sights) :: RowsA ar 1 (Z7 (Z12 p h.bins.toNat)) :: RowsA ag 2 (Zi h.gaps) :: R⟩) (fun y => n - y.1.1.1) ⟨⟨(0, ss, 0, mr), Nat.zero_le _, ⟨hn, htr.ok⟩, by dsimp only; omega, hmr⟩, o⟩ ?_ (fun y => ?_)
  exact Zq idH
  ·
   obtain ⟨⟨⟨k, sx, tqr, mxr⟩, hk, ⟨hsl9, hsk⟩, htqr, hmxr⟩, o⟩ := y
   dsimp only at hk hsl9 hsk htqr hmxr o ⊢
   refine sqt 1 rfl (pur 1 rfl (Z0 ?_))
   refine Z1 rfl ?_ ?_ <;> intro hc1 <;> try simp only [cS] at hc1
   refine Z2 (Z0 (Z4 (sqt 2 rfl (pur 2 rfl (sqt 2 rfl (pur 1 rfl ?_))))))
   refine cl rfl Z8m rfl rfl (Z59 l2 a2 c2 br hl2 _ _ (by omega) hmxr (3) _ _) ?_
   rintro _ _ R1 ⟨x56, m56, rfl, hm56, rfl, hR1⟩
   obtain rfl := hR1.symm
   refine Z1 rfl ?_ ?_ <;> intro hc2 <;> try simp only [cS] at hc2
   obtain ⟨A, s, C, rfl, rfl⟩ := Z9p (xs := sx) (i := k) (by omega)
   obtain ⟨bo, cap, junk, hfs, hG, hj, hcap, hmx⟩ := o.is.resolve_left (fun h9 => by have := congrArg List.length h9.1; rw [ZQ, List.length_append] at this; simp at this)
   have hsr : (Zd (A ++ s :: C)).length = n := by rw [ZQ]; exact hsl9
   have hsr2 : (Zd (A ++ { s with seen := !s.seen } :: C)).length = n := by rw [ZQ]; rw [List.length_append, List.length_cons] at hsl9 ⊢; exact hsl9
   rw [hsr] at hfs hj hcap
   have hgs : (A ++ s :: C)[A.length]? = some s := by rw [List.getElem?_append_right (Nat.le_refl _), Nat.sub_self]; rfl
   rw [hfs, hG]
   refine Sy.heap (H' := (br, cel 72 [.slice a2 l2.length c2, .int .i64 (tqr + 1), .int .u32 (m56)]) :: (bo, cel 38 ((Zd (A ++ s :: C)).flatten ++ junk)) :: ((bq, cel 72 [.slice a1 l1.length c1, .int .i64 (tqc), .int .u32 (mxc)]) :: (b7, cel 26 (htl ⟨h.bins, h.gaps, A ++ s :: C⟩ (h.sg ag cg) (.slice (some ⟨bo, 0, none⟩) n cap))) :: (bk, cel 72 [.slice a0 l0.length c0, .int .i64 (tqb), .int .u32 (mxb)]) :: H)) (fun w h9 => h9) ?_
   refine Ze [0, 1, 0, 0, 8, 0, 56, 120, 248, 504, 1023, 2047, 4095] (.tk 0 (.ld 1 (.tk 2 (.tk 3 (.ld 4 (tks 5 3 (.ld 8 (tks 9 3 (.big 12 .done))))))))) Zu (by kernel_rfl) ?_
   refine tk rfl (PE.fA Zw rfl) rfl (ld rfl rfl (lh Z1O rfl rfl) rfl (Zl 1 rfl (tk rfl (PE.fA Zw rfl) rfl (ld rfl rfl (lh Z1O rfl rfl) rfl (Zl 1 rfl (tk rfl (PE.indexAddr Z77 rfl rfl (by omega) (by omega)) rfl (tk rfl (PE.fA Z0E rfl) rfl (ld rfl rfl (lh sc4 rfl (Z9S (j := 2) hgs rfl (by decide) (by show 0 + ((A.length : Nat) : Int).toNat * 3 + 2 = A.length * 3 + 2; omega))) rfl (Zl 1 rfl (tk rfl (PE.indexAddr Z77 rfl rfl (by omega) (by omega)) rfl (tk rfl (PE.fA Z0E rfl) rfl ?_)))))))))))
   refine ZI (l' := (Zd (A ++ { s with seen := !s.seen } :: C)).flatten ++ junk) rfl rfl rfl cn4 rfl rfl rfl (Zbn (!s.seen) (by show 0 + ((A.length : Nat) : Int).toNat * 3 + 2 = A.length * 3 + 2; omega)) (by rw [List.length_append, Z4Q]; show 0 + ((A.length : Nat) : Int).toNat * 3 + 2 + 1 ≤ _; omega) ?_
   refine bgT (sqr 2 rfl (sp rfl (PE.add rfl rfl (by omega)) rfl (pur 1 rfl ?_)))
   first
     | exact Z8 ⟨⟨(A.length + 1, A ++ { s with seen := !s.seen } :: C, tqr + 1, m56), by dsimp only; omega, ⟨by rw [← ZQ]; exact hsr2, hsk.flip⟩, by dsimp only; omega, hm56⟩, Z99 bo cap n junk (Z2r _) hsr2.symm (by rw [hsr2]; exact hj) (by rw [hsr2]; exact hcap) hmx⟩ (by dsimp only; omega) idH
     | exact Z8 ⟨⟨(k + 1, sx, tqr + 1, m56), by dsimp only; omega, ⟨hsl9, hsk⟩, by dsimp only; omega, hm56⟩, o⟩ (by dsimp only; omega) idH
   refine Z2 (sqr 2 rfl (sp rfl (PE.add rfl rfl (by omega)) rfl (pur 1 rfl ?_)))
   first
     | exact Z8 ⟨⟨(A.length + 1, A ++ { s with seen := !s.seen } :: C, tqr + 1, m56), by dsimp only; omega, ⟨by rw [← ZQ]; exact hsr2, hsk.flip⟩, by dsimp only; omega, hm56⟩, Z99 bo cap n junk (Z2r _) hsr2.symm (by rw [hsr2]; exact hj) (by rw [hsr2]; exact hcap) hmx⟩ (by dsimp only; omega) idH
     | exact Z8 ⟨⟨(k + 1, sx, tqr + 1, m56), by dsimp only; omega, ⟨hsl9, hsk⟩, by dsimp only; omega, hm56⟩, o⟩ (by dsimp only; omega) idH
   ·
    obtain rfl : k = n := by omega
    obtain ⟨aS, cSg, he, hcS, hzz⟩ := o.freezeC
    rw [ZQ] at hcS
    rw [he, ZQ]
    refine Sy.heap (H' := (br, cel 72 [.slice a2 l2.length c2, .int .i64 (tqr), .int .u32 (mxr)]) :: ((bq, cel 72 [.slice a1 l1.length c1, .int .i64 (tqc), .int .u32 (mxc)]) :: (b7, cel 26 (htl ⟨h.bins, h.gaps, sx⟩ (h.sg ag cg) (.slice aS sx.length cSg))) :: (bk, cel 72 [.slice a0 l0.length c0, .int .i64 (tqb), .int .u32 (mxb)]) :: H)) (fun w h9 => hzz (h9.perm (List.perm_middle (l₁ := o.G) (a := _)).symm)) ?_
    clear he hzz
    obtain ⟨q, hq⟩ : ∃ q : Hse, q = ⟨h.bins, h.gaps, sx⟩ := ⟨_, rfl⟩
    rw [show htl ⟨h.bins, h.gaps, sx⟩ (h.sg ag cg) (.slice aS sx.length cSg) = htl q (q.sg ag cg) (q.ss aS cSg) from by rw [hq]; rfl, show Zd sx = Zd q.sights from by rw [hq], show Zi h.gaps = Zi q.gaps from by rw [hq]]
    have hokq : q.ok := by rw [hq]; exact Z2W hok (by omega) hsk
    have hqgl := hokq.gl
    have hqsl := hokq.sl
    clear hq
    refine Zb (Zc (Zc (Zp (sqt 7 rfl (spL rfl rfl (lhA (htl q (q.sg ag cg) (q.ss aS cSg)) Z0A rfl rfl rfl) rfl ?_)))))
    refine cl rfl Z9x rfl rfl (Z56 q ag aS cg cSg (by omega) (by omega) _ _) ?_
    rintro _ _ R1 ⟨ax, cx, hcx9, rfl, rfl, hR1⟩
    obtain rfl := hR1.symm
    clear hR1
    rcases Z4j hokq with ⟨hag, e1, e2, e3⟩ | ⟨hag, x, hcl, e1, e2, e3⟩
    all_goals rw [e1] at *
    refine pur 5 rfl (sqt 7 rfl (spL rfl rfl (lhA (htl q (q.sg ag cg) (q.ss aS cSg)) Z0A rfl rfl rfl) rfl ?_))
    refine cl rfl Z88 rfl rfl (Z1B q ag aS cg cSg (by omega) (by omega) _ _) ?_
    rintro _ _ R1 ⟨ao2, co2, hco29, rfl, rfl, hR1⟩
    obtain rfl := hR1.symm
    clear hR1
    rw [e2]
    refine pur 5 rfl (sqt 7 rfl (spL rfl rfl (lhA (htl q (q.sg ag cg) (q.ss aS cSg)) Z0A rfl rfl rfl) rfl ?_))
    refine cl rfl Za0 rfl rfl (Z3G q ag aS cg cSg  (by omega) (by omega) 3 _ _) ?_
    rintro _ _ R1 ⟨as3, cs3, hcs39, rfl, rfl, hR1⟩
    obtain rfl := hR1.symm
    clear hR1
    rw [e3]
    refine pur 5 rfl (Z0 (sqt 2 rfl (pur 2 rfl ?_)))
    refine Z1 rfl ?_ ?_ <;> intro hc3
    refine sqt 14 rfl (pur 3 rfl ?_)
    refine Zt 89 rfl ?_ ?_ <;> intro g89
    refine pur 4 rfl ?_
    refine Zt 93 rfl ?_ ?_ <;> intro g93
    refine pur 4 rfl ?_
    refine Zt 97 rfl ?_ ?_ <;> intro g97
    refine Z8A rfl rfl rfl rfl Zbj rfl rfl (Z7K _ _) ?_
    refine pur 2 rfl (Z6 ?_)
    exact rtA rfl rfl rfl ⟨rfl, rfl, rfl⟩ (fun w h9 => ((((h9.del b7).del br).del bq).del bk).sub)
    exact absurd g97 (by simp)
    exact absurd g93 (by simp)
    exact absurd g89 (by simp)
    exact absurd hc3 (by simp)
    ·
     refine pur 5 rfl (sqt 7 rfl (spL rfl rfl (lhA (htl q (q.sg ag cg) (q.ss aS cSg)) Z0A rfl rfl rfl) rfl ?_))
     refine cl rfl Z88 rfl rfl (Z1B q ag aS cg cSg (by omega) (by omega) _ _) ?_
     rintro _ _ R1 ⟨ao2, co2, hco29, rfl, rfl, hR1⟩
     obtain rfl := hR1.symm
     clear hR1
     rw [e2]
     refine pur 5 rfl (sqt 7 rfl (spL rfl rfl (lhA (htl q (q.sg ag cg) (q.ss aS cSg)) Z0A rfl rfl rfl) rfl ?_))
     refine cl rfl Za0 rfl rfl (Z3G q ag aS cg cSg  (by omega) (by omega) 3 _ _) ?_
     rintro _ _ R1 ⟨as3, cs3, hcs39, rfl, rfl, hR1⟩
     obtain rfl := hR1.symm
     clear hR1
     rw [e3]
     refine pur 5 rfl (Z0 (sqt 2 rfl (pur 2 rfl ?_)))
     refine Z1 rfl ?_ ?_ <;> intro hc3
     exact absurd hc3 (by simp)
     ·
      try simp only [cS] at hc3
      have hxl := hcl.len hokq
      have hxs := hcl.few
      refine Z2 (Z0 (sqt 11 rfl (pur 3 rfl ?_)))
      refine Zt 102 rfl ?_ ?_ <;> intro g102
      exact absurd g102 (by simp)
      ·
       refine pur 4 rfl ?_
       refine Zt 106 rfl ?_ ?_ <;> intro g106
       exact absurd g106 (by simp)
       ·
        refine pur 1 rfl ?_
        refine spG rfl rfl rfl rfl (PE.lenSl ZE rfl) rfl ?_
        refine pur 2 rfl ?_
        refine Z1 rfl ?_ ?_ <;> intro hc4
        exact absurd hc4 (by simp; omega)
        ·
         refine Z2 (sqt 2 rfl (pur 2 rfl (Z0 (sqt 3 rfl (pur 1 rfl (sp rfl (PE.lenSl ZE rfl) rfl (pur 1 rfl (Z4 ?_))))))))
         refine Zg (ι := {y : Nat × Bool × Bool // y.1 ≤ x.length ∧ y.2.1 = (ZB q.sights (x.take y.1)).any (fun s => s.seen) ∧ y.2.2 = (ZB q.sights (x.take y.1)).any (fun s => !s.seen)}) (fun y => ⟨[(7, .pointer (some ⟨b7, 0, none⟩)), (13, .slice ax x.length cx), (19, .bool y.1.2.1), (20, .bool y.1.2.2), (111, .slice ax x.length cx), (112, .int .i64 x.length), (113, .int .i64 y.1.1)], (br, cel 72 [.slice a2 l2.length c2, .int .i64 (tqr), .int .u32 (mxr)]) :: (bq, cel 72 [.slice a1 l1.length c1, .int .i64 (tqc), .int .u32 (mxc)]) :: (b7, cel 26 (htl q (q.sg ag cg) (q.ss aS cSg))) :: (bk, cel 72 [.slice a0 l0.length c0, .int .i64 (tqb), .int .u32 (mxb)]) :: H, RowsA as3 1 (Z7 (q.surR 3).1) :: RowsA ao2 1 (Z7 q.orgR.1) :: RowsA ax 1 (Z7 x) :: RowsA aS 3 (Zd q.sights) :: RowsA none 3 (Zd h.sights) :: RowsA ar 1 (Z7 (Z12 p h.bins.toNat)) :: RowsA ag 2 (Zi q.gaps) :: R⟩) (fun y => x.length - y.1.1) ⟨(0, false, false), Nat.zero_le _, rfl, rfl⟩ ?_ (fun y => ?_)
         exact Zq idH
         ·
          obtain ⟨⟨k9, yes, no⟩, hk9, hyes, hno⟩ := y
          dsimp only at hk9 hyes hno ⊢
          refine sqt 1 rfl (pur 1 rfl (Z0 ?_))
          refine Z1 rfl ?_ ?_ <;> intro hc5 <;> try simp only [cS] at hc5
          obtain ⟨z, hz⟩ : ∃ z, x[k9]? = some z := ⟨_, List.getElem?_eq_getElem (by omega)⟩
          have hzr := hcl.lt z (List.mem_of_getElem? hz)
          obtain ⟨zn, rfl⟩ : ∃ n : Nat, z = n := ⟨z.toNat, by omega⟩
          obtain ⟨s, hs⟩ : ∃ s, q.sights[zn]? = some s := ⟨_, List.getElem?_eq_getElem (by omega)⟩
          have hpt := Z4l (ss := q.sights) hz (by rw [Int.toNat_natCast]; exact hs)
          have hprev : 0 < k9 → ∃ z', x[k9 - 1]? = some z' ∧ z' < (zn : Int) := fun h0 => by
            refine ⟨x[k9 - 1], List.getElem?_eq_getElem (by omega), ?_⟩
            have h8 := List.pairwise_iff_getElem.1 hcl.srt (k9 - 1) k9 (by omega) (by omega) (by omega)
            rw [(List.getElem?_eq_some_iff.1 hz).2] at h8; exact h8
          refine Zn (a := ax) (sz := 1) (rows := Z7 x) (ne0 (by rw [irl]; omega)) (fun bx bxo hebx => ?_)
          subst hebx
          refine Zn (a := aS) (sz := 3) (rows := Zd q.sights) (ne0 (by rw [ZQ]; omega)) (fun bS bSo hebS => ?_)
          subst hebS
          refine Z2 (Z0 (Z4 (sqt 5 rfl (pur 1 rfl (sp rfl (PE.indexAddr Z1p rfl rfl (by omega) (by omega)) rfl (spL rfl rfl (lf0 sc3 (Z01 hz) rfl) rfl (pur 2 rfl (Z0 (sqt 22 rfl (pur 3 rfl ?_))))))))))
          refine Zt 120 rfl ?_ ?_ <;> intro g120
          simp only [decide_eq_true_eq] at g120; omega
          refine pur 1 rfl ?_
          refine spG rfl rfl rfl rfl (PE.fA Zw rfl) rfl ?_
          refine Z2H rfl rfl rfl rfl rfl (lh Z1O rfl rfl) rfl ?_
          refine spG rfl rfl rfl rfl (PE.lenSl Z4L rfl) rfl ?_
          refine pur 3 rfl ?_
          refine Zt 127 rfl ?_ ?_ <;> intro g127
          simp only [decide_eq_true_eq] at g127; omega
          refine pur 3 rfl ?_
          refine Zt 130 rfl ?_ ?_ <;> intro g130
          simp only [decide_eq_true_eq] at g130
          obtain ⟨z2, hz2, hz3⟩ := hprev (by omega)
          obtain ⟨k9, rfl⟩ : ∃ d, k9 = d + 1 := ⟨k9 - 1, by omega⟩
          rw [Nat.add_sub_cancel] at hz2
          refine pur 3 rfl ?_
          refine spG rfl rfl rfl rfl (PE.sub rfl rfl (by omega)) rfl ?_
          rw [show ((k9 + 1 : Nat) : Int) - 1 = ((k9 : Nat) : Int) by omega]
          refine spG rfl rfl rfl rfl (PE.indexAddr Z1p rfl rfl (by omega) (by omega)) rfl ?_
          refine Z2H rfl rfl rfl rfl rfl (lf0 sc3 (Z01 hz2) rfl) rfl (pur 3 rfl ?_)
          refine Z1 rfl ?_ ?_ <;> intro hc6
          simp only [decide_eq_true_eq] at hc6; omega
          refine Z2 ?_
          refine Ze [0, 1, 3, 7, 3, 31, 63, 127, 255, 0, 515, 1539, 3587, 1539, 15875, 32259, 65027, 130563, 261635, 2047, 1048575] (tks 0 3 (.ld 3 (tks 4 3 (.ld 7 (tks 8 4 (.ld 12 (tks 13 3 (.ld 16 (tks 17 4 .done))))))))) Zu (by kernel_rfl) ?_
          refine Zl 2 rfl ?_
          refine Zt 141 rfl ?_ ?_ <;> intro g141
          obtain rfl : yes = true := g141
          refine Zl 1 rfl ?_
          refine ldN rfl rfl rfl rfl rfl rfl rfl rfl ?_
          refine Zl 3 rfl ?_
          refine ldN rfl rfl rfl rfl rfl rfl rfl rfl ?_
          refine Zl 3 rfl ?_
          refine Zt 150 rfl ?_ ?_ <;> intro g150
          obtain rfl : no = true := g150
          refine Zl 1 rfl ?_
          refine ldN rfl rfl rfl rfl rfl rfl rfl rfl ?_
          refine Zl 3 rfl ?_
          refine ldN rfl rfl rfl rfl rfl rfl rfl rfl ?_
          refine Zl 4 rfl (sqr 2 rfl (sp rfl (PE.add rfl rfl (by omega)) rfl (pur 1 rfl ?_)))
          first
            | exact Z8 ⟨(k9 + 1 + 1, true, true), by dsimp only; omega, by dsimp only; rw [hpt, Z3, ← hyes]; rfl, by dsimp only; rw [hpt, Z3, ← hno]; rfl⟩ (by dsimp only; omega) idH
            | exact Z8 ⟨(k9 + 1 + 1, true, !s.seen), by dsimp only; omega, by dsimp only; rw [hpt, Z3, ← hyes]; rfl, by dsimp only; rw [hpt, Z3, ← hno]; rfl⟩ (by dsimp only; omega) idH
            | exact Z8 ⟨(k9 + 1 + 1, s.seen, true), by dsimp only; omega, by dsimp only; rw [hpt, Z3, ← hyes]; rfl, by dsimp only; rw [hpt, Z3, ← hno]; rfl⟩ (by dsimp only; omega) idH
            | exact Z8 ⟨(k9 + 1 + 1, s.seen, !s.seen), by dsimp only; omega, by dsimp only; rw [hpt, Z3, ← hyes]; rfl, by dsimp only; rw [hpt, Z3, ← hno]; rfl⟩ (by dsimp only; omega) idH
            | exact Z8 ⟨(k9 + 1, true, true), by dsimp only; omega, by dsimp only; rw [hpt, Z3, ← hyes]; rfl, by dsimp only; rw [hpt, Z3, ← hno]; rfl⟩ (by dsimp only; omega) idH
            | exact Z8 ⟨(k9 + 1, true, !s.seen), by dsimp only; omega, by dsimp only; rw [hpt, Z3, ← hyes]; rfl, by dsimp only; rw [hpt, Z3, ← hno]; rfl⟩ (by dsimp only; omega) idH
            | exact Z8 ⟨(k9 + 1, s.seen, true), by dsimp only; omega, by dsimp only; rw [hpt, Z3, ← hyes]; rfl, by dsimp only; rw [hpt, Z3, ← hno]; rfl⟩ (by dsimp only; omega) idH
            | exact Z8 ⟨(k9 + 1, s.seen, !s.seen), by dsimp only; omega, by dsimp only; rw [hpt, Z3, ← hyes]; rfl, by dsimp only; rw [hpt, Z3, ← hno]; rfl⟩ (by dsimp only; omega) idH
          obtain rfl : no = false := g150
          refine tkG rfl rfl rfl rfl (PE.fA Zw rfl) rfl ?_
          refine ldG rfl rfl rfl rfl rfl (lh Z1O rfl rfl) rfl (Zl 1 rfl ?_)
          refine tkG rfl rfl rfl rfl (PE.indexAddr Z77 rfl rfl (by omega) (by omega)) rfl ?_
          refine tkG rfl rfl rfl rfl (PE.fA Z0E rfl) rfl ?_
          refine ldG rfl rfl rfl rfl rfl (lf (j := 2) sc4 (Z1F hs) rfl) rfl (Zl 4 rfl (sqr 2 rfl (sp rfl (PE.add rfl rfl (by omega)) rfl (pur 1 rfl ?_))))
          first
            | exact Z8 ⟨(k9 + 1 + 1, true, true), by dsimp only; omega, by dsimp only; rw [hpt, Z3, ← hyes]; rfl, by dsimp only; rw [hpt, Z3, ← hno]; rfl⟩ (by dsimp only; omega) idH
            | exact Z8 ⟨(k9 + 1 + 1, true, !s.seen), by dsimp only; omega, by dsimp only; rw [hpt, Z3, ← hyes]; rfl, by dsimp only; rw [hpt, Z3, ← hno]; rfl⟩ (by dsimp only; omega) idH
            | exact Z8 ⟨(k9 + 1 + 1, s.seen, true), by dsimp only; omega, by dsimp only; rw [hpt, Z3, ← hyes]; rfl, by dsimp only; rw [hpt, Z3, ← hno]; rfl⟩ (by dsimp only; omega) idH
            | exact Z8 ⟨(k9 + 1 + 1, s.seen, !s.seen), by dsimp only; omega, by dsimp only; rw [hpt, Z3, ← hyes]; rfl, by dsimp only; rw [hpt, Z3, ← hno]; rfl⟩ (by dsimp only; omega) idH
            | exact Z8 ⟨(k9 + 1, true, true), by dsimp only; omega, by dsimp only; rw [hpt, Z3, ← hyes]; rfl, by dsimp only; rw [hpt, Z3, ← hno]; rfl⟩ (by dsimp only; omega) idH
            | exact Z8 ⟨(k9 + 1, true, !s.seen), by dsimp only; omega, by dsimp only; rw [hpt, Z3, ← hyes]; rfl, by dsimp only; rw [hpt, Z3, ← hno]; rfl⟩ (by dsimp only; omega) idH
            | exact Z8 ⟨(k9 + 1, s.seen, true), by dsimp only; omega, by dsimp only; rw [hpt, Z3, ← hyes]; rfl, by dsimp only; rw [hpt, Z3, ← hno]; rfl⟩ (by dsimp only; omega) idH
            | exact Z8 ⟨(k9 + 1, s.seen, !s.seen), by dsimp only; omega, by dsimp only; rw [hpt, Z3, ← hyes]; rfl, by dsimp only; rw [hpt, Z3, ← hno]; rfl⟩ (by dsimp only; omega) idH
          obtain rfl : yes = false := g141
          refine tkG rfl rfl rfl rfl (PE.fA Zw rfl) rfl ?_
          refine ldG rfl rfl rfl rfl rfl (lh Z1O rfl rfl) rfl (Zl 1 rfl ?_)
          refine tkG rfl rfl rfl rfl (PE.indexAddr Z77 rfl rfl (by omega) (by omega)) rfl ?_
          refine tkG rfl rfl rfl rfl (PE.fA Z0E rfl) rfl ?_
          refine ldG rfl rfl rfl rfl rfl (lf (j := 2) sc4 (Z1F hs) rfl) rfl (Zl 3 rfl ?_)
          refine Zt 150 rfl ?_ ?_ <;> intro g150
          obtain rfl : no = true := g150
          refine Zl 1 rfl ?_
          refine ldN rfl rfl rfl rfl rfl rfl rfl rfl ?_
          refine Zl 3 rfl ?_
          refine ldN rfl rfl rfl rfl rfl rfl rfl rfl ?_
          refine Zl 4 rfl (sqr 2 rfl (sp rfl (PE.add rfl rfl (by omega)) rfl (pur 1 rfl ?_)))
          first
            | exact Z8 ⟨(k9 + 1 + 1, true, true), by dsimp only; omega, by dsimp only; rw [hpt, Z3, ← hyes]; rfl, by dsimp only; rw [hpt, Z3, ← hno]; rfl⟩ (by dsimp only; omega) idH
            | exact Z8 ⟨(k9 + 1 + 1, true, !s.seen), by dsimp only; omega, by dsimp only; rw [hpt, Z3, ← hyes]; rfl, by dsimp only; rw [hpt, Z3, ← hno]; rfl⟩ (by dsimp only; omega) idH
            | exact Z8 ⟨(k9 + 1 + 1, s.seen, true), by dsimp only; omega, by dsimp only; rw [hpt, Z3, ← hyes]; rfl, by dsimp only; rw [hpt, Z3, ← hno]; rfl⟩ (by dsimp only; omega) idH
            | exact Z8 ⟨(k9 + 1 + 1, s.seen, !s.seen), by dsimp only; omega, by dsimp only; rw [hpt, Z3, ← hyes]; rfl, by dsimp only; rw [hpt, Z3, ← hno]; rfl⟩ (by dsimp only; omega) idH
            | exact Z8 ⟨(k9 + 1, true, true), by dsimp only; omega, by dsimp only; rw [hpt, Z3, ← hyes]; rfl, by dsimp only; rw [hpt, Z3, ← hno]; rfl⟩ (by dsimp only; omega) idH
            | exact Z8 ⟨(k9 + 1, true, !s.seen), by dsimp only; omega, by dsimp only; rw [hpt, Z3, ← hyes]; rfl, by dsimp only; rw [hpt, Z3, ← hno]; rfl⟩ (by dsimp only; omega) idH
            | exact Z8 ⟨(k9 + 1, s.seen, true), by dsimp only; omega, by dsimp only; rw [hpt, Z3, ← hyes]; rfl, by dsimp only; rw [hpt, Z3, ← hno]; rfl⟩ (by dsimp only; omega) idH
            | exact Z8 ⟨(k9 + 1, s.seen, !s.seen), by dsimp only; omega, by dsimp only; rw [hpt, Z3, ← hyes]; rfl, by dsimp only; rw [hpt, Z3, ← hno]; rfl⟩ (by dsimp only; omega) idH
          obtain rfl : no = false := g150
          refine tkG rfl rfl rfl rfl (PE.fA Zw rfl) rfl ?_
          refine ldG rfl rfl rfl rfl rfl (lh Z1O rfl rfl) rfl (Zl 1 rfl ?_)
          refine tkG rfl rfl rfl rfl (PE.indexAddr Z77 rfl rfl (by omega) (by omega)) rfl ?_
          refine tkG rfl rfl rfl rfl (PE.fA Z0E rfl) rfl ?_
          refine ldG rfl rfl rfl rfl rfl (lf (j := 2) sc4 (Z1F hs) rfl) rfl (Zl 4 rfl (sqr 2 rfl (sp rfl (PE.add rfl rfl (by omega)) rfl (pur 1 rfl ?_))))
          first
            | exact Z8 ⟨(k9 + 1 + 1, true, true), by dsimp only; omega, by dsimp only; rw [hpt, Z3, ← hyes]; rfl, by dsimp only; rw [hpt, Z3, ← hno]; rfl⟩ (by dsimp only; omega) idH
            | exact Z8 ⟨(k9 + 1 + 1, true, !s.seen), by dsimp only; omega, by dsimp only; rw [hpt, Z3, ← hyes]; rfl, by dsimp only; rw [hpt, Z3, ← hno]; rfl⟩ (by dsimp only; omega) idH
            | exact Z8 ⟨(k9 + 1 + 1, s.seen, true), by dsimp only; omega, by dsimp only; rw [hpt, Z3, ← hyes]; rfl, by dsimp only; rw [hpt, Z3, ← hno]; rfl⟩ (by dsimp only; omega) idH
            | exact Z8 ⟨(k9 + 1 + 1, s.seen, !s.seen), by dsimp only; omega, by dsimp only; rw [hpt, Z3, ← hyes]; rfl, by dsimp only; rw [hpt, Z3, ← hno]; rfl⟩ (by dsimp only; omega) idH
            | exact Z8 ⟨(k9 + 1, true, true), by dsimp only; omega, by dsimp only; rw [hpt, Z3, ← hyes]; rfl, by dsimp only; rw [hpt, Z3, ← hno]; rfl⟩ (by dsimp only; omega) idH
            | exact Z8 ⟨(k9 + 1, true, !s.seen), by dsimp only; omega, by dsimp only; rw [hpt, Z3, ← hyes]; rfl, by dsimp only; rw [hpt, Z3, ← hno]; rfl⟩ (by dsimp only; omega) idH
            | exact Z8 ⟨(k9 + 1, s.seen, true), by dsimp only; omega, by dsimp only; rw [hpt, Z3, ← hyes]; rfl, by dsimp only; rw [hpt, Z3, ← hno]; rfl⟩ (by dsimp only; omega) idH
            | exact Z8 ⟨(k9 + 1, s.seen, !s.seen), by dsimp only; omega, by dsimp only; rw [hpt, Z3, ← hyes]; rfl, by dsimp only; rw [hpt, Z3, ← hno]; rfl⟩ (by dsimp only; omega) idH
          refine pur 9 rfl ?_
          refine ZK rfl ?_
          refine Z2 ?_
          refine Ze [0, 1, 3, 7, 3, 31, 63, 127, 255, 0, 515, 1539, 3587, 1539, 15875, 32259, 65027, 130563, 261635, 2047, 1048575] (tks 0 3 (.ld 3 (tks 4 3 (.ld 7 (tks 8 4 (.ld 12 (tks 13 3 (.ld 16 (tks 17 4 .done))))))))) Zu (by kernel_rfl) ?_
          refine Zl 2 rfl ?_
          refine Zt 141 rfl ?_ ?_ <;> intro g141
          obtain rfl : yes = true := g141
          refine Zl 1 rfl ?_
          refine ldN rfl rfl rfl rfl rfl rfl rfl rfl ?_
          refine Zl 3 rfl ?_
          refine ldN rfl rfl rfl rfl rfl rfl rfl rfl ?_
          refine Zl 3 rfl ?_
          refine Zt 150 rfl ?_ ?_ <;> intro g150
          obtain rfl : no = true := g150
          refine Zl 1 rfl ?_
          refine ldN rfl rfl rfl rfl rfl rfl rfl rfl ?_
          refine Zl 3 rfl ?_
          refine ldN rfl rfl rfl rfl rfl rfl rfl rfl ?_
          refine Zl 4 rfl (sqr 2 rfl (sp rfl (PE.add rfl rfl (by omega)) rfl (pur 1 rfl ?_)))
          first
            | exact Z8 ⟨(k9 + 1 + 1, true, true), by dsimp only; omega, by dsimp only; rw [hpt, Z3, ← hyes]; rfl, by dsimp only; rw [hpt, Z3, ← hno]; rfl⟩ (by dsimp only; omega) idH
            | exact Z8 ⟨(k9 + 1 + 1, true, !s.seen), by dsimp only; omega, by dsimp only; rw [hpt, Z3, ← hyes]; rfl, by dsimp only; rw [hpt, Z3, ← hno]; rfl⟩ (by dsimp only; omega) idH
            | exact Z8 ⟨(k9 + 1 + 1, s.seen, true), by dsimp only; omega, by dsimp only; rw [hpt, Z3, ← hyes]; rfl, by dsimp only; rw [hpt, Z3, ← hno]; rfl⟩ (by dsimp only; omega) idH
            | exact Z8 ⟨(k9 + 1 + 1, s.seen, !s.seen), by dsimp only; omega, by dsimp only; rw [hpt, Z3, ← hyes]; rfl, by dsimp only; rw [hpt, Z3, ← hno]; rfl⟩ (by dsimp only; omega) idH
            | exact Z8 ⟨(k9 + 1, true, true), by dsimp only; omega, by dsimp only; rw [hpt, Z3, ← hyes]; rfl, by dsimp only; rw [hpt, Z3, ← hno]; rfl⟩ (by dsimp only; omega) idH
            | exact Z8 ⟨(k9 + 1, true, !s.seen), by dsimp only; omega, by dsimp only; rw [hpt, Z3, ← hyes]; rfl, by dsimp only; rw [hpt, Z3, ← hno]; rfl⟩ (by dsimp only; omega) idH
            | exact Z8 ⟨(k9 + 1, s.seen, true), by dsimp only; omega, by dsimp only; rw [hpt, Z3, ← hyes]; rfl, by dsimp only; rw [hpt, Z3, ← hno]; rfl⟩ (by dsimp only; omega) idH
            | exact Z8 ⟨(k9 + 1, s.seen, !s.seen), by dsimp only; omega, by dsimp only; rw [hpt, Z3, ← hyes]; rfl, by dsimp only; rw [hpt, Z3, ← hno]; rfl⟩ (by dsimp only; omega) idH
          obtain rfl : no = false := g150
          refine tkG rfl rfl rfl rfl (PE.fA Zw rfl) rfl ?_
          refine ldG rfl rfl rfl rfl rfl (lh Z1O rfl rfl) rfl (Zl 1 rfl ?_)
          refine tkG rfl rfl rfl rfl (PE.indexAddr Z77 rfl rfl (by omega) (by omega)) rfl ?_
          refine tkG rfl rfl rfl rfl (PE.fA Z0E rfl) rfl ?_
          refine ldG rfl rfl rfl rfl rfl (lf (j := 2) sc4 (Z1F hs) rfl) rfl (Zl 4 rfl (sqr 2 rfl (sp rfl (PE.add rfl rfl (by omega)) rfl (pur 1 rfl ?_))))
          first
            | exact Z8 ⟨(k9 + 1 + 1, true, true), by dsimp only; omega, by dsimp only; rw [hpt, Z3, ← hyes]; rfl, by dsimp only; rw [hpt, Z3, ← hno]; rfl⟩ (by dsimp only; omega) idH
            | exact Z8 ⟨(k9 + 1 + 1, true, !s.seen), by dsimp only; omega, by dsimp only; rw [hpt, Z3, ← hyes]; rfl, by dsimp only; rw [hpt, Z3, ← hno]; rfl⟩ (by dsimp only; omega) idH
            | exact Z8 ⟨(k9 + 1 + 1, s.seen, true), by dsimp only; omega, by dsimp only; rw [hpt, Z3, ← hyes]; rfl, by dsimp only; rw [hpt, Z3, ← hno]; rfl⟩ (by dsimp only; omega) idH
            | exact Z8 ⟨(k9 + 1 + 1, s.seen, !s.seen), by dsimp only; omega, by dsimp only; rw [hpt, Z3, ← hyes]; rfl, by dsimp only; rw [hpt, Z3, ← hno]; rfl⟩ (by dsimp only; omega) idH
            | exact Z8 ⟨(k9 + 1, true, true), by dsimp only; omega, by dsimp only; rw [hpt, Z3, ← hyes]; rfl, by dsimp only; rw [hpt, Z3, ← hno]; rfl⟩ (by dsimp only; omega) idH
            | exact Z8 ⟨(k9 + 1, true, !s.seen), by dsimp only; omega, by dsimp only; rw [hpt, Z3, ← hyes]; rfl, by dsimp only; rw [hpt, Z3, ← hno]; rfl⟩ (by dsimp only; omega) idH
            | exact Z8 ⟨(k9 + 1, s.seen, true), by dsimp only; omega, by dsimp only; rw [hpt, Z3, ← hyes]; rfl, by dsimp only; rw [hpt, Z3, ← hno]; rfl⟩ (by dsimp only; omega) idH
            | exact Z8 ⟨(k9 + 1, s.seen, !s.seen), by dsimp only; omega, by dsimp only; rw [hpt, Z3, ← hyes]; rfl, by dsimp only; rw [hpt, Z3, ← hno]; rfl⟩ (by dsimp only; omega) idH
          obtain rfl : yes = false := g141
          refine tkG rfl rfl rfl rfl (PE.fA Zw rfl) rfl ?_
          refine ldG rfl rfl rfl rfl rfl (lh Z1O rfl rfl) rfl (Zl 1 rfl ?_)
          refine tkG rfl rfl rfl rfl (PE.indexAddr Z77 rfl rfl (by omega) (by omega)) rfl ?_
          refine tkG rfl rfl rfl rfl (PE.fA Z0E rfl) rfl ?_
          refine ldG rfl rfl rfl rfl rfl (lf (j := 2) sc4 (Z1F hs) rfl) rfl (Zl 3 rfl ?_)
          refine Zt 150 rfl ?_ ?_ <;> intro g150
          obtain rfl : no = true := g150
          refine Zl 1 rfl ?_
          refine ldN rfl rfl rfl rfl rfl rfl rfl rfl ?_
          refine Zl 3 rfl ?_
          refine ldN rfl rfl rfl rfl rfl rfl rfl rfl ?_
          refine Zl 4 rfl (sqr 2 rfl (sp rfl (PE.add rfl rfl (by omega)) rfl (pur 1 rfl ?_)))
          first
            | exact Z8 ⟨(k9 + 1 + 1, true, true), by dsimp only; omega, by dsimp only; rw [hpt, Z3, ← hyes]; rfl, by dsimp only; rw [hpt, Z3, ← hno]; rfl⟩ (by dsimp only; omega) idH
            | exact Z8 ⟨(k9 + 1 + 1, true, !s.seen), by dsimp only; omega, by dsimp only; rw [hpt, Z3, ← hyes]; rfl, by dsimp only; rw [hpt, Z3, ← hno]; rfl⟩ (by dsimp only; omega) idH
            | exact Z8 ⟨(k9 + 1 + 1, s.seen, true), by dsimp only; omega, by dsimp only; rw [hpt, Z3, ← hyes]; rfl, by dsimp only; rw [hpt, Z3, ← hno]; rfl⟩ (by dsimp only; omega) idH
            | exact Z8 ⟨(k9 + 1 + 1, s.seen, !s.seen), by dsimp only; omega, by dsimp only; rw [hpt, Z3, ← hyes]; rfl, by dsimp only; rw [hpt, Z3, ← hno]; rfl⟩ (by dsimp only; omega) idH
            | exact Z8 ⟨(k9 + 1, true, true), by dsimp only; omega, by dsimp only; rw [hpt, Z3, ← hyes]; rfl, by dsimp only; rw [hpt, Z3, ← hno]; rfl⟩ (by dsimp only; omega) idH
            | exact Z8 ⟨(k9 + 1, true, !s.seen), by dsimp only; omega, by dsimp only; rw [hpt, Z3, ← hyes]; rfl, by dsimp only; rw [hpt, Z3, ← hno]; rfl⟩ (by dsimp only; omega) idH
            | exact Z8 ⟨(k9 + 1, s.seen, true), by dsimp only; omega, by dsimp only; rw [hpt, Z3, ← hyes]; rfl, by dsimp only; rw [hpt, Z3, ← hno]; rfl⟩ (by dsimp only; omega) idH
            | exact Z8 ⟨(k9 + 1, s.seen, !s.seen), by dsimp only; omega, by dsimp only; rw [hpt, Z3, ← hyes]; rfl, by dsimp only; rw [hpt, Z3, ← hno]; rfl⟩ (by dsimp only; omega) idH
          obtain rfl : no = false := g150
          refine tkG rfl rfl rfl rfl (PE.fA Zw rfl) rfl ?_
          refine ldG rfl rfl rfl rfl rfl (lh Z1O rfl rfl) rfl (Zl 1 rfl ?_)
          refine tkG rfl rfl rfl rfl (PE.indexAddr Z77 rfl rfl (by omega) (by omega)) rfl ?_
          refine tkG rfl rfl rfl rfl (PE.fA Z0E rfl) rfl ?_
          refine ldG rfl rfl rfl rfl rfl (lf (j := 2) sc4 (Z1F hs) rfl) rfl (Zl 4 rfl (sqr 2 rfl (sp rfl (PE.add rfl rfl (by omega)) rfl (pur 1 rfl ?_))))
          first
            | exact Z8 ⟨(k9 + 1 + 1, true, true), by dsimp only; omega, by dsimp only; rw [hpt, Z3, ← hyes]; rfl, by dsimp only; rw [hpt, Z3, ← hno]; rfl⟩ (by dsimp only; omega) idH
            | exact Z8 ⟨(k9 + 1 + 1, true, !s.seen), by dsimp only; omega, by dsimp only; rw [hpt, Z3, ← hyes]; rfl, by dsimp only; rw [hpt, Z3, ← hno]; rfl⟩ (by dsimp only; omega) idH
            | exact Z8 ⟨(k9 + 1 + 1, s.seen, true), by dsimp only; omega, by dsimp only; rw [hpt, Z3, ← hyes]; rfl, by dsimp only; rw [hpt, Z3, ← hno]; rfl⟩ (by dsimp only; omega) idH
            | exact Z8 ⟨(k9 + 1 + 1, s.seen, !s.seen), by dsimp only; omega, by dsimp only; rw [hpt, Z3, ← hyes]; rfl, by dsimp only; rw [hpt, Z3, ← hno]; rfl⟩ (by dsimp only; omega) idH
            | exact Z8 ⟨(k9 + 1, true, true), by dsimp only; omega, by dsimp only; rw [hpt, Z3, ← hyes]; rfl, by dsimp only; rw [hpt, Z3, ← hno]; rfl⟩ (by dsimp only; omega) idH
            | exact Z8 ⟨(k9 + 1, true, !s.seen), by dsimp only; omega, by dsimp only; rw [hpt, Z3, ← hyes]; rfl, by dsimp only; rw [hpt, Z3, ← hno]; rfl⟩ (by dsimp only; omega) idH
            | exact Z8 ⟨(k9 + 1, s.seen, true), by dsimp only; omega, by dsimp only; rw [hpt, Z3, ← hyes]; rfl, by dsimp only; rw [hpt, Z3, ← hno]; rfl⟩ (by dsimp only; omega) idH
            | exact Z8 ⟨(k9 + 1, s.seen, !s.seen), by dsimp only; omega, by dsimp only; rw [hpt, Z3, ← hyes]; rfl, by dsimp only; rw [hpt, Z3, ← hno]; rfl⟩ (by dsimp only; omega) idH
          ·
           obtain rfl : k9 = x.length := by omega
           rw [List.take_length] at hyes hno
           obtain ⟨⟨s1, h1m, h1s⟩, s2, h2m, h2s⟩ := hcl.two hokq
           obtain rfl : yes = true := by rw [hyes]; exact List.any_eq_true.2 ⟨s1, h1m, h1s⟩
           obtain rfl : no = true := by rw [hno]; exact List.any_eq_true.2 ⟨s2, h2m, by rw [h2s]; rfl⟩
           clear hyes hno h1m h2m h1s h2s
           refine Zb (Zc (Zc (Zp (Z0 (sqt 4 rfl (pur 1 rfl (sp rfl (PE.lenSl ZE rfl) rfl (sp rfl (PE.add rfl rfl (by omega)) rfl (pur 1 rfl (Z4 ?_))))))))))
           refine Zg (ι := {k : Nat // k ≤ x.length + 1}) (fun y => ⟨[(7, .pointer (some ⟨b7, 0, none⟩)), (13, .slice ax x.length cx), (19, .bool true), (20, .bool true), (162, .int .i64 ((x.length : Int) + 1)), (163, .int .i64 y.1)], (br, cel 72 [.slice a2 l2.length c2, .int .i64 (tqr), .int .u32 (mxr)]) :: (bq, cel 72 [.slice a1 l1.length c1, .int .i64 (tqc), .int .u32 (mxc)]) :: (b7, cel 26 (htl q (q.sg ag cg) (q.ss aS cSg))) :: (bk, cel 72 [.slice a0 l0.length c0, .int .i64 (tqb), .int .u32 (mxb)]) :: H, RowsA as3 1 (Z7 (q.surR 3).1) :: RowsA ao2 1 (Z7 q.orgR.1) :: RowsA ax 1 (Z7 x) :: RowsA aS 3 (Zd q.sights) :: RowsA none 3 (Zd h.sights) :: RowsA ar 1 (Z7 (Z12 p h.bins.toNat)) :: RowsA ag 2 (Zi q.gaps) :: R⟩) (fun y => x.length + 1 - y.1) ⟨0, Nat.zero_le _⟩ ?_ (fun y => ?_)
           exact Zq idH
           ·
            obtain ⟨k, hk⟩ := y
            dsimp only at hk ⊢
            refine sqt 1 rfl (pur 1 rfl (Z0 ?_))
            refine Z1 rfl ?_ ?_ <;> intro hc7 <;> try simp only [cS] at hc7
            ·
             refine Z2 (Z0 (Z4 (sqt 2 rfl (pur 2 rfl (sqt 4 rfl (spL rfl rfl (lhA (htl q (q.sg ag cg) (q.ss aS cSg)) Z0A rfl rfl rfl) rfl ?_))))))
             refine cl rfl ZcY rfl rfl (Zdb q ag aS cg cSg (by omega) (by omega) _ _) ?_
             rintro _ _ R1 ⟨og, os, rfl, rfl, hR1⟩
             obtain rfl := hR1.symm
             clear hR1
             refine alc rfl Z83 rfl (fun b24 => ?_)
             refine ZI (l' := htl q og.fs os.fs) rfl rfl rfl Z9i rfl rfl (by show (htl _ og.fs os.fs).all (·.oneCell') = true; simp only [htl, List.all_cons, List.all_nil, og.cells.2, os.cells.2, Bool.and_true]; rfl) rfl (nl rfl) ?_
             refine sqt 2 rfl (sp rfl (PE.fA Zw rfl) rfl ?_)
             refine ZI (l' := htl ⟨q.bins, q.gaps, []⟩ og.fs (.slice none 0 0)) rfl rfl rfl ZaY rfl rfl rfl rfl (nl rfl) ?_
             refine Z0 (sqt 3 rfl (pur 1 rfl (sp rfl (PE.lenSl ZE rfl) rfl (pur 1 rfl (Z4 ?_)))))
             refine Zg (ι := (y : {j : Nat // j ≤ x.length}) × OSl 38 3 (Zd (ZB q.sights ((x.take (y.1)).eraseIdx k)))) (fun y => ⟨[(7, .pointer (some ⟨b7, 0, none⟩)), (13, .slice ax x.length cx), (19, .bool true), (20, .bool true), (23, .int .i64 k), (24, .pointer (some ⟨b24, 0, none⟩)), (162, .int .i64 ((x.length : Int) + 1)), (163, .int .i64 k), (169, .slice ax x.length cx), (170, .int .i64 x.length), (171, .int .i64 y.1.1)], y.2.G ++ ((b24, cel 26 (htl ⟨q.bins, q.gaps, (ZB q.sights ((x.take (y.1.1)).eraseIdx k))⟩ og.fs y.2.fs)) :: (og.G ++ ((br, cel 72 [.slice a2 l2.length c2, .int .i64 (tqr), .int .u32 (mxr)]) :: (bq, cel 72 [.slice a1 l1.length c1, .int .i64 (tqc), .int .u32 (mxc)]) :: (b7, cel 26 (htl q (q.sg ag cg) (q.ss aS cSg))) :: (bk, cel 72 [.slice a0 l0.length c0, .int .i64 (tqb), .int .u32 (mxb)]) :: H))), RowsA as3 1 (Z7 (q.surR 3).1) :: RowsA ao2 1 (Z7 q.orgR.1) :: RowsA ax 1 (Z7 x) :: RowsA aS 3 (Zd q.sights) :: RowsA none 3 (Zd h.sights) :: RowsA ar 1 (Z7 (Z12 p h.bins.toNat)) :: RowsA ag 2 (Zi q.gaps) :: R⟩) (fun y => x.length - y.1.1) ⟨⟨0, Nat.zero_le _⟩, (OSl.nil _ _).cast (by rw [List.take_zero]; rfl)⟩ ?_ (fun y => ?_)
             exact Zq (fun w h9 => St.dropMid (A := [_]) (B := os.G) h9)
             ·
              obtain ⟨⟨j, hj⟩, o3⟩ := y
              dsimp only at hj o3 ⊢
              refine sqt 1 rfl (pur 1 rfl (Z0 ?_))
              refine Z1 rfl ?_ ?_ <;> intro hc8 <;> try simp only [cS] at hc8
              obtain ⟨z, hz⟩ : ∃ z, x[j]? = some z := ⟨_, List.getElem?_eq_getElem (by omega)⟩
              have hzr := hcl.lt z (List.mem_of_getElem? hz)
              obtain ⟨zn, rfl⟩ : ∃ n : Nat, z = n := ⟨z.toNat, by omega⟩
              obtain ⟨s, hs⟩ : ∃ s, q.sights[zn]? = some s := ⟨_, List.getElem?_eq_getElem (by omega)⟩
              have het := Z5Y (k := k) hz
              have hpl := Z2g q.sights ((x.take (j)).eraseIdx k)
              have hel := Z4f (l := x) (k := k) (j := j)
              refine Zn (a := ax) (sz := 1) (rows := Z7 x) (ne0 (by rw [irl]; omega)) (fun bx bxo hebx => ?_)
              subst hebx
              refine Zn (a := aS) (sz := 3) (rows := Zd q.sights) (ne0 (by rw [ZQ]; omega)) (fun bS bSo hebS => ?_)
              subst hebS
              refine Z2 (Z0 (Z4 (sqt 5 rfl (pur 1 rfl (sp rfl (PE.indexAddr Z1p rfl rfl (by omega) (by omega)) rfl (spL rfl rfl (lf0 sc3 (Z01 hz) rfl) rfl (pur 2 rfl (sqt 3 rfl (pur 3 rfl ?_)))))))))
              refine Z1 rfl ?_ ?_ <;> intro hc9 <;> try simp only [cS] at hc9
              rw [dF (show ¬ j = k by omega), cond_false] at het
              have hps := Z7P (ss := q.sights) (l := ((x.take (j)).eraseIdx k)) (i := (zn : Int)) (s := s) (by rw [Int.toNat_natCast]; exact hs)
              rw [← het] at hps
              refine Ze [0, 1, 0, 4, 0, 28, 60, 124, 255, 511, 1023] (.tk 0 (.ld 1 (.tk 2 (.ld 3 (.tk 4 (.tk 5 (.ld 6 (.big 7 (.big 8 (.tk 9 (.big 10 .done))))))))))) Zu (by kernel_rfl) ?_
              refine tk rfl (PE.fA Zw rfl) rfl (ld rfl rfl (lh Z1O rfl rfl) rfl (tk rfl (PE.fA Zw rfl) rfl (ld rfl rfl (lh Z1O rfl rfl) rfl (Zl 1 rfl (tk rfl (PE.indexAddr Z77 rfl rfl (by omega) (by omega)) rfl (ld rfl rfl (lfA Zab (row := Z1N s) (Z1F hs) rfl) rfl ?_))))))
              refine bsl (out := [_, _, _]) rfl Z9Q Z4x rfl rfl rfl rfl rfl rfl (fun b186 => ?_)
              refine bg (fun w hs => ⟨trivial, trivial, (lh Z1O rfl rfl) w hs, trivial⟩) ?_
              refine apO (o3) rfl Z9B rfl rfl (Z0B (row := Z1N s) rfl) rfl rfl ((by rw [ZQ]; simp only [List.length_singleton]; omega)) rfl (fun o187 => ?_)
              refine bgT (tk rfl (PE.fA Zw rfl) rfl ?_)
              refine ZI (l' := htl ⟨q.bins, q.gaps, (ZB q.sights ((x.take (j)).eraseIdx k)) ++ [s]⟩ og.fs o187.fs) rfl rfl rfl ZaY rfl (by rw [o187.cells.1]; first | done | rfl) (by rw [o187.cells.1]; simp [o187.cells.2]) (by rw [o187.cells.1]; first | done | rfl) (by rw [o187.cells.1]; first | done | exact Nat.le_of_ble_eq_true rfl) ?_
              refine bgT (sqr 2 rfl (sp rfl (PE.add rfl rfl (by omega)) rfl (pur 1 rfl ?_)))
              exact Za ⟨⟨j + 1, by omega⟩, o187.cast (by rw [hps, Z7k]; rfl)⟩ (fun w h9 => h9.del b186)
              rw [dT (show j = k by omega), cond_true] at het
              refine Z2 (sqr 2 rfl (sp rfl (PE.add rfl rfl (by omega)) rfl (pur 1 rfl ?_)))
              exact Za ⟨⟨j + 1, by omega⟩, o3.cast (by rw [het])⟩ idH
              ·
               obtain rfl : j = x.length := by omega
               have hpl := Z2g q.sights ((x.take (x.length)).eraseIdx k)
               have hel := Z4f (l := x) (k := k) (j := x.length)
               obtain ⟨hokp, hor⟩ := Z8X hokq (l := ((x.take (x.length)).eraseIdx k)) (by omega)
               obtain ⟨ap, cp, he, hcp, hzz⟩ := o3.freezeC
               rw [ZQ] at hcp
               rw [he, ZQ]
               refine Sy.heap (fun w h9 => hzz h9) ?_
               clear he hzz
               obtain ⟨aG, cG, he, hcG, hzz⟩ := og.freezeC
               rw [Z0v] at hcG
               rw [he, Z0v]
               refine Sy.heap (H' := _ :: ((br, cel 72 [.slice a2 l2.length c2, .int .i64 (tqr), .int .u32 (mxr)]) :: (bq, cel 72 [.slice a1 l1.length c1, .int .i64 (tqc), .int .u32 (mxc)]) :: (b7, cel 26 (htl q (q.sg ag cg) (q.ss aS cSg))) :: (bk, cel 72 [.slice a0 l0.length c0, .int .i64 (tqb), .int .u32 (mxb)]) :: H)) (fun w h9 => hzz (h9.perm (List.perm_middle (l₁ := og.G) (a := _)).symm)) ?_
               clear he hzz
               obtain ⟨t, ht⟩ : ∃ t : Hse, t = ⟨q.bins, q.gaps, (ZB q.sights ((x.take (x.length)).eraseIdx k))⟩ := ⟨_, rfl⟩
               rw [← ht] at hokp hor
               rw [show htl ⟨q.bins, q.gaps, (ZB q.sights ((x.take (x.length)).eraseIdx k))⟩ (.slice aG q.gaps.length cG) (.slice ap (ZB q.sights ((x.take (x.length)).eraseIdx k)).length cp) = htl t (t.sg aG cG) (t.ss ap cp) from by rw [ht]; rfl, show Zd (ZB q.sights ((x.take (x.length)).eraseIdx k)) = Zd t.sights from by rw [ht], show RowsA aG 2 (Zi q.gaps) = RowsA aG 2 (Zi t.gaps) from by rw [ht]]
               have htg := hokp.gl
               have hts := hokp.sl
               have hor2 : (k < x.length ∧ t.orgR.2 = 0) ∨ (k = x.length ∧ t.orgR.2 = 7) := by
                 rw [List.take_length] at hor
                 rcases Nat.lt_or_ge k x.length with h8 | h8
                 · rcases hor with ⟨_, h7⟩ | ⟨h7, _⟩
                   · exact .inl ⟨h8, h7⟩
                   · rw [hcl.less k h8] at h7; cases h7
                 · obtain rfl : k = x.length := by omega
                   rw [List.eraseIdx_of_length_le (Nat.le_refl _)] at hor
                   rcases hor with ⟨h7, _⟩ | ⟨_, h7⟩
                   · rw [hcl.no] at h7; cases h7
                   · exact .inr ⟨rfl, h7⟩
               clear ht hor
               refine Zb (Zc (Zc (Zp (sqt 7 rfl (spL rfl rfl (lhA (htl t (t.sg aG cG) (t.ss ap cp)) Z0A rfl rfl rfl) rfl ?_)))))
               refine cl rfl Z88 rfl rfl (Z1B t aG ap cG cp (by omega) (by omega) _ _) ?_
               rintro _ _ R1 ⟨ao5, co5, hco59, rfl, rfl, hR1⟩
               obtain rfl := hR1.symm
               clear hR1
               rcases hor2 with ⟨hkx, e5⟩ | ⟨hkx, e5⟩
               all_goals rw [e5]
               refine pur 5 rfl (sqt 22 rfl (pur 3 rfl ?_))
               refine Zt 197 rfl ?_ ?_ <;> intro g197
               exact absurd g197 (by simp)
               refine pur 3 rfl ?_
               repeat refine spU rfl rfl rfl rfl rfl rfl rfl ?_
               refine pur 5 rfl ?_
               refine spG rfl rfl rfl rfl (PE.lenSl ZE rfl) rfl ?_
               refine pur 2 rfl ?_
               refine Zt 212 rfl ?_ ?_ <;> intro g212
               simp only [decide_eq_true_eq] at g212; omega
               refine pur 4 rfl ?_
               refine ZK rfl ?_
               refine Z2 (sqr 2 rfl (sp rfl (PE.add rfl rfl (by omega)) rfl (pur 1 rfl ?_)))
               exact Za ⟨k + 1, by omega⟩ (fun w h9 => (h9.del b24).facts (fun g hg => by simp only [List.mem_cons] at hg ⊢; simp only [hg, or_true]))
               refine pur 5 rfl (sqt 22 rfl (pur 3 rfl ?_))
               refine Zt 197 rfl ?_ ?_ <;> intro g197
               refine pur 3 rfl ?_
               refine Zt 200 rfl ?_ ?_ <;> intro g200
               exact absurd g200 (by simp)
               refine pur 2 rfl ?_
               refine spG rfl rfl rfl rfl (PE.lenSl ZE rfl) rfl ?_
               refine pur 4 rfl ?_
               refine Zt 207 rfl ?_ ?_ <;> intro g207
               simp only [decide_eq_true_eq] at g207; omega
               refine pur 2 rfl ?_
               refine spG rfl rfl rfl rfl (PE.lenSl ZE rfl) rfl ?_
               refine pur 2 rfl ?_
               refine Zt 212 rfl ?_ ?_ <;> intro g212
               refine pur 4 rfl ?_
               refine Z1 rfl ?_ ?_ <;> intro hc10
               exact absurd hc10 (by simp)
               refine Z2 (sqr 2 rfl (sp rfl (PE.add rfl rfl (by omega)) rfl (pur 1 rfl ?_)))
               exact Za ⟨k + 1, by omega⟩ (fun w h9 => (h9.del b24).facts (fun g hg => by simp only [List.mem_cons] at hg ⊢; simp only [hg, or_true]))
               simp only [decide_eq_false_iff_not] at g212; omega
               exact absurd g197 (by simp)
            refine Zb (Zc (Zc (Zp (sqt 8 rfl (pur 2 rfl ?_)))))
            refine Zt 219 rfl ?_ ?_ <;> intro g219
            refine pur 3 rfl ?_
            refine Zt 222 rfl ?_ ?_ <;> intro g222
            refine Z8A rfl rfl rfl rfl Zbj rfl rfl (Z7K _ _) ?_
            refine pur 2 rfl (Z6 ?_)
            exact rtA rfl rfl rfl ⟨rfl, rfl, rfl⟩ (fun w h9 => ((((h9.del b7).del br).del bq).del bk).sub)
            exact absurd g222 (by simp)
            exact absurd g219 (by simp)
end Go.Proofs.Ythfgcnmcipcbbaa
