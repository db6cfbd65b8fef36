/- Walks of the functions of the program, and the laws that join them: what the last theorem of this claim needs, in order. -/
import Derived.Test.Ythfgcnmcipcbbaawa4
namespace Go.Proofs.Ythfgcnmcipcbbaa
set_option linter.unusedSimpArgs false
set_option linter.unusedVariables false
open Go
theorem Zbp : cal Try.prog 24 = true := by kernel_rfl
def ZdV (h : Hse) (fr to_ : List Int) (H : Z7) (R : Z4) : Value → Z7 → Z4 → Prop := fun v H' R' => H' = H ∧ R' = R ∧ ((h.botE fr to_ ≠ 0 ∧ v = .tuple #[.int .i64 0, .int .i64 (h.botE fr to_)]) ∨
  (h.botE fr to_ = 0 ∧ ∃ s : Nat, s ≤ 10 ∧ (∃ n, Pl h.gaps (msk to_) s (msk fr) 0 n) ∧ (∀ s', s' < s → ∀ n, ¬ Pl h.gaps (msk to_) s' (msk fr) 0 n) ∧ v = .tuple #[.int .i64 (s : Int), .int .i64 0]))
theorem Z9m {h : Hse} {fr to_ : List Int} {s : Nat} (hb : h.botE fr to_ = 0) (hs : s ≤ 10) : h.rcE fr to_ (s : Int) = 0 := by
  have : inB (s : Int) 0 10 = true := by simp [inB]; omega
  unfold Hse.rcE; rw [hb, this]; rfl
theorem Z6C {h : Hse} {fr to_ : List Int} (hb : h.Bot fr to_) : Two h.gaps (msk fr) (msk to_) := by
  obtain ⟨q1, q2, q3, q4, q5, q6⟩ := Z16 hb
  have hok := hb.ok
  exact ⟨fun g hg => by have := hok.gaps g hg; have := hok.bins; omega, fun i g hg => by have := hok.gaps g (List.mem_of_getElem? hg); omega, Z1f fun x hx => q1 x hx, Z1f fun x hx => q2 x hx, fun v hv => by
    cases hk : (msk to_).testBit v with
    | false => rfl
    | true => exact absurd ((Zx (fun k hk => (q2 k hk).1) v).1 hk) (hb.no _ ((Zx (fun k hk => (q1 k hk).1) v).1 hv))⟩
theorem Z8C {h : Hse} {fr to_ : List Int} (hb : h.Bot fr to_) : ∃ n, Pl h.gaps (msk to_) 10 (msk fr) 0 n := by
  have ht := Z6C hb
  have hp := Nat.two_pow_pos h.gaps.length
  exact ⟨_, Pl.once ht.w ht.s (show 2 ^ h.gaps.length - 1 < 2 ^ h.gaps.length by omega) (Z8D ht) (Nat.le_trans (Z3k _ _) hb.ok.gl)⟩
set_option maxHeartbeats 400000 in
theorem Z9r (h : Hse) (ag as_ : Option Addr) (cg cs : Nat) (hlg : h.gaps.length ≤ 9223372036854775807) (hls : h.sights.length ≤ 9223372036854775807) (fr to_ : List Int) (af at_ : Option Addr) (cf ct : Nat) (hlf : fr.length ≤ 1000000) (hlt : to_.length ≤ 1000000) (hfc : fr.length ≤ cf) (htc : to_.length ≤ ct) (H : Z7) (R : Z4) [hG : MemRows ag 2 (Zb h.gaps) R] [hS : MemRows as_ 3 (Zj h.sights) R] [hF : MemRows af 1 (Z6 fr) R] [hT : MemRows at_ 1 (Z6 to_) R] :
    Fn Try.prog 22 [h.v (h.sg ag cg) (h.ss as_ cs), .slice af fr.length cf, .slice at_ to_.length ct] H R (ZdV h fr to_ H R) := by
 refine Zf Try.func22 rfl Try.ntmps22 rfl ?_
 refine sqt 3 rfl (bx rfl rfl rfl (fun b3 => pur 2 rfl (Z0 (sqt 5 rfl (spL rfl rfl (lhA (htl h (h.sg ag cg) (h.ss as_ cs)) Z0F rfl rfl rfl) rfl (pur 2 rfl ?_))))))
 refine clV rfl Z8u rfl rfl (Z5o h ag as_ cg cs hlg hls fr to_ af at_ cf ct (by omega) (by omega) hfc htc _ _) ?_
 refine pur 1 rfl (sqt 2 rfl (pur 2 rfl ?_))
 refine Z1 rfl ?_ ?_ <;> intro hc0
 have hbe : h.botE fr to_ ≠ 0 := of_decide_eq_true hc0
 refine sqt 3 rfl (pur 3 rfl (Z5 ?_))
 exact rtB rfl rfl rfl rfl ⟨rfl, rfl, .inl ⟨hbe, rfl⟩⟩ (fun w h9 => h9.del b3)
 ·
  have hbe : h.botE fr to_ = 0 := Classical.byContradiction fun e => by rw [decide_eq_true e] at hc0; cases hc0
  have hb := Z3i hbe
  obtain ⟨n0, hn0⟩ := Z8C hb
  refine Z2 (sqt 1 rfl (pur 1 rfl (Z3 ?_)))
  refine Zd (ι := {s : Nat // s ≤ 10 ∧ ∀ s', s' < s → ∀ n, ¬ Pl h.gaps (msk to_) s' (msk fr) 0 n}) (fun s => ⟨[(1, .slice af fr.length cf), (2, .slice at_ to_.length ct), (3, .pointer (some ⟨b3, 0, none⟩)), (9, .int .i64 (s.1 : Int))], (b3, cel 26 (htl h (h.sg ag cg) (h.ss as_ cs))) :: H, R⟩) (fun s => 11 - s.1) ⟨0, by omega, fun s' h9 => absurd h9 (Nat.not_lt_zero _)⟩ ?_ (fun s => ?_)
  exact Zp idH
  ·
   obtain ⟨s, hs, hno⟩ := s
   dsimp only at hs hno ⊢
   have hrz := Z9m hbe hs
   refine Z0 (Z3 (sqt 10 rfl (spL rfl rfl (lhA (htl h (h.sg ag cg) (h.ss as_ cs)) Z0F rfl rfl rfl) rfl (pur 3 rfl ?_))))
   refine cl rfl Zbp rfl rfl (Z8T h ag as_ cg cs hlg hls fr to_ af at_ cf ct hlf hlt hfc htc (s : Int) _ _) ?_
   rintro _ _ R1 ⟨rfl, hq⟩
   rcases hq with ⟨h9, _⟩ | ⟨_, hnp, rfl, hR1⟩ | ⟨_, ls, pl, a, c, _, _, _, _, _, hls2, rfl, hR1⟩
   · exact absurd hrz h9
   all_goals obtain rfl := hR1.symm
   all_goals clear hR1
   all_goals rw [Int.toNat_natCast] at *
   refine pur 5 rfl (sqt 2 rfl (pur 2 rfl ?_))
   refine Z1 rfl ?_ ?_ <;> intro hc1
   exact absurd hc1 (by decide)
   have hs10 : s ≠ 10 := fun e => hnp n0 (by rw [e]; exact hn0)
   refine Z2 (sqr 3 rfl (pur 1 rfl (sp rfl (PE.add rfl rfl (by omega)) rfl (pur 1 rfl ?_))))
   exact Z8 ⟨s + 1, by omega, fun s' h9 => (Nat.lt_succ_iff_lt_or_eq.1 h9).elim (hno s') (fun e => by subst e; exact hnp)⟩ idH
   refine pur 5 rfl (sqt 2 rfl (pur 2 rfl ?_))
   refine Z1 rfl ?_ ?_ <;> intro hc1
   refine sqt 3 rfl (pur 3 rfl (Z5 ?_))
   exact rtB rfl rfl rfl rfl ⟨rfl, rfl, .inr ⟨hbe, s, hs, ⟨_, hls2.1⟩, hno, rfl⟩⟩ (fun w h9 => St.sub (h9.del b3))
   exact absurd hc1 (by decide)
theorem ZcW : cal Try.prog 98 = true := by kernel_rfl
theorem ik3 : Z9e Try.prog 3 = some .i64 := by kernel_rfl
section steps
variable {P : Program} {r : Option Nat} {ops : Array Oper} {n : Nat} {L : Zg} {D : List Deferred} {H : Z7} {R : Z4} {K : Act → World → Prop}
  {i d : Nat} {ty : TypeId} {pos : String} {af : Array Edge}
theorem ZdX {t tn e sz by_ k : Nat} {kq kn : IntKind} {s x : Operand} {zl : List Value} (ho : ops[i]? = some ⟨some d, .call { callee := .builtin .append, args := #[s, x], argTypes := #[t, tn] }, ty, pos, af, none⟩)
    (ht : apT P t = some (e, sz, by_)) (htn : Z9e P tn = some kn) (hz : ZP P e = some zl) (hs : ev L s = some (.slice none 0 0)) (hx : ev L x = some (.int kq k))
    (hk : 0 < k) (hs0 : 0 < sz) (hb : k * by_ ≤ 140737488355328 ∧ k ≤ 9223372036854775807) (hd : Nat.blt d n = true)
    (h : ∀ (b' cap' : Nat) (junk : List Value), k ≤ cap' → cap' ≤ 9223372036854775807 → k * sz + junk.length = cap' * sz → Sy n ((d, .slice (some ⟨b', 0, none⟩) k cap') :: L) D ((b', cel e (Z0I k zl ++ junk)) :: H) R K) : Sy n L D H R (stp P r ops i K) := fun a w ha hD hw => by
  unfold apT at ht
  split at ht
  case h_2 => cases ht
  rename_i e' hu
  split at ht
  case h_2 => cases ht
  rename_i ie hi
  split at ht
  case h_2 => cases ht
  rename_i z hzz
  cases hzs : Nat.beq z.cells.size ie.size with
  | false => rw [hzs] at ht; cases ht
  | true =>
  rw [hzs, cond_true] at ht
  cases ht
  have hzs := Nat.eq_of_beq_eq_true hzs
  have hzl : z.cells.toList = zl := by
    have : ZP P e = some z.cells.toList := by simp [ZP, hi, hzz]
    rw [this] at hz; exact Option.some.inj hz
  have hun : P.underlying tn = some (.int kn) := by
    unfold Z9e at htn
    split at htn
    · rename_i q hq; cases htn; exact hq
    · cases htn
  have hold : (Builtin.firstCells ie.size 0 (.slice none 0 0)).run P w.drew = .ok ([] : List Value).toArray w.drew := by
    simp [Builtin.firstCells, Sem.run_pure]
  have h2 := Lib.run_append_grow_zeros (P := P) w t tn ty e ie z kq kn hu hun hi hzz none 0 0 [] hold k hk hs0 (by omega) (by omega) (by omega) (growslice_fits (by omega) (by rw [Nat.zero_add]; exact hb.1))
  rw [Nat.zero_add] at h2
  have hge := grownCap_ge w k 0 e
  have hcm : grownCap w k 0 e ≤ maxLen := grownCap_le_maxLen w _ 0 e (by simp only [maxLen]; omega)
  have hrep : ∀ q, (Builtin.zeroCells z.cells q).toList = Z0I q zl := fun q => by rw [← hzl]; simp [Builtin.zeroCells, Z0I]
  have e1 : (.cells (([] : List Value).toArray ++ Builtin.zeroCells z.cells k ++ Builtin.zeroCells z.cells (grownCap w k 0 e - k)) e : Obj) = cel e (Z0I k zl ++ (Builtin.zeroCells z.cells (grownCap w k 0 e - k)).toList) := by
    unfold cel; congr 1; apply Array.toList_inj.1; simp [hrep]
  refine Zr ho (Zc _ rfl _) (v := .slice (some ⟨w.heap.size, 0, none⟩) k (grownCap w k 0 e)) (w' := w.drew.alloc (cel e (Z0I k zl ++ (Builtin.zeroCells z.cells (grownCap w k 0 e - k)).toList))) ?_
    (h w.heap.size (grownCap w k 0 e) (Builtin.zeroCells z.cells (grownCap w k 0 e - k)).toList hge (by simp only [maxLen] at hcm; omega) ?_ _ _ (ha.put (by simpa using hd) _) hD (hw.drew.alloc _))
  · simp only [execOp, resolve, invoke, builtin, Sem.run_bind, Sem.run_pure, Result.andThen, List.map_toArray, List.map_cons, List.map_nil, ha.reads _ _ hs, ha.reads _ _ hx]
    rw [e1] at h2
    rw [h2]
  · simp only [Array.length_toList, size_zeroCells, hzs, ← Nat.add_mul]
    congr 1; omega
end steps
theorem Z6k {k : Nat} {v : Value} : (Z0I k [v]).length = k := by simp [Z0I]
def Z3l (pl : List PL) (k : Nat) : List Int := (lls (pl.take k)).flatten
theorem Z2H {pl : List PL} {k : Nat} {x : PL} (h : pl[k]? = some x) : Z3l pl (k + 1) = Z3l pl k ++ x.l := by
  unfold Z3l lls
  rw [List.take_add_one, h, Option.toList_some, List.map_append, List.flatten_append]; simp
theorem Z1S (pl : List PL) : ∀ k, (Z3l pl k).length ≤ (lls pl).flatten.length := fun k => by
  unfold Z3l lls
  have h : pl.map (·.l) = (pl.take k).map (·.l) ++ (pl.drop k).map (·.l) := by rw [← List.map_append, List.take_append_drop]
  rw [h, List.flatten_append, List.length_append]; omega
theorem Za1 (k : Nat) (hk : k ≤ 1000000) (H : Z7) (R : Z4) :
    Fn Try.prog 98 [.slice none 0 0, .int .i64 (k : Int)] H R (fun v H' R' => ∃ o : OSl 3 1 [], v = o.fs ∧ H' = o.G ++ H ∧ R' = R) := by
 refine Zf Try.func98 rfl Try.ntmps98 rfl ?_
 refine sqt 1 rfl (pur 1 rfl (Z0 (sqt 2 rfl (pur 2 rfl ?_))))
 refine Z1 rfl ?_ ?_ <;> intro hc0
 simp only [decide_eq_true_eq] at hc0
 omega
 refine Z2 (Z0 (sqt 8 rfl (pur 2 rfl (sp rfl (PE.capSl ZD rfl) rfl (pur 1 rfl (sp rfl (PE.lenSl ZD rfl) rfl (sp rfl (PE.sub rfl rfl (by omega)) rfl (sp rfl (PE.sub rfl rfl (by omega)) rfl ?_))))))))
 rw [show (k : Int) - (((0 : Nat) : Int) - ((0 : Nat) : Int)) = (k : Int) by omega]
 refine pur 1 rfl (sqt 2 rfl (pur 2 rfl ?_))
 refine Z1 rfl ?_ ?_ <;> intro hc1
 try simp only [cS] at hc1
 refine sqr 10 rfl (pur 2 rfl (sp rfl (PE.capSl ZD rfl) rfl (sp rfl (PE.slHi (h := 0) Z0Z rfl rfl (by omega)) rfl (pur 1 rfl ?_))))
 refine ZdX rfl Z3S ik3 zl3 rfl rfl (by omega) (by omega) (by omega) rfl (fun b2 cap2 jk2 hc1 hc2 hc3 => ?_)
 refine pur 1 rfl (sp rfl (PE.lenSl ZD rfl) rfl (sp rfl (PE.slHi (h := 0) Z0Z rfl rfl (by omega)) rfl (pur 1 rfl (sqt 2 rfl (pur 2 rfl (Z5 ?_))))))
 exact rtA rfl rfl rfl ⟨⟨.slice (some ⟨b2, 0, none⟩) 0 cap2, [(b2, cel 3 (Z0I k [.int .i64 0] ++ jk2))], by simp, .inr ⟨b2, cap2, Z0I k [.int .i64 0] ++ jk2, rfl, rfl, by rw [List.length_append, Z6k]; simp only [List.length_nil]; omega, Nat.zero_le _, hc2⟩⟩, rfl, rfl, rfl⟩ idH
 refine Z2 (sqt 2 rfl (pur 2 rfl (Z5 ?_)))
 exact rtA rfl rfl rfl ⟨OSl.nil _ _, rfl, rfl, rfl⟩ idH
set_option maxHeartbeats 400000 in
theorem Z2r (pl : List PL) (ap : Option Addr) (cp : Nat) (hpl : pl.length ≤ 1000000) (htl : (lls pl).flatten.length ≤ 1000000) (H : Z7) (R : Z4) [hP : MemRows ap 1 (ZL pl) R] [hI : MemF (Inn pl) R] :
    Fn Try.prog 66 [.slice ap pl.length cp] H R (fun v H' R' => ∃ o : OSl 3 1 (Z6 (lls pl).flatten), v = o.fs ∧ H' = o.G ++ H ∧ R' = R) := by
 refine Zf Try.func66 rfl Try.ntmps66 rfl ?_
 refine sqt 1 rfl (pur 1 rfl (sqt 1 rfl (pur 1 rfl (Z0 (sqt 3 rfl (pur 1 rfl (sp rfl (PE.lenSl Z5Y rfl) rfl (pur 1 rfl (Z3 ?_)))))))))
 refine Zd (ι := {k : Nat // k ≤ pl.length}) (fun k => ⟨[(0, .slice ap pl.length cp), (3, .int .i64 ((Z3l pl k.1).length : Nat)), (9, .slice ap pl.length cp), (10, .int .i64 pl.length), (11, .int .i64 k.1)], H, R⟩) (fun k => pl.length - k.1) ⟨0, Nat.zero_le _⟩ ?_ (fun k => ?_)
 exact Zp idH
 obtain ⟨k, hk⟩ := k
 dsimp only at hk ⊢
 have hcl := Z1S pl k
 have hcl2 := Z1S pl (k + 1)
 refine sqt 1 rfl (pur 1 rfl (Z0 ?_))
 refine Z1 rfl ?_ ?_ <;> intro hc0 <;> try simp only [cS] at hc0
 obtain ⟨x, hx⟩ : ∃ x, pl[k]? = some x := ⟨_, List.getElem?_eq_getElem (by omega)⟩
 have hst := congrArg List.length (Z2H hx)
 rw [List.length_append] at hst
 refine Zh (a := ap) (sz := 1) (rows := ZL pl) (ne0 (by rw [Z0j]; omega)) (fun ba oa he => ?_)
 subst he
 refine Z2 (Z0 (Z3 (sqt 3 rfl (sp rfl (PE.indexAddr Zbl rfl rfl (by omega) (by omega)) rfl (spL rfl rfl (lf0 Z31 (Z7I hx) rfl) rfl (pur 1 rfl (sqt 5 rfl (pur 2 rfl (sp rfl (PE.lenSl ZD rfl) rfl (sp rfl (PE.add rfl rfl (by omega)) rfl ?_))))))))))
 rw [show ((Z3l pl k).length : Int) + (x.l.length : Int) = ((Z3l pl (k + 1)).length : Int) by omega]
 refine pur 1 rfl (sqt 2 rfl (pur 2 rfl ?_))
 refine Z1 rfl ?_ ?_ <;> intro hc1
 simp only [decide_eq_true_eq] at hc1
 omega
 refine Z2 (sqr 2 rfl (sp rfl (PE.add rfl rfl (by omega)) rfl (pur 1 rfl ?_)))
 exact Z8 ⟨k + 1, by omega⟩ idH
 obtain rfl : k = pl.length := by omega
 refine Z9 (Za (Za (Zo (sqt 3 rfl (pur 1 rfl ?_)))))
 refine cl rfl ZcW rfl rfl (Za1 (Z3l pl pl.length).length (by omega) _ _) ?_
 rintro _ _ R1 ⟨o0, rfl, rfl, hR1⟩
 obtain rfl := hR1.symm
 clear hR1
 refine pur 1 rfl (Z0 (sqt 3 rfl (pur 1 rfl (sp rfl (PE.lenSl Z5Y rfl) rfl (pur 1 rfl (Z3 ?_))))))
 refine Zd (ι := (k : {k : Nat // k ≤ pl.length}) × OSl 3 1 (Z6 (Z3l pl k.1))) (fun y => ⟨[(6, y.2.fs), (25, .slice ap pl.length cp), (26, .int .i64 pl.length), (27, .int .i64 y.1.1)], y.2.G ++ H, R⟩) (fun y => pl.length - y.1.1) ⟨⟨0, Nat.zero_le _⟩, o0⟩ ?_ (fun y => ?_)
 exact Zp idH
 obtain ⟨⟨k, hk⟩, o⟩ := y
 dsimp only at hk o ⊢
 have hcl := Z1S pl k
 have hcl2 := Z1S pl (k + 1)
 refine sqt 1 rfl (pur 1 rfl (Z0 ?_))
 refine Z1 rfl ?_ ?_ <;> intro hc2 <;> try simp only [cS] at hc2
 obtain ⟨x, hx⟩ : ∃ x, pl[k]? = some x := ⟨_, List.getElem?_eq_getElem (by omega)⟩
 have hst := Z2H hx
 have hsl := congrArg List.length hst
 rw [List.length_append] at hsl
 refine Zh (a := ap) (sz := 1) (rows := ZL pl) (ne0 (by rw [Z0j]; omega)) (fun ba oa he => ?_)
 subst he
 refine Sy.heap (fun w h => St.inn (x := x) h (List.mem_of_getElem? hx)) ?_
 refine Z2 (Z0 (Z3 (sqt 3 rfl (sp rfl (PE.indexAddr Zbl rfl rfl (by omega) (by omega)) rfl (spL rfl rfl (lf0 Z31 (Z7I hx) rfl) rfl (pur 1 rfl (sqr 4 rfl (pur 2 rfl ?_))))))))
 refine apO (news := Z6 x.l) o rfl Z3S rfl rfl (Z7a) (irl _) (by simp [Z00, Z6, Value.oneCell']) (by rw [irl, irl]; omega) rfl (fun o33 => ?_)
 refine pur 1 rfl (sqr 2 rfl (sp rfl (PE.add rfl rfl (by omega)) rfl (pur 1 rfl ?_)))
 exact Z8 ⟨⟨k + 1, by omega⟩, o33.cast (by rw [hst]; simp [Z6])⟩ (fun w h => h.ftail)
 obtain rfl : k = pl.length := by omega
 refine Z9 (Za (Za (Zo (sqt 2 rfl (pur 2 rfl (Z5 ?_))))))
 exact rtA rfl rfl rfl ⟨o.cast (by unfold Z3l; rw [List.take_length]), rfl, rfl, rfl⟩ idH
theorem Z8q : cal Try.prog 66 = true := by kernel_rfl
def ZdW (h : Hse) (fr to_ : List Int) (spd : Int) (H : Z7) (R : Z4) : Value → Z7 → Z4 → Prop := fun v H' R' => H' = H ∧ R' = R ∧ ((h.rcE fr to_ spd ≠ 0 ∧ v = .tuple #[.int .i64 0, .int .i64 (h.rcE fr to_ spd)]) ∨
  (h.rcE fr to_ spd = 0 ∧ (∀ n, ¬ Pl h.gaps (msk to_) spd.toNat (msk fr) 0 n) ∧ v = .tuple #[.int .i64 0, .int .i64 6]) ∨
  (h.rcE fr to_ spd = 0 ∧ ∃ n : Nat, n ≤ 10 ∧ Lst (Pl h.gaps (msk to_) spd.toNat (msk fr) 0) n ∧ v = .tuple #[.int .i64 (n : Int), .int .i64 0]))
theorem Z5I {gs : List Gp} (hg : gs.length ≤ 10) : ∀ {ls : List Nat}, (∀ l ∈ ls, l < 2 ^ gs.length) → ((ls.map Z1I).flatten).length = Z7T gs ls
  | [], _ => rfl
  | l :: ls, h => by
    rw [List.map_cons, List.flatten_cons, List.length_append, Z5I hg (fun x hx => h x (List.mem_cons_of_mem _ hx)), Z5B (h l (by simp)) hg]; rfl
theorem St.norows9 {sz : Nat} {H : Z7} {R : Z4} {w : World} (h : St H R w) : St H (Inn [] :: RowsA none sz (ZL []) :: R) w := St.inn0 (St.norows (sz := sz) h)
set_option maxHeartbeats 400000 in
theorem Z8E (h : Hse) (ag as_ : Option Addr) (cg cs : Nat) (hlg : h.gaps.length ≤ 9223372036854775807) (hls : h.sights.length ≤ 9223372036854775807) (fr to_ : List Int) (af at_ : Option Addr) (cf ct : Nat) (hlf : fr.length ≤ 1000000) (hlt : to_.length ≤ 1000000) (hfc : fr.length ≤ cf) (htc : to_.length ≤ ct) (spd : Int) (H : Z7) (R : Z4) [hG : MemRows ag 2 (Zb h.gaps) R] [hS : MemRows as_ 3 (Zj h.sights) R] [hF : MemRows af 1 (Z6 fr) R] [hT : MemRows at_ 1 (Z6 to_) R] :
    Fn Try.prog 25 [h.v (h.sg ag cg) (h.ss as_ cs), .slice af fr.length cf, .slice at_ to_.length ct, .int .i64 spd] H R (ZdW h fr to_ spd H R) := by
 refine Zf Try.func25 rfl Try.ntmps25 rfl ?_
 refine sqt 3 rfl (bx rfl rfl rfl (fun b4 => pur 2 rfl (sqt 10 rfl (spL rfl rfl (lhA (htl h (h.sg ag cg) (h.ss as_ cs)) Z0F rfl rfl rfl) rfl (pur 3 rfl ?_)))))
 refine cl rfl Zbp rfl rfl (Z8T h ag as_ cg cs hlg hls fr to_ af at_ cf ct hlf hlt hfc htc spd _ _) ?_
 rintro _ _ R1 ⟨rfl, hq⟩
 rcases hq with ⟨h9, rfl, hR1⟩ | ⟨h9, hnp, rfl, hR1⟩ | ⟨h9, ls, pl, a, c, hll, hpk, hpc, hlb, hrun, hlst, rfl, hR1⟩
 all_goals obtain rfl := hR1.symm
 all_goals clear hR1
 refine pur 5 rfl (sqt 6 rfl ?_)
 refine Sy.heap (fun w h => St.norows9 (sz := 1) h) ?_
 refine pur 1 rfl ?_
 refine cl rfl Z8q rfl rfl (Z2r [] none 0 (by decide) (by decide) _ _) ?_
 rintro _ _ R1 ⟨o, rfl, rfl, hR1⟩
 obtain rfl := hR1.symm
 clear hR1
 obtain ⟨ao, co, heo, hfz⟩ := o.freeze
 rw [heo, irl]
 refine Sy.heap (fun w h => hfz h) ?_
 clear hfz heo
 refine sp rfl (PE.lenSl ZD rfl) rfl (pur 3 rfl (Z5 ?_))
 exact rtB rfl rfl rfl rfl ⟨rfl, rfl, .inl ⟨h9, rfl⟩⟩ (fun w h9 => St.sub (h9.del b4))
 refine pur 5 rfl (sqt 6 rfl ?_)
 refine Sy.heap (fun w h => St.norows9 (sz := 1) h) ?_
 refine pur 1 rfl ?_
 refine cl rfl Z8q rfl rfl (Z2r [] none 0 (by decide) (by decide) _ _) ?_
 rintro _ _ R1 ⟨o, rfl, rfl, hR1⟩
 obtain rfl := hR1.symm
 clear hR1
 obtain ⟨ao, co, heo, hfz⟩ := o.freeze
 rw [heo, irl]
 refine Sy.heap (fun w h => hfz h) ?_
 clear hfz heo
 refine sp rfl (PE.lenSl ZD rfl) rfl (pur 3 rfl (Z5 ?_))
 exact rtB rfl rfl rfl rfl ⟨rfl, rfl, .inr (.inl ⟨h9, hnp, rfl⟩)⟩ (fun w h9 => St.sub (h9.del b4))
 refine pur 5 rfl (sqt 6 rfl ?_)
 have hgl := (ZaY h9).1.ok.gl
 have hlen : (lls pl).flatten.length = Z7T h.gaps ls := by rw [hll]; exact Z5I hgl hlb
 have hs10 := hlst.1.few
 have hpl : pl.length = ls.length := by have := congrArg List.length hll; rw [Z4U, List.length_map] at this; exact this
 refine pur 1 rfl ?_
 refine cl rfl Z8q rfl rfl (Z2r pl a c (by omega) (by omega) _ _) ?_
 rintro _ _ R1 ⟨o, rfl, rfl, hR1⟩
 obtain rfl := hR1.symm
 clear hR1
 obtain ⟨ao, co, heo, hfz⟩ := o.freeze
 rw [heo, irl, hlen]
 refine Sy.heap (fun w h => hfz h) ?_
 clear hfz heo
 refine sp rfl (PE.lenSl ZD rfl) rfl (pur 3 rfl (Z5 ?_))
 exact rtB rfl rfl rfl rfl ⟨rfl, rfl, .inr (.inr ⟨h9, Z7T h.gaps ls, by omega, hlst, rfl⟩)⟩ (fun w h9 => St.sub (h9.del b4))
theorem Zc5 : cal Try.prog 107 = true := by kernel_rfl
theorem ZbN : cal Try.prog 108 = true := by kernel_rfl
theorem ZbP : cal Try.prog 116 = true := by kernel_rfl
theorem ZaL : cal Try.prog 55 = true := by kernel_rfl
theorem ZcN : cal Try.prog 88 = true := by kernel_rfl
theorem Zcx : cal Try.prog 89 = true := by kernel_rfl
theorem ZcB : cal Try.prog 90 = true := by kernel_rfl
def Hse.ledE (h : Hse) (fr to_ : List Int) (ls : List (List Int)) : Int := bif decide (h.botE fr to_ ≠ 0) then h.botE fr to_ else bif decide (Z03 h.gaps.length ls.flatten ≠ 0) then Z03 h.gaps.length ls.flatten else bif !(ls.all fun l => Z7U h.gaps 0 fr to_ l) then 8 else 0
def Hse.ledR (h : Hse) (fr to_ : List Int) (ls : List (List Int)) : Int := bif decide (h.ledE fr to_ ls = 0) then ls.length else 0
theorem Z6r (pl : List PL) (p : List Int → Bool) : (pl.all fun x => p x.l) = (lls pl).all p := by unfold lls; rw [List.all_map]; rfl
theorem Z4Q {h : Hse} {fr to_ : List Int} {ls : List (List Int)} {e : Int} (he : h.ledE fr to_ ls = e) (h0 : e ≠ 0) : h.ledR fr to_ ls = 0 := by unfold Hse.ledR; rw [he, decide_eq_false h0]; rfl
theorem Z7C (xs : List PL) (a : Option Addr) (c g : Nat) (fst cap : List Value) (p : PL → Bool) (hg : cal Try.prog g = true) (hl : xs.length ≤ 9223372036854775807) (H : Z7) (R : Z4) [hR : MemRows a 1 (ZL xs) R] (hp : ∀ x, x ∈ xs → FnV Try.prog g (fst ++ [.slice x.a x.l.length x.c] ++ cap) H R (.bool (p x))) :
    FnV Try.prog 116 [.slice a xs.length c, .func (.func g) fst.toArray cap.toArray] H R (.int .i64 (match xs.findIdx? p with | some k => (k : Int) | none => -1)) := by
 refine Zf Try.func116 rfl Try.ntmps116 rfl ?_
 refine sqt 1 rfl (pur 1 rfl (Z0 (sqt 3 rfl (pur 1 rfl (sp rfl (PE.lenSl Z5Y rfl) rfl (pur 1 rfl (Z3 ?_)))))))
 refine Zd (ι := {k : Nat // k ≤ xs.length ∧ ∀ x ∈ xs.take k, p x = false}) (fun k => ⟨[(0, .slice a xs.length c), (1, .func (.func g) fst.toArray cap.toArray), (7, .int .i64 xs.length), (8, .int .i64 k.1)], H, R⟩) (fun k => xs.length - k.1) ⟨0, by simp⟩ ?_ (fun k => ?_)
 exact Zp idH
 obtain ⟨k, hk, hn⟩ := k
 dsimp only
 refine sqt 1 rfl (pur 1 rfl (Z0 ?_))
 refine Z1 rfl ?_ ?_ <;> intro hc0
 simp only [cS] at hc0
 obtain ⟨x, hx⟩ : ∃ x, xs[k]? = some x := ⟨_, List.getElem?_eq_getElem (by omega)⟩
 have hxm := List.mem_of_getElem? hx
 refine Zh (a := a) (sz := 1) (rows := ZL xs) (by cases xs <;> simp_all [ZL]) (fun b off he => ?_)
 subst he
 refine Z2 (Z0 (Z3 (sqt 2 rfl (pur 2 rfl (sqt 6 rfl (pur 3 rfl (sp rfl (PE.indexAddr Zbl rfl rfl (by omega) (by omega)) rfl (spL rfl rfl (lf0 Z31 (by simp [ZL, hx]; rfl) rfl) rfl ?_))))))))
 refine Z6a rfl rfl (hg) rfl rfl (hp x hxm) ?_
 refine Z1 rfl ?_ ?_ <;> intro hc1
 refine sqt 2 rfl (pur 2 rfl (Z5 ?_))
 first | (exact rtA rfl rfl rfl ⟨by rw [Z08 hx hn hc1]; rfl, rfl, rfl⟩ idH) | (exact rtA rfl rfl rfl ⟨by rw [ZU (by simpa using hn)]; rfl, rfl, rfl⟩ idH)
 refine Z2 (sqr 2 rfl (sp rfl (PE.add rfl rfl (by omega)) rfl (pur 1 rfl ?_)))
 exact Z8 ⟨k + 1, by omega, Z1d hx hn hc1⟩ idH
 simp only [cS] at hc0
 obtain rfl : k = xs.length := by omega
 refine Z9 (Za (Za (Zo (sqt 1 rfl (pur 1 rfl (Z5 ?_))))))
 first | (exact rtA rfl rfl rfl ⟨by rw [Z08 hx hn hc1]; rfl, rfl, rfl⟩ idH) | (exact rtA rfl rfl rfl ⟨by rw [ZU (by simpa using hn)]; rfl, rfl, rfl⟩ idH)
theorem Z7N (xs : List PL) (a : Option Addr) (c g : Nat) (fst cap : List Value) (p : PL → Bool) (hg : cal Try.prog g = true) (hl : xs.length ≤ 9223372036854775807) (H : Z7) (R : Z4) [hR : MemRows a 1 (ZL xs) R] (hp : ∀ x, x ∈ xs → FnV Try.prog g (fst ++ [.slice x.a x.l.length x.c] ++ cap) H R (.bool (p x))) :
    FnV Try.prog 107 [.slice a xs.length c, .func (.func g) fst.toArray cap.toArray] H R (.bool (xs.any p)) := by
 refine Zf Try.func107 rfl Try.ntmps107 rfl ?_
 refine sqt 1 rfl (pur 1 rfl (sqt 5 rfl (pur 2 rfl ?_)))
 refine clV rfl ZbP rfl rfl (Z7C xs a c g fst cap p hg hl _ _ hp) ?_
 refine pur 2 rfl (Z5 ?_)
 exact rtA rfl rfl rfl ⟨by simp only [Z0b]; exact Z2L _ _, rfl, rfl⟩ drp
theorem Z6W (x : PL) (g bf : Nat) (fst cap : List Value) (p : Bool) (hg : cal Try.prog g = true) (H : Z7) (R : Z4) [hM : Mem1 bf (cel 67 [.func (.func g) fst.toArray cap.toArray]) H] (hp : FnV Try.prog g (fst ++ [.slice x.a x.l.length x.c] ++ cap) H R (.bool p)) :
    FnV Try.prog 108 [.slice x.a x.l.length x.c, .pointer (some ⟨bf, 0, none⟩)] H R (.bool !p) := by
 refine Zf Try.func108 rfl Try.ntmps108 rfl ?_
 refine sqt 1 rfl (pur 1 rfl (sqt 5 rfl (spL rfl rfl (lh ZdB rfl rfl) rfl (pur 1 rfl ?_))))
 refine Z6a rfl rfl (hg) rfl rfl (hp) ?_
 refine pur 2 rfl (Z5 ?_)
 exact rtA rfl rfl rfl ⟨rfl, rfl, rfl⟩ drp
theorem Z4K (xs : List PL) (a : Option Addr) (c g : Nat) (fst cap : List Value) (p : PL → Bool) (hg : cal Try.prog g = true) (hl : xs.length ≤ 9223372036854775807) (H : Z7) (R : Z4) [hR : MemRows a 1 (ZL xs) R] (hp : ∀ b x, x ∈ xs → FnV Try.prog g (fst ++ [.slice x.a x.l.length x.c] ++ cap) ((b, cel 67 [.func (.func g) fst.toArray cap.toArray]) :: H) R (.bool (p x))) :
    FnV Try.prog 88 [.slice a xs.length c, .func (.func g) fst.toArray cap.toArray] H R (.bool (xs.all p)) := by
 refine Zf Try.func88 rfl Try.ntmps88 rfl ?_
 refine sqt 2 rfl (bx rfl rfl rfl (fun b3 => pur 1 rfl (sqt 5 rfl (pur 1 rfl (sp rfl (PE.makeFunc rfl rfl) rfl ?_)))))
 refine clV rfl Zc5 rfl rfl (Z7N xs a c 108 [] [_] (fun x => !p x) ZbN hl _ _ (hp := fun x hx => Z6W x g _ fst cap (p x) hg _ _ (hp := hp _ x hx))) ?_
 refine pur 2 rfl (Z5 ?_)
 exact rtA rfl rfl rfl ⟨by simp only [Z0b]; rw [Z0W], rfl, rfl⟩ drp
theorem Z89 (h : Hse) (ag as_ : Option Addr) (cg cs : Nat) (hok : h.ok) (fr to_ : List Int) (af at_ : Option Addr) (cf ct b4 b5 b6 : Nat) (hfr : ∀ x ∈ fr, 0 ≤ x ∧ x < 7) (hfl : fr.length ≤ 1000) (hnt : to_.length ≤ 1000000) (x : PL) (pl : List PL) (hxm : x ∈ pl) (hp : ∀ k ∈ x.l, 0 ≤ k) (hpl : x.l.length ≤ 1000000) (H : Z7) (R : Z4) [hG : MemRows ag 2 (Zb h.gaps) R] [hS : MemRows as_ 3 (Zj h.sights) R] [hF : MemRows af 1 (Z6 fr) R] [hT : MemRows at_ 1 (Z6 to_) R] [m4 : Mem1 b4 (cel 26 (htl h (h.sg ag cg) (h.ss as_ cs))) H] [m5 : Mem1 b5 (cel 27 [.slice af fr.length cf]) H] [m6 : Mem1 b6 (cel 27 [.slice at_ to_.length ct]) H] [hI : MemF (Inn pl) R] :
    FnV Try.prog 89 [.slice x.a x.l.length x.c, .pointer (some ⟨b4, 0, none⟩), .pointer (some ⟨b5, 0, none⟩), .pointer (some ⟨b6, 0, none⟩)] H R (.bool (Z7U h.gaps 0 fr to_ x.l)) := by
 refine Zf Try.func89 rfl Try.ntmps89 rfl ?_
 refine sqt 1 rfl ?_
 refine Sy.heap (fun w h => St.inn (x := x) h hxm) ?_
 refine pur 1 rfl (Z0 ?_)
 refine Ze [0, 1, 0, 0, 0, 31, 63] (.ld 0 (.ld 2 (.ld 3 (.tk 4 (.big 1 (.big 5 (.tk 6 .done))))))) Zy (by kernel_rfl) ?_
 refine ld rfl rfl (lhA (htl h (h.sg ag cg) (h.ss as_ cs)) Z0F rfl rfl rfl) rfl (ld rfl rfl (lh Z31 rfl rfl) rfl (ld rfl rfl (lh Z31 rfl rfl) rfl (Zq 1 rfl ?_)))
 refine cl rfl Z67 rfl rfl (Z62 h ag as_ cg cs _ _) ?_
 rintro _ _ _ ⟨bd, rfl, rfl, rfl⟩
 refine bg (fun w hs => ⟨(lh Z31 rfl rfl) w hs, (lh Z31 rfl rfl) w hs, trivial, trivial⟩) ?_
 refine clV rfl ZcB rfl rfl (Zaa (dkA h ag as_ cg cs bd) (Z0E h ag as_ cg cs hok bd) fr to_ x.l af at_ x.a cf ct x.c hfr hfl hnt hp hpl _ _) ?_
 refine bgT (Zq 1 rfl (Z5 ?_))
 exact rtA rfl rfl rfl ⟨rfl, rfl, rfl⟩ (fun w h9 => h9.ftail.ftail)
set_option maxHeartbeats 400000 in
theorem Z9Z (h : Hse) (ag as_ : Option Addr) (cg cs : Nat) (hlg : h.gaps.length ≤ 9223372036854775807) (hls : h.sights.length ≤ 9223372036854775807) (fr to_ : List Int) (af at_ : Option Addr) (cf ct : Nat) (hlf : fr.length ≤ 1000000) (hlt : to_.length ≤ 1000000) (hfc : fr.length ≤ cf) (htc : to_.length ≤ ct) (pl : List PL) (ap : Option Addr) (cp : Nat) (hpl : pl.length ≤ 1000000) (htot : (lls pl).flatten.length ≤ 1000000) (H : Z7) (R : Z4) [hG : MemRows ag 2 (Zb h.gaps) R] [hS : MemRows as_ 3 (Zj h.sights) R] [hF : MemRows af 1 (Z6 fr) R] [hT : MemRows at_ 1 (Z6 to_) R] [hP : MemRows ap 1 (ZL pl) R] [hI : MemF (Inn pl) R] :
    FnV Try.prog 48 [h.v (h.sg ag cg) (h.ss as_ cs), .slice af fr.length cf, .slice at_ to_.length ct, .slice ap pl.length cp] H R (.tuple #[.int .i64 (h.ledR fr to_ (lls pl)), .int .i64 (h.ledE fr to_ (lls pl))]) := by
 refine Zf Try.func48 rfl Try.ntmps48 rfl ?_
 refine sqt 5 rfl (bx rfl rfl rfl (fun b4 => bx rfl rfl rfl (fun b5 => bx rfl rfl rfl (fun b6 => pur 2 rfl (Z0 (sqt 5 rfl (spL rfl rfl (lhA (htl h (h.sg ag cg) (h.ss as_ cs)) Z0F rfl rfl rfl) rfl (spL rfl rfl (lh Z31 rfl rfl) rfl (spL rfl rfl (lh Z31 rfl rfl) rfl ?_)))))))))
 refine clV rfl Z8u rfl rfl (Z5o h ag as_ cg cs hlg hls fr to_ af at_ cf ct (by omega) (by omega) hfc htc _ _) ?_
 refine pur 1 rfl (sqt 2 rfl (pur 2 rfl ?_))
 refine Z1 rfl ?_ ?_ <;> intro hc0
 have hbe : h.botE fr to_ ≠ 0 := of_decide_eq_true hc0
 have e : h.ledE fr to_ (lls pl) = h.botE fr to_ := by unfold Hse.ledE; rw [dT hbe]; rfl
 refine sqt 3 rfl (pur 3 rfl (Z5 ?_))
 exact rtB rfl rfl rfl rfl ⟨by rw [Z4Q e (by assumption), e] <;> rfl, rfl, rfl⟩ drp
 have hbe : h.botE fr to_ = 0 := Classical.byContradiction fun e => by rw [decide_eq_true e] at hc0; cases hc0
 have hb := Z3i hbe
 obtain ⟨q1, q2, q3, q4, q5, q6⟩ := Z16 hb
 have hok := hb.ok
 refine Z2 (Z0 (Z0 ?_))
 refine Ze [0, 1, 0, 4, 15, 31] (.tk 0 (.ld 2 (.tk 3 (.big 1 (.big 4 (.tk 5 .done)))))) Zy (by kernel_rfl) ?_
 refine Zq 1 rfl (ld rfl rfl (lhA (htl h (h.sg ag cg) (h.ss as_ cs)) Z0F rfl rfl rfl) rfl (tk rfl (PE.makeFunc rfl rfl) rfl ?_))
 refine cl rfl Z8q rfl rfl (Z2r pl ap cp hpl htot _ _) ?_
 rintro _ _ R1 ⟨o, rfl, rfl, hR1⟩
 obtain rfl := hR1.symm
 clear hR1
 obtain ⟨ac, cc, heo, hcc, hfz⟩ := o.freezeC
 rw [irl] at hcc
 rw [heo, irl]
 refine Sy.heap (fun w h => hfz h) ?_
 clear hfz heo
 refine bg (fun w hs => ⟨(lhA (htl h (h.sg ag cg) (h.ss as_ cs)) Z0F rfl rfl rfl) w hs, trivial⟩) ?_
 refine clV rfl Z9L rfl rfl (Z3p (lls pl).flatten ac cc 55 [h.v (h.sg ag cg) (h.ss as_ cs)] [] (fun k => inB k 0 ((h.gaps.length : Int) - 1)) ZaL (by omega) hcc _ _ (fun _ z _ => Zbt h (by have := hok.gl; omega) ag cg (h.ss as_ cs) z _ _)) ?_
 refine bgT (Zq 1 rfl (sqt 2 rfl (pur 2 rfl ?_)))
 refine Z1 rfl ?_ ?_ <;> intro hc1
 have hle : Z03 h.gaps.length (lls pl).flatten ≠ 0 := of_decide_eq_true hc1
 have e : h.ledE fr to_ (lls pl) = Z03 h.gaps.length (lls pl).flatten := by unfold Hse.ledE; rw [hbe, dT hle]; rfl
 refine sqt 3 rfl (pur 3 rfl (Z5 ?_))
 exact rtB rfl rfl rfl rfl ⟨by rw [Z4Q e (by assumption), e] <;> rfl, rfl, rfl⟩ (fun w h9 => St.sub (((h9.del b6).del b5).del b4))
 have hle : Z03 h.gaps.length (lls pl).flatten = 0 := Classical.byContradiction fun e => by rw [show decide (Z8U (fun k => inB k 0 ((h.gaps.length : Int) - 1)) (lls pl).flatten ≠ 0) = true from decide_eq_true e] at hc1; cases hc1
 have hlx := (Z1n hle).1
 have hin : ∀ x ∈ pl, (∀ k ∈ x.l, 0 ≤ k) ∧ x.l.length ≤ 1000000 := fun x hx => by
   have hm : x.l ∈ lls pl := List.mem_map.2 ⟨x, hx, rfl⟩
   refine ⟨fun k hk => (hlx k (List.mem_flatten.2 ⟨_, hm, hk⟩)).1, ?_⟩
   have := List.Sublist.length_le (List.sublist_flatten_of_mem hm)
   omega
 refine Z2 (Z0 (sqt 4 rfl (pur 1 rfl (sp rfl (PE.makeFunc rfl rfl) rfl ?_))))
 refine clV rfl ZcN rfl rfl (Z4K pl ap cp 89 [] [_, _, _] (fun x => Z7U h.gaps 0 fr to_ x.l) Zcx (by omega) _ _ (fun _ x hx => Z89 h ag as_ cg cs hok fr to_ af at_ cf ct b4 b5 b6 q1 (by omega) hlt x pl hx (hin x hx).1 (hin x hx).2 _ _)) ?_
 refine pur 1 rfl ?_
 refine Z1 rfl ?_ ?_ <;> intro hc2
 have hc9 : (!(pl.all fun x => Z7U h.gaps 0 fr to_ x.l)) = true := hc2
 rw [Z6r pl (fun l => Z7U h.gaps 0 fr to_ l)] at hc9
 have h8 : (8 : Int) ≠ 0 := by decide
 have e : h.ledE fr to_ (lls pl) = 8 := by unfold Hse.ledE; rw [hbe, hle, hc9]; rfl
 refine sqt 2 rfl (pur 2 rfl (Z5 ?_))
 exact rtB rfl rfl rfl rfl ⟨by rw [Z4Q e (by assumption), e] <;> rfl, rfl, rfl⟩ (fun w h9 => St.sub (((h9.del b6).del b5).del b4))
 have hc9 : (!(pl.all fun x => Z7U h.gaps 0 fr to_ x.l)) = false := hc2
 rw [Z6r pl (fun l => Z7U h.gaps 0 fr to_ l)] at hc9
 have e : h.ledE fr to_ (lls pl) = 0 := by unfold Hse.ledE; rw [hbe, hle, hc9]; rfl
 have er : h.ledR fr to_ (lls pl) = pl.length := by unfold Hse.ledR; rw [e, Z4U]; rfl
 refine Z2 (sqt 4 rfl (pur 1 rfl (sp rfl (PE.lenSl Z5Y rfl) rfl (pur 2 rfl (Z5 ?_)))))
 exact rtB rfl rfl rfl rfl ⟨by rw [er, e] <;> rfl, rfl, rfl⟩ (fun w h9 => St.sub (((h9.del b6).del b5).del b4))
theorem Z85 : Z0J Try.prog 26 = some 3 := by kernel_rfl
theorem Zbq : Z10 Try.prog 26 = some [(0, 1), (1, 1), (2, 1)] := by kernel_rfl
theorem ZcV : Z10 Try.prog 38 = some [(0, 1), (1, 1), (2, 1)] := by kernel_rfl
theorem Z7V : slE Try.prog 23 = some (46, 2) := by kernel_rfl
theorem Z6b : ZP Try.prog 26 = some ([.int .i64 0, .slice none 0 0, .slice none 0 0]) := by kernel_rfl
def Z69 : List Gp := [⟨0, 1⟩, ⟨0, 2⟩, ⟨1, 3⟩, ⟨2, 3⟩, ⟨3, 4⟩, ⟨4, 5⟩, ⟨1, 2⟩]
def sixS : List Sgt := [⟨2, 3, true⟩, ⟨1, 1, false⟩, ⟨2, 4, false⟩]
abbrev six (k : Nat) : Hse := ⟨6, Z69, sixS.take k⟩
theorem Z60 (l : List Sgt) (k : Nat) : (Zj l).take k = Zj (l.take k) := (List.map_take).symm
theorem Z9R {k : Nat} (hk : k ≤ 3) : (six k).sights.length = k := by
  show (sixS.take k).length = k
  rw [List.length_take]; show min k 3 = k; omega
set_option maxHeartbeats 400000 in
theorem Z4b (k : Nat) (hk : k ≤ 3) (H : Z7) (R : Z4) :
    Fn Try.prog 47 [.int .i64 (k : Int)] H R (fun v H' R' => ∃ (ag as_ : Option Addr) (cg cs : Nat), v = (six k).v ((six k).sg ag cg) ((six k).ss as_ cs) ∧ k ≤ cs ∧ H' = H ∧ R' = RowsA ag 2 (Zb (six k).gaps) :: RowsA as_ 3 (Zj (six k).sights) :: R) := by
 refine Zf Try.func47 rfl Try.ntmps47 rfl ?_
 refine sqt 1 rfl (alc rfl Z6b rfl (fun b2 => sqt 5 rfl (sp rfl (PE.build (out := [_, _, _]) ZcV ZbW rfl rfl) rfl (sp rfl (PE.build (out := [_, _, _]) ZcV ZbW rfl rfl) rfl (sp rfl (PE.build (out := [_, _, _]) ZcV ZbW rfl rfl) rfl ?_)))))
 refine bsl (out := [_, _, _, _, _, _, _, _, _]) rfl Zck ZbW rfl rfl rfl rfl rfl rfl (fun b7 => ?_)
 refine pur 1 rfl (sqt 17 rfl (sp rfl (PE.build (out := [_, _]) Z7S Z2B rfl rfl) rfl (sp rfl (PE.build (out := [_, _]) Z7S Z2B rfl rfl) rfl (sp rfl (PE.build (out := [_, _]) Z7S Z2B rfl rfl) rfl (sp rfl (PE.build (out := [_, _]) Z7S Z2B rfl rfl) rfl (sp rfl (PE.build (out := [_, _]) Z7S Z2B rfl rfl) rfl (sp rfl (PE.build (out := [_, _]) Z7S Z2B rfl rfl) rfl (sp rfl (PE.build (out := [_, _]) Z7S Z2B rfl rfl) rfl ?_))))))))
 refine bsl (out := [_, _, _, _, _, _, _, _, _, _, _, _, _, _]) rfl Z7V Z2B rfl rfl rfl rfl rfl rfl (fun b15 => ?_)
 refine pur 3 rfl (sp rfl (PE.lenSl Z6o rfl) rfl (sp rfl (PE.min rfl rfl) rfl (sp rfl (PE.max rfl rfl) rfl ?_)))
 rw [show max (0 : Int) (min (k : Int) ((3 : Nat) : Int)) = (k : Int) by omega]
 refine sp rfl (PE.slHi (h := k) Zck rfl rfl (by omega)) rfl (sp rfl (PE.build (out := [_, _, _]) Zbq Z6b rfl rfl) rfl ?_)
 refine ZQ (l' := [.int .i64 6, .slice (some ⟨b15, 0, none⟩) 7 7, .slice (some ⟨b7, 0, none⟩) k 3]) rfl rfl rfl Z85 rfl rfl rfl rfl (nl rfl) ?_
 refine Z5 ?_
 refine Sy.heap (fun w h9 => St.rows (sz := 3) (rows := Zj sixS) (rest := []) (h9.pull b7) (by simp [Zj, sixS, Z3R])) ?_
 refine Sy.heap (fun w h9 => St.rows (sz := 2) (rows := Zb Z69) (rest := []) (h9.pull b15) (by simp [Zb, Z69, Z1e])) ?_
 refine Sy.heap (fun w h9 => (show St _ (RowsA (some ⟨b7, 0, none⟩) 3 (Zj (sixS.take k)) :: _) w from Z60 sixS k ▸ St.rowsTake (a := some ⟨b7, 0, none⟩) (sz := 3) (rows := Zj sixS) h9 k)) ?_
 exact Zk (vs := [_]) rfl (.cons (RV.cell rfl (lhA [_, _, _] Z0F rfl rfl rfl)) .nil) rfl ⟨some ⟨b15, 0, none⟩, some ⟨b7, 0, none⟩, 7, 3, by unfold Hse.v Hse.sg Hse.ss htl; rw [Z9R hk]; rfl, hk, rfl, rfl⟩ (fun w h9 => St.sub (h9.del b2))
theorem ZcF : cal Try.prog 91 = true := by kernel_rfl
theorem Z3q : Wth Z69 7 := by
  intro g hg
  simp only [Z69, List.mem_cons, List.not_mem_nil, or_false] at hg
  rcases hg with rfl | rfl | rfl | rfl | rfl | rfl | rfl <;> decide
theorem six_w : ((six 0).weeksR [0]).1 = [0, 1, 1, 2, 3, 4] ∧ ((six 0).weeksR [0]).2 = 0 := ⟨by kernel_rfl, by kernel_rfl⟩
theorem six_o : ((six 2).orgR).1 = [4] ∧ ((six 2).orgR).2 = 0 := ⟨by kernel_rfl, by kernel_rfl⟩
theorem six_s : ((six 2).surR 1).1 = [4, 5] ∧ ((six 2).surR 1).2 = 0 := ⟨by kernel_rfl, by kernel_rfl⟩
theorem six_c : ((six 3).claR).1 = [0, 1, 2] ∧ ((six 3).claR).2 = 0 := ⟨by kernel_rfl, by kernel_rfl⟩
theorem six_l : (six 0).ledR [0] [3] [[0, 2], [1, 3]] = 2 ∧ (six 0).ledE [0] [3] [[0, 2], [1, 3]] = 0 := ⟨by kernel_rfl, by kernel_rfl⟩
theorem six_b : (six 0).botE [0] [5] = 0 ∧ (six 0).botE [0] [3] = 0 ∧ (six 0).rcE [0] [1] 1 = 0 := ⟨by kernel_rfl, by kernel_rfl, by kernel_rfl⟩
theorem ZaR : plD Z69 2 1 8 1 0 3 = true := by kernel_rfl
theorem Zc0 : plD Z69 2 1 8 1 0 2 = false := by kernel_rfl
theorem ZbB : plD Z69 8 0 8 1 0 10 = false := by kernel_rfl
theorem ZbG : plD Z69 8 1 8 1 0 10 = true := by kernel_rfl
theorem ZbQ : plD Z69 32 10 8 1 0 1 = true := by kernel_rfl
theorem Zbf : plD Z69 32 10 8 1 0 0 = false := by kernel_rfl
theorem six_few : Lst (Pl (six 0).gaps (msk [1]) (1 : Int).toNat (msk [0]) 0) 3 := Z7s Z3q (by decide) ZaR Zc0
theorem ZaD : Lst (Pl (six 0).gaps (msk [5]) 10 (msk [0]) 0) 1 := Z7s Z3q (by decide) ZbQ Zbf
theorem Z9D {s : Nat} (h1 : ∃ n, Pl (six 0).gaps (msk [3]) s (msk [0]) 0 n) (h2 : ∀ s', s' < s → ∀ n, ¬ Pl (six 0).gaps (msk [3]) s' (msk [0]) 0 n) : s = 1 := by
  rcases Nat.lt_trichotomy s 1 with h3 | h3 | h3
  · obtain rfl : s = 0 := by omega
    obtain ⟨n, hn⟩ := h1
    have hf := hn.few
    have h4 := Z4N (n := 10) (f := 8) Z3q (by decide) (by omega) hn (by have : (six 0).gaps.length = 7 := rfl; omega)
    have h5 : plD Z69 8 0 8 1 0 10 = true := h4
    rw [ZbB] at h5
    cases h5
  · exact h3
  · obtain ⟨k, _, hk⟩ := Z3J ZbG
    exact absurd hk (h2 1 h3 k)
theorem Z64 {f : Nat → Int} {V : List (Nat × Int)} (hf : Flw f (msk [0]) (msk [5]) (six 0).gaps) (hs : Shn (six 0).gaps (fun _ => true) f (msk [0]) (msk [5]) V) : (Z1q (Z1r V) (six 0).gaps).length = 1 := by
  have hc := (hs.cut (Z6C (Z3i six_b.1)) hf).1
  have hl : (Z1q (Z1r V) (six 0).gaps).length ≤ 7 := by
    unfold Z1q
    rw [List.length_map]
    exact Nat.le_trans (List.length_filter_le _ _) (by decide)
  exact (Cut.plan (sp := 10) Z3q (by decide) hc (by omega)).unique ZaD
theorem Z87 (xs ys : List Int) (a a2 : Option Addr) (c c2 : Nat) (hl : xs.length ≤ 9223372036854775807) (hl2 : ys.length ≤ 9223372036854775807) (H : Z7) (R : Z4) [hR : MemRows a 1 (Z6 xs) R] [hR2 : MemRows a2 1 (Z6 ys) R] :
    FnV Try.prog 91 [.slice a xs.length c, .slice a2 ys.length c2] H R (.bool (decide (xs = ys))) := by
 refine Zf Try.func91 rfl Try.ntmps91 rfl ?_
 refine sqt 1 rfl (pur 1 rfl (Z0 (sqt 5 rfl (pur 1 rfl (sp rfl (PE.lenSl ZD rfl) rfl (pur 1 rfl (sp rfl (PE.lenSl ZD rfl) rfl (pur 1 rfl ?_))))))))
 refine Z1 rfl ?_ ?_ <;> intro hc0
 have hne : xs ≠ ys := fun e => by subst e; simp at hc0
 refine sqt 1 rfl (pur 1 rfl (Z5 ?_))
 exact rtA rfl rfl rfl ⟨by first | (simp only [Z0b]; rw [dT heq]; done) | (simp only [Z0b]; rw [dF hne]), rfl, rfl⟩ idH
 have hle : xs.length = ys.length := by simp only [cS] at hc0; omega
 refine Z2 (Z0 (sqt 3 rfl (pur 1 rfl (sp rfl (PE.lenSl ZD rfl) rfl (pur 1 rfl (Z3 ?_))))))
 refine Zd (ι := {k : Nat // k ≤ xs.length ∧ xs.take k = ys.take k}) (fun k => ⟨[(0, .slice a xs.length c), (1, .slice a2 ys.length c2), (12, .int .i64 xs.length), (13, .int .i64 k.1)], H, R⟩) (fun k => xs.length - k.1) ⟨0, by simp⟩ ?_ (fun k => ?_)
 exact Zp idH
 obtain ⟨k, hk, hn⟩ := k
 dsimp only
 refine sqt 1 rfl (pur 1 rfl (Z0 ?_))
 refine Z1 rfl ?_ ?_ <;> intro hc1
 simp only [cS] at hc1
 obtain ⟨x, hx⟩ : ∃ x, xs[k]? = some x := ⟨_, List.getElem?_eq_getElem (by omega)⟩
 obtain ⟨z, hz⟩ : ∃ z, ys[k]? = some z := ⟨_, List.getElem?_eq_getElem (by omega)⟩
 refine Zh (a := a) (sz := 1) (rows := Z6 xs) (by intro h0; simp [Z6] at h0; simp [h0] at hx) (fun b off he => ?_)
 subst he
 refine Zh (a := a2) (sz := 1) (rows := Z6 ys) (by intro h0; simp [Z6] at h0; simp [h0] at hz) (fun b2 off2 he => ?_)
 subst he
 refine Z2 (Z0 (Z3 (sqt 2 rfl (pur 2 rfl (Z0 ?_)))))
 refine Ze [0, 0, 3, 7, 0, 0, 48, 112, 255] (tks 0 3 (.ld 3 (tks 4 3 (.ld 7 (.tk 8 .done))))) Zy (by kernel_rfl) ?_
 refine Zq 2 rfl (tk rfl (PE.indexAddr Z0o rfl rfl (by omega) (by omega)) rfl (ld rfl rfl (lf0 sc3 (by simp [Z6, hx]; rfl) rfl) rfl (Zq 2 rfl (tk rfl (PE.indexAddr Z0o rfl rfl (by omega) (by omega)) rfl (ld rfl rfl (lf0 sc3 (by simp [Z6, hz]; rfl) rfl) rfl (Zq 1 rfl ?_))))))
 refine Z1 rfl ?_ ?_ <;> intro hc2
 have hne : xs ≠ ys := fun e => by subst e; rw [hx] at hz; cases hz; simp at hc2
 refine sqt 1 rfl (pur 1 rfl (Z5 ?_))
 exact rtA rfl rfl rfl ⟨by first | (simp only [Z0b]; rw [dT heq]; done) | (simp only [Z0b]; rw [dF hne]), rfl, rfl⟩ idH
 have hxz : x = z := by simpa using hc2
 refine Z2 (sqr 2 rfl (sp rfl (PE.add rfl rfl (by omega)) rfl (pur 1 rfl ?_)))
 exact Z8 ⟨k + 1, by omega, by rw [List.take_add_one, List.take_add_one, hn, hx, hz, hxz]⟩ idH
 simp only [cS] at hc1
 obtain rfl : k = xs.length := by omega
 have heq : xs = ys := by
   rw [List.take_length] at hn
   exact hn.trans (by rw [hle]; exact List.take_length)
 refine Z9 (Za (Za (Zo (sqt 1 rfl (pur 1 rfl (Z5 ?_))))))
 exact rtA rfl rfl rfl ⟨by first | (simp only [Z0b]; rw [dT heq]; done) | (simp only [Z0b]; rw [dF hne]), rfl, rfl⟩ idH
theorem Z2l (xs ys : List Int) (a a2 : Option Addr) (c c2 : Nat) (hl : xs.length ≤ 9223372036854775807) (hl2 : ys.length ≤ 9223372036854775807) (H : Z7) (R : Z4) [hR : MemRows a 1 (Z6 xs) R] [hR2 : MemRows a2 1 (Z6 ys) R] :
    FnV Try.prog 49 [.slice a xs.length c, .slice a2 ys.length c2] H R (.bool (decide (xs = ys))) := by
 refine Zf Try.func49 rfl Try.ntmps49 rfl ?_
 refine sqt 1 rfl (pur 1 rfl (sqt 4 rfl (pur 2 rfl ?_)))
 refine clV rfl ZcF rfl rfl (Z87 xs ys a a2 c c2 hl hl2 _ _) ?_
 refine pur 1 rfl (Z5 ?_)
 exact rtA rfl rfl rfl ⟨rfl, rfl, rfl⟩ drp
theorem ZcL : cal Try.prog 12 = true := by kernel_rfl
theorem Zcy : cal Try.prog 14 = true := by kernel_rfl
theorem Zds : cal Try.prog 15 = true := by kernel_rfl
theorem Z6n : cal Try.prog 18 = true := by kernel_rfl
theorem Zdc : cal Try.prog 22 = true := by kernel_rfl
theorem Zct : cal Try.prog 23 = true := by kernel_rfl
theorem Zd2 : cal Try.prog 25 = true := by kernel_rfl
theorem Z4f : cal Try.prog 47 = true := by kernel_rfl
theorem Zd3 : cal Try.prog 48 = true := by kernel_rfl
theorem Z8g : cal Try.prog 49 = true := by kernel_rfl
set_option maxHeartbeats 1000000 in
theorem Z4A (H : Z7) (R : Z4) :
    FnV Try.prog 16 [] H R (.bool true) := by
 refine Zf Try.func16 rfl Try.ntmps16 rfl ?_
 refine sqt 1 rfl (pur 1 rfl (sqt 8 rfl ?_))
 refine cl rfl Z4f rfl rfl (Z4b 0 (by decide) _ _) ?_
 rintro _ _ R1 ⟨ag18, as18, cg18, cs18, rfl, _, rfl, hR1⟩
 obtain rfl := hR1.symm
 clear hR1
 refine bsl (out := [_]) rfl Z0Z zl3 rfl rfl rfl rfl rfl rfl (fun b19 => ?_)
 refine Sy.heap (fun w h9 => St.rows (sz := 1) (rows := Z6 [0]) (rest := []) (h9.pull b19) (by simp)) ?_
 refine cl rfl Z6n rfl rfl (Z7i (six 0) ag18 as18 cg18 cs18 (by decide) (by decide) [0] (some ⟨b19, 0, none⟩) 1 (by decide) (by decide) _ _) ?_
 rintro _ _ R1 ⟨a1, c1, _, rfl, rfl, hR1⟩
 obtain rfl := hR1.symm
 clear hR1
 rw [six_w.1, six_w.2]
 refine pur 5 rfl (sqt 7 rfl ?_)
 refine cl rfl Z4f rfl rfl (Z4b 2 (by decide) _ _) ?_
 rintro _ _ R1 ⟨ag24, as24, cg24, cs24, rfl, _, rfl, hR1⟩
 obtain rfl := hR1.symm
 clear hR1
 refine cl rfl Zcy rfl rfl (Z6K (six 2) ag24 as24 cg24 cs24 (by decide) (by decide) _ _) ?_
 rintro _ _ R1 ⟨a2, c2, _, rfl, rfl, hR1⟩
 obtain rfl := hR1.symm
 clear hR1
 rw [six_o.1, six_o.2]
 refine pur 5 rfl (sqt 7 rfl ?_)
 refine cl rfl Z4f rfl rfl (Z4b 2 (by decide) _ _) ?_
 rintro _ _ R1 ⟨ag29, as29, cg29, cs29, rfl, _, rfl, hR1⟩
 obtain rfl := hR1.symm
 clear hR1
 refine cl rfl Zds rfl rfl (Z8a (six 2) ag29 as29 cg29 cs29 (by decide) (by decide) 1 _ _) ?_
 rintro _ _ R1 ⟨a3, c3, _, rfl, rfl, hR1⟩
 obtain rfl := hR1.symm
 clear hR1
 rw [six_s.1, six_s.2]
 refine pur 5 rfl (sqt 7 rfl ?_)
 refine cl rfl Z4f rfl rfl (Z4b 3 (by decide) _ _) ?_
 rintro _ _ R1 ⟨ag34, as34, cg34, cs34, rfl, _, rfl, hR1⟩
 obtain rfl := hR1.symm
 clear hR1
 refine cl rfl ZcL rfl rfl (Z9i (six 3) ag34 as34 cg34 cs34 (by decide) (by decide) _ _) ?_
 rintro _ _ R1 ⟨a4, c4, _, rfl, rfl, hR1⟩
 obtain rfl := hR1.symm
 clear hR1
 rw [six_c.1, six_c.2]
 refine pur 5 rfl (sqt 9 rfl ?_)
 refine cl rfl Z4f rfl rfl (Z4b 0 (by decide) _ _) ?_
 rintro _ _ R1 ⟨ag39, as39, cg39, cs39, rfl, _, rfl, hR1⟩
 obtain rfl := hR1.symm
 clear hR1
 refine bsl (out := [_]) rfl Z0Z zl3 rfl rfl rfl rfl rfl rfl (fun b40 => ?_)
 refine bsl (out := [_]) rfl Z0Z zl3 rfl rfl rfl rfl rfl rfl (fun b41 => ?_)
 refine Sy.heap (fun w h9 => St.rows (sz := 1) (rows := Z6 [0]) (rest := []) (h9.pull b40) (by simp)) ?_
 refine Sy.heap (fun w h9 => St.rows (sz := 1) (rows := Z6 [1]) (rest := []) (h9.pull b41) (by simp)) ?_
 refine cl rfl Zd2 rfl rfl (Z8E (six 0) ag39 as39 cg39 cs39 (by decide) (by decide) [0] [1] (some ⟨b40, 0, none⟩) (some ⟨b41, 0, none⟩) 1 1 (by decide) (by decide) (by decide) (by decide) 1 _ _) ?_
 rintro _ _ R1 ⟨rfl, hR1, hq⟩
 obtain rfl := hR1.symm
 clear hR1
 rcases hq with ⟨h9, _⟩ | ⟨_, hn, _⟩ | ⟨_, n, _, hn, rfl⟩
 · exact absurd six_b.2.2 h9
 · exact absurd six_few.1 (hn 3)
 obtain rfl := hn.unique six_few
 refine pur 5 rfl (sqt 12 rfl ?_)
 refine cl rfl Z4f rfl rfl (Z4b 0 (by decide) _ _) ?_
 rintro _ _ R1 ⟨Z4B, as46, cg46, cs46, rfl, _, rfl, hR1⟩
 obtain rfl := hR1.symm
 clear hR1
 refine bsl (out := [_]) rfl Z0Z zl3 rfl rfl rfl rfl rfl rfl (fun b47 => ?_)
 refine bsl (out := [_]) rfl Z0Z zl3 rfl rfl rfl rfl rfl rfl (fun b48 => ?_)
 refine bsl (out := [_, _]) rfl Z0Z zl3 rfl rfl rfl rfl rfl rfl (fun b49 => ?_)
 refine bsl (out := [_, _]) rfl Z0Z zl3 rfl rfl rfl rfl rfl rfl (fun b50 => ?_)
 refine bsl (out := [_, _]) rfl Zci Z9o rfl rfl rfl rfl rfl rfl (fun b51 => ?_)
 refine Sy.heap (fun w h9 => St.rows (sz := 1) (rows := Z6 [0]) (rest := []) (h9.pull b47) (by simp)) ?_
 refine Sy.heap (fun w h9 => St.rows (sz := 1) (rows := Z6 [3]) (rest := []) (h9.pull b48) (by simp)) ?_
 refine Sy.heap (fun w h9 => St.rows (sz := 1) (rows := Z6 [0, 2]) (rest := []) (h9.pull b49) (by simp)) ?_
 refine Sy.heap (fun w h9 => St.rows (sz := 1) (rows := Z6 [1, 3]) (rest := []) (h9.pull b50) (by simp)) ?_
 refine Sy.heap (fun w h9 => St.rows (sz := 1) (rows := ZL [⟨some ⟨b49, 0, none⟩, 2, [0, 2]⟩, ⟨some ⟨b50, 0, none⟩, 2, [1, 3]⟩]) (rest := []) (h9.pull b51) (by simp [ZL, Z5P])) ?_
 refine Sy.heap (fun w h9 => St.inn0 h9) ?_
 refine Sy.heap (fun w h9 => (show St _ (Inn [⟨some ⟨b49, 0, none⟩, 2, [0, 2]⟩] :: _) w from St.innSnoc (l := []) ⟨some ⟨b49, 0, none⟩, 2, [0, 2]⟩ h9)) ?_
 refine Sy.heap (fun w h9 => (show St _ (Inn [⟨some ⟨b49, 0, none⟩, 2, [0, 2]⟩, ⟨some ⟨b50, 0, none⟩, 2, [1, 3]⟩] :: _) w from St.innSnoc (l := [⟨some ⟨b49, 0, none⟩, 2, [0, 2]⟩]) ⟨some ⟨b50, 0, none⟩, 2, [1, 3]⟩ h9)) ?_
 refine cl rfl Zd3 rfl rfl (Z9Z (six 0) Z4B as46 cg46 cs46 (by decide) (by decide) [0] [3] (some ⟨b47, 0, none⟩) (some ⟨b48, 0, none⟩) 1 1 (by decide) (by decide) (by decide) (by decide) [⟨some ⟨b49, 0, none⟩, 2, [0, 2]⟩, ⟨some ⟨b50, 0, none⟩, 2, [1, 3]⟩] (some ⟨b51, 0, none⟩) 2 (by show 2 ≤ 1000000; decide) (by show 4 ≤ 1000000; decide) _ _) ?_
 rintro _ _ _ ⟨rfl, rfl, rfl⟩
 rw [show lls [⟨some ⟨b49, 0, none⟩, 2, [0, 2]⟩, ⟨some ⟨b50, 0, none⟩, 2, [1, 3]⟩] = [[0, 2], [1, 3]] from rfl, six_l.1, six_l.2]
 refine pur 5 rfl (sqt 9 rfl ?_)
 refine cl rfl Z4f rfl rfl (Z4b 0 (by decide) _ _) ?_
 rintro _ _ R1 ⟨ag56, as56, cg56, cs56, rfl, _, rfl, hR1⟩
 obtain rfl := hR1.symm
 clear hR1
 refine bsl (out := [_]) rfl Z0Z zl3 rfl rfl rfl rfl rfl rfl (fun b57 => ?_)
 refine bsl (out := [_]) rfl Z0Z zl3 rfl rfl rfl rfl rfl rfl (fun b58 => ?_)
 refine Sy.heap (fun w h9 => St.rows (sz := 1) (rows := Z6 [0]) (rest := []) (h9.pull b57) (by simp)) ?_
 refine Sy.heap (fun w h9 => St.rows (sz := 1) (rows := Z6 [5]) (rest := []) (h9.pull b58) (by simp)) ?_
 refine cl rfl Zct rfl rfl (ZcJ (six 0) ag56 as56 cg56 cs56 (by decide) (by decide) [0] [5] (some ⟨b57, 0, none⟩) (some ⟨b58, 0, none⟩) 1 1 (by decide) (by decide) (by decide) (by decide) _ _) ?_
 rintro _ _ R1 ⟨rfl, hq⟩
 rcases hq with ⟨h9, _⟩ | ⟨_, f, V, a5, c5, hf, hs, _, rfl, hR1⟩
 · exact absurd six_b.1 h9
 obtain rfl := hR1.symm
 clear hR1
 rw [Z64 hf hs]
 refine pur 5 rfl (sqt 9 rfl ?_)
 refine cl rfl Z4f rfl rfl (Z4b 0 (by decide) _ _) ?_
 rintro _ _ R1 ⟨ag63, as63, cg63, cs63, rfl, _, rfl, hR1⟩
 obtain rfl := hR1.symm
 clear hR1
 refine bsl (out := [_]) rfl Z0Z zl3 rfl rfl rfl rfl rfl rfl (fun b64 => ?_)
 refine bsl (out := [_]) rfl Z0Z zl3 rfl rfl rfl rfl rfl rfl (fun b65 => ?_)
 refine Sy.heap (fun w h9 => St.rows (sz := 1) (rows := Z6 [0]) (rest := []) (h9.pull b64) (by simp)) ?_
 refine Sy.heap (fun w h9 => St.rows (sz := 1) (rows := Z6 [3]) (rest := []) (h9.pull b65) (by simp)) ?_
 refine cl rfl Zdc rfl rfl (Z9r (six 0) ag63 as63 cg63 cs63 (by decide) (by decide) [0] [3] (some ⟨b64, 0, none⟩) (some ⟨b65, 0, none⟩) 1 1 (by decide) (by decide) (by decide) (by decide) _ _) ?_
 rintro _ _ R1 ⟨rfl, hR1, hq⟩
 obtain rfl := hR1.symm
 clear hR1
 rcases hq with ⟨h9, _⟩ | ⟨_, n, _, hn1, hn2, rfl⟩
 · exact absurd six_b.2.1 h9
 obtain rfl := Z9D hn1 hn2
 refine pur 5 rfl (sqt 68 rfl (pur 3 rfl ?_))
 refine Zt 71 rfl ?_ ?_ <;> intro g71
 refine pur 4 rfl ?_
 refine Zt 75 rfl ?_ ?_ <;> intro g75
 refine pur 4 rfl ?_
 refine Zt 79 rfl ?_ ?_ <;> intro g79
 refine pur 4 rfl ?_
 refine Zt 83 rfl ?_ ?_ <;> intro g83
 refine pur 4 rfl ?_
 refine Zt 87 rfl ?_ ?_ <;> intro g87
 refine pur 4 rfl ?_
 refine Zt 91 rfl ?_ ?_ <;> intro g91
 refine pur 4 rfl ?_
 refine Zt 95 rfl ?_ ?_ <;> intro g95
 refine pur 4 rfl ?_
 refine Zt 99 rfl ?_ ?_ <;> intro g99
 refine pur 1 rfl ?_
 refine Zcl (out := [_, _, _, _, _, _]) rfl rfl rfl rfl Z0Z zl3 rfl rfl rfl rfl rfl rfl (fun b101 => ?_)
 refine Sy.heap (fun w h9 => St.rows (sz := 1) (rows := Z6 [0, 1, 1, 2, 3, 4]) (rest := []) (h9.pull b101) (by simp)) ?_
 refine Zat rfl rfl rfl rfl Z8g rfl rfl (Z2l [0, 1, 1, 2, 3, 4] [0, 1, 1, 2, 3, 4] a1 (some ⟨b101, 0, none⟩) c1 6 (by decide) (by decide) _ _) ?_
 refine pur 2 rfl ?_
 refine Zt 104 rfl ?_ ?_ <;> intro g104
 refine pur 1 rfl ?_
 refine Zcl (out := [_]) rfl rfl rfl rfl Z0Z zl3 rfl rfl rfl rfl rfl rfl (fun b106 => ?_)
 refine Sy.heap (fun w h9 => St.rows (sz := 1) (rows := Z6 [4]) (rest := []) (h9.pull b106) (by simp)) ?_
 refine Zat rfl rfl rfl rfl Z8g rfl rfl (Z2l [4] [4] a2 (some ⟨b106, 0, none⟩) c2 1 (by decide) (by decide) _ _) ?_
 refine pur 2 rfl ?_
 refine Zt 109 rfl ?_ ?_ <;> intro g109
 refine pur 1 rfl ?_
 refine Zcl (out := [_, _]) rfl rfl rfl rfl Z0Z zl3 rfl rfl rfl rfl rfl rfl (fun b111 => ?_)
 refine Sy.heap (fun w h9 => St.rows (sz := 1) (rows := Z6 [4, 5]) (rest := []) (h9.pull b111) (by simp)) ?_
 refine Zat rfl rfl rfl rfl Z8g rfl rfl (Z2l [4, 5] [4, 5] a3 (some ⟨b111, 0, none⟩) c3 2 (by decide) (by decide) _ _) ?_
 refine pur 2 rfl ?_
 refine Zt 114 rfl ?_ ?_ <;> intro g114
 refine pur 1 rfl ?_
 refine Zcl (out := [_, _, _]) rfl rfl rfl rfl Z0Z zl3 rfl rfl rfl rfl rfl rfl (fun b116 => ?_)
 refine Sy.heap (fun w h9 => St.rows (sz := 1) (rows := Z6 [0, 1, 2]) (rest := []) (h9.pull b116) (by simp)) ?_
 refine Zat rfl rfl rfl rfl Z8g rfl rfl (Z2l [0, 1, 2] [0, 1, 2] a4 (some ⟨b116, 0, none⟩) c4 3 (by decide) (by decide) _ _) ?_
 refine pur 2 rfl ?_
 refine Zt 119 rfl ?_ ?_ <;> intro g119
 refine pur 4 rfl ?_
 refine Zt 123 rfl ?_ ?_ <;> intro g123
 refine pur 4 rfl ?_
 refine Zt 127 rfl ?_ ?_ <;> intro g127
 refine pur 1 rfl ?_
 refine spG rfl rfl rfl rfl (PE.lenSl ZD rfl) rfl ?_
 refine pur 3 rfl ?_
 refine Zt 132 rfl ?_ ?_ <;> intro g132
 refine pur 4 rfl (Z5 ?_)
 exact rtA rfl rfl rfl ⟨rfl, rfl, rfl⟩ (fun w h9 => St.sub h9)
 exact absurd g132 (by decide)
 exact absurd g127 (by decide)
 exact absurd g123 (by decide)
 exact absurd g119 (by decide)
 exact absurd g114 (by decide)
 exact absurd g109 (by decide)
 exact absurd g104 (by decide)
 exact absurd g99 (by decide)
 exact absurd g95 (by decide)
 exact absurd g91 (by decide)
 exact absurd g87 (by decide)
 exact absurd g83 (by decide)
 exact absurd g79 (by decide)
 exact absurd g75 (by decide)
 exact absurd g71 (by decide)
theorem Zdi : apT Try.prog 23 = some (46, 2, 16) := by kernel_rfl
theorem Z6m : cal Try.prog 36 = true := by kernel_rfl
theorem ZcE : cal Try.prog 77 = true := by kernel_rfl
theorem ZcS : Z0J Try.prog 70 = some 1 := by kernel_rfl
theorem ZdP : elN Try.prog 22 = some 1 := by kernel_rfl
theorem Z56 : Z26 Try.prog 72 0 = some 0 := by kernel_rfl
theorem Z2R : Z26 Try.prog 72 1 = some 1 := by kernel_rfl
theorem Z0s : Z26 Try.prog 72 2 = some 2 := by kernel_rfl
theorem ZdF : Z9e Try.prog 70 = some .u32 := by kernel_rfl
theorem Z8O : Z5C Try.prog 22 = true := by kernel_rfl
theorem ZdJ : Z10 Try.prog 72 = some [(0, 1), (1, 1), (2, 1)] := by kernel_rfl
theorem Zcf : Z2b Try.prog 22 = true := by kernel_rfl
theorem sc5 : Z2b Try.prog 5 = true := by kernel_rfl
theorem Z7Q : Z2b Try.prog 70 = true := by kernel_rfl
theorem us3 : (Try.prog.underlying 3).isSome = true := by kernel_rfl
theorem us5 : (Try.prog.underlying 5).isSome = true := by kernel_rfl
theorem Zch : (Try.prog.underlying 70).isSome = true := by kernel_rfl
theorem ZdY : ZP Try.prog 72 = some ([.slice none 0 0, .int .i64 0, .int .u32 0]) := by kernel_rfl
def Zbu (x : Int) : List Value := [.int .u8 x]
def Z3o (l : List Int) : List (List Value) := l.map Zbu
theorem ZaK (g : List Int) (ag : Option Addr) (cg : Nat) (hgl : g.length ≤ 9223372036854775807) (H : Z7) (R : Z4) :
    Fn Try.prog 10 [.slice ag g.length cg] H R (fun v H' R' => ∃ bk, ∃ mx : Int, (0 ≤ mx ∧ mx ≤ 4294967295) ∧ v = .pointer (some ⟨bk, 0, none⟩) ∧ H' = (bk, cel 72 [.slice ag g.length cg, .int .i64 (0), .int .u32 (mx)]) :: H ∧ R' = R) := by
 refine Zf Try.func10 rfl Try.ntmps10 rfl ?_
 refine sqt 1 rfl (pur 1 rfl (sqt 8 rfl (pur 2 rfl (sp rfl (PE.lenSl Z8O rfl) rfl ?_))))
 refine spE rfl (PE.convU us3 ZdF rfl) rfl ?_
 rintro _ ⟨u6, rfl, hu6⟩
 refine spE rfl (PE.xorU rfl rfl) rfl ?_
 rintro _ ⟨u7, rfl, hu7⟩
 refine sp rfl (PE.build (out := [_, _, _]) ZdJ ZdY rfl rfl) rfl (bx rfl rfl rfl (fun b9 => pur 1 rfl (Z5 ?_)))
 exact rtA rfl rfl rfl ⟨b9, u7, hu7, rfl, rfl, rfl⟩ idH
theorem Z7u (g : List Int) (ag : Option Addr) (cg bk : Nat) (hgl : g.length ≤ 9223372036854775807) (tq mx : Int) (htq : 0 ≤ tq ∧ tq ≤ 1000000000) (hmx : 0 ≤ mx ∧ mx ≤ 4294967295) (H : Z7) (R : Z4) [hG : MemRows ag 1 (Z3o g) R] :
    Fn Try.prog 77 [.pointer (some ⟨bk, 0, none⟩)] ((bk, cel 72 [.slice ag g.length cg, .int .i64 (tq), .int .u32 (mx)]) :: H) R (fun v H' R' => ∃ x m' : Int, (0 ≤ x ∧ x ≤ 65535) ∧ v = .int .i64 x ∧ (0 ≤ m' ∧ m' ≤ 4294967295) ∧ H' = (bk, cel 72 [.slice ag g.length cg, .int .i64 (tq + 1), .int .u32 (m')]) :: H ∧ R' = R) := by
 refine Zf Try.func77 rfl Try.ntmps77 rfl ?_
 refine sqt 1 rfl (pur 1 rfl (Z0 (sqt 6 rfl (pur 1 rfl (sp rfl (PE.nilCheck rfl) rfl (sp rfl (PE.fA Z56 rfl) rfl (spL rfl rfl (lh Zcf rfl rfl) rfl (sp rfl (PE.lenSl Z8O rfl) rfl (pur 1 rfl (sqt 2 rfl (pur 2 rfl ?_)))))))))))
 refine Z1 rfl ?_ ?_ <;> intro hc0 <;> try simp only [cS] at hc0
 obtain ⟨y, hy⟩ : ∃ y, g[(tq % g.length).toNat]? = some y := ⟨_, List.getElem?_eq_getElem (by have := Int.emod_lt_of_pos tq hc0; have := Int.emod_nonneg tq (show (g.length : Int) ≠ 0 by omega); omega)⟩
 refine Zh (a := ag) (sz := 1) (rows := Z3o g) (by intro h0; simp [Z3o] at h0; simp [h0] at hy) (fun bgr ogr he => ?_)
 subst he
 refine Ze [0, 0, 2, 6, 14, 0, 32, 96, 224, 0, 512, 1536, 3584, 0, 15872, 32736, 65504, 131040, 262142, 524286, 1048575, 2097151, 4194303] (tks 0 4 (.ld 4 (tks 5 3 (.ld 8 (tks 9 3 (.ld 12 (tks 13 3 (.ld 16 (tks 17 5 (.big 22 .done)))))))))) Zy (by kernel_rfl) ?_
 refine Zq 2 rfl (tk rfl (PE.nilCheck rfl) rfl (tk rfl (PE.fA Z0s rfl) rfl (ld rfl rfl (lh Z7Q rfl rfl) rfl (Zq 1 rfl (tk rfl (PE.nilCheck rfl) rfl (tk rfl (PE.fA Z56 rfl) rfl (ld rfl rfl (lh Zcf rfl rfl) rfl (Zq 1 rfl (tk rfl (PE.nilCheck rfl) rfl (tk rfl (PE.fA Z2R rfl) rfl (ld rfl rfl (lh sc3 rfl rfl) rfl (Zq 1 rfl (tk rfl (PE.rem rfl rfl (by omega)) rfl (tk rfl (PE.indexAddr ZdP rfl rfl (by exact Int.emod_nonneg tq (by omega)) (by exact Int.emod_lt_of_pos tq hc0)) rfl (ld rfl rfl (lf0 (x := .int .u8 y) sc5 (by simp [Z3o, Zbu, hy]; rfl) rfl) rfl ?_)))))))))))))))
 refine tkE rfl (PE.convU us5 ZdF rfl) rfl ?_
 rintro _ ⟨u28, rfl, hu28⟩
 refine tkE rfl (PE.xorU rfl rfl) rfl ?_
 rintro _ ⟨u29, rfl, hu29⟩
 refine tkE rfl (PE.mulU rfl rfl) rfl ?_
 rintro _ ⟨u30, rfl, hu30⟩
 refine tk rfl (PE.nilCheck rfl) rfl (tk rfl (PE.fA Z0s rfl) rfl ?_)
 refine sto rfl rfl rfl ZcS rfl rfl rfl rfl ?_
 refine bgT (sqt 8 rfl (pur 1 rfl (sp rfl (PE.nilCheck rfl) rfl (sp rfl (PE.fA Z2R rfl) rfl (spL rfl rfl (lh sc3 rfl rfl) rfl (sp rfl (PE.add rfl rfl (by omega)) rfl (sp rfl (PE.nilCheck rfl) rfl (sp rfl (PE.fA Z2R rfl) rfl ?_))))))))
 refine sto rfl rfl rfl cn3 rfl rfl rfl rfl ?_
 refine Z0 (Z0 ?_)
 refine Ze [0, 1, 3, 7, 0, 16, 48, 112, 240, 511] (tks 0 3 (.ld 3 (tks 4 3 (.ld 7 (.tk 8 (.tk 9 .done)))))) Zy (by kernel_rfl) ?_
 refine Zq 1 rfl (tk rfl (PE.nilCheck rfl) rfl (tk rfl (PE.fA Z2R rfl) rfl (ld rfl rfl (lh sc3 rfl rfl) rfl (Zq 1 rfl (tk rfl (PE.nilCheck rfl) rfl (tk rfl (PE.fA Z56 rfl) rfl (ld rfl rfl (lh Zcf rfl rfl) rfl (tk rfl (PE.lenSl Z8O rfl) rfl (Zq 1 rfl ?_)))))))))
 refine Z1 rfl ?_ ?_ <;> intro hc1 <;> try simp only [cS] at hc1
 refine sqr 10 rfl (pur 2 rfl (sp rfl (PE.nilCheck rfl) rfl (sp rfl (PE.fA Z0s rfl) rfl (spL rfl rfl (lh Z7Q rfl rfl) rfl ?_))))
 refine spE rfl (PE.mulU rfl rfl) rfl ?_
 rintro _ ⟨u55, rfl, hu55⟩
 refine spE rfl (PE.addU rfl rfl) rfl ?_
 rintro _ ⟨u56, rfl, hu56⟩
 refine sp rfl (PE.nilCheck rfl) rfl (sp rfl (PE.fA Z0s rfl) rfl ?_)
 refine sto rfl rfl rfl ZcS rfl rfl rfl rfl ?_
 refine Z0 ?_
 refine Ze [0, 1, 3, 7, 0, 16, 48, 112, 240, 511, 1023, 2047, 4095, 8191] (tks 0 3 (.ld 3 (tks 4 3 (.ld 7 (tks 8 6 .done))))) Zy (by kernel_rfl) ?_
 refine Zq 1 rfl (tk rfl (PE.nilCheck rfl) rfl (tk rfl (PE.fA Z0s rfl) rfl (ld rfl rfl (lh Z7Q rfl rfl) rfl (Zq 1 rfl (tk rfl (PE.nilCheck rfl) rfl (tk rfl (PE.fA Z0s rfl) rfl (ld rfl rfl (lh Z7Q rfl rfl) rfl ?_)))))))
 refine tkE rfl (PE.shrU rfl rfl (by decide) (by omega) (by omega)) rfl ?_
 rintro _ ⟨u67, rfl, hu67⟩
 refine tkE rfl (PE.xorU rfl rfl) rfl ?_
 rintro _ ⟨u68, rfl, hu68⟩
 refine tkE rfl (PE.shrU rfl rfl (by decide) (by omega) (by omega)) rfl ?_
 rintro _ ⟨u69, rfl, hu69⟩
 refine tkE rfl (PE.andU rfl rfl (by decide) (by decide)) rfl ?_
 rintro _ ⟨u70, rfl, hu70⟩
 refine tk rfl (PE.conv64 Zch ik3 rfl (by omega)) rfl (Zq 1 rfl (Z5 ?_))
 first
   | exact rtA rfl rfl rfl ⟨u70, _, hu70, rfl, hu56, rfl, rfl⟩ idH
   | exact rtA rfl rfl rfl ⟨u70, _, hu70, rfl, hu30, rfl, rfl⟩ idH
   | exact rtA rfl rfl rfl ⟨u70, _, hu70, rfl, hmx, rfl, rfl⟩ idH
 refine Z2 (Z0 ?_)
 refine Ze [0, 1, 3, 7, 0, 16, 48, 112, 240, 511, 1023, 2047, 4095, 8191] (tks 0 3 (.ld 3 (tks 4 3 (.ld 7 (tks 8 6 .done))))) Zy (by kernel_rfl) ?_
 refine Zq 1 rfl (tk rfl (PE.nilCheck rfl) rfl (tk rfl (PE.fA Z0s rfl) rfl (ld rfl rfl (lh Z7Q rfl rfl) rfl (Zq 1 rfl (tk rfl (PE.nilCheck rfl) rfl (tk rfl (PE.fA Z0s rfl) rfl (ld rfl rfl (lh Z7Q rfl rfl) rfl ?_)))))))
 refine tkE rfl (PE.shrU rfl rfl (by decide) (by omega) (by omega)) rfl ?_
 rintro _ ⟨u67, rfl, hu67⟩
 refine tkE rfl (PE.xorU rfl rfl) rfl ?_
 rintro _ ⟨u68, rfl, hu68⟩
 refine tkE rfl (PE.shrU rfl rfl (by decide) (by omega) (by omega)) rfl ?_
 rintro _ ⟨u69, rfl, hu69⟩
 refine tkE rfl (PE.andU rfl rfl (by decide) (by decide)) rfl ?_
 rintro _ ⟨u70, rfl, hu70⟩
 refine tk rfl (PE.conv64 Zch ik3 rfl (by omega)) rfl (Zq 1 rfl (Z5 ?_))
 first
   | exact rtA rfl rfl rfl ⟨u70, _, hu70, rfl, hu56, rfl, rfl⟩ idH
   | exact rtA rfl rfl rfl ⟨u70, _, hu70, rfl, hu30, rfl, rfl⟩ idH
   | exact rtA rfl rfl rfl ⟨u70, _, hu70, rfl, hmx, rfl, rfl⟩ idH
 refine Z2 (sqt 8 rfl (pur 1 rfl (sp rfl (PE.nilCheck rfl) rfl (sp rfl (PE.fA Z2R rfl) rfl (spL rfl rfl (lh sc3 rfl rfl) rfl (sp rfl (PE.add rfl rfl (by omega)) rfl (sp rfl (PE.nilCheck rfl) rfl (sp rfl (PE.fA Z2R rfl) rfl ?_))))))))
 refine sto rfl rfl rfl cn3 rfl rfl rfl rfl ?_
 refine Z0 (Z0 ?_)
 refine Ze [0, 1, 3, 7, 0, 16, 48, 112, 240, 511] (tks 0 3 (.ld 3 (tks 4 3 (.ld 7 (.tk 8 (.tk 9 .done)))))) Zy (by kernel_rfl) ?_
 refine Zq 1 rfl (tk rfl (PE.nilCheck rfl) rfl (tk rfl (PE.fA Z2R rfl) rfl (ld rfl rfl (lh sc3 rfl rfl) rfl (Zq 1 rfl (tk rfl (PE.nilCheck rfl) rfl (tk rfl (PE.fA Z56 rfl) rfl (ld rfl rfl (lh Zcf rfl rfl) rfl (tk rfl (PE.lenSl Z8O rfl) rfl (Zq 1 rfl ?_)))))))))
 refine Z1 rfl ?_ ?_ <;> intro hc1 <;> try simp only [cS] at hc1
 refine sqr 10 rfl (pur 2 rfl (sp rfl (PE.nilCheck rfl) rfl (sp rfl (PE.fA Z0s rfl) rfl (spL rfl rfl (lh Z7Q rfl rfl) rfl ?_))))
 refine spE rfl (PE.mulU rfl rfl) rfl ?_
 rintro _ ⟨u55, rfl, hu55⟩
 refine spE rfl (PE.addU rfl rfl) rfl ?_
 rintro _ ⟨u56, rfl, hu56⟩
 refine sp rfl (PE.nilCheck rfl) rfl (sp rfl (PE.fA Z0s rfl) rfl ?_)
 refine sto rfl rfl rfl ZcS rfl rfl rfl rfl ?_
 refine Z0 ?_
 refine Ze [0, 1, 3, 7, 0, 16, 48, 112, 240, 511, 1023, 2047, 4095, 8191] (tks 0 3 (.ld 3 (tks 4 3 (.ld 7 (tks 8 6 .done))))) Zy (by kernel_rfl) ?_
 refine Zq 1 rfl (tk rfl (PE.nilCheck rfl) rfl (tk rfl (PE.fA Z0s rfl) rfl (ld rfl rfl (lh Z7Q rfl rfl) rfl (Zq 1 rfl (tk rfl (PE.nilCheck rfl) rfl (tk rfl (PE.fA Z0s rfl) rfl (ld rfl rfl (lh Z7Q rfl rfl) rfl ?_)))))))
 refine tkE rfl (PE.shrU rfl rfl (by decide) (by omega) (by omega)) rfl ?_
 rintro _ ⟨u67, rfl, hu67⟩
 refine tkE rfl (PE.xorU rfl rfl) rfl ?_
 rintro _ ⟨u68, rfl, hu68⟩
 refine tkE rfl (PE.shrU rfl rfl (by decide) (by omega) (by omega)) rfl ?_
 rintro _ ⟨u69, rfl, hu69⟩
 refine tkE rfl (PE.andU rfl rfl (by decide) (by decide)) rfl ?_
 rintro _ ⟨u70, rfl, hu70⟩
 refine tk rfl (PE.conv64 Zch ik3 rfl (by omega)) rfl (Zq 1 rfl (Z5 ?_))
 first
   | exact rtA rfl rfl rfl ⟨u70, _, hu70, rfl, hu56, rfl, rfl⟩ idH
   | exact rtA rfl rfl rfl ⟨u70, _, hu70, rfl, hu30, rfl, rfl⟩ idH
   | exact rtA rfl rfl rfl ⟨u70, _, hu70, rfl, hmx, rfl, rfl⟩ idH
 refine Z2 (Z0 ?_)
 refine Ze [0, 1, 3, 7, 0, 16, 48, 112, 240, 511, 1023, 2047, 4095, 8191] (tks 0 3 (.ld 3 (tks 4 3 (.ld 7 (tks 8 6 .done))))) Zy (by kernel_rfl) ?_
 refine Zq 1 rfl (tk rfl (PE.nilCheck rfl) rfl (tk rfl (PE.fA Z0s rfl) rfl (ld rfl rfl (lh Z7Q rfl rfl) rfl (Zq 1 rfl (tk rfl (PE.nilCheck rfl) rfl (tk rfl (PE.fA Z0s rfl) rfl (ld rfl rfl (lh Z7Q rfl rfl) rfl ?_)))))))
 refine tkE rfl (PE.shrU rfl rfl (by decide) (by omega) (by omega)) rfl ?_
 rintro _ ⟨u67, rfl, hu67⟩
 refine tkE rfl (PE.xorU rfl rfl) rfl ?_
 rintro _ ⟨u68, rfl, hu68⟩
 refine tkE rfl (PE.shrU rfl rfl (by decide) (by omega) (by omega)) rfl ?_
 rintro _ ⟨u69, rfl, hu69⟩
 refine tkE rfl (PE.andU rfl rfl (by decide) (by decide)) rfl ?_
 rintro _ ⟨u70, rfl, hu70⟩
 refine tk rfl (PE.conv64 Zch ik3 rfl (by omega)) rfl (Zq 1 rfl (Z5 ?_))
 first
   | exact rtA rfl rfl rfl ⟨u70, _, hu70, rfl, hu56, rfl, rfl⟩ idH
   | exact rtA rfl rfl rfl ⟨u70, _, hu70, rfl, hu30, rfl, rfl⟩ idH
   | exact rtA rfl rfl rfl ⟨u70, _, hu70, rfl, hmx, rfl, rfl⟩ idH
theorem Z2s (g : List Int) (ag : Option Addr) (cg bk : Nat) (hgl : g.length ≤ 9223372036854775807) (tq mx : Int) (htq : 0 ≤ tq ∧ tq ≤ 1000000000) (hmx : 0 ≤ mx ∧ mx ≤ 4294967295) (n : Int) (H : Z7) (R : Z4) [hG : MemRows ag 1 (Z3o g) R] :
    Fn Try.prog 36 [.pointer (some ⟨bk, 0, none⟩), .int .i64 n] ((bk, cel 72 [.slice ag g.length cg, .int .i64 (tq), .int .u32 (mx)]) :: H) R (fun v H' R' => ∃ x m' : Int, (0 ≤ x ∧ x < max 1 n) ∧ v = .int .i64 x ∧ (0 ≤ m' ∧ m' ≤ 4294967295) ∧ H' = (bk, cel 72 [.slice ag g.length cg, .int .i64 (tq + 1), .int .u32 (m')]) :: H ∧ R' = R) := by
 refine Zf Try.func36 rfl Try.ntmps36 rfl ?_
 refine sqt 1 rfl (pur 1 rfl (sqt 6 rfl (pur 1 rfl ?_)))
 refine cl rfl ZcE rfl rfl (Z7u g ag cg bk hgl tq mx htq hmx _ _) ?_
 rintro _ _ _ ⟨x, m', hx, rfl, hm', rfl, rfl⟩
 refine pur 1 rfl (sp rfl (PE.max rfl rfl) rfl (sp rfl (PE.rem rfl rfl (by omega)) rfl (pur 1 rfl (Z5 ?_))))
 exact rtA rfl rfl rfl ⟨_, m', ⟨Int.emod_nonneg _ (by omega), Int.emod_lt_of_pos _ (by omega)⟩, rfl, hm', rfl, rfl⟩ idH
theorem Z9W (g : List Int) (ag : Option Addr) (cg bk : Nat) (hgl : g.length ≤ 9223372036854775807) (tq mx : Int) (htq : 0 ≤ tq ∧ tq ≤ 1000000000) (hmx : 0 ≤ mx ∧ mx ≤ 4294967295) (lo hi : Int) (hb : -1000000 ≤ lo ∧ lo ≤ 1000000 ∧ -1000000 ≤ hi ∧ hi ≤ 1000000) (H : Z7) (R : Z4) [hG : MemRows ag 1 (Z3o g) R] :
    Fn Try.prog 35 [.pointer (some ⟨bk, 0, none⟩), .int .i64 lo, .int .i64 hi] ((bk, cel 72 [.slice ag g.length cg, .int .i64 (tq), .int .u32 (mx)]) :: H) R (fun v H' R' => ∃ x m' : Int, (lo ≤ x ∧ x < lo + max 1 (hi - lo + 1)) ∧ v = .int .i64 x ∧ (0 ≤ m' ∧ m' ≤ 4294967295) ∧ H' = (bk, cel 72 [.slice ag g.length cg, .int .i64 (tq + 1), .int .u32 (m')]) :: H ∧ R' = R) := by
 refine Zf Try.func35 rfl Try.ntmps35 rfl ?_
 refine sqt 1 rfl (pur 1 rfl (sqt 9 rfl (pur 4 rfl (sp rfl (PE.sub rfl rfl (by omega)) rfl (sp rfl (PE.add rfl rfl (by omega)) rfl ?_)))))
 refine cl rfl Z6m rfl rfl (Z2s g ag cg bk hgl tq mx htq hmx (hi - lo + 1) _ _) ?_
 rintro _ _ _ ⟨x, m', hx, rfl, hm', rfl, rfl⟩
 refine sp rfl (PE.add rfl rfl (by omega)) rfl (pur 1 rfl (Z5 ?_))
 exact rtA rfl rfl rfl ⟨lo + x, m', ⟨by omega, by omega⟩, rfl, hm', rfl, rfl⟩ idH
theorem Z6B (g : List Int) (ag : Option Addr) (cg bk : Nat) (hgl : g.length ≤ 9223372036854775807) (tq mx : Int) (htq : 0 ≤ tq ∧ tq ≤ 1000000000) (hmx : 0 ≤ mx ∧ mx ≤ 4294967295) (n : Int) (H : Z7) (R : Z4) [hG : MemRows ag 1 (Z3o g) R] :
    Fn Try.prog 13 [.pointer (some ⟨bk, 0, none⟩), .int .i64 n] ((bk, cel 72 [.slice ag g.length cg, .int .i64 (tq), .int .u32 (mx)]) :: H) R (fun v H' R' => ∃ (x : Bool) (m' : Int), v = .bool x ∧ (0 ≤ m' ∧ m' ≤ 4294967295) ∧ H' = (bk, cel 72 [.slice ag g.length cg, .int .i64 (tq + 1), .int .u32 (m')]) :: H ∧ R' = R) := by
 refine Zf Try.func13 rfl Try.ntmps13 rfl ?_
 refine sqt 1 rfl (pur 1 rfl (sqt 5 rfl (pur 2 rfl ?_)))
 refine cl rfl Z6m rfl rfl (Z2s g ag cg bk hgl tq mx htq hmx n _ _) ?_
 rintro _ _ _ ⟨x, m', hx, rfl, hm', rfl, rfl⟩
 refine pur 2 rfl (Z5 ?_)
 exact rtA rfl rfl rfl ⟨_, m', rfl, hm', rfl, rfl⟩ idH
theorem Z9j : cal Try.prog 13 = true := by kernel_rfl
theorem ZcT : cal Try.prog 35 = true := by kernel_rfl
theorem ZdE : Z0J Try.prog 23 = some 1 := by kernel_rfl
theorem Z5V {p q : Nat → Bool} {k : Nat} (h : ∀ j < k, p j = q j) : Zu p k = Zu q k := by
  unfold Zu
  rw [List.filter_congr fun j hj => h j (List.mem_range.1 hj)]
theorem Z5G (p : Nat → Bool) (k : Nat) (b : Bool) : Zu (fun j => bif decide (j = k) then b else p j) (k + 1) = Zu p k ++ bif b then [(k : Int)] else [] := by
  rw [Z2K, Z5V (q := p) fun j hj => by rw [decide_eq_false (show ¬ j = k by omega)]; rfl, decide_eq_true rfl]; rfl
theorem fltK_mem {p : Nat → Bool} {n : Nat} {j : Int} : j ∈ Zu p n ↔ ∃ k : Nat, k < n ∧ p k = true ∧ j = k := by
  unfold Zu
  rw [List.mem_map]
  constructor
  · rintro ⟨k, h1, h2⟩
    rw [List.mem_filter, List.mem_range] at h1
    exact ⟨k, h1.1, h1.2, h2.symm⟩
  · rintro ⟨k, h1, h2, rfl⟩; exact ⟨k, List.mem_filter.2 ⟨List.mem_range.2 h1, h2⟩, rfl⟩
theorem Z8B (p : Nat → Bool) (n : Nat) : (Zu p n).Pairwise (· < ·) := (List.pairwise_lt_range.filter _).map _ fun a b h => by omega
theorem Z5T (p : Nat → Bool) (n : Nat) : (Zu p n).Nodup := List.nodup_iff_pairwise_ne.2 ((Z8B p n).imp fun h => by omega)
theorem Z7R (p : Nat → Bool) {n : Int} (hn : 0 ≤ n) : ∀ x ∈ Zu p n.toNat, 0 ≤ x ∧ x < n := fun x hx => by
  obtain ⟨k, h1, _, rfl⟩ := fltK_mem.1 hx; omega
theorem Za3 (p : Nat → Bool) {n : Int} (hn : 0 ≤ n) : Z03 n (Zu p n.toNat) = 0 := Z5f (Z7R p hn) (Z5T p _)
structure MadeW (h : Hse) (nb ng : Int) : Prop where
  bins : 2 ≤ h.bins ∧ h.bins ≤ nb
  gl : (h.gaps.length : Int) ≤ ng
  gaps : ∀ g ∈ h.gaps, (0 ≤ g.a ∧ g.a < h.bins) ∧ (0 ≤ g.b ∧ g.b < h.bins) ∧ g.a ≠ g.b
  none : h.sights = []
theorem MadeW.ok {h : Hse} {nb ng : Int} (hm : MadeW h nb ng) (h1 : nb ≤ 7) (h2 : ng ≤ 10) : h.ok := ⟨by have := hm.bins; omega, by have := hm.gl; omega, by rw [hm.none]; exact Nat.zero_le _, hm.gaps, by rw [hm.none]; simp⟩
def ini (f : Nat → Int) (n k : Nat) : List Int := (List.range n).map fun j => bif decide (j < k) then f j else 0
theorem ZS (f : Nat → Int) (n k : Nat) : (ini f n k).length = n := by simp [ini]
theorem Z5v {f : Nat → Int} {n k j : Nat} (hj : j < n) : na (ini f n k) j = bif decide (j < k) then f j else 0 := by
  unfold na ini
  rw [List.getD_eq_getElem?_getD, List.getElem?_map, List.getElem?_range hj]; rfl
theorem Z8H (f : Nat → Int) (n : Nat) : List.replicate n 0 = ini f n 0 := by
  apply List.ext_getElem?
  intro j
  rcases Nat.lt_or_ge j n with h | h
  · rw [Zv (l := ini f n 0) (by rw [ZS]; exact h), Z5v h, List.getElem?_replicate, if_pos h]; rfl
  · rw [List.getElem?_eq_none (by simpa using h), List.getElem?_eq_none (by rw [ZS]; exact h)]
theorem Z6s {f : Nat → Int} {n k : Nat} (hk : k < n) {v : Int} (hv : f k = v) : (ini f n k).set k v = ini f n (k + 1) := by
  apply List.ext_getElem?
  intro j
  rcases Nat.lt_or_ge j n with hj | hj
  · rw [Zv (l := (ini f n k).set k _) (by rw [List.length_set, ZS]; exact hj), Zv (by rw [ZS]; exact hj), Z1F (by rw [ZS]; exact hk), Z5v hj, Z5v hj]
    by_cases e : k = j
    · subst e; rw [decide_eq_true rfl, decide_eq_true (Nat.lt_succ_self k), ← hv]; rfl
    · rw [decide_eq_false e, show decide (j < k + 1) = decide (j < k) from decide_eq_decide.2 (by omega)]; rfl
  · rw [List.getElem?_eq_none (by rw [List.length_set, ZS]; exact hj), List.getElem?_eq_none (by rw [ZS]; exact hj)]
def clP (pl : List PL) (t : Nat) : Nat := msk (Z3l pl (t + 1))
def in0 (fr : List Int) (j : Nat) : Int := bif Z36 fr j then 0 else 100
theorem Z4J {l : List Int} (h : ∀ x ∈ l, 0 ≤ x) (j : Nat) : Z36 l (j : Int) = (msk l).testBit j := by rw [Bool.eq_iff_iff, hasI_iff, Zx h]
theorem FolI.start {gs : List Gp} {cl : Nat → Nat} {fr : List Int} (h : ∀ x ∈ fr, 0 ≤ x) (n : Nat) : FolI gs cl (msk fr) n 0 (Z2p gs (cl 0) (lvp gs cl (msk fr) 0) 0) (ini (in0 fr) n n) := ⟨ZS _ _ _, fun k hk => by
  rw [Z5v hk, decide_eq_true hk, cond_true]
  unfold in0
  rw [Z4J h]
  show _ = bif (msk fr).testBit k then fol gs cl (msk fr) 0 k else bif (msk fr).testBit k then _ else 100
  cases hb : (msk fr).testBit k with
  | false => rfl
  | true =>
    rw [cond_true, cond_true]
    exact (Z5z (t := 0) (Nat.le_refl _) hb (fun i hi => absurd hi (Nat.not_lt_zero _))).symm⟩
def ZcY (s acc : Nat) (g : Gp) : Nat → Nat
  | 0 => acc
  | 1 => acc ||| (bif s.testBit g.a.toNat then 2 ^ g.b.toNat else 0)
  | _ => (acc ||| (bif s.testBit g.a.toNat then 2 ^ g.b.toNat else 0)) ||| (bif s.testBit g.b.toNat then 2 ^ g.a.toNat else 0)
def Zdz (g : Gp) : List Value := [.int .i64 g.a, .int .i64 g.b, .int .i64 g.b, .int .i64 g.a]
theorem Za5 {s acc n : Nat} {g : Gp} (ha : 0 ≤ g.a ∧ g.a < n) (hb : 0 ≤ g.b ∧ g.b < n) {j : Nat} (hj : j < 2) : ∃ u v : Nat, ∃ rest : List Value, u < n ∧ v < n ∧ (Zdz g).drop (j * 2) = [.int .i64 u, .int .i64 v] ++ rest ∧ ZcY s acc g (j + 1) = ZcY s acc g j ||| (bif s.testBit u then 2 ^ v else 0) := by
  have h1 : ((g.a.toNat : Nat) : Int) = g.a := by omega
  have h2 : ((g.b.toNat : Nat) : Int) = g.b := by omega
  match j, hj with
  | 0, _ => exact ⟨g.a.toNat, g.b.toNat, [.int .i64 g.b, .int .i64 g.a], by omega, by omega, by rw [h1, h2]; rfl, rfl⟩
  | 1, _ => exact ⟨g.b.toNat, g.a.toNat, [], by omega, by omega, by rw [h1, h2]; rfl, rfl⟩
theorem Z52 {pl : List PL} {k : Nat} (h : pl.length ≤ k) : Z3l pl (k + 1) = Z3l pl k := by unfold Z3l; rw [List.take_of_length_le (by omega), List.take_of_length_le h]
theorem Z51 {pl : List PL} {k : Nat} {x : Int} (h : x ∈ Z3l pl k) : x ∈ (lls pl).flatten := by
  unfold Z3l at h
  obtain ⟨l, h1, h2⟩ := List.mem_flatten.1 h
  obtain ⟨y, h3, rfl⟩ := List.mem_map.1 h1
  exact List.mem_flatten.2 ⟨_, List.mem_map_of_mem (List.mem_of_mem_take h3), h2⟩
theorem Zcb (l0 : List Int) (a0 : Option Addr) (c0 bk : Nat) (hgl : l0.length ≤ 9223372036854775807) (tq mx : Int) (htq : 0 ≤ tq ∧ tq ≤ 1000000) (hmx : 0 ≤ mx ∧ mx ≤ 4294967295) (nb ng : Int) (hnb : 2 ≤ nb ∧ nb ≤ 7) (hng : 0 ≤ ng ∧ ng ≤ 10) (H : Z7) (R : Z4) [hG : MemRows a0 1 (Z3o l0) R] :
    Fn Try.prog 9 [.pointer (some ⟨bk, 0, none⟩), .int .i64 nb, .int .i64 ng] ((bk, cel 72 [.slice a0 l0.length c0, .int .i64 (tq), .int .u32 (mx)]) :: H) R (fun v H' R' => ∃ (h : Hse) (p : Nat → Bool) (ag ar : Option Addr) (cg cr : Nat) (tq' mx' : Int), MadeW h nb ng ∧ h.gaps.length ≤ cg ∧ (Zu p h.bins.toNat).length ≤ cr ∧ v = .tuple #[h.v (h.sg ag cg) (h.ss none 0), .slice ar (Zu p h.bins.toNat).length cr] ∧ (tq ≤ tq' ∧ tq' ≤ tq + 100) ∧ (0 ≤ mx' ∧ mx' ≤ 4294967295) ∧ H' = (bk, cel 72 [.slice a0 l0.length c0, .int .i64 (tq'), .int .u32 (mx')]) :: H ∧ R' = RowsA none 3 (Zj h.sights) :: RowsA ar 1 (Z6 (Zu p h.bins.toNat)) :: RowsA ag 2 (Zb h.gaps) :: R) := by
 refine Zf Try.func9 rfl Try.ntmps9 rfl ?_
 refine sqt 2 rfl (alc rfl Z6b rfl (fun b6 => pur 1 rfl (sqt 6 rfl (pur 2 rfl ?_))))
 refine Z04 bk ?_
 refine cl rfl ZcT rfl rfl (Z9W l0 a0 c0 bk hgl _ _ (by omega) (by assumption) (2) (nb) (by first | omega | (dsimp only; omega)) _ _) ?_
 rintro _ _ R1 ⟨x15, m15, hx15, rfl, hm15, rfl, hR1⟩
 obtain rfl := hR1.symm
 refine sp rfl (PE.build (out := htl ⟨x15, [], []⟩ (.slice none 0 0) (.slice none 0 0)) Zbq Z6b rfl rfl) rfl (alc rfl Z6b rfl (fun b8 => ?_))
 refine sto rfl rfl rfl Z85 rfl rfl rfl rfl ?_
 refine Z0 (sqt 5 rfl ?_)
 refine Z04 bk ?_
 refine pur 2 rfl (sp rfl (PE.add rfl rfl (by omega)) rfl ?_)
 refine cl rfl Z6m rfl rfl (Z2s l0 a0 c0 bk hgl _ _ (by omega) (by assumption) (ng + 1) _ _) ?_
 rintro _ _ R1 ⟨x20, m20, hx20, rfl, hm20, rfl, hR1⟩
 obtain rfl := hR1.symm
 refine pur 1 rfl (Z3 ?_)
 obtain ⟨n20, rfl⟩ : ∃ n : Nat, x20 = n := ⟨x20.toNat, by omega⟩
 refine Zd (ι := (x : {x : Nat × List Gp × Int × Int // x.1 ≤ n20 ∧ (x.2.1.length = x.1 ∧ ∀ g ∈ x.2.1, ((0 ≤ g.a ∧ g.a < x15) ∧ (0 ≤ g.b ∧ g.b < x15) ∧ g.a ≠ g.b)) ∧ (tq ≤ x.2.2.1 ∧ x.2.2.1 ≤ tq + 2 + 2 * x.1) ∧ (0 ≤ x.2.2.2 ∧ x.2.2.2 ≤ 4294967295)}) × OSl 46 2 (Zb x.1.2.1)) (fun x => ⟨[(0, .pointer (some ⟨bk, 0, none⟩)), (6, .pointer (some ⟨b6, 0, none⟩)), (8, .pointer (some ⟨b8, 0, none⟩)), (20, .int .i64 n20), (21, .int .i64 x.1.1.1)],
   (bk, cel 72 [.slice a0 l0.length c0, .int .i64 (x.1.1.2.2.1), .int .u32 (x.1.1.2.2.2)]) :: (x.2.G ++ (b8, cel 26 (htl ⟨x15, x.1.1.2.1, []⟩ x.2.fs (.slice none 0 0))) :: (b6, cel 26 [.int .i64 0, .slice none 0 0, .slice none 0 0]) :: H), R⟩) (fun x => n20 - x.1.1.1) ⟨⟨(0, [], tq + 1 + 1, m20), by omega, ⟨rfl, by simp⟩, by dsimp only; omega, by assumption⟩, OSl.nil _ _⟩ ?_ (fun x => ?_)
 exact Zp idH
 ·
  obtain ⟨⟨⟨k, l, tq2, mx2⟩, hk, ⟨hll, hlg⟩, htq2, hmx2⟩, o⟩ := x
  dsimp only at hk hll hlg htq2 hmx2 o ⊢
  refine sqt 1 rfl (pur 1 rfl (Z0 ?_))
  refine Z1 rfl ?_ ?_ <;> intro hc0 <;> try simp only [cS] at hc0
  ·
   have hrm : 0 ≤ (k : Int) % x15 ∧ (k : Int) % x15 < x15 := ⟨Int.emod_nonneg _ (by omega), Int.emod_lt_of_pos _ (by omega)⟩
   refine Z2 (Z0 (Z3 (sqt 2 rfl (pur 2 rfl (Z0 ?_)))))
   refine Ze [0, 0, 2, 7, 0, 0, 32, 112, 255, 0, 1023] (.tk 0 (.tk 1 (.ld 2 (tks 3 3 (.ld 6 (.any (.alt 7 (.tk 8 (.big 9 (.big 10 .done))) (.alt 9 (.big 7 (.tk 8 (.big 10 .done))) .stop)))))))) Zy (by kernel_rfl) ?_
   refine Zq 1 rfl (tk rfl (PE.fA Z01 rfl) rfl (ld rfl rfl (lh (v := .int .i64 x15) sc3 rfl rfl) rfl (tk rfl (PE.rem rfl rfl (by omega)) rfl (Zq 1 rfl (tk rfl (PE.fA Z01 rfl) rfl (ld rfl rfl (lh (v := .int .i64 x15) sc3 rfl rfl) rfl ?_))))))
   refine Z1t ?_ ?_
   ·
    refine Z04 bk ?_
    refine cl rfl Z6m rfl rfl (Z2s l0 a0 c0 bk hgl _ _ (by omega) (by assumption) (x15) _ _) ?_
    rintro _ _ R1 ⟨x31, m31, hx31, rfl, hm31, rfl, hR1⟩
    obtain rfl := hR1.symm
    refine bg (fun w hs => ⟨trivial, (lh (v := .int .i64 x15) sc3 rfl rfl) w hs, trivial⟩) ?_
    refine tk rfl (PE.build (out := [.int .i64 ((k : Int) % x15), .int .i64 x31]) Z7S Z2B rfl rfl) rfl (alc rfl Z2B rfl (fun b10 => ?_))
    refine bg (fun w hs => ⟨(lh (v := .int .i64 x15) sc3 rfl rfl) w hs, trivial⟩) ?_
    refine sto rfl rfl rfl Z8F rfl rfl rfl rfl ?_
    refine bgT (Z0 (sqt 5 rfl (sp rfl (PE.fA ZH rfl) rfl (spL rfl rfl (lh sc3 rfl rfl) rfl (sp rfl (PE.fA ZA rfl) rfl (spL rfl rfl (lh sc3 rfl rfl) rfl (pur 1 rfl ?_)))))))
    refine Z2O (ι := {x : Int × Int // ((0 ≤ x.1 ∧ x.1 < x15) ∧ (0 ≤ x.2 ∧ x.2 < x15) ∧ x.1 ≠ x.2)}) (fun x => ⟨[(0, .pointer (some ⟨bk, 0, none⟩)), (6, .pointer (some ⟨b6, 0, none⟩)), (8, .pointer (some ⟨b8, 0, none⟩)), (10, .pointer (some ⟨b10, 0, none⟩)), (20, .int .i64 n20), (21, .int .i64 k)], (b10, cel 46 [.int .i64 (x.1.1), .int .i64 (x.1.2)]) :: (bk, cel 72 [.slice a0 l0.length c0, .int .i64 (tq2 + 1), .int .u32 (m31)]) :: (o.G ++ (b8, cel 26 (htl ⟨x15, l, []⟩ o.fs (.slice none 0 0))) :: (b6, cel 26 [.int .i64 0, .slice none 0 0, .slice none 0 0]) :: H), R⟩) ?_ ?_
    ·
     refine Z1 rfl ?_ ?_ <;> intro hc1 <;> try simp only [cS] at hc1
     ·
      have hr2 : 0 ≤ (x31 + 1) % x15 ∧ (x31 + 1) % x15 < x15 := ⟨Int.emod_nonneg _ (by omega), Int.emod_lt_of_pos _ (by omega)⟩
      have hne : (x31 + 1) % x15 ≠ x31 := by
        rcases Int.lt_or_le (x31 + 1) x15 with h9 | h9
        · rw [Int.emod_eq_of_lt (by omega) h9]; omega
        · rw [show x31 + 1 = x15 by omega, Int.emod_self]; omega
      refine sqr 8 rfl (sp rfl (PE.fA ZA rfl) rfl (spL rfl rfl (lh sc3 rfl rfl) rfl (sp rfl (PE.add rfl rfl (by omega)) rfl (sp rfl (PE.fA Z01 rfl) rfl (spL rfl rfl (lh (v := .int .i64 x15) sc3 rfl rfl) rfl (sp rfl (PE.rem rfl rfl (by omega)) rfl (sp rfl (PE.fA ZA rfl) rfl ?_)))))))
      refine ZQ (l' := [.int .i64 ((k : Int) % x15), .int .i64 ((x31 + 1) % x15)]) rfl rfl rfl cn3 rfl rfl rfl rfl (nl rfl) ?_
      exact ZC ⟨((k : Int) % x15, (x31 + 1) % x15), ⟨hrm, hr2, by dsimp only; omega⟩⟩ (fun w h9 => h9.perm (by first | exact .refl _ | exact List.Perm.swap _ _ _))
     ·
      refine Z2 ?_
      exact ZC ⟨((k : Int) % x15, x31), ⟨hrm, by dsimp only; omega, by dsimp only; omega⟩⟩ (fun w h9 => h9.perm (by first | exact .refl _ | exact List.Perm.swap _ _ _))
    rintro ⟨⟨ga, gb⟩, hgo⟩
    dsimp only at hgo ⊢
    refine Z0 (sqt 2 rfl ?_)
    refine Z04 bk ?_
    refine pur 1 rfl ?_
    refine cl rfl Z9j rfl rfl (Z6B l0 a0 c0 bk hgl _ _ (by omega) (by assumption) (2) _ _) ?_
    rintro _ _ R1 ⟨x46, m46, rfl, hm46, rfl, hR1⟩
    obtain rfl := hR1.symm
    refine Z2O (ι := {x : Int × Int // ((0 ≤ x.1 ∧ x.1 < x15) ∧ (0 ≤ x.2 ∧ x.2 < x15) ∧ x.1 ≠ x.2)}) (fun x => ⟨[(0, .pointer (some ⟨bk, 0, none⟩)), (6, .pointer (some ⟨b6, 0, none⟩)), (8, .pointer (some ⟨b8, 0, none⟩)), (10, .pointer (some ⟨b10, 0, none⟩)), (20, .int .i64 n20), (21, .int .i64 k)], (bk, cel 72 [.slice a0 l0.length c0, .int .i64 (tq2 + 1 + 1), .int .u32 (m46)]) :: (b10, cel 46 [.int .i64 (x.1.1), .int .i64 (x.1.2)]) :: (o.G ++ (b8, cel 26 (htl ⟨x15, l, []⟩ o.fs (.slice none 0 0))) :: (b6, cel 26 [.int .i64 0, .slice none 0 0, .slice none 0 0]) :: H), R⟩) ?_ ?_
    refine Z1 rfl ?_ ?_ <;> intro hc2
    refine sqr 8 rfl (sp rfl (PE.fA ZA rfl) rfl (spL rfl rfl (lh sc3 rfl rfl) rfl (sp rfl (PE.fA ZH rfl) rfl (spL rfl rfl (lh sc3 rfl rfl) rfl (sp rfl (PE.fA ZH rfl) rfl ?_)))))
    refine ZQ (l' := [.int .i64 (gb), .int .i64 (gb)]) rfl rfl rfl cn3 rfl rfl rfl rfl (nl rfl) ?_
    refine sp rfl (PE.fA ZA rfl) rfl ?_
    refine ZQ (l' := [.int .i64 (gb), .int .i64 (ga)]) rfl rfl rfl cn3 rfl rfl rfl rfl (nl rfl) ?_
    first | exact ZC ⟨(gb, ga), ⟨hgo.2.1, hgo.1, Ne.symm hgo.2.2⟩⟩ idH | exact ZC ⟨(ga, gb), hgo⟩ idH
    refine Z2 ?_
    first | exact ZC ⟨(gb, ga), ⟨hgo.2.1, hgo.1, Ne.symm hgo.2.2⟩⟩ idH | exact ZC ⟨(ga, gb), hgo⟩ idH
    rintro ⟨⟨ua, ub⟩, hgo2⟩
    dsimp only at hgo2 ⊢
    refine sqr 7 rfl (sp rfl (PE.fA ZJ rfl) rfl (spL rfl rfl (lh Z2e rfl rfl) rfl (spL rfl rfl (lhA [.int .i64 ua, .int .i64 ub] Z4B rfl rfl rfl) rfl ?_)))
    refine bsl (out := [_, _]) rfl Z7V Z2B rfl rfl rfl rfl rfl rfl (fun b56 => ?_)
    refine apO (o) rfl Zdi rfl rfl (Z1a (row := Z1e ⟨ua, ub⟩) rfl) rfl rfl ((by rw [Z05]; simp only [List.length_singleton]; omega)) rfl (fun o57 => ?_)
    refine sp rfl (PE.fA ZJ rfl) rfl ?_
    refine ZQ (l' := htl ⟨x15, l ++ [⟨ua, ub⟩], []⟩ o57.fs (.slice none 0 0)) rfl rfl rfl ZdE rfl (by rw [o57.cells.1]; first | done | rfl) (by rw [o57.cells.1]; simp [o57.cells.2]) (by rw [o57.cells.1]; first | done | rfl) (by rw [o57.cells.1]; first | done | exact Nat.le_of_ble_eq_true rfl) ?_
    refine sqr 2 rfl (sp rfl (PE.add rfl rfl (by omega)) rfl (pur 1 rfl ?_))
    exact Z8 ⟨⟨(k + 1, l ++ [⟨ua, ub⟩], tq2 + 1 + 1, m46), by dsimp only; omega, ⟨by simp [hll], fun g hg => (List.mem_append.1 hg).elim (hlg g) (fun h9 => by rw [List.mem_singleton.1 h9]; exact hgo2)⟩, by dsimp only; omega, by assumption⟩, o57.cast (by simp [Zb])⟩ (fun w h9 => ((h9.del b56).del b10).perm (by first | exact .refl _ | exact (Zl _ [_] _).symm))
   refine Z1t ?_ ?_
   ·
    refine alc rfl Z2B rfl (fun b10 => ?_)
    refine bg (fun w hs => ⟨(lh (v := .int .i64 x15) sc3 rfl rfl) w hs, (lh (v := .int .i64 x15) sc3 rfl rfl) w hs, trivial⟩) ?_
    refine Z04 bk ?_
    refine cl rfl Z6m rfl rfl (Z2s l0 a0 c0 bk hgl _ _ (by omega) (by assumption) (x15) _ _) ?_
    rintro _ _ R1 ⟨x31, m31, hx31, rfl, hm31, rfl, hR1⟩
    obtain rfl := hR1.symm
    refine bg (fun w hs => ⟨trivial, (lh (v := .int .i64 x15) sc3 rfl rfl) w hs, trivial⟩) ?_
    refine tk rfl (PE.build (out := [.int .i64 ((k : Int) % x15), .int .i64 x31]) Z7S Z2B rfl rfl) rfl ?_
    refine sto rfl rfl rfl Z8F rfl rfl rfl rfl ?_
    refine bgT (Z0 (sqt 5 rfl (sp rfl (PE.fA ZH rfl) rfl (spL rfl rfl (lh sc3 rfl rfl) rfl (sp rfl (PE.fA ZA rfl) rfl (spL rfl rfl (lh sc3 rfl rfl) rfl (pur 1 rfl ?_)))))))
    refine Z2O (ι := {x : Int × Int // ((0 ≤ x.1 ∧ x.1 < x15) ∧ (0 ≤ x.2 ∧ x.2 < x15) ∧ x.1 ≠ x.2)}) (fun x => ⟨[(0, .pointer (some ⟨bk, 0, none⟩)), (6, .pointer (some ⟨b6, 0, none⟩)), (8, .pointer (some ⟨b8, 0, none⟩)), (10, .pointer (some ⟨b10, 0, none⟩)), (20, .int .i64 n20), (21, .int .i64 k)], (b10, cel 46 [.int .i64 (x.1.1), .int .i64 (x.1.2)]) :: (bk, cel 72 [.slice a0 l0.length c0, .int .i64 (tq2 + 1), .int .u32 (m31)]) :: (o.G ++ (b8, cel 26 (htl ⟨x15, l, []⟩ o.fs (.slice none 0 0))) :: (b6, cel 26 [.int .i64 0, .slice none 0 0, .slice none 0 0]) :: H), R⟩) ?_ ?_
    ·
     refine Z1 rfl ?_ ?_ <;> intro hc1 <;> try simp only [cS] at hc1
     ·
      have hr2 : 0 ≤ (x31 + 1) % x15 ∧ (x31 + 1) % x15 < x15 := ⟨Int.emod_nonneg _ (by omega), Int.emod_lt_of_pos _ (by omega)⟩
      have hne : (x31 + 1) % x15 ≠ x31 := by
        rcases Int.lt_or_le (x31 + 1) x15 with h9 | h9
        · rw [Int.emod_eq_of_lt (by omega) h9]; omega
        · rw [show x31 + 1 = x15 by omega, Int.emod_self]; omega
      refine sqr 8 rfl (sp rfl (PE.fA ZA rfl) rfl (spL rfl rfl (lh sc3 rfl rfl) rfl (sp rfl (PE.add rfl rfl (by omega)) rfl (sp rfl (PE.fA Z01 rfl) rfl (spL rfl rfl (lh (v := .int .i64 x15) sc3 rfl rfl) rfl (sp rfl (PE.rem rfl rfl (by omega)) rfl (sp rfl (PE.fA ZA rfl) rfl ?_)))))))
      refine ZQ (l' := [.int .i64 ((k : Int) % x15), .int .i64 ((x31 + 1) % x15)]) rfl rfl rfl cn3 rfl rfl rfl rfl (nl rfl) ?_
      exact ZC ⟨((k : Int) % x15, (x31 + 1) % x15), ⟨hrm, hr2, by dsimp only; omega⟩⟩ (fun w h9 => h9.perm (by first | exact .refl _ | exact List.Perm.swap _ _ _))
     ·
      refine Z2 ?_
      exact ZC ⟨((k : Int) % x15, x31), ⟨hrm, by dsimp only; omega, by dsimp only; omega⟩⟩ (fun w h9 => h9.perm (by first | exact .refl _ | exact List.Perm.swap _ _ _))
    rintro ⟨⟨ga, gb⟩, hgo⟩
    dsimp only at hgo ⊢
    refine Z0 (sqt 2 rfl ?_)
    refine Z04 bk ?_
    refine pur 1 rfl ?_
    refine cl rfl Z9j rfl rfl (Z6B l0 a0 c0 bk hgl _ _ (by omega) (by assumption) (2) _ _) ?_
    rintro _ _ R1 ⟨x46, m46, rfl, hm46, rfl, hR1⟩
    obtain rfl := hR1.symm
    refine Z2O (ι := {x : Int × Int // ((0 ≤ x.1 ∧ x.1 < x15) ∧ (0 ≤ x.2 ∧ x.2 < x15) ∧ x.1 ≠ x.2)}) (fun x => ⟨[(0, .pointer (some ⟨bk, 0, none⟩)), (6, .pointer (some ⟨b6, 0, none⟩)), (8, .pointer (some ⟨b8, 0, none⟩)), (10, .pointer (some ⟨b10, 0, none⟩)), (20, .int .i64 n20), (21, .int .i64 k)], (bk, cel 72 [.slice a0 l0.length c0, .int .i64 (tq2 + 1 + 1), .int .u32 (m46)]) :: (b10, cel 46 [.int .i64 (x.1.1), .int .i64 (x.1.2)]) :: (o.G ++ (b8, cel 26 (htl ⟨x15, l, []⟩ o.fs (.slice none 0 0))) :: (b6, cel 26 [.int .i64 0, .slice none 0 0, .slice none 0 0]) :: H), R⟩) ?_ ?_
    refine Z1 rfl ?_ ?_ <;> intro hc2
    refine sqr 8 rfl (sp rfl (PE.fA ZA rfl) rfl (spL rfl rfl (lh sc3 rfl rfl) rfl (sp rfl (PE.fA ZH rfl) rfl (spL rfl rfl (lh sc3 rfl rfl) rfl (sp rfl (PE.fA ZH rfl) rfl ?_)))))
    refine ZQ (l' := [.int .i64 (gb), .int .i64 (gb)]) rfl rfl rfl cn3 rfl rfl rfl rfl (nl rfl) ?_
    refine sp rfl (PE.fA ZA rfl) rfl ?_
    refine ZQ (l' := [.int .i64 (gb), .int .i64 (ga)]) rfl rfl rfl cn3 rfl rfl rfl rfl (nl rfl) ?_
    first | exact ZC ⟨(gb, ga), ⟨hgo.2.1, hgo.1, Ne.symm hgo.2.2⟩⟩ idH | exact ZC ⟨(ga, gb), hgo⟩ idH
    refine Z2 ?_
    first | exact ZC ⟨(gb, ga), ⟨hgo.2.1, hgo.1, Ne.symm hgo.2.2⟩⟩ idH | exact ZC ⟨(ga, gb), hgo⟩ idH
    rintro ⟨⟨ua, ub⟩, hgo2⟩
    dsimp only at hgo2 ⊢
    refine sqr 7 rfl (sp rfl (PE.fA ZJ rfl) rfl (spL rfl rfl (lh Z2e rfl rfl) rfl (spL rfl rfl (lhA [.int .i64 ua, .int .i64 ub] Z4B rfl rfl rfl) rfl ?_)))
    refine bsl (out := [_, _]) rfl Z7V Z2B rfl rfl rfl rfl rfl rfl (fun b56 => ?_)
    refine apO (o) rfl Zdi rfl rfl (Z1a (row := Z1e ⟨ua, ub⟩) rfl) rfl rfl ((by rw [Z05]; simp only [List.length_singleton]; omega)) rfl (fun o57 => ?_)
    refine sp rfl (PE.fA ZJ rfl) rfl ?_
    refine ZQ (l' := htl ⟨x15, l ++ [⟨ua, ub⟩], []⟩ o57.fs (.slice none 0 0)) rfl rfl rfl ZdE rfl (by rw [o57.cells.1]; first | done | rfl) (by rw [o57.cells.1]; simp [o57.cells.2]) (by rw [o57.cells.1]; first | done | rfl) (by rw [o57.cells.1]; first | done | exact Nat.le_of_ble_eq_true rfl) ?_
    refine sqr 2 rfl (sp rfl (PE.add rfl rfl (by omega)) rfl (pur 1 rfl ?_))
    exact Z8 ⟨⟨(k + 1, l ++ [⟨ua, ub⟩], tq2 + 1 + 1, m46), by dsimp only; omega, ⟨by simp [hll], fun g hg => (List.mem_append.1 hg).elim (hlg g) (fun h9 => by rw [List.mem_singleton.1 h9]; exact hgo2)⟩, by dsimp only; omega, by assumption⟩, o57.cast (by simp [Zb])⟩ (fun w h9 => ((h9.del b56).del b10).perm (by first | exact .refl _ | exact (Zl _ [_] _).symm))
   exact Z2u
  obtain rfl : k = n20 := by omega
  obtain ⟨ag, cg, he, hcg, hf⟩ := o.freezeC
  rw [Z05] at hcg
  rw [he, Z05]
  refine Z04 bk ?_
  refine Sy.heap (H' := _) (fun w h9 => hf (h9.perm (List.perm_middle (l₁ := o.G) (a := _)).symm)) ?_
  clear he hf
  obtain ⟨B, rfl⟩ : ∃ B : Nat, x15 = B := ⟨x15.toNat, by omega⟩
  refine Z9 (Za (Za (Zo (sqt 1 rfl (pur 1 rfl (Z0 (sqt 3 rfl (sp rfl (PE.fA Z01 rfl) rfl (spL rfl rfl (lh sc3 rfl rfl) rfl (pur 1 rfl (Z3 ?_)))))))))))
  refine Zd (ι := (x : {x : Nat × (Nat → Bool) × Int × Int // x.1 ≤ B ∧ (tq ≤ x.2.2.1 ∧ x.2.2.1 ≤ tq + 40 + x.1) ∧ (0 ≤ x.2.2.2 ∧ x.2.2.2 ≤ 4294967295)}) × OSl 3 1 (Z6 (Zu x.1.2.1 x.1.1))) (fun x => ⟨[(0, .pointer (some ⟨bk, 0, none⟩)), (6, .pointer (some ⟨b6, 0, none⟩)), (8, .pointer (some ⟨b8, 0, none⟩)), (11, x.2.fs), (61, .int .i64 B), (62, .int .i64 x.1.1.1)],
    (bk, cel 72 [.slice a0 l0.length c0, .int .i64 (x.1.1.2.2.1), .int .u32 (x.1.1.2.2.2)]) :: (x.2.G ++ (b8, cel 26 (htl ⟨B, l, []⟩ (.slice ag l.length cg) (.slice none 0 0))) :: (b6, cel 26 [.int .i64 0, .slice none 0 0, .slice none 0 0]) :: H), RowsA ag 2 (Zb l) :: R⟩) (fun x => B - x.1.1.1) ⟨⟨(0, fun _ => false, tq2, mx2), by omega, by dsimp only; omega, by assumption⟩, OSl.nil _ _⟩ ?_ (fun x => ?_)
  exact Zp idH
  obtain ⟨⟨⟨i, p, tq3, mx3⟩, hi, htq3, hmx3⟩, o2⟩ := x
  dsimp only at hi htq3 hmx3 o2 ⊢
  have hfl := Z2o p i
  refine sqt 1 rfl (pur 1 rfl (Z0 ?_))
  refine Z1 rfl ?_ ?_ <;> intro hc3 <;> try simp only [cS] at hc3
  refine Z2 (Z0 (Z3 (sqt 2 rfl (pur 2 rfl (sqt 2 rfl ?_)))))
  refine Z04 bk ?_
  refine pur 1 rfl ?_
  refine cl rfl Z9j rfl rfl (Z6B l0 a0 c0 bk hgl _ _ (by omega) (by assumption) (3) _ _) ?_
  rintro _ _ R1 ⟨x66, m66, rfl, hm66, rfl, hR1⟩
  obtain rfl := hR1.symm
  refine Z1 rfl ?_ ?_ <;> intro hc4 <;> try simp only [cS] at hc4
  refine sqr 5 rfl (pur 2 rfl ?_)
  refine bsl (out := [_]) rfl Z0Z zl3 rfl rfl rfl rfl rfl rfl (fun b69 => ?_)
  refine apO (o2) rfl Z3S rfl rfl (Z1a (row := [.int .i64 i]) rfl) rfl rfl ((by rw [irl]; simp only [List.length_singleton]; omega)) rfl (fun o70 => ?_)
  refine pur 1 rfl (sqr 2 rfl (sp rfl (PE.add rfl rfl (by omega)) rfl (pur 1 rfl ?_)))
  have hput := Z5G p i true
  exact Z8 ⟨⟨(i + 1, fun j => bif decide (j = i) then true else p j, tq3 + 1, m66), by dsimp only; omega, by dsimp only; omega, by assumption⟩, o70.cast (by rw [hput]; simp [Z6])⟩ (fun w h9 => (h9.del b69).perm (by first | exact .refl _ | exact (Zl _ [_] _).symm))
  refine Z2 (sqr 2 rfl (sp rfl (PE.add rfl rfl (by omega)) rfl (pur 1 rfl ?_)))
  have hput := Z5G p i false
  exact Z8 ⟨⟨(i + 1, fun j => bif decide (j = i) then false else p j, tq3 + 1, m66), by dsimp only; omega, by dsimp only; omega, by assumption⟩, o2.cast (by rw [hput]; simp [Z6])⟩ idH
  obtain rfl : i = B := by omega
  obtain ⟨ar, cr, he, hcr, hf⟩ := o2.freezeC
  rw [irl] at hcr
  rw [he, irl]
  refine Z04 bk ?_
  refine Sy.heap (H' := _) (fun w h9 => hf (h9.perm (List.perm_middle (l₁ := o2.G) (a := _)).symm)) ?_
  clear he hf
  refine Z9 (Za (Za (Zo (sqt 4 rfl (spL rfl rfl (lhA (htl ⟨(i : Int), l, []⟩ (.slice ag l.length cg) (.slice none 0 0)) Z0F rfl rfl rfl) rfl (pur 1 rfl ?_))))))
  refine ZQ (l' := htl ⟨(i : Int), l, []⟩ (.slice ag l.length cg) (.slice none 0 0)) rfl rfl rfl Z85 rfl rfl rfl rfl (Nat.le_refl _) ?_
  refine pur 1 rfl (Z5 ?_)
  exact Zk (vs := [_, _]) rfl (.cons (RV.cell rfl (lhA [_, _, _] Z0F rfl rfl rfl)) (.cons (RV.tmp rfl) .nil)) rfl ⟨⟨(i : Int), l, []⟩, p, ag, ar, cg, cr, tq3, mx3, ⟨by dsimp only; omega, by dsimp only; omega, hlg, rfl⟩, hcg, hcr, rfl, by omega, by assumption, rfl, rfl⟩ (fun w h9 => St.norows ((h9.del b8).del b6))
theorem ZdH : Z4n Try.prog 93 = some 2 := by kernel_rfl
theorem ZaE : arN Try.prog 93 = some (2, 1) := by kernel_rfl
theorem ZdU : Z0J Try.prog 93 = some 2 := by kernel_rfl
theorem ZdR : elN Try.prog 94 = some 2 := by kernel_rfl
theorem Zdp : Z5C Try.prog 94 = true := by kernel_rfl
theorem ZdN : slE Try.prog 94 = some (93, 2) := by kernel_rfl
theorem Zcm : ZP Try.prog 93 = some ([.int .i64 0, .int .i64 0]) := by kernel_rfl
theorem FnV.lendO {P : Program} {f : FuncId} {v : Value} {e sz : Nat} {rows : List (List Value)} (o : OSl e sz rows) (mk : Value → List Value) {T : Z7} {R : Z4}
    (h : ∀ (a : Option Addr) (c : Nat) (B : World → Prop), FnV P f (mk (.slice a rows.length c)) T (RowsA a sz rows :: B :: R) v) : FnV P f (mk o.fs) (o.G ++ T) R v := fun w hw => by
  obtain ⟨fs, G, hl, his⟩ := o
  rcases his with ⟨rfl, rfl, rfl⟩ | ⟨b, cap, junk, rfl, rfl, h1, h2, h3⟩
  · have h3 : St T (RowsA none sz [] :: (fun _ => True) :: R) w := St.also (St.also hw (f := fun _ => True) (fun _ _ => trivial)) (fun w' _ i row hi => by simp at hi)
    refine CallsIn.mono (h none 0 _ w h3) ?_
    rintro e' w' ⟨u, H', R', ⟨rfl, rfl, rfl⟩, he, hs'⟩
    exact ⟨_, _, R, ⟨rfl, rfl, rfl⟩, he, hs'.ftail.ftail⟩
  · exact FnV.lend (H := (b, cel e (rows.flatten ++ junk)) :: T) (b := b) (e := e) (sz := sz) (rows := rows) (junk := junk) hl (fun B => h _ cap B) w hw
set_option maxHeartbeats 1000000 in
theorem Z8L (h : Hse) (ag as_ : Option Addr) (cg cs : Nat) (hok : h.ok) (fr : List Int) (af : Option Addr) (cf : Nat) (hfl0 : fr.length ≤ 1000000) (hfr : ∀ x ∈ fr, 0 ≤ x) (pl : List PL) (ap : Option Addr) (cp : Nat) (hpl : pl.length ≤ 1000000) (hpt : (lls pl).flatten.length ≤ 1000000) (hpx : ∀ x ∈ (lls pl).flatten, 0 ≤ x) (H : Z7) (R : Z4) [hG : MemRows ag 2 (Zb h.gaps) R] [hF : MemRows af 1 (Z6 fr) R] [hP : MemRows ap 1 (ZL pl) R] [hI : MemF (Inn pl) R] :
    Fn Try.prog 19 [h.v (h.sg ag cg) (h.ss as_ cs), .slice af fr.length cf, .slice ap pl.length cp] H R (fun v H' R' => ∃ (a : Option Addr) (c : Nat), v = .slice a h.bins.toNat c ∧ H' = H ∧ R' = RowsA a 1 (Z6 (Z4i h.gaps (clP pl) (msk fr) h.bins.toNat)) :: R) := by
 refine Zf Try.func19 rfl Try.ntmps19 rfl ?_
 refine sqt 2 rfl ?_
 have hbn := hok.bins
 have hgn := hok.gl
 obtain ⟨B, hB⟩ : ∃ B : Nat, h.bins = B := ⟨h.bins.toNat, by omega⟩
 rw [show h.bins.toNat = B by omega]
 refine bx rfl rfl rfl (fun b3 => pur 1 rfl (sqt 4 rfl (sp rfl (PE.fA Z01 rfl) rfl (spL rfl rfl (lh (v := .int .i64 h.bins) sc3 rfl rfl) rfl ?_))))
 rw [hB]
 refine mkS rfl Z3S zl3 rfl rfl (Nat.le_refl _) ⟨by omega, by omega⟩ rfl (fun b17 => ?_)
 rw [Zdm, Z8H (in0 fr)]
 refine pur 1 rfl (Z0 (sqt 3 rfl (pur 1 rfl (sp rfl (PE.lenSl ZD rfl) rfl (pur 1 rfl (Z3 ?_))))))
 refine Zd (ι := {k : Nat // k ≤ B}) (fun x => ⟨[(0, h.v (h.sg ag cg) (h.ss as_ cs)), (1, .slice af fr.length cf), (2, .slice ap pl.length cp), (3, .pointer (some ⟨b3, 0, none⟩)), (7, .slice (some ⟨b17, 0, none⟩) B B), (19, .int .i64 B), (20, .int .i64 x.1)], (b17, cel 3 (Zs (ini (in0 fr) B x.1))) :: (b3, cel 26 (htl h (h.sg ag cg) (h.ss as_ cs))) :: H, R⟩) (fun x => B - x.1) ⟨0, by omega⟩ ?_ (fun x => ?_)
 exact Zp idH
 obtain ⟨k, hk⟩ := x
 dsimp only at hk ⊢
 refine sqt 1 rfl (pur 1 rfl (Z0 ?_))
 refine Z1 rfl ?_ ?_ <;> intro hc0 <;> try simp only [cS] at hc0
 refine Z2 (Z0 (Z3 (sqt 2 rfl (pur 2 rfl (sqt 4 rfl (pur 2 rfl (sp rfl (PE.indexAddr Z0o rfl rfl (by omega) (by omega)) rfl ?_)))))))
 refine ZQ (l' := Zs ((ini (in0 fr) B k).set k 100)) rfl rfl rfl cn3 rfl rfl rfl (Z12 (by rw [ZS]; omega) (by show 0 + ((k : Nat) : Int).toNat * 1 = k; omega)) (by rw [Zn]; (first | rw [ZS] | rw [List.length_set, ZS] | rw [hfl]); show 0 + ((k : Nat) : Int).toNat * 1 + 1 ≤ _; omega) ?_
 refine sqt 3 rfl (pur 2 rfl ?_)
 refine clV rfl Z4E rfl rfl (ZB fr af cf (k : Int) (by omega) _ _) ?_
 refine Z1 rfl ?_ ?_ <;> intro hc1 <;> try simp only [cS] at hc1
 refine sqr 4 rfl (pur 2 rfl (sp rfl (PE.indexAddr Z0o rfl rfl (by omega) (by omega)) rfl ?_))
 refine ZQ (l' := Zs (((ini (in0 fr) B k).set k 100).set k 0)) rfl rfl rfl cn3 rfl rfl rfl (Z12 (by rw [List.length_set, ZS]; omega) (by show 0 + ((k : Nat) : Int).toNat * 1 = k; omega)) (by rw [Zn]; (first | rw [ZS] | rw [List.length_set, ZS] | rw [hfl]); show 0 + ((k : Nat) : Int).toNat * 1 + 1 ≤ _; omega) ?_
 refine sqr 2 rfl (sp rfl (PE.add rfl rfl (by omega)) rfl (pur 1 rfl ?_))
 rw [Z5n, Z6s (k := k) (by omega) (by unfold in0; rw [show Z36 fr (k : Int) = _ from hc1]; rfl)]
 exact Z8 ⟨k + 1, by omega⟩ idH
 refine Z2 (sqr 2 rfl (sp rfl (PE.add rfl rfl (by omega)) rfl (pur 1 rfl ?_)))
 rw [Z6s (k := k) (by omega) (by unfold in0; rw [show Z36 fr (k : Int) = _ from hc1]; rfl)]
 exact Z8 ⟨k + 1, by omega⟩ idH
 obtain rfl : k = B := by omega
 have hst := FolI.start (gs := h.gaps) (cl := (clP pl)) hfr k
 refine Z9 (Za (Za (Zo (sqt 1 rfl (pur 1 rfl (Z0 (sqt 1 rfl (pur 1 rfl (Z3 ?_)))))))))
 refine Zd (ι := (x : {x : Nat × List Int // x.1 ≤ 20 ∧ FolI h.gaps (clP pl) (msk fr) k x.1 (Z2p h.gaps ((clP pl) x.1) (lvp h.gaps (clP pl) (msk fr) x.1) 0) x.2}) × OSl 3 1 (Z6 (Z3l pl x.1.1))) (fun x => ⟨[(0, h.v (h.sg ag cg) (h.ss as_ cs)), (1, .slice af fr.length cf), (2, .slice ap pl.length cp), (3, .pointer (some ⟨b3, 0, none⟩)), (7, .slice (some ⟨b17, 0, none⟩) k k), (9, x.2.fs), (33, .int .i64 x.1.1.1)], x.2.G ++ ((b17, cel 3 (Zs (x.1.1.2))) :: (b3, cel 26 (htl h (h.sg ag cg) (h.ss as_ cs))) :: H), R⟩) (fun x => 20 - x.1.1.1) ⟨⟨(0, ini (in0 fr) k k), by omega, hst⟩, OSl.nil _ _⟩ ?_ (fun x => ?_)
 exact Zp idH
 obtain ⟨⟨⟨w, o⟩, hw, hfo⟩, oc⟩ := x
 dsimp only at hw hfo oc ⊢
 have hcl := Z1S pl w
 have hcl2 := Z1S pl (w + 1)
 refine sqt 1 rfl (pur 1 rfl (Z0 ?_))
 refine Z1 rfl ?_ ?_ <;> intro hc2 <;> try simp only [cS] at hc2
 refine Z2 (Z0 (Z3 (sqt 2 rfl (pur 2 rfl (Z0 (sqt 4 rfl (pur 2 rfl (sp rfl (PE.lenSl Z5Y rfl) rfl (pur 1 rfl ?_)))))))))
 refine Z2O (ι := OSl 3 1 (Z6 (Z3l pl (w + 1)))) (fun oc => ⟨[(0, h.v (h.sg ag cg) (h.ss as_ cs)), (1, .slice af fr.length cf), (2, .slice ap pl.length cp), (3, .pointer (some ⟨b3, 0, none⟩)), (7, .slice (some ⟨b17, 0, none⟩) k k), (9, oc.fs), (10, .int .i64 w), (33, .int .i64 w)], oc.G ++ ((b17, cel 3 (Zs (o))) :: (b3, cel 26 (htl h (h.sg ag cg) (h.ss as_ cs))) :: H), R⟩) ?_ ?_
 refine Z1 rfl ?_ ?_ <;> intro hc3 <;> try simp only [cS] at hc3
 obtain ⟨x, hx⟩ : ∃ x, pl[w]? = some x := ⟨_, List.getElem?_eq_getElem (by omega)⟩
 have hst := Z2H hx
 have hsl := congrArg List.length hst
 rw [List.length_append] at hsl
 refine Zh (a := ap) (sz := 1) (rows := ZL pl) (ne0 (by rw [Z0j]; omega)) (fun ba oa he => ?_)
 subst he
 refine Sy.heap (fun w h9 => St.inn (x := x) h9 (List.mem_of_getElem? hx)) ?_
 refine sqr 7 rfl (pur 3 rfl (sp rfl (PE.indexAddr Zbl rfl rfl (by omega) (by omega)) rfl (spL rfl rfl (lf0 Z31 (Z7I hx) rfl) rfl ?_)))
 refine apO (news := Z6 x.l) oc rfl Z3S rfl rfl (Z7a) (irl _) (by simp [Z00, Z6, Value.oneCell']) (by rw [irl, irl]; omega) rfl (fun o45 => ?_)
 refine pur 1 rfl ?_
 first | exact ZC (o45.cast (by rw [hst]; simp [Z6])) (fun w h9 => h9.ftail) | exact ZC (oc.cast (by rw [Z52 (by omega)])) idH
 refine Z2 ?_
 first | exact ZC (o45.cast (by rw [hst]; simp [Z6])) (fun w h9 => h9.ftail) | exact ZC (oc.cast (by rw [Z52 (by omega)])) idH
 intro oc
 dsimp only
 refine sqt 4 rfl (sp rfl (PE.fA ZJ rfl) rfl (spL rfl rfl (lh Z2e rfl rfl) rfl (sp rfl (PE.lenSl Z0M rfl) rfl (pur 1 rfl (Z3 ?_)))))
 refine Zd (ι := {x : Nat × List Int // x.1 ≤ h.gaps.length ∧ FolI h.gaps (clP pl) (msk fr) k w (Z2p h.gaps ((clP pl) w) (lvp h.gaps (clP pl) (msk fr) w) (x.1)) x.2}) (fun x => ⟨[(0, h.v (h.sg ag cg) (h.ss as_ cs)), (1, .slice af fr.length cf), (2, .slice ap pl.length cp), (3, .pointer (some ⟨b3, 0, none⟩)), (7, .slice (some ⟨b17, 0, none⟩) k k), (9, oc.fs), (10, .int .i64 w), (33, .int .i64 w), (47, h.sg ag cg), (48, .int .i64 h.gaps.length), (49, .int .i64 x.1.1)], oc.G ++ ((b17, cel 3 (Zs (x.1.2))) :: (b3, cel 26 (htl h (h.sg ag cg) (h.ss as_ cs))) :: H), R⟩) (fun x => h.gaps.length - x.1.1) ⟨(0, o), by omega, hfo⟩ ?_ (fun x => ?_)
 exact Zp idH
 obtain ⟨⟨i, o⟩, hi, hfo⟩ := x
 dsimp only at hi hfo ⊢
 refine sqt 1 rfl (pur 1 rfl (Z0 ?_))
 refine Z1 rfl ?_ ?_ <;> intro hc4 <;> try simp only [cS] at hc4
 obtain ⟨gg, hg⟩ : ∃ g, h.gaps[i]? = some g := ⟨_, List.getElem?_eq_getElem (by omega)⟩
 have hgo := hok.gaps gg (List.mem_of_getElem? hg)
 refine Zh (a := ag) (sz := 2) (rows := Zb h.gaps) (ne0 (by rw [Z05]; omega)) (fun ba oa he => ?_)
 subst he
 refine Z2 (Z0 (Z3 (sqt 6 rfl (pur 1 rfl (sp rfl (PE.indexAddr Z6g rfl rfl (by omega) (by omega)) rfl (spL rfl rfl (lfA Z4B (row := Z1e gg) (Z14 hg) rfl) rfl (alc rfl Z2B rfl (fun b12 => pur 1 rfl ?_))))))))
 refine ZQ (l' := Z1e gg) rfl rfl rfl Z8F rfl rfl rfl rfl (nl rfl) ?_
 refine Z0 (sqt 3 rfl (pur 2 rfl ?_))
 refine Sy.heap (H' := oc.G ++ ((b12, cel 46 (Z1e gg)) :: _)) (fun w h9 => h9.perm (Zl [_] _ _)) ?_
 refine clV rfl Z4E rfl rfl (FnV.lendO oc (fun v => [v, .int .i64 i]) (fun a5 c5 _ => by rw [irl]; exact ZB (Z3l pl (w + 1)) a5 c5 (i : Int) (by omega) _ _)) ?_
 refine Z1 rfl ?_ ?_ <;> intro hc5 <;> try simp only [cS] at hc5
 have hcb : (clP pl w).testBit i = true := by unfold clP; rw [← Z4J (fun x hx => hpx x (Z51 hx))]; exact hc5
 refine Z9 (Za (Zo (sqr 2 rfl (sp rfl (PE.add rfl rfl (by omega)) rfl (pur 1 rfl ?_)))))
 exact Z8 ⟨(i + 1, o), by dsimp only; omega, hfo.shut hcb⟩ (fun w h9 => h9.del b12)
 have hcb : (clP pl w).testBit i = false := by unfold clP; rw [← Z4J (fun x hx => hpx x (Z51 hx))]; exact hc5
 refine Z2 (sqt 13 rfl (sp rfl (PE.fA ZH rfl) rfl (spL rfl rfl (lh sc3 rfl rfl) rfl (sp rfl (PE.fA ZA rfl) rfl (spL rfl rfl (lh sc3 rfl rfl) rfl (sp rfl (PE.buildArr (out := [_, _]) ZaE Zcm rfl rfl) rfl (sp rfl (PE.fA ZA rfl) rfl (spL rfl rfl (lh sc3 rfl rfl) rfl (sp rfl (PE.fA ZH rfl) rfl (spL rfl rfl (lh sc3 rfl rfl) rfl (sp rfl (PE.buildArr (out := [_, _]) ZaE Zcm rfl rfl) rfl ?_)))))))))))
 refine bsl (out := [_, _, _, _]) rfl ZdN Zcm rfl rfl rfl rfl rfl rfl (fun b67 => ?_)
 refine sp rfl (PE.lenSl Zdp rfl) rfl (pur 1 rfl (Z3 ?_))
 refine Zd (ι := {x : Nat × List Int // x.1 ≤ 2 ∧ FolI h.gaps (clP pl) (msk fr) k w (ZcY (lvp h.gaps (clP pl) (msk fr) w) (Z2p h.gaps ((clP pl) w) (lvp h.gaps (clP pl) (msk fr) w) (i)) gg x.1) x.2}) (fun x => ⟨[(0, h.v (h.sg (some ⟨ba, oa, none⟩) cg) (h.ss as_ cs)), (1, .slice af fr.length cf), (2, .slice ap pl.length cp), (3, .pointer (some ⟨b3, 0, none⟩)), (7, .slice (some ⟨b17, 0, none⟩) k k), (9, oc.fs), (10, .int .i64 w), (33, .int .i64 w), (47, h.sg (some ⟨ba, oa, none⟩) cg), (48, .int .i64 h.gaps.length), (49, .int .i64 i), (67, .slice (some ⟨b67, 0, none⟩) 2 2), (68, .int .i64 2), (69, .int .i64 x.1.1)], (b67, cel 93 (Zdz gg)) :: (oc.G ++ ((b12, cel 46 (Z1e gg)) :: (b17, cel 3 (Zs (x.1.2))) :: (b3, cel 26 (htl h (h.sg (some ⟨ba, oa, none⟩) cg) (h.ss as_ cs))) :: H)), R⟩) (fun x => 2 - x.1.1) ⟨(0, o), by omega, hfo⟩ ?_ (fun x => ?_)
 exact Zp idH
 obtain ⟨⟨j, o⟩, hj, hfo⟩ := x
 dsimp only at hj hfo ⊢
 have hfl := hfo.len
 refine sqt 1 rfl (pur 1 rfl (Z0 ?_))
 refine Z1 rfl ?_ ?_ <;> intro hc6 <;> try simp only [cS] at hc6
 obtain ⟨u, v, rest, hu, hv, hdr, hacc⟩ := Za5 (s := (lvp h.gaps (clP pl) (msk fr) w)) (acc := (Z2p h.gaps ((clP pl) w) (lvp h.gaps (clP pl) (msk fr) w) (i))) (n := k) (show 0 ≤ gg.a ∧ gg.a < (k : Int) by omega) (show 0 ≤ gg.b ∧ gg.b < (k : Int) by omega) (show j < 2 by omega)
 have hbu := hfo.bd (by omega) hu
 have hbv := hfo.bd (by omega) hv
 refine Z2 (Z0 (Z3 (sqt 4 rfl (sp rfl (PE.indexAddr ZdR rfl rfl (by omega) (by omega)) rfl (spL rfl rfl (lhA [.int .i64 (u : Int), .int .i64 (v : Int)] ZdH rfl (rest := rest) (by rw [← hdr]; congr 1; show 0 + ((j : Nat) : Int).toNat * 2 = j * 2; omega) rfl) rfl (alc rfl Zcm rfl (fun b14 => ?_)))))))
 refine ZQ (l' := [.int .i64 (u : Int), .int .i64 (v : Int)]) rfl rfl rfl ZdU rfl rfl rfl rfl (nl rfl) ?_
 refine sqt 16 rfl (pur 1 rfl (sp rfl (PE.indexArr ZaE rfl rfl (by omega) (by omega)) rfl (spL rfl rfl (lh sc3 rfl rfl) rfl (sp rfl (PE.indexAddr Z0o rfl rfl (by omega) (by omega)) rfl (spL rfl rfl (lh sc3 rfl (Z0G (w := o) (k := u) (by omega) (by show 0 + ((u : Nat) : Int).toNat * 1 = u; omega))) rfl (pur 3 rfl ?_))))))
 refine Zt 80 rfl ?_ ?_ <;> intro g80
 simp only [decide_eq_true_eq] at g80
 refine pur 1 rfl ?_
 refine spG rfl rfl rfl rfl (PE.indexArr ZaE rfl rfl (by omega) (by omega)) rfl ?_
 refine Z1i rfl rfl rfl rfl rfl (lh sc3 rfl rfl) rfl ?_
 refine spG rfl rfl rfl rfl (PE.indexAddr Z0o rfl rfl (by omega) (by omega)) rfl ?_
 refine Z1i rfl rfl rfl rfl rfl (lh sc3 rfl (Z0G (w := o) (k := v) (by omega) (by show 0 + ((v : Nat) : Int).toNat * 1 = v; omega))) rfl (pur 3 rfl ?_)
 refine Z1 rfl ?_ ?_ <;> intro hc7 <;> try simp only [cS] at hc7
 refine Ze [0, 0, 2, 0, 0, 16, 56, 120, 0, 256, 1016, 2047, 4095] (.tk 0 (.tk 1 (.ld 2 (.tk 3 (.tk 4 (.ld 5 (.tk 6 (.ld 7 (tks 8 4 (.big 12 .done)))))))))) Zy (by kernel_rfl) ?_
 refine Zq 1 rfl (tk rfl (PE.indexArr ZaE rfl rfl (by omega) (by omega)) rfl (ld rfl rfl (lh sc3 rfl rfl) rfl (Zq 1 rfl (tk rfl (PE.indexArr ZaE rfl rfl (by omega) (by omega)) rfl (ld rfl rfl (lh sc3 rfl rfl) rfl (tk rfl (PE.indexAddr Z0o rfl rfl (by omega) (by omega)) rfl (ld rfl rfl (lh sc3 rfl (Z0G (w := o) (k := v) (by omega) (by show 0 + ((v : Nat) : Int).toNat * 1 = v; omega))) rfl (Zq 1 rfl (tk rfl (PE.add rfl rfl (by omega)) rfl (tk rfl (PE.min rfl rfl) rfl (tk rfl (PE.indexAddr Z0o rfl rfl (by omega) (by omega)) rfl ?_)))))))))))
 refine ZQ (l' := Zs (o.set v (min (na o v) ((w : Int) + 1)))) rfl rfl rfl cn3 rfl rfl rfl (Z12 (by omega) (by show 0 + ((v : Nat) : Int).toNat * 1 = v; omega)) (by rw [Zn]; (first | rw [ZS] | rw [List.length_set, ZS] | rw [hfl]); show 0 + ((v : Nat) : Int).toNat * 1 + 1 ≤ _; omega) ?_
 refine bgT (sqr 2 rfl (sp rfl (PE.add rfl rfl (by omega)) rfl (pur 1 rfl ?_)))
 exact Z8 ⟨(j + 1, o.set v (min (na o v) ((w : Int) + 1))), by dsimp only; omega, by dsimp only; rw [hacc]; exact hfo.way (by omega) hu hv (by omega) (by omega)⟩ (fun w h9 => h9.del b14)
 refine Z2 (sqr 2 rfl (sp rfl (PE.add rfl rfl (by omega)) rfl (pur 1 rfl ?_)))
 exact Z8 ⟨(j + 1, o), by dsimp only; omega, by dsimp only; rw [hacc]; exact hfo.same (by omega) hu hv (fun h9 => by omega)⟩ (fun w h9 => h9.del b14)
 simp only [decide_eq_false_iff_not] at g80
 refine pur 8 rfl ?_
 refine ZF rfl ?_
 refine Z2 (sqr 2 rfl (sp rfl (PE.add rfl rfl (by omega)) rfl (pur 1 rfl ?_)))
 exact Z8 ⟨(j + 1, o), by dsimp only; omega, by dsimp only; rw [hacc]; exact hfo.same (by omega) hu hv (fun h9 => by omega)⟩ (fun w h9 => h9.del b14)
 obtain rfl : j = 2 := by omega
 refine Z9 (Za (Za (Zo (sqr 2 rfl (sp rfl (PE.add rfl rfl (by omega)) rfl (pur 1 rfl ?_))))))
 exact Z8 ⟨(i + 1, o), by dsimp only; omega, hfo.gap hg hcb⟩ (fun w h9 => (h9.del b67).del b12)
 obtain rfl : i = h.gaps.length := by omega
 have hwk := hfo.week
 refine Z9 (Za (Za (Zo (sqr 2 rfl (sp rfl (PE.add rfl rfl (by omega)) rfl (pur 1 rfl ?_))))))
 exact Z8 ⟨⟨(w + 1, o), by dsimp only; omega, hwk⟩, oc⟩ idH
 obtain rfl : w = 20 := by omega
 obtain rfl := hfo.done rfl
 refine Sy.heap (H' := _ :: (oc.G ++ _)) (fun w h9 => h9.perm (List.perm_middle (l₁ := oc.G) (a := _))) ?_
 refine Sy.heap (fun w h9 => St.rows (sz := 1) (rows := Z6 (Z4i h.gaps (clP pl) (msk fr) k)) (rest := []) (by rw [List.append_nil, show (Z6 (Z4i h.gaps (clP pl) (msk fr) k)).flatten = Zs (Z4i h.gaps (clP pl) (msk fr) k) from Z1V _]; exact h9) (fun r hr => by obtain ⟨x, _, rfl⟩ := List.mem_map.1 hr; rfl)) ?_
 refine Z9 (Za (Za (Zo (sqt 2 rfl (pur 2 rfl (Z5 ?_))))))
 exact rtA rfl rfl rfl ⟨_, k, rfl, rfl, rfl⟩ (fun w h9 => (St.drop (G := oc.G) h9).del b3)
theorem ZcH : cal Try.prog 56 = true := by kernel_rfl
theorem Zd8 : cal Try.prog 57 = true := by kernel_rfl
theorem ZcD : cal Try.prog 58 = true := by kernel_rfl
theorem Z4u (xs : List Gp) (a : Option Addr) (c : Nat) (hl : xs.length ≤ 1000000) (H : Z7) (R : Z4) [hR : MemRows a 2 (Zb xs) R] :
    Fn Try.prog 57 [.slice a xs.length c] H R (fun v H' R' => ∃ o : OSl 46 2 (Zb xs), v = o.fs ∧ H' = o.G ++ H ∧ R' = R ∧ (a.isSome = true → o.here)) := by
 refine Zf Try.func57 rfl Try.ntmps57 rfl ?_
 refine sqt 1 rfl (pur 1 rfl (Z0 (sqt 2 rfl (pur 1 rfl (sp rfl (PE.eqlNil Z0M rfl rfl) rfl ?_)))))
 refine Z1 rfl ?_ ?_ <;> intro hc0
 refine Sy.pre (fun w h => Z3H (h.now hR.mem) hc0) (fun hnil => ?_)
 obtain rfl : xs = [] := by simpa [Zb] using hnil
 refine sqt 1 rfl (pur 1 rfl (Z5 ?_))
 first
   | exact rtA rfl rfl rfl ⟨o2.cast (by simp), rfl, rfl, rfl, fun _ => ho2⟩ idH
   | exact rtA rfl rfl rfl ⟨OSl.nil _ _, rfl, rfl, rfl, fun h => by cases a <;> simp_all⟩ idH
 refine Z2 (sqt 4 rfl ?_)
 refine Zc3 rfl Z7V rfl (fun o5 ho5 => ?_)
 refine pur 1 rfl ?_
 refine ZcO (news := Zb xs) o5 rfl Zdi rfl rfl (Z7a) (by simp [Zb]) (by simp [Z00, Zb, Z1e, Value.oneCell']) ⟨by simp [Zb]; omega, by simp [Zb]; omega⟩ rfl ho5 (fun o2 ho2 => ?_)
 refine pur 1 rfl (Z5 ?_)
 first
   | exact rtA rfl rfl rfl ⟨o2.cast (by simp), rfl, rfl, rfl, fun _ => ho2⟩ idH
   | exact rtA rfl rfl rfl ⟨OSl.nil _ _, rfl, rfl, rfl, fun h => by cases a <;> simp_all⟩ idH
theorem Z4V (xs : List Sgt) (a : Option Addr) (c : Nat) (hl : xs.length ≤ 1000000) (H : Z7) (R : Z4) [hR : MemRows a 3 (Zj xs) R] :
    Fn Try.prog 58 [.slice a xs.length c] H R (fun v H' R' => ∃ o : OSl 38 3 (Zj xs), v = o.fs ∧ H' = o.G ++ H ∧ R' = R) := by
 refine Zf Try.func58 rfl Try.ntmps58 rfl ?_
 refine sqt 1 rfl (pur 1 rfl (Z0 (sqt 2 rfl (pur 1 rfl (sp rfl (PE.eqlNil Z6o rfl rfl) rfl ?_)))))
 refine Z1 rfl ?_ ?_ <;> intro hc0
 refine Sy.pre (fun w h => Z3H (h.now hR.mem) hc0) (fun hnil => ?_)
 obtain rfl : xs = [] := by simpa [Zj] using hnil
 refine sqt 1 rfl (pur 1 rfl (Z5 ?_))
 first
   | exact rtA rfl rfl rfl ⟨o2.cast (by simp), rfl, rfl, rfl⟩ idH
   | exact rtA rfl rfl rfl ⟨OSl.nil _ _, rfl, rfl, rfl⟩ idH
 refine Z2 (sqt 4 rfl ?_)
 refine Zc3 rfl Zck rfl (fun o5 ho5 => ?_)
 refine pur 1 rfl ?_
 refine ZcO (news := Zj xs) o5 rfl ZdD rfl rfl (Z7a) (by simp [Zj]) (by simp [Z00, Zj, Z3R, Value.oneCell', Value.oneCell']) ⟨by simp [Zj]; omega, by simp [Zj]; omega⟩ rfl ho5 (fun o2 ho2 => ?_)
 refine pur 1 rfl (Z5 ?_)
 first
   | exact rtA rfl rfl rfl ⟨o2.cast (by simp), rfl, rfl, rfl⟩ idH
   | exact rtA rfl rfl rfl ⟨OSl.nil _ _, rfl, rfl, rfl⟩ idH
theorem Zaw {A B C : List Value} {n : Nat} (h : n = A.length) : spl (A ++ B) n C = A ++ (C ++ B.drop C.length) := by
  subst h
  unfold spl
  rw [List.take_left, List.drop_append]
  simp
theorem Z5x (rows : List (List Value)) (i : Nat) : rows.flatten = (rows.take i).flatten ++ (rows.drop i).flatten := by rw [← List.flatten_append, List.take_append_drop]
theorem Z5W {sz : Nat} {rows : List (List Value)} (hs : ∀ r ∈ rows, r.length = sz) {junk : List Value} {i : Nat} (hi : i < rows.length) : spl (rows.flatten ++ junk) (i * sz) (rows.drop (i + 1)).flatten = (rows.eraseIdx i).flatten ++ (rows.flatten ++ junk).drop ((rows.length - 1) * sz) := by
  have h1 : (rows.take i).flatten.length = i * sz := by rw [ZR fun r hr => hs r (List.mem_of_mem_take hr), List.length_take, Nat.min_eq_left (by omega)]
  unfold spl
  have e1 : ((rows.flatten ++ junk).take (i * sz) : List Value) = (rows.take i).flatten := by
    rw [Z5x rows i, List.append_assoc, ← h1, List.take_left]
  have e2 : i * sz + (rows.drop (i + 1)).flatten.length = (rows.length - 1) * sz := by
    rw [ZR fun r hr => hs r (List.mem_of_mem_drop hr), List.length_drop, ← Nat.add_mul]
    congr 1; omega
  rw [e1, e2, List.eraseIdx_eq_take_drop_succ, List.flatten_append]
theorem Zay {sz : Nat} {rows : List (List Value)} (hs : ∀ r ∈ rows, r.length = sz) {junk : List Value} {i j : Nat} {v : Value} (hi : i ≤ rows.length) (h : ((rows.drop i).flatten)[j]? = some v) : (rows.flatten ++ junk)[i * sz + j]? = some v := by
  have h1 : (rows.take i).flatten.length = i * sz := by rw [ZR fun r hr => hs r (List.mem_of_mem_take hr), List.length_take, Nat.min_eq_left hi]
  have hj := (List.getElem?_eq_some_iff.1 h).1
  rw [Z5x rows i, List.append_assoc, List.getElem?_append_right (by omega), show i * sz + j - (rows.take i).flatten.length = j by omega, List.getElem?_append_left hj]
  exact h
theorem Z1g (l : List Gp) (i : Nat) : (Zb l).drop i = Zb (l.drop i) := by unfold Zb; rw [List.map_drop]
theorem Z4H (l : List Gp) (i : Nat) : (Zb l).eraseIdx i = Zb (l.eraseIdx i) := by
  unfold Zb
  rw [List.eraseIdx_eq_take_drop_succ, List.eraseIdx_eq_take_drop_succ, List.map_append, List.map_take, List.map_drop]
theorem Z1z (l : List Gp) : (Zb l).flatten.length = l.length * 2 := by rw [ZR (Z5A l), Z05]
theorem Zaj (l : List Gp) : (Zb l).flatten.all (·.oneCell') = true := List.all_eq_true.2 fun v hv => by
  obtain ⟨r, hr, h2⟩ := List.mem_flatten.1 hv
  obtain ⟨x, _, rfl⟩ := List.mem_map.1 hr
  simp only [Z1e, List.mem_cons, List.not_mem_nil, or_false] at h2
  rcases h2 with rfl | rfl <;> rfl
def Hse.cloE (h : Hse) (n : Int) : Int := bif decide (h.check ≠ 0) then h.check else bif !inB n 0 ((h.gaps.length : Int) - 1) then 1 else 0
def Hse.cloH (h : Hse) (n : Int) : Hse := bif decide (h.cloE n = 0) then ⟨h.bins, h.gaps.eraseIdx n.toNat, h.sights⟩ else ⟨0, [], []⟩
theorem Z9E {h : Hse} {n : Int} (hc : h.check ≠ 0) : h.cloE n = h.check ∧ h.cloH n = ⟨0, [], []⟩ := by
  have e : h.cloE n = h.check := by unfold Hse.cloE; rw [decide_eq_true hc]; rfl
  exact ⟨e, by unfold Hse.cloH; rw [e, decide_eq_false hc]; rfl⟩
theorem Zan {h : Hse} {n : Int} (hc : h.check = 0) (hi : (!inB n 0 ((h.gaps.length : Int) - 1)) = true) : h.cloE n = 1 ∧ h.cloH n = ⟨0, [], []⟩ := by
  have e : h.cloE n = 1 := by unfold Hse.cloE; rw [decide_eq_false (fun e => e hc), hi]; rfl
  exact ⟨e, by unfold Hse.cloH; rw [e]; rfl⟩
theorem Z7y {h : Hse} {n : Int} (hc : h.check = 0) (hi : (!inB n 0 ((h.gaps.length : Int) - 1)) = false) : h.cloE n = 0 ∧ h.cloH n = ⟨h.bins, h.gaps.eraseIdx n.toNat, h.sights⟩ := by
  have e : h.cloE n = 0 := by unfold Hse.cloE; rw [decide_eq_false (fun e => e hc), hi]; rfl
  exact ⟨e, by unfold Hse.cloH; rw [e]; rfl⟩
theorem St.norows2 {s t : Nat} {H : Z7} {R : Z4} {w : World} (h : St H R w) : St H (RowsA none s [] :: RowsA none t [] :: R) w := St.norows (St.norows h)
theorem Z70 (l : List Gp) (o : OSl 46 2 (Zb l)) (hl : l.length ≤ 1000000) (i : Nat) (hi : i < l.length) (H : Z7) (R : Z4) :
    Fn Try.prog 56 [o.fs, .int .i64 i, .int .i64 ((i + 1 : Nat) : Int)] (o.G ++ H) R (fun v H' R' => ∃ a c', (l.eraseIdx i).length ≤ c' ∧ v = .slice a (l.eraseIdx i).length c' ∧ H' = H ∧ R' = RowsA a 2 (Zb (l.eraseIdx i)) :: R) := by
 have hgl9 : (Zb l).length = l.length := Z05 l
 obtain ⟨b, cap, junk, hfs, hG, hj, hcap, hmx⟩ := o.is.resolve_left (fun h => by have := congrArg List.length h.1; rw [hgl9] at this; simp only [List.length_nil] at this; omega)
 rw [hgl9] at hfs hcap hj
 rw [hfs, hG]
 refine Zf Try.func56 rfl Try.ntmps56 rfl ?_
 refine sqt 1 rfl ?_
 refine Sy.heap (H' := (b, cel 46 ((Zb l).flatten ++ junk)) :: H) idH ?_
 refine pur 1 rfl (sqt 6 rfl (pur 4 rfl (sp rfl (PE.lenSl Z0M rfl) rfl (sp rfl (PE.slLHM Z7V rfl rfl rfl rfl (by omega) (by omega) (by omega)) rfl (Z0 (sqt 3 rfl (pur 3 rfl ?_)))))))
 refine Z1 rfl ?_ ?_ <;> intro hc0
 exact absurd hc0 (by simp; omega)
 refine Z2 (sqt 3 rfl (pur 1 rfl (sp rfl (PE.lenSl Z0M rfl) rfl (pur 1 rfl (Z0 ?_)))))
 refine Ze [0, 0, 3, 0, 0, 24, 63, 127] (tks 0 6 (.big 6 (.tk 7 .done))) Zy (by kernel_rfl) ?_
 refine Zq 2 rfl (tk rfl (PE.slHi Z7V rfl rfl (by omega)) rfl (Zq 2 rfl (tk rfl (PE.slLoA Z7V rfl rfl (by omega)) rfl ?_)))
 obtain ⟨ax, hax, hsrc⟩ : ∃ ax : Addr, (if cap = i + 1 then some (⟨b, 0, none⟩ : Addr) else (some (⟨b, 0, none⟩ : Addr)).map (·.add ((i + 1) * 2))) = some ax ∧ ∀ j v, (((Zb l).drop (i + 1)).flatten)[j]? = some v → ax.add j = ⟨b, (i + 1) * 2 + j, none⟩ := by
   by_cases h9 : cap = i + 1
   · refine ⟨_, if_pos h9, fun j v hj => ?_⟩
     have := (List.getElem?_eq_some_iff.1 hj).1
     rw [Z1g, Z1z, List.length_drop] at this; omega
   · exact ⟨_, if_neg h9, fun j v hj => by show ((⟨b, 0, none⟩ : Addr).add ((i + 1) * 2)).add j = _; rw [ZG, ZG]; simp⟩
 rw [hax]
 refine apI (((Zb l).drop (i + 1)).flatten) rfl Z7V rfl rfl (by rw [Z1g, Z1z, List.length_drop]) (fun w hs j v hj => by rw [hsrc j v hj, Z1c (hs.held (b, cel 46 ((Zb l).flatten ++ junk)) (by simp))]; simpa using Zay (junk := junk) (Z5A l) (by rw [Z05]; omega) hj) (by rw [Z1g]; exact Zaj _) (by omega) (by rw [Z1g, Z1z, List.length_drop, List.length_append, Z1z]; omega) rfl ?_
 rw [Z5W (Z5A l) (by rw [Z05]; exact hi), Z05, Z4H, show i + (l.length - (i + 1)) = l.length - 1 from by omega]
 obtain ⟨jk, hjk⟩ : ∃ jk, jk = ((Zb l).flatten ++ junk).drop ((l.length - 1) * 2) := ⟨_, rfl⟩
 rw [← hjk]
 have hel : (l.eraseIdx i).length = l.length - 1 := List.length_eraseIdx_of_lt hi
 refine bgT (Zq 1 rfl (sqt 6 rfl (pur 2 rfl (sp rfl (PE.lenSl Z0M rfl) rfl (pur 1 rfl (sp rfl (PE.slLH Z7V rfl rfl rfl (by omega) (by omega) (by omega)) rfl ?_))))))
 refine ZdM rfl rfl Z7V Z2B rfl rfl rfl (by rw [hjk, List.length_append, Z1z, List.length_drop, List.length_append, Z1z]; omega) ?_
 rw [Zaw (by rw [Z1z, hel]; omega)]
 obtain ⟨jk2, hjk2⟩ : ∃ jk2, jk2 = (Z0I (l.length - (l.length - 1)) [Value.int .i64 0, .int .i64 0] ++ jk.drop (Z0I (l.length - (l.length - 1)) [Value.int .i64 0, .int .i64 0]).length) := ⟨_, rfl⟩
 rw [← hjk2]
 refine sqt 2 rfl (pur 2 rfl (Z5 ?_))
 refine Sy.heap (fun w h => St.rows (sz := 2) (rows := Zb (l.eraseIdx i)) (rest := jk2) h (Z5A _)) ?_
 rw [← hel]
 exact rtA rfl rfl rfl ⟨_, cap, by omega, rfl, rfl, rfl⟩ drp
set_option maxHeartbeats 400000 in
theorem Z7h (h : Hse) (ag as_ : Option Addr) (cg cs : Nat) (hlg : h.gaps.length ≤ 1000000) (hls : h.sights.length ≤ 1000000) (n : Int) (hn : -1000000 ≤ n ∧ n ≤ 1000000) (H : Z7) (R : Z4) [hG : MemRows ag 2 (Zb h.gaps) R] [hS : MemRows as_ 3 (Zj h.sights) R] :
    Fn Try.prog 20 [h.v (h.sg ag cg) (h.ss as_ cs), .int .i64 n] H R (fun v H' R' => ∃ (ax ay : Option Addr) (cx cy : Nat), ((h.cloH n).gaps.length ≤ cx ∧ (h.cloH n).sights.length ≤ cy) ∧ v = .tuple #[(h.cloH n).v ((h.cloH n).sg ax cx) ((h.cloH n).ss ay cy), .int .i64 (h.cloE n)] ∧ H' = H ∧ R' = RowsA ax 2 (Zb (h.cloH n).gaps) :: RowsA ay 3 (Zj (h.cloH n).sights) :: R) := by
 refine Zf Try.func20 rfl Try.ntmps20 rfl ?_
 refine sqt 3 rfl (bx rfl rfl rfl (fun b2 => alc rfl Z6b rfl (fun b4 => pur 1 rfl (Z0 (sqt 3 rfl (spL rfl rfl (lhA (htl h (h.sg ag cg) (h.ss as_ cs)) Z0F rfl rfl rfl) rfl ?_))))))
 refine clV rfl Z5R rfl rfl (Z20 h ag as_ cg cs (by omega) (by omega) _ _) ?_
 refine pur 1 rfl (sqt 2 rfl (pur 2 rfl ?_))
 refine Z1 rfl ?_ ?_ <;> intro hc0
 have hck : h.check ≠ 0 := of_decide_eq_true hc0
 obtain ⟨e1, e2⟩ := Z9E (n := n) hck
 refine sqt 4 rfl (sp rfl (PE.build (out := htl ⟨0, [], []⟩ (.slice none 0 0) (.slice none 0 0)) Zbq Z6b rfl rfl) rfl (pur 1 rfl ?_))
 refine ZQ (l' := htl ⟨0, [], []⟩ (.slice none 0 0) (.slice none 0 0)) rfl rfl rfl Z85 rfl rfl rfl rfl (nl rfl) ?_
 refine pur 1 rfl (Z5 ?_)
 rw [e1, e2]
 exact Zk (vs := [_, _]) rfl (.cons (RV.cell rfl (lhA [_, _, _] Z0F rfl rfl rfl)) (.cons (RV.tmp rfl) .nil)) rfl ⟨none, none, 0, 0, ⟨Nat.le_refl _, Nat.le_refl _⟩, rfl, rfl, rfl⟩ (fun w h9 => St.norows2 ((h9.del b4).del b2))
 have hck : h.check = 0 := Classical.byContradiction fun e => by rw [decide_eq_true e] at hc0; cases hc0
 have hok := hse_ok.1 hck
 have hgl := hok.gl
 refine Z2 (Z0 (sqt 4 rfl (spL rfl rfl (lhA (htl h (h.sg ag cg) (h.ss as_ cs)) Z0F rfl rfl rfl) rfl (pur 1 rfl ?_))))
 refine clV rfl ZaL rfl rfl (Zbt h (by omega) ag cg (h.ss as_ cs) n _ _) ?_
 refine pur 1 rfl ?_
 refine Z1 rfl ?_ ?_ <;> intro hc1
 try simp only [cS] at hc1
 obtain ⟨e1, e2⟩ := Zan (n := n) hck (by rw [hc1] <;> rfl)
 refine sqt 3 rfl (sp rfl (PE.build (out := htl ⟨0, [], []⟩ (.slice none 0 0) (.slice none 0 0)) Zbq Z6b rfl rfl) rfl ?_)
 refine ZQ (l' := htl ⟨0, [], []⟩ (.slice none 0 0) (.slice none 0 0)) rfl rfl rfl Z85 rfl rfl rfl rfl (nl rfl) ?_
 refine pur 1 rfl (Z5 ?_)
 rw [e1, e2]
 exact Zk (vs := [_, _]) rfl (.cons (RV.cell rfl (lhA [_, _, _] Z0F rfl rfl rfl)) (.cons (RV.tmp rfl) .nil)) rfl ⟨none, none, 0, 0, ⟨Nat.le_refl _, Nat.le_refl _⟩, rfl, rfl, rfl⟩ (fun w h9 => St.norows2 ((h9.del b4).del b2))
 obtain ⟨e1, e2⟩ := Z7y (n := n) hck hc1
 have hnr : 0 ≤ n ∧ n < h.gaps.length := by
   simp only [inB, Bool.not_eq_false', Bool.and_eq_true, decide_eq_true_eq] at hc1; omega
 obtain ⟨i, rfl⟩ : ∃ i : Nat, n = i := ⟨n.toNat, by omega⟩
 rw [Int.toNat_natCast] at e2
 refine Z2 (Z0 ?_)
 refine Ze [0, 1, 0, 4, 12, 0, 0, 64, 252, 0, 512, 2044, 4095, 8191, 16383] (.tk 0 (.ld 1 (.tk 2 (.ld 3 (tks 5 3 (.tk 9 (.ld 10 (.big 4 (.big 8 (.big 11 (.tk 12 (.big 13 (.tk 14 .done))))))))))))) Zy (by kernel_rfl) ?_
 refine tk rfl (PE.fA Z01 rfl) rfl (ld rfl rfl (lh sc3 rfl rfl) rfl (tk rfl (PE.fA ZJ rfl) rfl (ld rfl rfl (lh Z2e rfl rfl) rfl (Zq 2 rfl (tk rfl (PE.add rfl rfl (by omega)) rfl (tk rfl (PE.fA Z1u rfl) rfl (ld rfl rfl (lh Z63 rfl rfl) rfl ?_)))))))
 refine cl rfl Zd8 rfl rfl (Z4u h.gaps ag cg (by omega) _ _) ?_
 rintro _ _ R1 ⟨og, rfl, rfl, hR1, _⟩
 obtain rfl := hR1.symm
 clear hR1
 refine bg (fun w hs => ⟨(lh Z63 rfl rfl) w hs, trivial, (lh sc3 rfl rfl) w hs, trivial⟩) ?_
 rw [show (i : Int) + 1 = ((i + 1 : Nat) : Int) by omega]
 refine cl rfl ZcH rfl rfl (Z70 h.gaps og (by omega) i (by omega) _ _) ?_
 rintro _ _ R1 ⟨ax, cx, hcx, rfl, rfl, hR1⟩
 obtain rfl := hR1.symm
 clear hR1
 refine bg (fun w hs => ⟨(lh Z63 rfl rfl) w hs, (lh sc3 rfl rfl) w hs, trivial⟩) ?_
 refine cl rfl ZcD rfl rfl (Z4V h.sights as_ cs (by omega) _ _) ?_
 rintro _ _ R1 ⟨os, rfl, rfl, hR1⟩
 obtain rfl := hR1.symm
 clear hR1
 obtain ⟨ay, cy, he, hcy, hz⟩ := os.freezeC
 rw [Z49] at hcy
 rw [he, Z49]
 refine Sy.heap (H' := _) (fun w h9 => hz h9) ?_
 clear he hz
 refine bg (fun w hs => ⟨trivial, (lh sc3 rfl rfl) w hs, trivial⟩) ?_
 refine tk rfl (PE.build (out := htl ⟨h.bins, h.gaps.eraseIdx i, h.sights⟩ (.slice ax (h.gaps.eraseIdx i).length cx) (.slice ay h.sights.length cy)) Zbq Z6b rfl rfl) rfl ?_
 refine ZQ (l' := htl ⟨h.bins, h.gaps.eraseIdx i, h.sights⟩ (.slice ax (h.gaps.eraseIdx i).length cx) (.slice ay h.sights.length cy)) rfl rfl rfl Z85 rfl rfl rfl rfl (nl rfl) ?_
 refine bgT (Zq 1 rfl (Z5 ?_))
 rw [e1, e2]
 exact Zk (vs := [_, _]) rfl (.cons (RV.cell rfl (lhA [_, _, _] Z0F rfl rfl rfl)) (.cons (RV.tmp rfl) .nil)) rfl ⟨ax, ay, cx, cy, ⟨hcx, hcy⟩, rfl, rfl, rfl⟩ (fun w h9 => ((h9.del b4).del b2).facts (fun g hg => by simp only [List.mem_cons] at hg ⊢; rcases hg with h8 | h8 | h8 <;> simp [h8]))
theorem ZcM : cal Try.prog 10 = true := by kernel_rfl
theorem Z9X : cal Try.prog 16 = true := by kernel_rfl
theorem Zde : cal Try.prog 19 = true := by kernel_rfl
theorem ZbF : cal Try.prog 20 = true := by kernel_rfl
theorem ZdI : cal Try.prog 9 = true := by kernel_rfl
theorem Zi {h : Hse} (hk : h.ok) (l : List Int) : (h.weeksV l).length = h.bins.toNat := by
  unfold Hse.weeksV
  rw [List.length_take, Z1X, ZO]
  have := hk.bins; omega
theorem Z02 {h : Hse} (hk : h.ok) (l : List Int) {k : Nat} (hk2 : k < h.bins.toNat) : na (h.weeksV l) k = wkN h.gaps (msk l) k := by
  have hb := hk.bins
  unfold na Hse.weeksV wkR
  rw [List.getD_eq_getElem?_getD, List.getElem?_take, if_pos hk2, List.getElem?_map, Zv (by rw [ZO]; omega), Z1y (by omega)]; rfl
theorem Z8y {h : Hse} (hk : h.ok) {l : List Int} (hl : Z03 h.bins l = 0) : h.lsE l = 0 := (Z93 (hse_ok.2 hk)).trans hl
theorem Zb6 {n x : Int} (h : 0 ≤ x ∧ x < n) : Z03 n [x] = 0 := Z5f (fun y hy => by rw [List.mem_singleton.1 hy]; exact h) (by simp)
theorem Z8j {h : Hse} (hk : h.ok) {l : List Int} (hm : msk l < 2 ^ 7) {k : Nat} (hk2 : k < h.bins.toNat) : (99 < na (Z4i h.gaps (clP []) (msk l) h.bins.toNat) k ∧ na (h.weeksV l) k = -1) ∨ (¬ 99 < na (Z4i h.gaps (clP []) (msk l) h.bins.toNat) k ∧ na (h.weeksV l) k = na (Z4i h.gaps (clP []) (msk l) h.bins.toNat) k) := by
  rw [Z02 hk l hk2, Z9F hk2, show clP [] = fun _ => 0 from rfl, Zcd hk.wth hm]
  unfold wkN
  have h3 := Z2W h.gaps 0 (msk l) k
  by_cases h1 : far ≤ wk h.gaps 0 (msk l) k
  · rw [decide_eq_true h1]; exact .inl ⟨by show (99 : Int) < 100; decide, rfl⟩
  · rw [decide_eq_false h1]; exact .inr ⟨by show ¬ 99 < wk h.gaps 0 (msk l) k; unfold far at *; omega, rfl⟩
theorem Z76 (l : List Int) {x : Int} (h : 0 ≤ x) : msk (l ++ [x]) = msk l ||| 2 ^ x.toNat := by
  unfold msk
  rw [List.foldl_append, List.foldl_cons, List.foldl_nil]; rfl
theorem Z5N {h : Hse} (hk : h.ok) {l : List Int} {j : Nat} {x : Int} (hj : l[j]? = some x) (hl : ∀ x ∈ l, 0 ≤ x ∧ x < h.bins) {b : Nat} (hb : b < h.bins.toNat) : wkN h.gaps (msk (l.take (j + 1))) b = bif decide (0 ≤ na (h.weeksV [x]) b) && (decide (wkN h.gaps (msk (l.take j)) b < 0) || decide (na (h.weeksV [x]) b < wkN h.gaps (msk (l.take j)) b)) then na (h.weeksV [x]) b else wkN h.gaps (msk (l.take j)) b := by
  have hx := hl x (List.mem_of_getElem? hj)
  have hbn := hk.bins
  rw [Z02 hk [x] hb, List.take_add_one, hj, Option.toList_some, Z76 _ hx.1, Zc8 hk.wth (Z1f fun y hy => by have := hl y (List.mem_of_mem_take hy); omega) (by omega), show msk [x] = 2 ^ x.toNat from by have := Z76 [] hx.1; rw [List.nil_append] at this; rw [this]; exact Nat.zero_or _]
theorem Z8n {h : Hse} (hk : h.ok) (i : Nat) : Hse.ok ⟨h.bins, h.gaps.eraseIdx i, h.sights⟩ := ⟨hk.bins, by have := hk.gl; have := List.length_eraseIdx_le h.gaps i; show (h.gaps.eraseIdx i).length ≤ 10; omega, hk.sl, fun g hg => hk.gaps g (List.mem_of_mem_eraseIdx hg), hk.sights⟩
theorem Zao {h : Hse} (hk : h.ok) {i : Nat} (hi : i < h.gaps.length) : h.cloE i = 0 ∧ h.cloH i = ⟨h.bins, h.gaps.eraseIdx i, h.sights⟩ := by
  have := Z7y (n := i) (hse_ok.2 hk) (by simp [inB]; omega)
  rw [Int.toNat_natCast] at this; exact this
theorem Z2m (h : Hse) (ag as_ : Option Addr) (cg cs : Nat) (hok : h.ok) (l : List Int) (a : Option Addr) (c : Nat) (hle : Z03 h.bins l = 0) (hl : l.length ≤ 1000000) (hlc : l.length ≤ c) (H : Z7) (R : Z4) [hG : MemRows ag 2 (Zb h.gaps) R] [hS : MemRows as_ 3 (Zj h.sights) R] [hR : MemRows a 1 (Z6 l) R] : Fn Try.prog 18 [h.v (h.sg ag cg) (h.ss as_ cs), .slice a l.length c] H R (fun v H' R' => ∃ a c', v = .tuple #[.slice a h.bins.toNat c', .int .i64 0] ∧ H' = H ∧ R' = RowsA a 1 (Z6 (h.weeksV l)) :: R) := fun w hw => by
  refine CallsIn.mono (Z7i h ag as_ cg cs (by have := hok.gl; omega) (by have := hok.sl; omega) l a c (by omega) hlc H R w hw) ?_
  rintro e' w' ⟨u, H', R', ⟨a', c', h1, rfl, rfl, rfl⟩, he, hs'⟩
  have e := Z3Z (Z8y hok hle)
  rw [e] at hs' he
  exact ⟨_, _, _, ⟨a', c', by rw [Zi hok], rfl, rfl⟩, he, hs'⟩
set_option maxHeartbeats 1000000 in
theorem Z3P (l0 : List Int) (a0 : Option Addr) (c0 : Nat) (hl0 : l0.length ≤ 9223372036854775807) (n1 : Int) (hn1 : 0 ≤ n1 ∧ n1 ≤ 255) (H : Z7) (R : Z4) [hG0 : MemRows a0 1 (Z3o l0) R] :
    Fn Try.prog 4 [.slice a0 l0.length c0, .int .u8 n1] H R (fun v H' R' => v = .bool true ∧ H' = H ∧ R' = R) := by
 refine Zf Try.func4 rfl Try.ntmps4 rfl ?_
 refine sqt 1 rfl (pur 1 rfl (sqt 9 rfl (pur 1 rfl ?_)))
 refine cl rfl ZcM rfl rfl (ZaK l0 a0 c0 hl0 _ _) ?_
 rintro _ _ R1 ⟨bk, mk, hmk, rfl, rfl, hR1⟩
 obtain rfl := hR1.symm
 clear hR1
 refine cl rfl ZdI rfl rfl (Zcb l0 a0 c0 bk hl0 0 mk (by omega) hmk 7 10 (by omega) (by omega) _ _) ?_
 rintro _ _ R1 ⟨h, p, ag, ar, cg, cr, tqb, mxb, hmd, hcg, hcr, rfl, htqb, hmxb, rfl, hR1⟩
 obtain rfl := hR1.symm
 clear hR1
 have hok := hmd.ok (by omega) (by omega)
 have hck := hse_ok.2 hok
 have hbn := hok.bins
 have hgl := hok.gl
 have hsl := hok.sl
 have hnb := hmd.bins
 have hng := hmd.gl
 have hss := hmd.none
 obtain ⟨B, hB⟩ : ∃ B : Nat, h.bins = B := ⟨h.bins.toNat, by omega⟩
 have hBt : h.bins.toNat = B := by omega
 have hfb := Z2o p h.bins.toNat
 have hfr := Z7R p (show 0 ≤ h.bins by omega)
 have hfe := Za3 p (show 0 ≤ h.bins by omega)
 have hm7 : msk (Zu p h.bins.toNat) < 2 ^ 7 := Z1f fun x hx => by have := hfr x hx; omega
 refine pur 3 rfl (alc rfl Z6b rfl (fun b5 => ?_))
 refine ZQ (l' := htl h (h.sg ag cg) (h.ss none 0)) rfl rfl rfl Z85 rfl rfl rfl rfl (nl rfl) ?_
 refine pur 1 rfl (sqt 8 rfl (spL rfl rfl (lhA (htl h (h.sg ag cg) (h.ss none 0)) Z0F rfl rfl rfl) rfl (pur 1 rfl ?_)))
 refine cl rfl Z6n rfl rfl (Z2m h ag none cg 0 hok (Zu p h.bins.toNat) ar cr hfe (by omega) hcr _ _) ?_
 rintro _ _ R1 ⟨aw, cw, rfl, rfl, hR1⟩
 obtain rfl := hR1.symm
 clear hR1
 have hWl := Zi hok (Zu p h.bins.toNat)
 refine pur 5 rfl (Z0 (sqt 9 rfl (pur 3 rfl ?_)))
 refine Zt 38 rfl ?_ ?_ <;> intro g38
 exact absurd g38 (by simp)
 refine pur 1 rfl ?_
 refine spG rfl rfl rfl rfl (PE.lenSl ZD rfl) rfl ?_
 refine spG rfl rfl rfl rfl (PE.fA Z01 rfl) rfl ?_
 refine Z1i rfl rfl rfl rfl rfl (lh (v := .int .i64 h.bins) sc3 rfl rfl) rfl (pur 2 rfl ?_)
 refine Z1 rfl ?_ ?_ <;> intro hc0
 exact absurd hc0 (by simp; omega)
 refine Z2 (Z0 (sqt 5 rfl (spL rfl rfl (lhA (htl h (h.sg ag cg) (h.ss none 0)) Z0F rfl rfl rfl) rfl (pur 1 rfl ?_))))
 refine Sy.heap (fun w h9 => St.norows9 (sz := 1) h9) ?_
 refine cl rfl Zde rfl rfl (Z8L h ag none cg 0 hok (Zu p h.bins.toNat) ar cr (by omega) (fun x hx => (hfr x hx).1) [] none 0 (by decide) (by decide) (by simp [lls]) _ _) ?_
 rintro _ _ R1 ⟨af, cf, rfl, rfl, hR1⟩
 obtain rfl := hR1.symm
 clear hR1
 refine sp rfl (PE.lenSl ZD rfl) rfl (pur 1 rfl (Z3 ?_))
 refine Zd (ι := {k : Nat // k ≤ h.bins.toNat}) (fun k => ⟨[(1, .int .u8 n1), (5, .pointer (some ⟨b5, 0, none⟩)), (6, .slice ar (Zu p h.bins.toNat).length cr), (7, .slice aw h.bins.toNat cw), (47, .slice af h.bins.toNat cf), (48, .int .i64 h.bins.toNat), (49, .int .i64 k.1)], (b5, cel 26 (htl h ((h).sg ag cg) ((h).ss none 0))) :: (bk, cel 72 [.slice a0 l0.length c0, .int .i64 (tqb), .int .u32 (mxb)]) :: H, RowsA af 1 (Z6 (Z4i h.gaps (clP []) (msk (Zu p h.bins.toNat)) h.bins.toNat)) :: RowsA aw 1 (Z6 (h.weeksV (Zu p h.bins.toNat))) :: RowsA none 3 (Zj h.sights) :: RowsA ar 1 (Z6 (Zu p h.bins.toNat)) :: RowsA ag 2 (Zb h.gaps) :: R⟩) (fun k => h.bins.toNat - k.1) ⟨0, Nat.zero_le _⟩ ?_ (fun k => ?_)
 exact Zp (fun w h9 => h9.facts (fun g hg => by simp only [List.mem_cons] at hg ⊢; rcases hg with h8 | h8 | h8 | h8 | h8 | h8 <;> simp [h8]))
 obtain ⟨k, hk⟩ := k
 dsimp only at hk ⊢
 refine sqt 1 rfl (pur 1 rfl (Z0 ?_))
 refine Z1 rfl ?_ ?_ <;> intro hc1 <;> try simp only [cS] at hc1
 refine Zh (a := af) (sz := 1) (rows := Z6 (Z4i h.gaps (clP []) (msk (Zu p h.bins.toNat)) h.bins.toNat)) (by intro h0; have := congrArg List.length h0; rw [irl] at this; simp only [List.length_nil] at this; rw [Z3B] at this; omega) (fun bf bfo hebf => ?_)
 subst hebf
 refine Zh (a := aw) (sz := 1) (rows := Z6 (h.weeksV (Zu p h.bins.toNat))) (ne0 (by rw [irl]; omega)) (fun bw bwo hebw => ?_)
 subst hebw
 have hfs := Z8j hok hm7 (k := k) (by omega)
 have hgf := Zv (l := Z4i h.gaps (clP []) (msk (Zu p h.bins.toNat)) h.bins.toNat) (k := k) (by rw [Z3B]; omega)
 generalize na (Z4i h.gaps (clP []) (msk (Zu p h.bins.toNat)) h.bins.toNat) k = fv at *
 refine Z2 (Z0 (Z3 (sqt 5 rfl (pur 1 rfl (sp rfl (PE.indexAddr Z0o rfl rfl (by omega) (by omega)) rfl (spL rfl rfl (lf0 sc3 (Zw hgf) rfl) rfl (pur 2 rfl (Z0 (sqt 2 rfl (pur 2 rfl ?_))))))))))
 refine Z1 rfl ?_ ?_ <;> intro hc2 <;> try simp only [cS] at hc2
 refine sqr 1 rfl (pur 1 rfl (sqt 6 rfl (pur 2 rfl (sp rfl (PE.indexAddr Z0o rfl rfl (by omega) (by omega)) rfl (spL rfl rfl (lf0 sc3 (Zw (Zv (l := (h.weeksV (Zu p h.bins.toNat))) (k := k) (by rw [Zi hok]; omega))) rfl) rfl (pur 2 rfl ?_))))))
 refine Z1 rfl ?_ ?_ <;> intro hc3
 exact absurd hc3 (by simp; omega)
 refine Z2 (sqr 2 rfl (sp rfl (PE.add rfl rfl (by omega)) rfl (pur 1 rfl ?_)))
 exact Z8 ⟨k + 1, by omega⟩ idH
 refine Z2 (sqt 6 rfl (pur 2 rfl (sp rfl (PE.indexAddr Z0o rfl rfl (by omega) (by omega)) rfl (spL rfl rfl (lf0 sc3 (Zw (Zv (l := (h.weeksV (Zu p h.bins.toNat))) (k := k) (by rw [Zi hok]; omega))) rfl) rfl (pur 2 rfl ?_)))))
 refine Z1 rfl ?_ ?_ <;> intro hc3
 exact absurd hc3 (by simp; omega)
 refine Z2 (sqr 2 rfl (sp rfl (PE.add rfl rfl (by omega)) rfl (pur 1 rfl ?_)))
 exact Z8 ⟨k + 1, by omega⟩ idH
 refine Z9 (Za (Za (Zo (Z0 (sqt 3 rfl (sp rfl (PE.fA Z01 rfl) rfl (spL rfl rfl (lh (v := .int .i64 h.bins) sc3 rfl rfl) rfl (pur 1 rfl (Z3 ?_)))))))))
 refine Zd (ι := {k : Nat // k ≤ h.bins.toNat}) (fun k => ⟨[(1, .int .u8 n1), (5, .pointer (some ⟨b5, 0, none⟩)), (6, .slice ar (Zu p h.bins.toNat).length cr), (7, .slice aw h.bins.toNat cw), (64, .int .i64 h.bins), (65, .int .i64 k.1)], (b5, cel 26 (htl h ((h).sg ag cg) ((h).ss none 0))) :: (bk, cel 72 [.slice a0 l0.length c0, .int .i64 (tqb), .int .u32 (mxb)]) :: H, RowsA aw 1 (Z6 (h.weeksV (Zu p h.bins.toNat))) :: RowsA none 3 (Zj h.sights) :: RowsA ar 1 (Z6 (Zu p h.bins.toNat)) :: RowsA ag 2 (Zb h.gaps) :: R⟩) (fun k => h.bins.toNat - k.1) ⟨0, Nat.zero_le _⟩ ?_ (fun k => ?_)
 exact Zp (fun w h9 => h9.facts (fun g hg => by simp only [List.mem_cons] at hg ⊢; rcases hg with h8 | h8 | h8 | h8 | h8 <;> simp [h8]))
 obtain ⟨b, hb⟩ := k
 dsimp only at hb ⊢
 refine sqt 1 rfl (pur 1 rfl (Z0 ?_))
 refine Z1 rfl ?_ ?_ <;> intro hc4 <;> try simp only [cS] at hc4
 have hbB : b < h.bins.toNat := by omega
 have hwb := Z02 hok (Zu p h.bins.toNat) hbB
 refine Z2 (Z0 (Z3 (sqt 2 rfl (pur 2 rfl (sqt 1 rfl (pur 1 rfl (Z0 (sqt 3 rfl (pur 1 rfl (sp rfl (PE.lenSl ZD rfl) rfl (pur 1 rfl (Z3 ?_))))))))))))
 refine Zd (ι := {y : Nat × Int // y.1 ≤ (Zu p h.bins.toNat).length ∧ y.2 = wkN h.gaps (msk ((Zu p h.bins.toNat).take y.1)) b}) (fun y => ⟨[(1, .int .u8 n1), (5, .pointer (some ⟨b5, 0, none⟩)), (6, .slice ar (Zu p h.bins.toNat).length cr), (7, .slice aw h.bins.toNat cw), (11, .int .i64 b), (12, .int .i64 y.1.2), (64, .int .i64 h.bins), (65, .int .i64 b), (68, .slice ar (Zu p h.bins.toNat).length cr), (69, .int .i64 (Zu p h.bins.toNat).length), (70, .int .i64 y.1.1)], (b5, cel 26 (htl h ((h).sg ag cg) ((h).ss none 0))) :: (bk, cel 72 [.slice a0 l0.length c0, .int .i64 (tqb), .int .u32 (mxb)]) :: H, RowsA aw 1 (Z6 (h.weeksV (Zu p h.bins.toNat))) :: RowsA none 3 (Zj h.sights) :: RowsA ar 1 (Z6 (Zu p h.bins.toNat)) :: RowsA ag 2 (Zb h.gaps) :: R⟩) (fun y => (Zu p h.bins.toNat).length - y.1.1) ⟨(0, -1), Nat.zero_le _, by rw [List.take_zero]; exact (Z8x _ _).symm⟩ ?_ (fun y => ?_)
 exact Zp idH
 obtain ⟨⟨j, fst⟩, hj, hfst⟩ := y
 dsimp only at hj hfst ⊢
 refine sqt 1 rfl (pur 1 rfl (Z0 ?_))
 refine Z1 rfl ?_ ?_ <;> intro hc5 <;> try simp only [cS] at hc5
 obtain ⟨x, hx⟩ : ∃ x, (Zu p h.bins.toNat)[j]? = some x := ⟨_, List.getElem?_eq_getElem (by omega)⟩
 have hxr := hfr x (List.mem_of_getElem? hx)
 have hst := Z5N hok hx hfr hbB
 rw [← hfst] at hst
 refine Zh (a := ar) (sz := 1) (rows := Z6 (Zu p h.bins.toNat)) (ne0 (by rw [irl]; omega)) (fun br bro hebr => ?_)
 subst hebr
 refine Z2 (Z0 (Z3 (sqt 3 rfl (sp rfl (PE.indexAddr Z0o rfl rfl (by omega) (by omega)) rfl (spL rfl rfl (lf0 sc3 (Zw hx) rfl) rfl (pur 1 rfl (sqt 9 rfl (spL rfl rfl (lhA (htl h (h.sg ag cg) (h.ss none 0)) Z0F rfl rfl rfl) rfl (pur 1 rfl ?_)))))))))
 refine bsl (out := [_]) rfl Z0Z zl3 rfl rfl rfl rfl rfl rfl (fun b77 => ?_)
 refine Sy.heap (fun w h9 => St.rows (sz := 1) (rows := Z6 [x]) (rest := []) (h9.pull b77) (by simp)) ?_
 refine cl rfl Z6n rfl rfl (Z2m h ag none cg 0 hok [x] (some ⟨b77, 0, none⟩) 1 (Zb6 hxr) (by simp) (by simp) _ _) ?_
 rintro _ _ R1 ⟨ax, cx, rfl, rfl, hR1⟩
 obtain rfl := hR1.symm
 clear hR1
 have hxl := Zi hok [x]
 refine Zh (a := ax) (sz := 1) (rows := Z6 (h.weeksV [x])) (ne0 (by rw [irl]; omega)) (fun bx9 bx9o hebx9 => ?_)
 subst hebx9
 refine pur 5 rfl (Z0 (sqt 9 rfl (pur 3 rfl ?_)))
 refine Zt 83 rfl ?_ ?_ <;> intro g83
 exact absurd g83 (by simp)
 refine pur 1 rfl ?_
 refine spG rfl rfl rfl rfl (PE.lenSl ZD rfl) rfl ?_
 refine spG rfl rfl rfl rfl (PE.fA Z01 rfl) rfl ?_
 refine Z1i rfl rfl rfl rfl rfl (lh (v := .int .i64 h.bins) sc3 rfl rfl) rfl (pur 2 rfl ?_)
 refine Z1 rfl ?_ ?_ <;> intro hc6
 exact absurd hc6 (by simp; omega)
 refine Z2 (sqt 17 rfl (pur 2 rfl (sp rfl (PE.indexAddr Z0o rfl rfl (by omega) (by omega)) rfl (spL rfl rfl (lf0 sc3 (Zw (Zv (l := h.weeksV [x]) (k := b) (by rw [Zi hok]; omega))) rfl) rfl (pur 2 rfl ?_)))))
 refine Zt 95 rfl ?_ ?_ <;> intro g95
 simp only [decide_eq_true_eq] at g95
 refine pur 3 rfl ?_
 refine Zt 98 rfl ?_ ?_ <;> intro g98
 simp only [decide_eq_true_eq] at g98
 refine pur 8 rfl ?_
 refine Z0g rfl ?_
 refine sqr 5 rfl (pur 2 rfl (sp rfl (PE.indexAddr Z0o rfl rfl (by omega) (by omega)) rfl (spL rfl rfl (lf0 sc3 (Zw (Zv (l := h.weeksV [x]) (k := b) (by rw [Zi hok]; omega))) rfl) rfl (pur 1 rfl (sqr 2 rfl (sp rfl (PE.add rfl rfl (by omega)) rfl (pur 1 rfl ?_)))))))
 first | exact Zm ⟨(j + 1, na (h.weeksV [x]) b), by dsimp only; omega, by dsimp only; rw [hst]; first | rw [dT (show 0 ≤ na (h.weeksV [x]) b by omega), dT (show fst < 0 by omega)]; rfl | rw [dT (show 0 ≤ na (h.weeksV [x]) b by omega), dT (show na (h.weeksV [x]) b < fst by omega), Bool.or_true]; rfl⟩ (by dsimp only; omega) (fun w h9 => h9.ftail.ftail) | exact Zm ⟨(j + 1, fst), by dsimp only; omega, by dsimp only; rw [hst]; first | rw [dF (show ¬ 0 ≤ na (h.weeksV [x]) b by omega)]; rfl | rw [dF (show ¬ fst < 0 by omega), dF (show ¬ na (h.weeksV [x]) b < fst by omega), Bool.or_false, Bool.and_false]; rfl⟩ (by dsimp only; omega) (fun w h9 => h9.ftail.ftail)
 simp only [decide_eq_false_iff_not] at g98
 refine pur 2 rfl ?_
 refine spG rfl rfl rfl rfl (PE.indexAddr Z0o rfl rfl (by omega) (by omega)) rfl ?_
 refine Z1i rfl rfl rfl rfl rfl (lf0 sc3 (Zw (Zv (l := h.weeksV [x]) (k := b) (by rw [Zi hok]; omega))) rfl) rfl (pur 4 rfl ?_)
 refine Z1 rfl ?_ ?_ <;> intro hc7 <;> try simp only [cS] at hc7
 refine sqr 5 rfl (pur 2 rfl (sp rfl (PE.indexAddr Z0o rfl rfl (by omega) (by omega)) rfl (spL rfl rfl (lf0 sc3 (Zw (Zv (l := h.weeksV [x]) (k := b) (by rw [Zi hok]; omega))) rfl) rfl (pur 1 rfl (sqr 2 rfl (sp rfl (PE.add rfl rfl (by omega)) rfl (pur 1 rfl ?_)))))))
 first | exact Zm ⟨(j + 1, na (h.weeksV [x]) b), by dsimp only; omega, by dsimp only; rw [hst]; first | rw [dT (show 0 ≤ na (h.weeksV [x]) b by omega), dT (show fst < 0 by omega)]; rfl | rw [dT (show 0 ≤ na (h.weeksV [x]) b by omega), dT (show na (h.weeksV [x]) b < fst by omega), Bool.or_true]; rfl⟩ (by dsimp only; omega) (fun w h9 => h9.ftail.ftail) | exact Zm ⟨(j + 1, fst), by dsimp only; omega, by dsimp only; rw [hst]; first | rw [dF (show ¬ 0 ≤ na (h.weeksV [x]) b by omega)]; rfl | rw [dF (show ¬ fst < 0 by omega), dF (show ¬ na (h.weeksV [x]) b < fst by omega), Bool.or_false, Bool.and_false]; rfl⟩ (by dsimp only; omega) (fun w h9 => h9.ftail.ftail)
 refine Z2 (sqr 2 rfl (sp rfl (PE.add rfl rfl (by omega)) rfl (pur 1 rfl ?_)))
 first | exact Zm ⟨(j + 1, na (h.weeksV [x]) b), by dsimp only; omega, by dsimp only; rw [hst]; first | rw [dT (show 0 ≤ na (h.weeksV [x]) b by omega), dT (show fst < 0 by omega)]; rfl | rw [dT (show 0 ≤ na (h.weeksV [x]) b by omega), dT (show na (h.weeksV [x]) b < fst by omega), Bool.or_true]; rfl⟩ (by dsimp only; omega) (fun w h9 => h9.ftail.ftail) | exact Zm ⟨(j + 1, fst), by dsimp only; omega, by dsimp only; rw [hst]; first | rw [dF (show ¬ 0 ≤ na (h.weeksV [x]) b by omega)]; rfl | rw [dF (show ¬ fst < 0 by omega), dF (show ¬ na (h.weeksV [x]) b < fst by omega), Bool.or_false, Bool.and_false]; rfl⟩ (by dsimp only; omega) (fun w h9 => h9.ftail.ftail)
 simp only [decide_eq_false_iff_not] at g95
 refine pur 3 rfl ?_
 repeat refine spU rfl rfl rfl rfl rfl rfl rfl ?_
 refine pur 2 rfl ?_
 refine ZF rfl ?_
 refine Z2 (sqr 2 rfl (sp rfl (PE.add rfl rfl (by omega)) rfl (pur 1 rfl ?_)))
 first | exact Zm ⟨(j + 1, na (h.weeksV [x]) b), by dsimp only; omega, by dsimp only; rw [hst]; first | rw [dT (show 0 ≤ na (h.weeksV [x]) b by omega), dT (show fst < 0 by omega)]; rfl | rw [dT (show 0 ≤ na (h.weeksV [x]) b by omega), dT (show na (h.weeksV [x]) b < fst by omega), Bool.or_true]; rfl⟩ (by dsimp only; omega) (fun w h9 => h9.ftail.ftail) | exact Zm ⟨(j + 1, fst), by dsimp only; omega, by dsimp only; rw [hst]; first | rw [dF (show ¬ 0 ≤ na (h.weeksV [x]) b by omega)]; rfl | rw [dF (show ¬ fst < 0 by omega), dF (show ¬ na (h.weeksV [x]) b < fst by omega), Bool.or_false, Bool.and_false]; rfl⟩ (by dsimp only; omega) (fun w h9 => h9.ftail.ftail)
 obtain rfl : j = (Zu p h.bins.toNat).length := by omega
 rw [List.take_length, ← hwb] at hfst
 refine Zh (a := aw) (sz := 1) (rows := Z6 (h.weeksV (Zu p h.bins.toNat))) (ne0 (by rw [irl]; omega)) (fun bw bwo hebw => ?_)
 subst hebw
 refine Z9 (Za (Za (Zo (sqt 6 rfl (pur 2 rfl (sp rfl (PE.indexAddr Z0o rfl rfl (by omega) (by omega)) rfl (spL rfl rfl (lf0 sc3 (Zw (Zv (l := (h.weeksV (Zu p h.bins.toNat))) (k := b) (by rw [Zi hok]; omega))) rfl) rfl (pur 2 rfl ?_))))))))
 refine Z1 rfl ?_ ?_ <;> intro hc8
 exact absurd hc8 (by simp; omega)
 refine Z2 (sqr 2 rfl (sp rfl (PE.add rfl rfl (by omega)) rfl (pur 1 rfl ?_)))
 exact Z8 ⟨b + 1, by omega⟩ idH
 refine Z9 (Za (Za (Zo (Z0 (sqt 4 rfl (sp rfl (PE.fA ZJ rfl) rfl (spL rfl rfl (lh Z2e rfl rfl) rfl (sp rfl (PE.lenSl Z0M rfl) rfl (pur 1 rfl (Z3 ?_))))))))))
 refine Zd (ι := {k : Nat // k ≤ h.gaps.length}) (fun k => ⟨[(1, .int .u8 n1), (5, .pointer (some ⟨b5, 0, none⟩)), (6, .slice ar (Zu p h.bins.toNat).length cr), (7, .slice aw h.bins.toNat cw), (120, h.sg ag cg), (121, .int .i64 h.gaps.length), (122, .int .i64 k.1)], (b5, cel 26 (htl h ((h).sg ag cg) ((h).ss none 0))) :: (bk, cel 72 [.slice a0 l0.length c0, .int .i64 (tqb), .int .u32 (mxb)]) :: H, RowsA aw 1 (Z6 (h.weeksV (Zu p h.bins.toNat))) :: RowsA none 3 (Zj h.sights) :: RowsA ar 1 (Z6 (Zu p h.bins.toNat)) :: RowsA ag 2 (Zb h.gaps) :: R⟩) (fun k => h.gaps.length - k.1) ⟨0, Nat.zero_le _⟩ ?_ (fun k => ?_)
 exact Zp idH
 obtain ⟨k, hk⟩ := k
 dsimp only at hk ⊢
 refine sqt 1 rfl (pur 1 rfl (Z0 ?_))
 refine Z1 rfl ?_ ?_ <;> intro hc9 <;> try simp only [cS] at hc9
 obtain ⟨gg, hg⟩ : ∃ g, h.gaps[k]? = some g := ⟨_, List.getElem?_eq_getElem (by omega)⟩
 have hgo := hok.gaps gg (List.mem_of_getElem? hg)
 have hadj := ZaA hok.wth hm7 (adj_mem.2 ⟨gg, List.mem_of_getElem? hg, .inl ⟨rfl, rfl⟩⟩)
 rw [← Z02 hok (Zu p h.bins.toNat) (show gg.a.toNat < h.bins.toNat by omega), ← Z02 hok (Zu p h.bins.toNat) (show gg.b.toNat < h.bins.toNat by omega)] at hadj
 refine Zh (a := ag) (sz := 2) (rows := Zb h.gaps) (ne0 (by rw [Z05]; omega)) (fun ba oa he => ?_)
 subst he
 refine Zh (a := aw) (sz := 1) (rows := Z6 (h.weeksV (Zu p h.bins.toNat))) (ne0 (by rw [irl]; omega)) (fun bw bwo hebw => ?_)
 subst hebw
 refine Z2 (Z0 (Z3 (sqt 4 rfl (sp rfl (PE.indexAddr Z6g rfl rfl (by omega) (by omega)) rfl (spL rfl rfl (lfA Z4B (row := Z1e gg) (Z14 hg) rfl) rfl (alc rfl Z2B rfl (fun b18 => ?_)))))))
 refine ZQ (l' := Z1e gg) rfl rfl rfl Z8F rfl rfl rfl rfl (nl rfl) ?_
 refine Z0 ?_
 refine Ze [0, 0, 2, 7, 15, 31, 0, 0, 128, 448, 960, 1984, 4095, 8191, 16383, 16383, 49151, 131071, 262143, 16383, 16383, 1064959, 3686399, 7880703, 16777215, 33554431, 67108863, 134217727, 268435455, 268435455, 805306367, 2147483647, 4294967295, 268435455, 268435455, 17448304639, 60397977599, 129117454335, 274877906943, 549755813887, 1099511627775] (.tk 0 (.tk 1 (.ld 2 (.tk 3 (.ld 4 (tks 5 3 (.ld 8 (.tk 9 (.ld 10 (tks 11 5 (.ld 16 (.tk 17 (.ld 18 (.tk 19 (.tk 20 (.ld 21 (.tk 22 (.ld 23 (tks 24 6 (.ld 30 (.tk 31 (.ld 32 (.tk 33 (.tk 34 (.ld 35 (.tk 36 (.ld 37 (tks 38 3 .done)))))))))))))))))))))))))))) Zy (by kernel_rfl) ?_
 refine Zq 1 rfl (tk rfl (PE.fA ZH rfl) rfl (ld rfl rfl (lh sc3 rfl rfl) rfl (tk rfl (PE.indexAddr Z0o rfl rfl (by omega) (by omega)) rfl (ld rfl rfl (lf0 sc3 (Zw (Zv (l := (h.weeksV (Zu p h.bins.toNat))) (k := gg.a.toNat) (by rw [Zi hok]; omega))) rfl) rfl (Zq 2 rfl (tk rfl (PE.fA ZA rfl) rfl (ld rfl rfl (lh sc3 rfl rfl) rfl (tk rfl (PE.indexAddr Z0o rfl rfl (by omega) (by omega)) rfl (ld rfl rfl (lf0 sc3 (Zw (Zv (l := (h.weeksV (Zu p h.bins.toNat))) (k := gg.b.toNat) (by rw [Zi hok]; omega))) rfl) rfl (Zq 1 rfl (tk rfl (PE.neqBool ub4 rfl rfl) rfl (Zq 1 rfl ?_))))))))))))
 refine Zt 139 rfl ?_ ?_ <;> intro g139
 have e9 : decide (na (h.weeksV (Zu p h.bins.toNat)) gg.a.toNat < 0) = decide (na (h.weeksV (Zu p h.bins.toNat)) gg.b.toNat < 0) := decide_eq_decide.2 hadj.1
 rw [e9] at g139
 simp at g139
 refine Zq 1 rfl ?_
 refine tkG rfl rfl rfl rfl (PE.fA ZH rfl) rfl ?_
 refine ldG rfl rfl rfl rfl rfl (lh sc3 rfl rfl) rfl ?_
 refine tkG rfl rfl rfl rfl (PE.indexAddr Z0o rfl rfl (by omega) (by omega)) rfl ?_
 refine ldG rfl rfl rfl rfl rfl (lf0 sc3 (Zw (Zv (l := (h.weeksV (Zu p h.bins.toNat))) (k := gg.a.toNat) (by rw [Zi hok]; omega))) rfl) rfl (Zq 1 rfl ?_)
 refine tkG rfl rfl rfl rfl (PE.fA ZA rfl) rfl ?_
 refine ldG rfl rfl rfl rfl rfl (lh sc3 rfl rfl) rfl ?_
 refine tkG rfl rfl rfl rfl (PE.indexAddr Z0o rfl rfl (by omega) (by omega)) rfl ?_
 refine ldG rfl rfl rfl rfl rfl (lf0 sc3 (Zw (Zv (l := (h.weeksV (Zu p h.bins.toNat))) (k := gg.b.toNat) (by rw [Zi hok]; omega))) rfl) rfl ?_
 refine tkG rfl rfl rfl rfl (PE.sub rfl rfl (by omega)) rfl ?_
 refine Zq 3 rfl ?_
 refine Zt 153 rfl ?_ ?_ <;> intro g153
 simp only [decide_eq_true_eq] at g153; omega
 refine Zq 1 rfl ?_
 refine tkG rfl rfl rfl rfl (PE.fA ZA rfl) rfl ?_
 refine ldG rfl rfl rfl rfl rfl (lh sc3 rfl rfl) rfl ?_
 refine tkG rfl rfl rfl rfl (PE.indexAddr Z0o rfl rfl (by omega) (by omega)) rfl ?_
 refine ldG rfl rfl rfl rfl rfl (lf0 sc3 (Zw (Zv (l := (h.weeksV (Zu p h.bins.toNat))) (k := gg.b.toNat) (by rw [Zi hok]; omega))) rfl) rfl (Zq 1 rfl ?_)
 refine tkG rfl rfl rfl rfl (PE.fA ZH rfl) rfl ?_
 refine ldG rfl rfl rfl rfl rfl (lh sc3 rfl rfl) rfl ?_
 refine tkG rfl rfl rfl rfl (PE.indexAddr Z0o rfl rfl (by omega) (by omega)) rfl ?_
 refine ldG rfl rfl rfl rfl rfl (lf0 sc3 (Zw (Zv (l := (h.weeksV (Zu p h.bins.toNat))) (k := gg.a.toNat) (by rw [Zi hok]; omega))) rfl) rfl ?_
 refine tkG rfl rfl rfl rfl (PE.sub rfl rfl (by omega)) rfl ?_
 refine Zq 2 rfl ?_
 refine Z1 rfl ?_ ?_ <;> intro hc10
 exact absurd hc10 (by simp; omega)
 refine Z2 (sqr 2 rfl (sp rfl (PE.add rfl rfl (by omega)) rfl (pur 1 rfl ?_)))
 exact Z8 ⟨k + 1, by omega⟩ (fun w h9 => h9.del b18)
 refine Z9 (Za (Za (Zo (Z0 (sqt 4 rfl (sp rfl (PE.fA ZJ rfl) rfl (spL rfl rfl (lh Z2e rfl rfl) rfl (sp rfl (PE.lenSl Z0M rfl) rfl (pur 1 rfl ?_)))))))))
 refine Z1 rfl ?_ ?_ <;> intro hc11
 refine sqt 2 rfl ?_
 refine clV rfl Z9X rfl rfl (Z4A _ _) ?_
 refine pur 1 rfl (Z5 ?_)
 exact rtA rfl rfl rfl ⟨rfl, rfl, rfl⟩ (fun w h9 => (h9.del b5).del bk |>.facts (fun g hg => by simp [hg]))
 try simp only [cS] at hc11
 have hg1 : 1 ≤ h.gaps.length := by omega
 obtain ⟨i, hi⟩ : ∃ i : Nat, n1 % (h.gaps.length : Int) = i := ⟨(n1 % (h.gaps.length : Int)).toNat, by have := Int.emod_nonneg n1 (show (h.gaps.length : Int) ≠ 0 by omega); omega⟩
 have hil : i < h.gaps.length := by have := Int.emod_lt_of_pos n1 (show 0 < (h.gaps.length : Int) by omega); omega
 obtain ⟨hc0E, hcH⟩ := Zao hok hil
 have hok2 := Z8n hok i
 have hel := List.length_eraseIdx_of_lt hil
 refine Z2 (Z0 ?_)
 refine Ze [0, 0, 2, 0, 8, 24, 62, 127, 255, 511, 511, 0, 3071, 8191] (.ld 0 (tks 1 3 (.ld 4 (.tk 5 (.tk 6 (.any (.alt 7 (tks 8 3 (.big 11 (.big 12 (.tk 13 .done)))) (.alt 11 (.big 7 (tks 8 3 (.big 12 (.tk 13 .done)))) .stop)))))))) Zy (by kernel_rfl) ?_
 refine ld rfl rfl (lhA (htl h (h.sg ag cg) (h.ss none 0)) Z0F rfl rfl rfl) rfl (Zq 1 rfl (tk rfl (PE.conv64 us5 ik3 rfl (by omega)) rfl (tk rfl (PE.fA ZJ rfl) rfl (ld rfl rfl (lh Z2e rfl rfl) rfl (tk rfl (PE.lenSl Z0M rfl) rfl (tk rfl (PE.rem rfl rfl (by omega)) rfl ?_))))))
 refine Z1t ?_ ?_
 rw [hi]
 refine cl rfl ZbF rfl rfl (Z7h h ag none cg 0 (by omega) (by omega) i (by omega) _ _) ?_
 rintro _ _ R1 ⟨ax, ay, cx, cy, ⟨hcx, hcy⟩, rfl, rfl, hR1⟩
 obtain rfl := hR1.symm
 clear hR1
 rw [hc0E, hcH]
 refine bgT (Zq 3 rfl (alc rfl Z6b rfl (fun b19 => bgT ?_)))
 refine ZQ (l' := htl ⟨h.bins, h.gaps.eraseIdx i, h.sights⟩ (.slice ax (h.gaps.eraseIdx i).length cx) (.slice ay h.sights.length cy)) rfl rfl rfl Z85 rfl rfl rfl rfl (nl rfl) ?_
 refine bgT (Zq 1 rfl (sqt 8 rfl (spL rfl rfl (lhA (htl ⟨h.bins, h.gaps.eraseIdx i, h.sights⟩ (.slice ax (h.gaps.eraseIdx i).length cx) (.slice ay h.sights.length cy)) Z0F rfl rfl rfl) rfl (pur 1 rfl ?_))))
 refine cl rfl Z6n rfl rfl (Z2m ⟨h.bins, h.gaps.eraseIdx i, h.sights⟩ ax ay cx cy hok2 (Zu p h.bins.toNat) ar cr hfe (by omega) hcr _ _) ?_
 rintro _ _ R1 ⟨av, cv, rfl, rfl, hR1⟩
 obtain rfl := hR1.symm
 clear hR1
 have hVl : (Hse.weeksV ⟨h.bins, h.gaps.eraseIdx i, h.sights⟩ (Zu p h.bins.toNat)).length = h.bins.toNat := Zi hok2 (Zu p h.bins.toNat)
 refine pur 5 rfl (Z0 (sqt 23 rfl (pur 3 rfl ?_)))
 refine Zt 192 rfl ?_ ?_ <;> intro g192
 exact absurd g192 (by simp)
 refine pur 4 rfl ?_
 refine Zt 196 rfl ?_ ?_ <;> intro g196
 exact absurd g196 (by simp)
 refine pur 1 rfl ?_
 refine spG rfl rfl rfl rfl (PE.lenSl ZD rfl) rfl ?_
 refine spG rfl rfl rfl rfl (PE.fA Z01 rfl) rfl ?_
 refine Z1i rfl rfl rfl rfl rfl (lh (v := .int .i64 h.bins) sc3 rfl rfl) rfl (pur 3 rfl ?_)
 refine Zt 203 rfl ?_ ?_ <;> intro g203
 exact absurd g203 (by simp; omega)
 refine spG rfl rfl rfl rfl (PE.fA ZJ rfl) rfl ?_
 refine Z1i rfl rfl rfl rfl rfl (lh Z2e rfl rfl) rfl ?_
 refine spG rfl rfl rfl rfl (PE.lenSl Z0M rfl) rfl ?_
 refine spG rfl rfl rfl rfl (PE.fA ZJ rfl) rfl ?_
 refine Z1i rfl rfl rfl rfl rfl (lh Z2e rfl rfl) rfl ?_
 refine spG rfl rfl rfl rfl (PE.lenSl Z0M rfl) rfl ?_
 refine spG rfl rfl rfl rfl (PE.sub rfl rfl (by omega)) rfl ?_
 refine pur 2 rfl ?_
 refine Z1 rfl ?_ ?_ <;> intro hc12
 exact absurd hc12 (by simp; omega)
 refine Z2 (Z0 (sqt 3 rfl (pur 1 rfl (sp rfl (PE.lenSl ZD rfl) rfl (pur 1 rfl (Z3 ?_))))))
 refine Zd (ι := {k : Nat // k ≤ h.bins.toNat}) (fun k => ⟨[(1, .int .u8 n1), (5, .pointer (some ⟨b5, 0, none⟩)), (6, .slice ar (Zu p h.bins.toNat).length cr), (7, .slice aw h.bins.toNat cw), (213, .slice av h.bins.toNat cv), (214, .int .i64 h.bins.toNat), (215, .int .i64 k.1)], (b19, cel 26 (htl ⟨h.bins, h.gaps.eraseIdx i, h.sights⟩ (.slice ax (h.gaps.eraseIdx i).length cx) (.slice ay h.sights.length cy))) :: (b5, cel 26 (htl h ((h).sg ag cg) ((h).ss none 0))) :: (bk, cel 72 [.slice a0 l0.length c0, .int .i64 (tqb), .int .u32 (mxb)]) :: H, RowsA av 1 (Z6 (Hse.weeksV ⟨h.bins, h.gaps.eraseIdx i, h.sights⟩ (Zu p h.bins.toNat))) :: RowsA ax 2 (Zb (h.gaps.eraseIdx i)) :: RowsA ay 3 (Zj h.sights) :: RowsA aw 1 (Z6 (h.weeksV (Zu p h.bins.toNat))) :: RowsA none 3 (Zj h.sights) :: RowsA ar 1 (Z6 (Zu p h.bins.toNat)) :: RowsA ag 2 (Zb h.gaps) :: R⟩) (fun k => h.bins.toNat - k.1) ⟨0, Nat.zero_le _⟩ ?_ (fun k => ?_)
 exact Zp idH
 obtain ⟨k, hk⟩ := k
 dsimp only at hk ⊢
 refine sqt 1 rfl (pur 1 rfl (Z0 ?_))
 refine Z1 rfl ?_ ?_ <;> intro hc13 <;> try simp only [cS] at hc13
 have her := Z4e (k := k) hok.wth hm7 i
 rw [← Z02 hok (Zu p h.bins.toNat) (show k < h.bins.toNat by omega), ← Z02 hok2 (Zu p h.bins.toNat) (show k < h.bins.toNat by omega)] at her
 refine Zh (a := aw) (sz := 1) (rows := Z6 (h.weeksV (Zu p h.bins.toNat))) (ne0 (by rw [irl]; omega)) (fun bw bwo hebw => ?_)
 subst hebw
 refine Zh (a := av) (sz := 1) (rows := Z6 (Hse.weeksV ⟨h.bins, h.gaps.eraseIdx i, h.sights⟩ (Zu p h.bins.toNat))) (ne0 (by rw [irl]; omega)) (fun bv bvo hebv => ?_)
 subst hebv
 refine Z2 (Z0 (Z3 (sqt 5 rfl (pur 1 rfl (sp rfl (PE.indexAddr Z0o rfl rfl (by omega) (by omega)) rfl (spL rfl rfl (lf0 sc3 (Zw (Zv (l := Hse.weeksV ⟨h.bins, h.gaps.eraseIdx i, h.sights⟩ (Zu p h.bins.toNat)) (k := k) (by omega))) rfl) rfl (pur 2 rfl (sqt 17 rfl (pur 3 rfl ?_)))))))))
 refine Zt 222 rfl ?_ ?_ <;> intro g222
 simp only [decide_eq_true_eq] at g222
 refine pur 2 rfl ?_
 refine spG rfl rfl rfl rfl (PE.indexAddr Z0o rfl rfl (by omega) (by omega)) rfl ?_
 refine Z1i rfl rfl rfl rfl rfl (lf0 sc3 (Zw (Zv (l := (h.weeksV (Zu p h.bins.toNat))) (k := k) (by rw [Zi hok]; omega))) rfl) rfl (pur 2 rfl ?_)
 refine Zt 228 rfl ?_ ?_ <;> intro g228
 simp only [decide_eq_true_eq] at g228; omega
 simp only [decide_eq_false_iff_not] at g228
 refine pur 3 rfl ?_
 refine spG rfl rfl rfl rfl (PE.indexAddr Z0o rfl rfl (by omega) (by omega)) rfl ?_
 refine Z1i rfl rfl rfl rfl rfl (lf0 sc3 (Zw (Zv (l := (h.weeksV (Zu p h.bins.toNat))) (k := k) (by rw [Zi hok]; omega))) rfl) rfl (pur 3 rfl ?_)
 refine Z1 rfl ?_ ?_ <;> intro hc14
 simp only [decide_eq_true_eq] at hc14; omega
 refine Z2 (sqr 2 rfl (sp rfl (PE.add rfl rfl (by omega)) rfl (pur 1 rfl ?_)))
 exact Z8 ⟨k + 1, by omega⟩ idH
 simp only [decide_eq_false_iff_not] at g222
 refine pur 6 rfl ?_
 repeat refine spU rfl rfl rfl rfl rfl rfl rfl ?_
 refine pur 2 rfl ?_
 refine ZF rfl ?_
 refine Z2 (sqr 2 rfl (sp rfl (PE.add rfl rfl (by omega)) rfl (pur 1 rfl ?_)))
 exact Z8 ⟨k + 1, by omega⟩ idH
 refine Z9 (Za (Za (Zo (sqt 2 rfl ?_))))
 refine clV rfl Z9X rfl rfl (Z4A _ _) ?_
 refine pur 1 rfl (Z5 ?_)
 exact rtA rfl rfl rfl ⟨rfl, rfl, rfl⟩ (fun w h9 => ((h9.del b19).del b5).del bk |>.facts (fun g hg => by simp [hg]))
 refine Z1t ?_ ?_
 refine alc rfl Z6b rfl (fun b19 => ?_)
 refine bg (fun w hs => ⟨(lh Z2e rfl rfl) w hs, (lhA (htl h (h.sg ag cg) (h.ss none 0)) Z0F rfl rfl rfl) w hs, trivial⟩) ?_
 rw [hi]
 refine cl rfl ZbF rfl rfl (Z7h h ag none cg 0 (by omega) (by omega) i (by omega) _ _) ?_
 rintro _ _ R1 ⟨ax, ay, cx, cy, ⟨hcx, hcy⟩, rfl, rfl, hR1⟩
 obtain rfl := hR1.symm
 clear hR1
 rw [hc0E, hcH]
 refine bgT (Zq 3 rfl ?_)
 refine ZQ (l' := htl ⟨h.bins, h.gaps.eraseIdx i, h.sights⟩ (.slice ax (h.gaps.eraseIdx i).length cx) (.slice ay h.sights.length cy)) rfl rfl rfl Z85 rfl rfl rfl rfl (nl rfl) ?_
 refine bgT (Zq 1 rfl (sqt 8 rfl (spL rfl rfl (lhA (htl ⟨h.bins, h.gaps.eraseIdx i, h.sights⟩ (.slice ax (h.gaps.eraseIdx i).length cx) (.slice ay h.sights.length cy)) Z0F rfl rfl rfl) rfl (pur 1 rfl ?_))))
 refine cl rfl Z6n rfl rfl (Z2m ⟨h.bins, h.gaps.eraseIdx i, h.sights⟩ ax ay cx cy hok2 (Zu p h.bins.toNat) ar cr hfe (by omega) hcr _ _) ?_
 rintro _ _ R1 ⟨av, cv, rfl, rfl, hR1⟩
 obtain rfl := hR1.symm
 clear hR1
 have hVl : (Hse.weeksV ⟨h.bins, h.gaps.eraseIdx i, h.sights⟩ (Zu p h.bins.toNat)).length = h.bins.toNat := Zi hok2 (Zu p h.bins.toNat)
 refine pur 5 rfl (Z0 (sqt 23 rfl (pur 3 rfl ?_)))
 refine Zt 192 rfl ?_ ?_ <;> intro g192
 exact absurd g192 (by simp)
 refine pur 4 rfl ?_
 refine Zt 196 rfl ?_ ?_ <;> intro g196
 exact absurd g196 (by simp)
 refine pur 1 rfl ?_
 refine spG rfl rfl rfl rfl (PE.lenSl ZD rfl) rfl ?_
 refine spG rfl rfl rfl rfl (PE.fA Z01 rfl) rfl ?_
 refine Z1i rfl rfl rfl rfl rfl (lh (v := .int .i64 h.bins) sc3 rfl rfl) rfl (pur 3 rfl ?_)
 refine Zt 203 rfl ?_ ?_ <;> intro g203
 exact absurd g203 (by simp; omega)
 refine spG rfl rfl rfl rfl (PE.fA ZJ rfl) rfl ?_
 refine Z1i rfl rfl rfl rfl rfl (lh Z2e rfl rfl) rfl ?_
 refine spG rfl rfl rfl rfl (PE.lenSl Z0M rfl) rfl ?_
 refine spG rfl rfl rfl rfl (PE.fA ZJ rfl) rfl ?_
 refine Z1i rfl rfl rfl rfl rfl (lh Z2e rfl rfl) rfl ?_
 refine spG rfl rfl rfl rfl (PE.lenSl Z0M rfl) rfl ?_
 refine spG rfl rfl rfl rfl (PE.sub rfl rfl (by omega)) rfl ?_
 refine pur 2 rfl ?_
 refine Z1 rfl ?_ ?_ <;> intro hc12
 exact absurd hc12 (by simp; omega)
 refine Z2 (Z0 (sqt 3 rfl (pur 1 rfl (sp rfl (PE.lenSl ZD rfl) rfl (pur 1 rfl (Z3 ?_))))))
 refine Zd (ι := {k : Nat // k ≤ h.bins.toNat}) (fun k => ⟨[(1, .int .u8 n1), (5, .pointer (some ⟨b5, 0, none⟩)), (6, .slice ar (Zu p h.bins.toNat).length cr), (7, .slice aw h.bins.toNat cw), (213, .slice av h.bins.toNat cv), (214, .int .i64 h.bins.toNat), (215, .int .i64 k.1)], (b19, cel 26 (htl ⟨h.bins, h.gaps.eraseIdx i, h.sights⟩ (.slice ax (h.gaps.eraseIdx i).length cx) (.slice ay h.sights.length cy))) :: (b5, cel 26 (htl h ((h).sg ag cg) ((h).ss none 0))) :: (bk, cel 72 [.slice a0 l0.length c0, .int .i64 (tqb), .int .u32 (mxb)]) :: H, RowsA av 1 (Z6 (Hse.weeksV ⟨h.bins, h.gaps.eraseIdx i, h.sights⟩ (Zu p h.bins.toNat))) :: RowsA ax 2 (Zb (h.gaps.eraseIdx i)) :: RowsA ay 3 (Zj h.sights) :: RowsA aw 1 (Z6 (h.weeksV (Zu p h.bins.toNat))) :: RowsA none 3 (Zj h.sights) :: RowsA ar 1 (Z6 (Zu p h.bins.toNat)) :: RowsA ag 2 (Zb h.gaps) :: R⟩) (fun k => h.bins.toNat - k.1) ⟨0, Nat.zero_le _⟩ ?_ (fun k => ?_)
 exact Zp idH
 obtain ⟨k, hk⟩ := k
 dsimp only at hk ⊢
 refine sqt 1 rfl (pur 1 rfl (Z0 ?_))
 refine Z1 rfl ?_ ?_ <;> intro hc13 <;> try simp only [cS] at hc13
 have her := Z4e (k := k) hok.wth hm7 i
 rw [← Z02 hok (Zu p h.bins.toNat) (show k < h.bins.toNat by omega), ← Z02 hok2 (Zu p h.bins.toNat) (show k < h.bins.toNat by omega)] at her
 refine Zh (a := aw) (sz := 1) (rows := Z6 (h.weeksV (Zu p h.bins.toNat))) (ne0 (by rw [irl]; omega)) (fun bw bwo hebw => ?_)
 subst hebw
 refine Zh (a := av) (sz := 1) (rows := Z6 (Hse.weeksV ⟨h.bins, h.gaps.eraseIdx i, h.sights⟩ (Zu p h.bins.toNat))) (ne0 (by rw [irl]; omega)) (fun bv bvo hebv => ?_)
 subst hebv
 refine Z2 (Z0 (Z3 (sqt 5 rfl (pur 1 rfl (sp rfl (PE.indexAddr Z0o rfl rfl (by omega) (by omega)) rfl (spL rfl rfl (lf0 sc3 (Zw (Zv (l := Hse.weeksV ⟨h.bins, h.gaps.eraseIdx i, h.sights⟩ (Zu p h.bins.toNat)) (k := k) (by omega))) rfl) rfl (pur 2 rfl (sqt 17 rfl (pur 3 rfl ?_)))))))))
 refine Zt 222 rfl ?_ ?_ <;> intro g222
 simp only [decide_eq_true_eq] at g222
 refine pur 2 rfl ?_
 refine spG rfl rfl rfl rfl (PE.indexAddr Z0o rfl rfl (by omega) (by omega)) rfl ?_
 refine Z1i rfl rfl rfl rfl rfl (lf0 sc3 (Zw (Zv (l := (h.weeksV (Zu p h.bins.toNat))) (k := k) (by rw [Zi hok]; omega))) rfl) rfl (pur 2 rfl ?_)
 refine Zt 228 rfl ?_ ?_ <;> intro g228
 simp only [decide_eq_true_eq] at g228; omega
 simp only [decide_eq_false_iff_not] at g228
 refine pur 3 rfl ?_
 refine spG rfl rfl rfl rfl (PE.indexAddr Z0o rfl rfl (by omega) (by omega)) rfl ?_
 refine Z1i rfl rfl rfl rfl rfl (lf0 sc3 (Zw (Zv (l := (h.weeksV (Zu p h.bins.toNat))) (k := k) (by rw [Zi hok]; omega))) rfl) rfl (pur 3 rfl ?_)
 refine Z1 rfl ?_ ?_ <;> intro hc14
 simp only [decide_eq_true_eq] at hc14; omega
 refine Z2 (sqr 2 rfl (sp rfl (PE.add rfl rfl (by omega)) rfl (pur 1 rfl ?_)))
 exact Z8 ⟨k + 1, by omega⟩ idH
 simp only [decide_eq_false_iff_not] at g222
 refine pur 6 rfl ?_
 repeat refine spU rfl rfl rfl rfl rfl rfl rfl ?_
 refine pur 2 rfl ?_
 refine ZF rfl ?_
 refine Z2 (sqr 2 rfl (sp rfl (PE.add rfl rfl (by omega)) rfl (pur 1 rfl ?_)))
 exact Z8 ⟨k + 1, by omega⟩ idH
 refine Z9 (Za (Za (Zo (sqt 2 rfl ?_))))
 refine clV rfl Z9X rfl rfl (Z4A _ _) ?_
 refine pur 1 rfl (Z5 ?_)
 exact rtA rfl rfl rfl ⟨rfl, rfl, rfl⟩ (fun w h9 => ((h9.del b19).del b5).del bk |>.facts (fun g hg => by simp [hg]))
 exact Z2u
end Go.Proofs.Ythfgcnmcipcbbaa
