/- Walks of the functions of the program, and the laws that join them: what the last theorem of this claim needs, in order. -/
import Derived.Test.YtelegnmfhjfbaaaTr5
namespace Go.Proofs.Ytelegnmfhjfbaaa
set_option linter.unusedSimpArgs false
set_option linter.unusedVariables false
open Go
theorem cal68 : cal Try.prog 68 = true := by kernel_rfl
theorem tried_keeps {b : Barn} (hok : b.ok) (hck : b.check = 0) {p : List (List Nat)} (hp : ∀ l ∈ p, l ∈ b.dsk.trs false) (hl : p.length ≤ 20) {ws : List Int} (h : b.burnsF b.warms (p.map il) 0 = (none, ws)) {m : Int} (hm : Kpt b.dsk b.state m) :
    (p.length : Int) ≤ m ∧ planE b p.length = 0 ∧ 0 ≤ turnsV b p.length ∧ turnsV b p.length ≤ (lenS (p.map il) : Int) := by
  have hr : b.dsk.run b.state p = some (b.stw ws) := by
    rcases Barn.run_burns hok p b.warms 0 (Cool.start hok) (fun l hl => b.dsk.trs_lt (hp l hl)) with ⟨ws', h3, h4, _⟩ | ⟨x, ws', h3, _⟩
    · rw [h] at h3; cases h3
      rw [Barn.stw_warms hok] at h4; exact h4
    · rw [h] at h3; cases h3
  have hpth := b.dsk.run_pth hp hr
  have h1 := (kpt_pth (b.dsk_ok hok) (b.state_inS hok) hm p.length).1 ⟨_, _, hpth⟩
  rcases plan_facts hok hck hl with ⟨_, _, h2⟩ | ⟨c, q, h2, h3, _, h4⟩
  · exact absurd ⟨_, _, hpth⟩ h2
  · have := h4.few.le _ _ hpth
    refine ⟨by omega, h2, by omega, ?_⟩
    rw [lenS_il]; omega
theorem burnsC_hi {b : Barn} (p : List (List Int)) : dayN (b.burnsC (hiL b) b.warms p 0) = bif (brnQ b p).2.2 then ((brnQ b p).1 : Int) else -1 := by
  rw [burnsC_worst (fun k hk => hiL_worst k hk)]
  rcases brn_cases b p with ⟨ws, h1, h2⟩ | ⟨d, k, ws, h1, h2⟩ <;> rw [h1, h2] <;> rfl
theorem brn_hot {b : Barn} {p : List (List Int)} {d k : Nat} {ws : List Int} (h : b.burnsF b.warms p 0 = (some (d, k), ws)) : k < b.bins.length ∧ d < p.length ∧ ∀ x, b.bins[k]? = some x → x.mark < wst b.cool (b.worst x) k x.warm (p.take (d + 1)) := by
  rcases b.burns_spec p b.warms 0 with ⟨h1, _⟩ | ⟨k', e, h1, h2, h3, h4, _⟩
  · rw [h] at h1; cases h1
  · rw [h] at h1
    cases h1
    rw [Nat.zero_add]
    refine ⟨h2, h3, fun x hx => ?_⟩
    unfold hotW at h4
    rw [Barn.warms_at h2, show b.binD k = x from bin_getD hx, bin_getD hx] at h4
    exact h4
theorem lenS_four : ∀ {p : List (List Int)}, (∀ l ∈ p, l.length ≤ 4) → lenS p ≤ 4 * p.length
  | [], _ => Nat.le_refl _
  | l :: p, h => by
    have h1 := lenS_four (p := p) fun m hm => h m (by simp [hm])
    have h2 := h l (by simp)
    have h3 : lenS (l :: p) = l.length + lenS p := rfl
    rw [List.length_cons]; omega
theorem c_LongestX (b : Barn) (ab : Option Addr) (cb : Nat) (hl : b.bins.length ≤ 9223372036854775807) (hr : b.rise.length = 6) (hck : b.check = 0) (H : Heap) (R : Facts) [hB : MemRows ab 4 (brows b.bins) R] : Fn Try.prog 35 [b.v (b.sl ab cb)] H R (fun v H' R' => (∃ m, Kpt b.dsk b.state m ∧ v = .tuple #[.int .i64 m, .int .i64 0]) ∧ H' = H ∧ R' = R) := fun w hw => by
  refine CallsIn.mono (c_Longest b ab cb hl hr H R w hw) ?_
  rintro e' w' ⟨u, H', R', ⟨h1, h2, h3⟩, he, hs'⟩
  refine ⟨u, H', R', ⟨?_, h2, h3⟩, he, hs'⟩
  rcases h1 with ⟨h, _⟩ | ⟨_, m, hm, rfl⟩
  · exact absurd hck h
  · exact ⟨m, hm, rfl⟩
theorem plQ_ok {b : Barn} {p : List (List Int)} (h : b.planned p = 0) : plQ b p = brnQ b p ∧ plK b p = !(brnQ b p).2.2 ∧ plU b p = bif (brnQ b p).2.2 then 0 else 6 := by
  unfold plQ plK plU
  rw [decide_eq_true h]
  exact ⟨rfl, rfl, rfl⟩
theorem c_KeepsK (b : Barn) (ab : Option Addr) (cb : Nat) (hl : b.bins.length ≤ 9223372036854775807) (hr : b.rise.length = 6) (pl : List PL) (ap : Option Addr) (cp : Nat) (hpl : pl.length ≤ 9223372036854775807) (hpi : ∀ x ∈ pl, x.l.length ≤ 9223372036854775807) (hpo : b.planned (lls pl) = 0) (H : Heap) (R : Facts) [hB : MemRows ab 4 (brows b.bins) R] [hP : MemRows ap 1 (plrows pl) R] [hI : MemF (Inn pl) R] : FnV Try.prog 27 [b.v (b.sl ab cb), .slice ap pl.length cp] H R (.tuple #[.bool (!(brnQ b (lls pl)).2.2), .int .i64 0]) := by
  have h := c_KeepsF b ab cb hl hr pl ap cp hpl hpi H R
  rw [(plQ_ok hpo).2.1, hpo] at h
  exact h
theorem c_BurnsK (b : Barn) (ab : Option Addr) (cb : Nat) (hl : b.bins.length ≤ 9223372036854775807) (hr : b.rise.length = 6) (pl : List PL) (ap : Option Addr) (cp : Nat) (hpl : pl.length ≤ 9223372036854775807) (hpi : ∀ x ∈ pl, x.l.length ≤ 9223372036854775807) (hpo : b.planned (lls pl) = 0) (H : Heap) (R : Facts) [hB : MemRows ab 4 (brows b.bins) R] [hP : MemRows ap 1 (plrows pl) R] [hI : MemF (Inn pl) R] : FnV Try.prog 28 [b.v (b.sl ab cb), .slice ap pl.length cp] H R (.tuple #[.int .i64 (brnQ b (lls pl)).1, .int .i64 (brnQ b (lls pl)).2.1, .int .i64 (bif (brnQ b (lls pl)).2.2 then 0 else 6)]) := by
  have h := c_BurnsF b ab cb hl hr pl ap cp hpl hpi H R
  rw [(plQ_ok hpo).1, (plQ_ok hpo).2.2] at h
  exact h
theorem c_HeatTried (l1 : List Int) (a1 : Option Addr) (c1 : Nat) (hl1 : l1.length ≤ 9223372036854775807) (l2 : List Int) (a2 : Option Addr) (c2 : Nat) (hl2 : l2.length ≤ 9223372036854775807) (H : Heap) (R : Facts) [hG1 : MemRows a1 1 (urows l1) R] [hG2 : MemRows a2 1 (urows l2) R] :
    Fn Try.prog 13 [.slice a1 l1.length c1, .slice a2 l2.length c2] H R (fun v H' R' => v = .bool true ∧ H' = H ∧ R' = R) := by
 refine fn_of Try.func13 rfl Try.ntmps13 rfl ?_
 refine sy_seq ?_
 refine sy_tx' [0] rfl ?_
 refine sp rfl (PE.assign rfl) rfl ?_
 refine sy_seq ?_
 refine sy_tx' [0, 1, 2, 3, 4, 5, 6, 7] rfl ?_
 refine sp rfl (PE.move rfl) rfl ?_
 refine cl rfl cal45 rfl rfl (c_Fill l1 a1 c1 hl1 _ _) ?_
 rintro _ _ R1 ⟨bs, ms, hms, rfl, rfl, hR1⟩
 obtain rfl := hR1.symm
 clear hR1
 refine cl rfl cal44 rfl rfl (c_Made l1 a1 c1 bs hl1 0 ms (by omega) hms 4 3 (by omega) (by omega) _ _) ?_
 rintro _ _ R1 ⟨b, ab, cb, tqb, mxb, hmd, rfl, htqb, hmxb, rfl, hR1⟩
 obtain rfl := hR1.symm
 clear hR1
 have hok := hmd.ok
 have hck := hmd.check
 have hr := hok.len
 have hmn := hok.many
 have hnb := hmd.nb
 have hgn := hok.gangs
 have hng := hmd.ng
 have hl : b.bins.length ≤ 9223372036854775807 := by omega
 refine sp rfl (PE.move rfl) rfl ?_
 refine cl rfl cal45 rfl rfl (c_Fill l2 a2 c2 hl2 _ _) ?_
 rintro _ _ R1 ⟨bt, mt, hmt, rfl, rfl, hR1⟩
 obtain rfl := hR1.symm
 clear hR1
 refine alc rfl zl25 rfl (fun b5 => ?_)
 refine stoE (l' := btl b (b.sl ab cb)) rfl rfl rfl cn25 rfl rfl rfl rfl (Nat.le_of_ble_eq_true rfl) ?_
 refine sp rfl (PE.assign rfl) rfl ?_
 refine sy_seq ?_
 refine sy_tx' [0, 1, 2, 3, 4, 5, 6] rfl ?_
 obtain ⟨x0, hx⟩ : ∃ x, b.bins[0]? = some x := ⟨_, List.getElem?_eq_getElem (by omega)⟩
 refine sy_addr (a := ab) (sz := 4) (rows := brows b.bins) (by intro h0; simp [brows] at h0; simp [h0] at hx) (fun ba oa he => ?_)
 subst he
 clear hx
 refine spL rfl rfl (lhA (btl b (b.sl (some ⟨ba, oa, none⟩) cb)) ag25 rfl rfl rfl) rfl ?_
 refine cl rfl cal35 rfl rfl (c_LongestX b (some ⟨ba, oa, none⟩) cb hl hr hck _ _) ?_
 rintro _ _ _ ⟨⟨m, hm, rfl⟩, rfl, rfl⟩
 refine sp rfl (PE.move rfl) rfl ?_
 refine sp rfl (PE.extract rfl rfl) rfl ?_
 refine sp rfl (PE.extract rfl rfl) rfl ?_
 refine sp rfl (PE.assign rfl) rfl ?_
 refine sp rfl (PE.assign rfl) rfl ?_
 refine sy_seq ?_
 refine sy_seq ?_
 refine sy_tx' [0, 1] rfl ?_
 refine sp rfl (PE.move rfl) rfl ?_
 refine sp rfl (PE.neq rfl rfl) rfl ?_
 refine sy_cond rfl (fun hc0 => ?_) (fun hc0 => ?_)
 exact absurd hc0 (by simp)
 refine sy_skip ?_
 refine sy_seq ?_
 refine sy_seq ?_
 refine sy_tx' [0] rfl ?_
 refine sp rfl (PE.move rfl) rfl ?_
 refine sy_block ?_
 refine sy_pull bt ?_
 refine sy_loop (ι := {x : Nat × Int × Int // x.1 ≤ 4 ∧ (0 ≤ x.2.1 ∧ x.2.1 ≤ 100 * x.1) ∧ (0 ≤ x.2.2 ∧ x.2.2 ≤ 4294967295)}) (fun x => ⟨[(5, .pointer (some ⟨b5, 0, none⟩)), (6, .pointer (some ⟨bt, 0, none⟩)), (7, .int .i64 m), (35, .int .i64 x.1.1)], (bt, cel 144 [.slice a2 l2.length c2, .int .i64 (x.1.2.1), .int .u32 (x.1.2.2)]) :: (b5, cel 25 (btl b (b.sl (some ⟨ba, oa, none⟩) cb))) :: (bs, cel 144 [.slice a1 l1.length c1, .int .i64 (tqb), .int .u32 (mxb)]) :: H, RowsA (some ⟨ba, oa, none⟩) 4 (brows b.bins) :: R⟩) (fun x => 4 - x.1.1) ⟨(0, 0, mt), by dsimp only; omega, by dsimp only; omega, by assumption⟩ ?_ (fun x => ?_)
 exact sy_at (by repeat' first | exact Sub.nil | apply Sub.cons | rfl | (simp [lk]; omega)) (fun _ h => h)
 obtain ⟨⟨i, tq, mx⟩, hi, htq, hmx⟩ := x
 dsimp only at hi htq hmx ⊢
 refine sy_seq ?_
 refine sy_tx' [0] rfl ?_
 refine sp rfl (PE.lss rfl rfl) rfl ?_
 refine sy_seq ?_
 refine sy_cond rfl (fun hc1 => ?_) (fun hc1 => ?_)
 try simp only [decide_eq_true_eq, decide_eq_false_iff_not, Bool.and_eq_true, Bool.or_eq_true, Bool.not_eq_true', Int.not_le, Int.not_lt] at hc1
 refine sy_skip ?_
 refine sy_seq ?_
 refine sy_block ?_
 refine sy_seq ?_
 refine sy_draw [0, 0, 0, 4, 15, 31] (.tk 0 (.ld 1 (.tk 2 (.big 3 (.big 4 (.tk 5 .done)))))) mixed (by kernel_rfl) ?_
 refine tk rfl (PE.move rfl) rfl ?_
 refine ld rfl rfl (lhA (btl b (b.sl (some ⟨ba, oa, none⟩) cb)) ag25 rfl rfl rfl) rfl ?_
 refine tk rfl (PE.move rfl) rfl ?_
 refine sy_pull bt ?_
 refine cl rfl cal63 rfl rfl (c_Below l2 a2 c2 bt hl2 _ _ (by omega) (by assumption) (10) _ _) ?_
 rintro _ _ R1 ⟨x40, m40, hx40, rfl, hm40, rfl, hR1⟩
 obtain rfl := hR1.symm
 clear hR1
 obtain ⟨days, rfl⟩ : ∃ n : Nat, x40 = n := ⟨x40.toNat, by omega⟩
 refine bg (fun w hs => ⟨(lhA (btl b (b.sl (some ⟨ba, oa, none⟩) cb)) ag25 rfl rfl rfl) w hs, trivial⟩) ?_
 refine cl rfl cal67 rfl rfl (c_tried l2 a2 c2 bt hl2 _ _ (by omega) (by assumption) b (some ⟨ba, oa, none⟩) cb hok days (by omega) _ _) ?_
 rintro _ _ R1 ⟨p, pl, ap, cp, tqt, mxt, hlp, hpn, hpt, rfl, htqt, hmxt, rfl, hR1⟩
 obtain rfl := hR1.symm
 clear hR1
 have hpll : pl.length = p.length := by have := congrArg List.length hlp; rwa [lls_len, List.length_map] at this
 have hpi : ∀ x ∈ pl, x.l.length ≤ 9223372036854775807 := fun x hx => by have := lls_four hok hlp hpt x hx; omega
 refine bg (fun w hs => ⟨trivial, trivial⟩) ?_
 refine tk rfl (PE.assign rfl) rfl ?_
 refine sy_seq ?_
 refine sy_draw [0, 0, 0, 4, 15, 31] (.ld 0 (.tk 1 (.ld 2 (.big 3 (.big 4 (.tk 5 .done)))))) mixed (by kernel_rfl) ?_
 have hpo : b.planned (lls pl) = 0 := by rw [hlp]; exact planned_of hck (by omega) hpt
 refine ld rfl rfl (lhA (btl b (b.sl (some ⟨ba, oa, none⟩) cb)) ag25 rfl rfl rfl) rfl ?_
 refine tk rfl (PE.move rfl) rfl ?_
 refine ld rfl rfl (lhA (btl b (b.sl (some ⟨ba, oa, none⟩) cb)) ag25 rfl rfl rfl) rfl ?_
 refine cl rfl cal69 rfl rfl (c_classesN b (some ⟨ba, oa, none⟩) cb hok _ _) ?_
 rintro _ _ R1 ⟨ac, cc, rfl, rfl, hR1⟩
 obtain rfl := hR1.symm
 clear hR1
 rw [← show (hiL b).length = b.bins.length from (hiL_cls hok).len]
 refine bg (fun w hs => ⟨trivial, (lhA (btl b (b.sl (some ⟨ba, oa, none⟩) cb)) ag25 rfl rfl rfl) w hs, trivial⟩) ?_
 refine clV rfl cal68 rfl rfl (c_lburns b (some ⟨ba, oa, none⟩) cb hok pl ap cp (by omega) hpi (hiL b) ac cc (hiL_cls hok) _ _) ?_
 refine bg (fun w hs => ⟨trivial, trivial⟩) ?_
 refine tk rfl (PE.assign rfl) rfl ?_
 refine sy_seq ?_
 refine sy_tx' [0, 1, 2, 3, 4, 5, 6, 7] rfl ?_
 rw [burnsC_hi]
 refine spL rfl rfl (lhA (btl b (b.sl (some ⟨ba, oa, none⟩) cb)) ag25 rfl rfl rfl) rfl ?_
 refine sp rfl (PE.move rfl) rfl ?_
 refine clV rfl cal27 rfl rfl (c_KeepsK b (some ⟨ba, oa, none⟩) cb hl hr pl ap cp (by omega) hpi hpo _ _) ?_
 refine sp rfl (PE.move rfl) rfl ?_
 refine sp rfl (PE.extract rfl rfl) rfl ?_
 refine sp rfl (PE.extract rfl rfl) rfl ?_
 refine sp rfl (PE.assign rfl) rfl ?_
 refine sp rfl (PE.assign rfl) rfl ?_
 refine sy_seq ?_
 refine sy_tx' [0, 1, 2, 3, 4, 5, 6, 7, 8, 9] rfl ?_
 refine spL rfl rfl (lhA (btl b (b.sl (some ⟨ba, oa, none⟩) cb)) ag25 rfl rfl rfl) rfl ?_
 refine sp rfl (PE.move rfl) rfl ?_
 refine clV rfl cal28 rfl rfl (c_BurnsK b (some ⟨ba, oa, none⟩) cb hl hr pl ap cp (by omega) hpi hpo _ _) ?_
 refine sp rfl (PE.move rfl) rfl ?_
 refine sp rfl (PE.extract rfl rfl) rfl ?_
 refine sp rfl (PE.extract rfl rfl) rfl ?_
 refine sp rfl (PE.extract rfl rfl) rfl ?_
 refine sp rfl (PE.assign rfl) rfl ?_
 refine sp rfl (PE.assign rfl) rfl ?_
 refine sp rfl (PE.assign rfl) rfl ?_
 refine sy_seq ?_
 refine sy_seq ?_
 refine sy_tx' [0, 1, 2, 3, 4, 5, 6, 7, 8, 9, 10, 11, 12, 13, 14, 15, 16, 17, 18, 19, 20, 21] rfl ?_
 obtain ⟨⟨d, k, hot⟩, hQ⟩ : ∃ q, brnQ b (lls pl) = q := ⟨_, rfl⟩
 rw [hQ]
 dsimp only
 refine sp rfl (PE.move rfl) rfl ?_
 refine sp rfl (PE.neq rfl rfl) rfl ?_
 refine sp rfl (PE.move rfl) rfl ?_
 refine sy_case (t := 62) rfl (fun g62 => ?_) (fun g62 => ?_)
 exact absurd g62 (by simp)
 refine spG rfl rfl rfl rfl (PE.move rfl) rfl ?_
 refine spG rfl rfl rfl rfl (PE.move rfl) rfl ?_
 refine spG rfl rfl rfl rfl (PE.lss rfl rfl) rfl ?_
 refine spG rfl rfl rfl rfl (PE.neqBool ub4 rfl rfl) rfl ?_
 refine sp rfl (PE.pick rfl rfl rfl) rfl ?_
 refine sp rfl (PE.move rfl) rfl ?_
 refine sy_case (t := 68) rfl (fun g68 => ?_) (fun g68 => ?_)
 cases hot <;> simp at g68 <;> omega
 refine spG rfl rfl rfl rfl (PE.move rfl) rfl ?_
 refine spG rfl rfl rfl rfl (PE.eql rfl rfl) rfl ?_
 refine spG rfl rfl rfl rfl (PE.move rfl) rfl ?_
 refine spG rfl rfl rfl rfl (PE.eqlBool ub4 rfl rfl) rfl ?_
 refine sp rfl (PE.pick rfl rfl rfl) rfl ?_
 refine sp rfl (PE.move rfl) rfl ?_
 refine sy_case (t := 74) rfl (fun g74 => ?_) (fun g74 => ?_)
 cases hot <;> simp at g74
 refine spG rfl rfl rfl rfl (PE.move rfl) rfl ?_
 refine spG rfl rfl rfl rfl (PE.neq rfl rfl) rfl ?_
 refine spG rfl rfl rfl rfl (PE.move rfl) rfl ?_
 refine sy_case (t := 77) rfl (fun g77 => ?_) (fun g77 => ?_)
 refine spG rfl rfl rfl rfl (PE.move rfl) rfl ?_
 refine spG rfl rfl rfl rfl (PE.neq rfl rfl) rfl ?_
 refine spG rfl rfl rfl rfl (PE.pick rfl rfl rfl) rfl ?_
 refine sp rfl (PE.pick rfl rfl rfl) rfl ?_
 refine sy_cond rfl (fun hc2 => ?_) (fun hc2 => ?_)
 cases hot
 exact absurd hc2 (by simp)
 exact absurd g77 (by simp)
 refine sy_skip ?_
 refine sy_seq ?_
 refine sy_seq ?_
 refine sy_tx' [0, 1] rfl ?_
 refine sp rfl (PE.move rfl) rfl ?_
 refine sp rfl (PE.not rfl) rfl ?_
 refine sy_cond rfl (fun hc3 => ?_) (fun hc3 => ?_)
 try simp only [decide_eq_true_eq, decide_eq_false_iff_not, Bool.and_eq_true, Bool.or_eq_true, Bool.not_eq_true', Int.not_le, Int.not_lt] at hc3
 obtain rfl : hot = true := by cases hot; exact absurd hc3 (by simp); rfl
 obtain ⟨ws, hbn⟩ : ∃ ws, b.burnsF b.warms (lls pl) 0 = (some (d, k), ws) := by
   rcases brn_cases b (lls pl) with ⟨ws, h3, h4⟩ | ⟨d', k', ws, h3, h4⟩
   · rw [hQ] at h4; cases h4
   · rw [hQ] at h4; cases h4; exact ⟨ws, h3⟩
 obtain ⟨hkl, hdl, hhot⟩ := brn_hot hbn
 rw [lls_len] at hdl
 obtain ⟨x, hx⟩ : ∃ x, b.bins[k]? = some x := ⟨_, List.getElem?_eq_getElem hkl⟩
 have hhx := hhot x hx
 rw [show (bif true then (d : Int) else -1) = (d : Int) from rfl]
 refine sy_seq ?_
 refine sy_seq ?_
 refine sy_tx' [0, 1, 2, 3, 4, 5, 6, 7, 8, 9, 10, 11, 12, 13] rfl ?_
 refine sp rfl (PE.move rfl) rfl ?_
 refine sp rfl (PE.move rfl) rfl ?_
 refine sp rfl (PE.neq rfl rfl) rfl ?_
 refine sp rfl (PE.move rfl) rfl ?_
 refine sy_case (t := 87) rfl (fun g87 => ?_) (fun g87 => ?_)
 exact absurd g87 (by simp)
 refine spG rfl rfl rfl rfl (PE.move rfl) rfl ?_
 refine spG rfl rfl rfl rfl (PE.lss rfl rfl) rfl ?_
 refine sp rfl (PE.pick rfl rfl rfl) rfl ?_
 refine sp rfl (PE.move rfl) rfl ?_
 refine sy_case (t := 91) rfl (fun g91 => ?_) (fun g91 => ?_)
 simp only [decide_eq_true_eq] at g91; omega
 refine spG rfl rfl rfl rfl (PE.move rfl) rfl ?_
 refine spG rfl rfl rfl rfl (PE.fieldAddr fo25_3 rfl) rfl ?_
 refine spLG rfl rfl rfl rfl rfl (lh sc23 rfl rfl) rfl ?_
 refine spG rfl rfl rfl rfl (PE.lenSl isl23 rfl) rfl ?_
 refine spG rfl rfl rfl rfl (PE.geq rfl rfl) rfl ?_
 refine sp rfl (PE.pick rfl rfl rfl) rfl ?_
 refine sy_cond rfl (fun hc4 => ?_) (fun hc4 => ?_)
 simp only [decide_eq_true_eq] at hc4; omega
 refine sy_skip ?_
 refine sy_seq ?_
 refine sy_tx' [0, 1, 2, 3, 4, 5, 6, 7, 8] rfl ?_
 refine spL rfl rfl (lhA (btl b (b.sl (some ⟨ba, oa, none⟩) cb)) ag25 rfl rfl rfl) rfl ?_
 refine sp rfl (PE.move rfl) rfl ?_
 refine sp rfl (PE.move rfl) rfl ?_
 refine cl rfl cal26 rfl rfl (c_WarmthK b (some ⟨ba, oa, none⟩) cb hl hr pl ap cp (by omega) hpi (by rw [hlp]; exact warmErr_of hck (by omega) hpt hkl) _ _) ?_
 rintro _ _ R1 ⟨aw, cw, rfl, rfl, hR1⟩
 obtain rfl := hR1.symm
 clear hR1
 rw [warmL_of hx, lls_len, wSp_len]
 refine sy_addr (a := aw) (sz := 2) (rows := sprows (wSpans b.cool (b.least x) (b.worst x) k x.warm (lls pl) pl.length)) (by intro h0; have := congrArg List.length h0; rw [sprows_len, wSp_len] at this; simp only [List.length_nil] at this; omega) (fun b9 o9 he => ?_)
 subst he
 refine sp rfl (PE.move rfl) rfl ?_
 refine sp rfl (PE.extract rfl rfl) rfl ?_
 refine sp rfl (PE.extract rfl rfl) rfl ?_
 refine sp rfl (PE.assign rfl) rfl ?_
 refine sp rfl (PE.assign rfl) rfl ?_
 refine sy_seq ?_
 refine sy_seq ?_
 refine sy_draw [0, 1, 3, 7, 15, 7, 39, 127, 255, 511, 1023, 1023, 4095, 8191, 16383, 1023, 33791, 1023, 230399, 492543, 1016831, 2097151, 4194303] (.tk 0 (.tk 1 (.tk 2 (.tk 3 (.tk 4 (.tk 5 (.tk 6 (.tk 7 (.tk 8 (.tk 9 (.tk 10 (.tk 11 (.tk 12 (.tk 13 (.ld 14 (.tk 15 (.ld 16 (.tk 17 (.tk 18 (.tk 19 (.ld 20 (.tk 21 (.tk 22 .done))))))))))))))))))))))) mixed (by kernel_rfl) ?_
 refine tk rfl (PE.move rfl) rfl ?_
 refine tk rfl (PE.neq rfl rfl) rfl ?_
 refine tk rfl (PE.move rfl) rfl ?_
 refine sy_case (t := 107) rfl (fun g107 => ?_) (fun g107 => ?_)
 exact absurd g107 (by simp)
 refine tkG rfl rfl rfl rfl (PE.move rfl) rfl ?_
 refine tkG rfl rfl rfl rfl (PE.lenSl isl39 rfl) rfl ?_
 refine tkG rfl rfl rfl rfl (PE.move rfl) rfl ?_
 refine tkG rfl rfl rfl rfl (PE.lenSl isl26 rfl) rfl ?_
 refine tkG rfl rfl rfl rfl (PE.neq rfl rfl) rfl ?_
 refine tk rfl (PE.pick rfl rfl rfl) rfl ?_
 refine tk rfl (PE.move rfl) rfl ?_
 refine sy_case (t := 114) rfl (fun g114 => ?_) (fun g114 => ?_)
 exact absurd g114 (by simp)
 refine tkG rfl rfl rfl rfl (PE.move rfl) rfl ?_
 refine tkG rfl rfl rfl rfl (PE.move rfl) rfl ?_
 refine tkG rfl rfl rfl rfl (PE.indexAddr el39 rfl rfl (by omega) (by omega)) rfl ?_
 refine tkG rfl rfl rfl rfl (PE.fieldAddr fo43_1 rfl) rfl ?_
 refine ldG rfl rfl rfl rfl rfl (lf (j := 1) sc3 (wSp_get (d := d) (by omega)) rfl) rfl ?_
 refine tkG rfl rfl rfl rfl (PE.fieldAddr fo25_3 rfl) rfl ?_
 refine ldG rfl rfl rfl rfl rfl (lh sc23 rfl rfl) rfl ?_
 refine tkG rfl rfl rfl rfl (PE.move rfl) rfl ?_
 refine tkG rfl rfl rfl rfl (PE.indexAddr el23 rfl rfl (by omega) (by omega)) rfl ?_
 refine tkG rfl rfl rfl rfl (PE.fieldAddr fo45_1 rfl) rfl ?_
 refine ldG rfl rfl rfl rfl rfl (lf (j := 1) sc3 (br_get hx) rfl) rfl ?_
 refine tkG rfl rfl rfl rfl (PE.leq rfl rfl) rfl ?_
 refine tk rfl (PE.pick rfl rfl rfl) rfl ?_
 refine sy_cond rfl (fun hc5 => ?_) (fun hc5 => ?_)
 simp only [decide_eq_true_eq] at hc5; omega
 refine sy_skip ?_
 refine sy_exit ?_
 refine sy_tx ?_
 refine sy_bx ?_
 refine sy_tx' [0, 1] rfl ?_
 refine sp rfl (PE.add rfl rfl (by omega)) rfl ?_
 refine sp rfl (PE.move rfl) rfl ?_
 exact sy_next ⟨(i + 1, tqt, mxt), by dsimp only; omega, by dsimp only; omega, by assumption⟩ (by dsimp only; omega) (by repeat' first | exact Sub.nil | apply Sub.cons | rfl | (simp [lk]; omega)) (fun w h => h.facts (fun g hg => by simp [hg]))
 try simp only [decide_eq_true_eq, decide_eq_false_iff_not, Bool.and_eq_true, Bool.or_eq_true, Bool.not_eq_true', Int.not_le, Int.not_lt] at hc3
 obtain rfl : hot = false := by cases hot; rfl; exact absurd hc3 (by simp)
 obtain ⟨ws, hbn⟩ : ∃ ws, b.burnsF b.warms (lls pl) 0 = (none, ws) := by
   rcases brn_cases b (lls pl) with ⟨ws, h3, h4⟩ | ⟨d', k', ws, h3, h4⟩
   · exact ⟨ws, h3⟩
   · rw [hQ] at h4; cases h4
 obtain ⟨t1, t2, t3, t4⟩ := tried_keeps hok hck hpt (by omega) (hlp ▸ hbn) hm
 rw [← hlp, ← hpll] at t4
 rw [← hpll] at t1 t2 t3
 refine sy_skip ?_
 refine sy_seq ?_
 refine sy_tx' [0] rfl ?_
 refine sp rfl (PE.assign rfl) rfl ?_
 refine sy_seq ?_
 refine sy_seq ?_
 refine sy_tx' [0, 1, 2] rfl ?_
 refine sp rfl (PE.move rfl) rfl ?_
 refine sp rfl (PE.lenSl isl26 rfl) rfl ?_
 refine sp rfl (PE.move rfl) rfl ?_
 refine sy_block ?_
 refine sy_loop (ι := {i : Nat // i ≤ pl.length}) (fun y => ⟨[(5, .pointer (some ⟨b5, 0, none⟩)), (6, .pointer (some ⟨bt, 0, none⟩)), (7, .int .i64 m), (9, .slice ap pl.length cp), (35, .int .i64 i), (18, .int .i64 (lenS ((lls pl).take y.1))), (128, .slice ap pl.length cp), (129, .int .i64 pl.length), (130, .int .i64 y.1)], (bt, cel 144 [.slice a2 l2.length c2, .int .i64 (tqt), .int .u32 (mxt)]) :: (b5, cel 25 (btl b (b.sl (some ⟨ba, oa, none⟩) cb))) :: (bs, cel 144 [.slice a1 l1.length c1, .int .i64 (tqb), .int .u32 (mxb)]) :: H, RowsA ap 1 (plrows pl) :: Inn pl :: RowsA (some ⟨ba, oa, none⟩) 4 (brows b.bins) :: R⟩) (fun y => pl.length - y.1) ⟨0, Nat.zero_le _⟩ ?_ (fun y => ?_)
 exact sy_at (by repeat' first | exact Sub.nil | apply Sub.cons | rfl | (simp [lk]; omega)) (fun w h => h.facts (fun g hg => by simp only [List.mem_cons] at hg ⊢; rcases hg with hg | hg | hg | hg <;> simp [hg]))
 obtain ⟨j, hj⟩ := y
 dsimp only at hj ⊢
 refine sy_seq ?_
 refine sy_tx' [0] rfl ?_
 refine sp rfl (PE.lss rfl rfl) rfl ?_
 refine sy_seq ?_
 refine sy_cond rfl (fun hc6 => ?_) (fun hc6 => ?_)
 try simp only [decide_eq_true_eq, decide_eq_false_iff_not, Bool.and_eq_true, Bool.or_eq_true, Bool.not_eq_true', Int.not_le, Int.not_lt] at hc6
 obtain ⟨y, hy⟩ : ∃ y, pl[j]? = some y := ⟨_, List.getElem?_eq_getElem (by omega)⟩
 have hyl := hpi y (List.mem_of_getElem? hy)
 have hsum := lenS_take (lls_get hy)
 have hsle := lenS_le (lls pl) (j + 1)
 have hs4 := lenS_four (p := lls pl) (fun l hl => by
   obtain ⟨x, hx, rfl⟩ := List.mem_map.1 hl
   exact lls_four hok hlp hpt x hx)
 rw [lls_len] at hs4
 refine sy_addr (a := ap) (sz := 1) (rows := plrows pl) (by intro h0; have := congrArg List.length h0; rw [plrows_len] at this; simp only [List.length_nil] at this; omega) (fun bp op he => ?_)
 subst he
 refine sy_skip ?_
 refine sy_seq ?_
 refine sy_block ?_
 refine sy_seq ?_
 refine sy_tx' [0, 1, 2] rfl ?_
 refine sp rfl (PE.indexAddr el26 rfl rfl (by omega) (by omega)) rfl ?_
 refine spL rfl rfl (lf0 sc40 (pl_get hy) rfl) rfl ?_
 refine sp rfl (PE.assign rfl) rfl ?_
 refine sy_tx' [0, 1, 2, 3, 4] rfl ?_
 refine sp rfl (PE.move rfl) rfl ?_
 refine sp rfl (PE.move rfl) rfl ?_
 refine sp rfl (PE.lenSl isl40 rfl) rfl ?_
 refine sp rfl (PE.add rfl rfl (by omega)) rfl ?_
 refine sp rfl (PE.assign rfl) rfl ?_
 refine sy_tx' [0, 1] rfl ?_
 refine sp rfl (PE.add rfl rfl (by omega)) rfl ?_
 refine sp rfl (PE.move rfl) rfl ?_
 exact sy_next ⟨j + 1, by omega⟩ (by dsimp only; omega) (by dsimp only; rw [hsum]; push_cast; exact (by repeat' first | exact Sub.nil | apply Sub.cons | rfl | (simp [lk]; omega))) (fun _ h => h)
 try simp only [decide_eq_true_eq, decide_eq_false_iff_not, Bool.and_eq_true, Bool.or_eq_true, Bool.not_eq_true', Int.not_le, Int.not_lt] at hc6
 obtain rfl : j = pl.length := by omega
 rw [show (lls pl).take pl.length = lls pl from List.take_of_length_le (by rw [lls_len]; exact Nat.le_refl _)]
 refine sy_exit ?_
 repeat refine sy_tx ?_
 refine sy_bx ?_
 refine sy_seq ?_
 refine sy_tx' [0, 1, 2, 3, 4, 5, 6, 7, 8] rfl ?_
 refine spL rfl rfl (lhA (btl b (b.sl (some ⟨ba, oa, none⟩) cb)) ag25 rfl rfl rfl) rfl ?_
 refine sp rfl (PE.move rfl) rfl ?_
 refine sp rfl (PE.lenSl isl26 rfl) rfl ?_
 refine clV rfl cal40 rfl rfl (c_Turnings b (some ⟨ba, oa, none⟩) cb hl hr pl.length _ _) ?_
 refine sp rfl (PE.move rfl) rfl ?_
 refine sp rfl (PE.extract rfl rfl) rfl ?_
 refine sp rfl (PE.extract rfl rfl) rfl ?_
 refine sp rfl (PE.assign rfl) rfl ?_
 refine sp rfl (PE.assign rfl) rfl ?_
 refine sy_seq ?_
 refine sy_tx' [0, 1, 2, 3, 4, 5, 6, 7, 8, 9, 10, 11, 12, 13, 14, 15, 16] rfl ?_
 rw [t2]
 refine sp rfl (PE.move rfl) rfl ?_
 refine sp rfl (PE.lenSl isl26 rfl) rfl ?_
 refine sp rfl (PE.move rfl) rfl ?_
 refine sp rfl (PE.gtr rfl rfl) rfl ?_
 refine sp rfl (PE.move rfl) rfl ?_
 refine sy_case (t := 150) rfl (fun g150 => ?_) (fun g150 => ?_)
 simp only [decide_eq_true_eq] at g150; omega
 refine spG rfl rfl rfl rfl (PE.move rfl) rfl ?_
 refine spG rfl rfl rfl rfl (PE.neq rfl rfl) rfl ?_
 refine sp rfl (PE.pick rfl rfl rfl) rfl ?_
 refine sp rfl (PE.move rfl) rfl ?_
 refine sy_case (t := 154) rfl (fun g154 => ?_) (fun g154 => ?_)
 exact absurd g154 (by simp)
 refine spG rfl rfl rfl rfl (PE.move rfl) rfl ?_
 refine spG rfl rfl rfl rfl (PE.move rfl) rfl ?_
 refine spG rfl rfl rfl rfl (PE.gtr rfl rfl) rfl ?_
 refine sp rfl (PE.pick rfl rfl rfl) rfl ?_
 refine sp rfl (PE.move rfl) rfl ?_
 refine sy_case (t := 159) rfl (fun g159 => ?_) (fun g159 => ?_)
 simp only [decide_eq_true_eq] at g159; omega
 refine spG rfl rfl rfl rfl (PE.move rfl) rfl ?_
 refine spG rfl rfl rfl rfl (PE.lss rfl rfl) rfl ?_
 refine sp rfl (PE.pick rfl rfl rfl) rfl ?_
 refine sy_cond rfl (fun hc7 => ?_) (fun hc7 => ?_)
 simp only [decide_eq_true_eq] at hc7; omega
 refine sy_skip ?_
 refine sy_tx' [0, 1] rfl ?_
 refine sp rfl (PE.add rfl rfl (by omega)) rfl ?_
 refine sp rfl (PE.move rfl) rfl ?_
 exact sy_next ⟨(i + 1, tqt, mxt), by dsimp only; omega, by dsimp only; omega, by assumption⟩ (by dsimp only; omega) (by repeat' first | exact Sub.nil | apply Sub.cons | rfl | (simp [lk]; omega)) (fun w h => h.facts (fun g hg => by simp [hg]))
 repeat refine spN rfl rfl rfl rfl rfl rfl rfl rfl ?_
 refine spG rfl rfl rfl rfl (PE.pick rfl rfl rfl) rfl ?_
 refine sp rfl (PE.pick rfl rfl rfl) rfl ?_
 refine sy_condF rfl ?_
 refine sy_skip ?_
 refine sy_seq ?_
 refine sy_seq ?_
 refine sy_tx' [0, 1] rfl ?_
 refine sp rfl (PE.move rfl) rfl ?_
 refine sp rfl (PE.not rfl) rfl ?_
 refine sy_cond rfl (fun hc3 => ?_) (fun hc3 => ?_)
 try simp only [decide_eq_true_eq, decide_eq_false_iff_not, Bool.and_eq_true, Bool.or_eq_true, Bool.not_eq_true', Int.not_le, Int.not_lt] at hc3
 obtain rfl : hot = true := by cases hot; exact absurd hc3 (by simp); rfl
 obtain ⟨ws, hbn⟩ : ∃ ws, b.burnsF b.warms (lls pl) 0 = (some (d, k), ws) := by
   rcases brn_cases b (lls pl) with ⟨ws, h3, h4⟩ | ⟨d', k', ws, h3, h4⟩
   · rw [hQ] at h4; cases h4
   · rw [hQ] at h4; cases h4; exact ⟨ws, h3⟩
 obtain ⟨hkl, hdl, hhot⟩ := brn_hot hbn
 rw [lls_len] at hdl
 obtain ⟨x, hx⟩ : ∃ x, b.bins[k]? = some x := ⟨_, List.getElem?_eq_getElem hkl⟩
 have hhx := hhot x hx
 rw [show (bif true then (d : Int) else -1) = (d : Int) from rfl]
 refine sy_seq ?_
 refine sy_seq ?_
 refine sy_tx' [0, 1, 2, 3, 4, 5, 6, 7, 8, 9, 10, 11, 12, 13] rfl ?_
 refine sp rfl (PE.move rfl) rfl ?_
 refine sp rfl (PE.move rfl) rfl ?_
 refine sp rfl (PE.neq rfl rfl) rfl ?_
 refine sp rfl (PE.move rfl) rfl ?_
 refine sy_case (t := 87) rfl (fun g87 => ?_) (fun g87 => ?_)
 exact absurd g87 (by simp)
 refine spG rfl rfl rfl rfl (PE.move rfl) rfl ?_
 refine spG rfl rfl rfl rfl (PE.lss rfl rfl) rfl ?_
 refine sp rfl (PE.pick rfl rfl rfl) rfl ?_
 refine sp rfl (PE.move rfl) rfl ?_
 refine sy_case (t := 91) rfl (fun g91 => ?_) (fun g91 => ?_)
 simp only [decide_eq_true_eq] at g91; omega
 refine spG rfl rfl rfl rfl (PE.move rfl) rfl ?_
 refine spG rfl rfl rfl rfl (PE.fieldAddr fo25_3 rfl) rfl ?_
 refine spLG rfl rfl rfl rfl rfl (lh sc23 rfl rfl) rfl ?_
 refine spG rfl rfl rfl rfl (PE.lenSl isl23 rfl) rfl ?_
 refine spG rfl rfl rfl rfl (PE.geq rfl rfl) rfl ?_
 refine sp rfl (PE.pick rfl rfl rfl) rfl ?_
 refine sy_cond rfl (fun hc4 => ?_) (fun hc4 => ?_)
 simp only [decide_eq_true_eq] at hc4; omega
 refine sy_skip ?_
 refine sy_seq ?_
 refine sy_tx' [0, 1, 2, 3, 4, 5, 6, 7, 8] rfl ?_
 refine spL rfl rfl (lhA (btl b (b.sl (some ⟨ba, oa, none⟩) cb)) ag25 rfl rfl rfl) rfl ?_
 refine sp rfl (PE.move rfl) rfl ?_
 refine sp rfl (PE.move rfl) rfl ?_
 refine cl rfl cal26 rfl rfl (c_WarmthK b (some ⟨ba, oa, none⟩) cb hl hr pl ap cp (by omega) hpi (by rw [hlp]; exact warmErr_of hck (by omega) hpt hkl) _ _) ?_
 rintro _ _ R1 ⟨aw, cw, rfl, rfl, hR1⟩
 obtain rfl := hR1.symm
 clear hR1
 rw [warmL_of hx, lls_len, wSp_len]
 refine sy_addr (a := aw) (sz := 2) (rows := sprows (wSpans b.cool (b.least x) (b.worst x) k x.warm (lls pl) pl.length)) (by intro h0; have := congrArg List.length h0; rw [sprows_len, wSp_len] at this; simp only [List.length_nil] at this; omega) (fun b9 o9 he => ?_)
 subst he
 refine sp rfl (PE.move rfl) rfl ?_
 refine sp rfl (PE.extract rfl rfl) rfl ?_
 refine sp rfl (PE.extract rfl rfl) rfl ?_
 refine sp rfl (PE.assign rfl) rfl ?_
 refine sp rfl (PE.assign rfl) rfl ?_
 refine sy_seq ?_
 refine sy_seq ?_
 refine sy_draw [0, 1, 3, 7, 15, 7, 39, 127, 255, 511, 1023, 1023, 4095, 8191, 16383, 1023, 33791, 1023, 230399, 492543, 1016831, 2097151, 4194303] (.tk 0 (.tk 1 (.tk 2 (.tk 3 (.tk 4 (.tk 5 (.tk 6 (.tk 7 (.tk 8 (.tk 9 (.tk 10 (.tk 11 (.tk 12 (.tk 13 (.ld 14 (.tk 15 (.ld 16 (.tk 17 (.tk 18 (.tk 19 (.ld 20 (.tk 21 (.tk 22 .done))))))))))))))))))))))) mixed (by kernel_rfl) ?_
 refine tk rfl (PE.move rfl) rfl ?_
 refine tk rfl (PE.neq rfl rfl) rfl ?_
 refine tk rfl (PE.move rfl) rfl ?_
 refine sy_case (t := 107) rfl (fun g107 => ?_) (fun g107 => ?_)
 exact absurd g107 (by simp)
 refine tkG rfl rfl rfl rfl (PE.move rfl) rfl ?_
 refine tkG rfl rfl rfl rfl (PE.lenSl isl39 rfl) rfl ?_
 refine tkG rfl rfl rfl rfl (PE.move rfl) rfl ?_
 refine tkG rfl rfl rfl rfl (PE.lenSl isl26 rfl) rfl ?_
 refine tkG rfl rfl rfl rfl (PE.neq rfl rfl) rfl ?_
 refine tk rfl (PE.pick rfl rfl rfl) rfl ?_
 refine tk rfl (PE.move rfl) rfl ?_
 refine sy_case (t := 114) rfl (fun g114 => ?_) (fun g114 => ?_)
 exact absurd g114 (by simp)
 refine tkG rfl rfl rfl rfl (PE.move rfl) rfl ?_
 refine tkG rfl rfl rfl rfl (PE.move rfl) rfl ?_
 refine tkG rfl rfl rfl rfl (PE.indexAddr el39 rfl rfl (by omega) (by omega)) rfl ?_
 refine tkG rfl rfl rfl rfl (PE.fieldAddr fo43_1 rfl) rfl ?_
 refine ldG rfl rfl rfl rfl rfl (lf (j := 1) sc3 (wSp_get (d := d) (by omega)) rfl) rfl ?_
 refine tkG rfl rfl rfl rfl (PE.fieldAddr fo25_3 rfl) rfl ?_
 refine ldG rfl rfl rfl rfl rfl (lh sc23 rfl rfl) rfl ?_
 refine tkG rfl rfl rfl rfl (PE.move rfl) rfl ?_
 refine tkG rfl rfl rfl rfl (PE.indexAddr el23 rfl rfl (by omega) (by omega)) rfl ?_
 refine tkG rfl rfl rfl rfl (PE.fieldAddr fo45_1 rfl) rfl ?_
 refine ldG rfl rfl rfl rfl rfl (lf (j := 1) sc3 (br_get hx) rfl) rfl ?_
 refine tkG rfl rfl rfl rfl (PE.leq rfl rfl) rfl ?_
 refine tk rfl (PE.pick rfl rfl rfl) rfl ?_
 refine sy_cond rfl (fun hc5 => ?_) (fun hc5 => ?_)
 simp only [decide_eq_true_eq] at hc5; omega
 refine sy_skip ?_
 refine sy_exit ?_
 refine sy_tx ?_
 refine sy_bx ?_
 refine sy_tx' [0, 1] rfl ?_
 refine sp rfl (PE.add rfl rfl (by omega)) rfl ?_
 refine sp rfl (PE.move rfl) rfl ?_
 exact sy_next ⟨(i + 1, tqt, mxt), by dsimp only; omega, by dsimp only; omega, by assumption⟩ (by dsimp only; omega) (by repeat' first | exact Sub.nil | apply Sub.cons | rfl | (simp [lk]; omega)) (fun w h => h.facts (fun g hg => by simp [hg]))
 try simp only [decide_eq_true_eq, decide_eq_false_iff_not, Bool.and_eq_true, Bool.or_eq_true, Bool.not_eq_true', Int.not_le, Int.not_lt] at hc3
 obtain rfl : hot = false := by cases hot; rfl; exact absurd hc3 (by simp)
 obtain ⟨ws, hbn⟩ : ∃ ws, b.burnsF b.warms (lls pl) 0 = (none, ws) := by
   rcases brn_cases b (lls pl) with ⟨ws, h3, h4⟩ | ⟨d', k', ws, h3, h4⟩
   · exact ⟨ws, h3⟩
   · rw [hQ] at h4; cases h4
 obtain ⟨t1, t2, t3, t4⟩ := tried_keeps hok hck hpt (by omega) (hlp ▸ hbn) hm
 rw [← hlp, ← hpll] at t4
 rw [← hpll] at t1 t2 t3
 refine sy_skip ?_
 refine sy_seq ?_
 refine sy_tx' [0] rfl ?_
 refine sp rfl (PE.assign rfl) rfl ?_
 refine sy_seq ?_
 refine sy_seq ?_
 refine sy_tx' [0, 1, 2] rfl ?_
 refine sp rfl (PE.move rfl) rfl ?_
 refine sp rfl (PE.lenSl isl26 rfl) rfl ?_
 refine sp rfl (PE.move rfl) rfl ?_
 refine sy_block ?_
 refine sy_loop (ι := {i : Nat // i ≤ pl.length}) (fun y => ⟨[(5, .pointer (some ⟨b5, 0, none⟩)), (6, .pointer (some ⟨bt, 0, none⟩)), (7, .int .i64 m), (9, .slice ap pl.length cp), (35, .int .i64 i), (18, .int .i64 (lenS ((lls pl).take y.1))), (128, .slice ap pl.length cp), (129, .int .i64 pl.length), (130, .int .i64 y.1)], (bt, cel 144 [.slice a2 l2.length c2, .int .i64 (tqt), .int .u32 (mxt)]) :: (b5, cel 25 (btl b (b.sl (some ⟨ba, oa, none⟩) cb))) :: (bs, cel 144 [.slice a1 l1.length c1, .int .i64 (tqb), .int .u32 (mxb)]) :: H, RowsA ap 1 (plrows pl) :: Inn pl :: RowsA (some ⟨ba, oa, none⟩) 4 (brows b.bins) :: R⟩) (fun y => pl.length - y.1) ⟨0, Nat.zero_le _⟩ ?_ (fun y => ?_)
 exact sy_at (by repeat' first | exact Sub.nil | apply Sub.cons | rfl | (simp [lk]; omega)) (fun w h => h.facts (fun g hg => by simp only [List.mem_cons] at hg ⊢; rcases hg with hg | hg | hg | hg <;> simp [hg]))
 obtain ⟨j, hj⟩ := y
 dsimp only at hj ⊢
 refine sy_seq ?_
 refine sy_tx' [0] rfl ?_
 refine sp rfl (PE.lss rfl rfl) rfl ?_
 refine sy_seq ?_
 refine sy_cond rfl (fun hc6 => ?_) (fun hc6 => ?_)
 try simp only [decide_eq_true_eq, decide_eq_false_iff_not, Bool.and_eq_true, Bool.or_eq_true, Bool.not_eq_true', Int.not_le, Int.not_lt] at hc6
 obtain ⟨y, hy⟩ : ∃ y, pl[j]? = some y := ⟨_, List.getElem?_eq_getElem (by omega)⟩
 have hyl := hpi y (List.mem_of_getElem? hy)
 have hsum := lenS_take (lls_get hy)
 have hsle := lenS_le (lls pl) (j + 1)
 have hs4 := lenS_four (p := lls pl) (fun l hl => by
   obtain ⟨x, hx, rfl⟩ := List.mem_map.1 hl
   exact lls_four hok hlp hpt x hx)
 rw [lls_len] at hs4
 refine sy_addr (a := ap) (sz := 1) (rows := plrows pl) (by intro h0; have := congrArg List.length h0; rw [plrows_len] at this; simp only [List.length_nil] at this; omega) (fun bp op he => ?_)
 subst he
 refine sy_skip ?_
 refine sy_seq ?_
 refine sy_block ?_
 refine sy_seq ?_
 refine sy_tx' [0, 1, 2] rfl ?_
 refine sp rfl (PE.indexAddr el26 rfl rfl (by omega) (by omega)) rfl ?_
 refine spL rfl rfl (lf0 sc40 (pl_get hy) rfl) rfl ?_
 refine sp rfl (PE.assign rfl) rfl ?_
 refine sy_tx' [0, 1, 2, 3, 4] rfl ?_
 refine sp rfl (PE.move rfl) rfl ?_
 refine sp rfl (PE.move rfl) rfl ?_
 refine sp rfl (PE.lenSl isl40 rfl) rfl ?_
 refine sp rfl (PE.add rfl rfl (by omega)) rfl ?_
 refine sp rfl (PE.assign rfl) rfl ?_
 refine sy_tx' [0, 1] rfl ?_
 refine sp rfl (PE.add rfl rfl (by omega)) rfl ?_
 refine sp rfl (PE.move rfl) rfl ?_
 exact sy_next ⟨j + 1, by omega⟩ (by dsimp only; omega) (by dsimp only; rw [hsum]; push_cast; exact (by repeat' first | exact Sub.nil | apply Sub.cons | rfl | (simp [lk]; omega))) (fun _ h => h)
 try simp only [decide_eq_true_eq, decide_eq_false_iff_not, Bool.and_eq_true, Bool.or_eq_true, Bool.not_eq_true', Int.not_le, Int.not_lt] at hc6
 obtain rfl : j = pl.length := by omega
 rw [show (lls pl).take pl.length = lls pl from List.take_of_length_le (by rw [lls_len]; exact Nat.le_refl _)]
 refine sy_exit ?_
 repeat refine sy_tx ?_
 refine sy_bx ?_
 refine sy_seq ?_
 refine sy_tx' [0, 1, 2, 3, 4, 5, 6, 7, 8] rfl ?_
 refine spL rfl rfl (lhA (btl b (b.sl (some ⟨ba, oa, none⟩) cb)) ag25 rfl rfl rfl) rfl ?_
 refine sp rfl (PE.move rfl) rfl ?_
 refine sp rfl (PE.lenSl isl26 rfl) rfl ?_
 refine clV rfl cal40 rfl rfl (c_Turnings b (some ⟨ba, oa, none⟩) cb hl hr pl.length _ _) ?_
 refine sp rfl (PE.move rfl) rfl ?_
 refine sp rfl (PE.extract rfl rfl) rfl ?_
 refine sp rfl (PE.extract rfl rfl) rfl ?_
 refine sp rfl (PE.assign rfl) rfl ?_
 refine sp rfl (PE.assign rfl) rfl ?_
 refine sy_seq ?_
 refine sy_tx' [0, 1, 2, 3, 4, 5, 6, 7, 8, 9, 10, 11, 12, 13, 14, 15, 16] rfl ?_
 rw [t2]
 refine sp rfl (PE.move rfl) rfl ?_
 refine sp rfl (PE.lenSl isl26 rfl) rfl ?_
 refine sp rfl (PE.move rfl) rfl ?_
 refine sp rfl (PE.gtr rfl rfl) rfl ?_
 refine sp rfl (PE.move rfl) rfl ?_
 refine sy_case (t := 150) rfl (fun g150 => ?_) (fun g150 => ?_)
 simp only [decide_eq_true_eq] at g150; omega
 refine spG rfl rfl rfl rfl (PE.move rfl) rfl ?_
 refine spG rfl rfl rfl rfl (PE.neq rfl rfl) rfl ?_
 refine sp rfl (PE.pick rfl rfl rfl) rfl ?_
 refine sp rfl (PE.move rfl) rfl ?_
 refine sy_case (t := 154) rfl (fun g154 => ?_) (fun g154 => ?_)
 exact absurd g154 (by simp)
 refine spG rfl rfl rfl rfl (PE.move rfl) rfl ?_
 refine spG rfl rfl rfl rfl (PE.move rfl) rfl ?_
 refine spG rfl rfl rfl rfl (PE.gtr rfl rfl) rfl ?_
 refine sp rfl (PE.pick rfl rfl rfl) rfl ?_
 refine sp rfl (PE.move rfl) rfl ?_
 refine sy_case (t := 159) rfl (fun g159 => ?_) (fun g159 => ?_)
 simp only [decide_eq_true_eq] at g159; omega
 refine spG rfl rfl rfl rfl (PE.move rfl) rfl ?_
 refine spG rfl rfl rfl rfl (PE.lss rfl rfl) rfl ?_
 refine sp rfl (PE.pick rfl rfl rfl) rfl ?_
 refine sy_cond rfl (fun hc7 => ?_) (fun hc7 => ?_)
 simp only [decide_eq_true_eq] at hc7; omega
 refine sy_skip ?_
 refine sy_tx' [0, 1] rfl ?_
 refine sp rfl (PE.add rfl rfl (by omega)) rfl ?_
 refine sp rfl (PE.move rfl) rfl ?_
 exact sy_next ⟨(i + 1, tqt, mxt), by dsimp only; omega, by dsimp only; omega, by assumption⟩ (by dsimp only; omega) (by repeat' first | exact Sub.nil | apply Sub.cons | rfl | (simp [lk]; omega)) (fun w h => h.facts (fun g hg => by simp [hg]))
 try simp only [decide_eq_true_eq, decide_eq_false_iff_not, Bool.and_eq_true, Bool.or_eq_true, Bool.not_eq_true', Int.not_le, Int.not_lt] at hc1
 refine sy_exit ?_
 repeat refine sy_tx ?_
 refine sy_bx ?_
 refine sy_seq ?_
 refine sy_tx' [0, 1] rfl ?_
 refine clV rfl cal18 rfl rfl (c_awake _ _) ?_
 refine sp rfl (PE.assign rfl) rfl ?_
 refine sy_ret ?_
 exact sy_return (vs := [_]) rfl (.cons (RV.tmp rfl) .nil) rfl ⟨rfl, rfl, rfl⟩ (fun w h => (((h.del bt).del b5).del bs).facts (fun g hg => by simp [hg]))
end Go.Proofs.Ytelegnmfhjfbaaa
