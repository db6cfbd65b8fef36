/- Walks of the functions of the program, and the laws that join them: what the last theorem of this claim needs, in order. -/
import Derived.Test.YtelegnmfhjfbaaaWs3
namespace Go.Proofs.Ytelegnmfhjfbaaa
set_option linter.unusedSimpArgs false
set_option linter.unusedVariables false
open Go
theorem cal29 : cal Try.prog 29 = true := by kernel_rfl
theorem cal97 : cal Try.prog 97 = true := by kernel_rfl
theorem goes_no {b : Barn} {p q : List (List Int)} {i : Nat} {ws : List Int} (h : b.burnsF b.warms (p ++ rep i q) 0 = (none, ws)) (h2 : ∃ x w, b.burnsF ws q 0 = (some x, w)) : ¬ b.goes p q := fun hg => by
  have h3 := hg (i + 1)
  rw [rep_succ, ← List.append_assoc, b.burns_app, h] at h3
  dsimp only at h3
  obtain ⟨x, w, h4⟩ := burns_some (e := 0 + (p ++ rep i q).length) h2
  rw [h4] at h3; cases h3
theorem goes_step {b : Barn} {p q : List (List Int)} {i : Nat} {ws us : List Int} (h : b.burnsF b.warms (p ++ rep i q) 0 = (none, ws)) (h2 : b.burnsF ws q 0 = (none, us)) : b.burnsF b.warms (p ++ rep (i + 1) q) 0 = (none, us) := by
  rw [rep_succ, ← List.append_assoc, b.burns_app, h]
  exact burns_none h2
theorem burns_pre {b : Barn} {ws : List Int} {p q : List (List Int)} {d : Nat} (h : (b.burnsF ws (p ++ q) d).1 = none) : (b.burnsF ws p d).1 = none := by
  rw [b.burns_app] at h
  cases h1 : b.burnsF ws p d with
  | mk x w => cases x with
    | none => rfl
    | some x => rw [h1] at h; cases h
theorem goes_yes {b : Barn} {p q : List (List Int)} {i : Nat} {ws : List Int} (h : b.burnsF b.warms (p ++ rep i q) 0 = (none, ws)) (h2 : b.burnsF ws q 0 = (none, ws)) : b.goes p q := fun n => by
  have key : ∀ j, b.burnsF b.warms (p ++ rep (i + j) q) 0 = (none, ws) := fun j => by
    induction j with
    | zero => exact h
    | succ j ih => exact goes_step ih h2
  have h3 := key n
  have e : rep (i + n) q = rep n q ++ rep i q := by unfold rep; rw [← List.flatten_append, List.replicate_append_replicate, Nat.add_comm]
  rw [e, ← List.append_assoc] at h3
  exact burns_pre (by rw [h3])
theorem grown_next {b : Barn} (hb : b.ok) {ws us : List Int} {q : List (List Int)} (hw : Cool b ws) (h : b.burnsF ws q 0 = (none, us)) : ∀ k < b.bins.length, na us k ≤ wst b.cool (b.worst (b.bins.getD k hb0)) k (na us k) q := fun k hk => by
  rw [b.burns_at q ws us 0 h k hk hw.len]
  obtain ⟨x, hx⟩ : ∃ x, b.bins[k]? = some x := ⟨_, List.getElem?_eq_getElem hk⟩
  have := b.worst_range hb (List.mem_of_getElem? hx)
  rw [bin_getD hx]
  exact wst_grow (by omega) q _
theorem room_less {b : Barn} (hb : b.ok) {ws us : List Int} {q : List (List Int)} (hw : Cool b ws) (hu : Cool b us) (hg : ∀ k < b.bins.length, na ws k ≤ wst b.cool (b.worst (b.bins.getD k hb0)) k (na ws k) q) (h : b.burnsF ws q 0 = (none, us)) (hne : us ≠ ws) : roomW b us < roomW b ws := by
  have hat := fun k hk => b.burns_at q ws us 0 h k hk hw.len
  unfold roomW
  refine sum_lt _ _ _ (fun k hk => ?_) ?_
  · have hk := List.mem_range.1 hk
    have := hg k hk
    rw [← hat k hk] at this
    omega
  · apply Classical.byContradiction
    intro hno
    apply hne
    refine List.ext_getElem? fun k => ?_
    rcases Nat.lt_or_ge k b.bins.length with h1 | h1
    · rw [na_get (l := us) (k := k) (by rw [hu.len]; exact h1), na_get (l := ws) (k := k) (by rw [hw.len]; exact h1)]
      congr 1
      have h2 := hg k h1
      rw [← hat k h1] at h2
      obtain ⟨x, hx⟩ : ∃ x, b.bins[k]? = some x := ⟨_, List.getElem?_eq_getElem h1⟩
      have h3 := hu.at_ k x hx
      have h4 := (hb.bins x (List.mem_of_getElem? hx)).1
      rcases Int.lt_or_le (na ws k) (na us k) with h5 | h5
      · exact absurd ⟨k, List.mem_range.2 h1, by omega⟩ hno
      · omega
    · rw [List.getElem?_eq_none (by rw [hu.len]; exact h1), List.getElem?_eq_none (by rw [hw.len]; exact h1)]
theorem withW_eq {b : Barn} {ws us : List Int} (hl : ws.length = b.bins.length) (hu : us.length = b.bins.length) : (b.withB (wbins b.bins ws)).withB (wbins (b.withB (wbins b.bins ws)).bins us) = b.withB (wbins b.bins us) := by
  show ({ b with bins := wbins (wbins b.bins ws) us } : Barn) = { b with bins := wbins b.bins us }
  rw [withW_twice hl hu]
theorem c_Goes (b : Barn) (ab : Option Addr) (cb : Nat) (hl : b.bins.length ≤ 9223372036854775807) (hr : b.rise.length = 6) (pl : List PL) (ap : Option Addr) (cp : Nat) (hpl : pl.length ≤ 9223372036854775807) (hpi : ∀ x ∈ pl, x.l.length ≤ 9223372036854775807) (ql : List PL) (aq : Option Addr) (cq : Nat) (hql : ql.length ≤ 9223372036854775807) (hqi : ∀ x ∈ ql, x.l.length ≤ 9223372036854775807) (H : Heap) (R : Facts) [hB : MemRows ab 4 (brows b.bins) R] [hP : MemRows ap 1 (plrows pl) R] [hI : MemF (Inn pl) R] [hQ : MemRows aq 1 (plrows ql) R] [hJ : MemF (Inn ql) R] :
    Fn Try.prog 43 [b.v (b.sl ab cb), .slice ap pl.length cp, .slice aq ql.length cq] H R (fun v H' R' => GoesQ b (lls pl) (lls ql) v ∧ H' = H ∧ R' = R) := by
 refine fn_of Try.func43 rfl Try.ntmps43 rfl ?_
 refine sy_seq ?_
 refine sy_tx' [0, 1, 2] rfl ?_
 refine bx rfl rfl rfl (fun b3 => ?_)
 refine sp rfl (PE.assign rfl) rfl ?_
 refine sp rfl (PE.assign rfl) rfl ?_
 refine sy_seq ?_
 refine sy_seq ?_
 refine sy_tx' [0, 1, 2, 3] rfl ?_
 refine spL rfl rfl (lhA (btl b (b.sl ab cb)) ag25 rfl rfl rfl) rfl ?_
 refine sp rfl (PE.move rfl) rfl ?_
 refine clV rfl cal74 rfl rfl (c_planned b ab cb hl hr pl ap cp hpl hpi _ _) ?_
 refine sp rfl (PE.assign rfl) rfl ?_
 refine sy_seq ?_
 refine sy_tx' [0, 1] rfl ?_
 refine sp rfl (PE.move rfl) rfl ?_
 refine sp rfl (PE.neq rfl rfl) rfl ?_
 refine sy_cond rfl (fun hc0 => ?_) (fun hc0 => ?_)
 try simp only [decide_eq_true_eq, decide_eq_false_iff_not, Bool.and_eq_true, Bool.or_eq_true, Bool.not_eq_true', Int.not_le, Int.not_lt] at hc0
 have ese : goesErr b (lls pl) (lls ql) = b.planned (lls pl) := by unfold goesErr; rw [decide_eq_false hc0]; rfl
 refine sy_seq ?_
 refine sy_tx' [0, 1, 2] rfl ?_
 refine sp rfl (PE.move rfl) rfl ?_
 refine sp rfl (PE.assign rfl) rfl ?_
 refine sp rfl (PE.assign rfl) rfl ?_
 refine sy_ret ?_
 exact sy_return (vs := [_, _]) rfl (.cons (RV.tmp rfl) (.cons (RV.tmp rfl) .nil)) rfl ⟨.inl ⟨by rw [ese]; exact hc0, by rw [ese]; rfl⟩, rfl, rfl⟩ drp
 try simp only [decide_eq_true_eq, decide_eq_false_iff_not, Bool.and_eq_true, Bool.or_eq_true, Bool.not_eq_true', Int.not_le, Int.not_lt] at hc0
 have hpz : b.planned (lls pl) = 0 := by omega
 obtain ⟨hck, hok, hpe⟩ := planned_ok hr hpz
 have hmn := hok.many
 refine sy_skip ?_
 refine sy_seq ?_
 refine sy_seq ?_
 refine sy_tx' [0, 1, 2, 3] rfl ?_
 refine spL rfl rfl (lhA (btl b (b.sl ab cb)) ag25 rfl rfl rfl) rfl ?_
 refine sp rfl (PE.move rfl) rfl ?_
 refine clV rfl cal96 rfl rfl (c_plan b ab cb hl ql aq cq hql hqi _ _) ?_
 refine sp rfl (PE.assign rfl) rfl ?_
 refine sy_seq ?_
 refine sy_tx' [0, 1] rfl ?_
 refine sp rfl (PE.move rfl) rfl ?_
 refine sp rfl (PE.neq rfl rfl) rfl ?_
 refine sy_cond rfl (fun hc1 => ?_) (fun hc1 => ?_)
 try simp only [decide_eq_true_eq, decide_eq_false_iff_not, Bool.and_eq_true, Bool.or_eq_true, Bool.not_eq_true', Int.not_le, Int.not_lt] at hc1
 have ese : goesErr b (lls pl) (lls ql) = planErr b.bins.length b.gangs (lls ql) := by unfold goesErr; rw [decide_eq_true hpz, decide_eq_false hc1]; rfl
 refine sy_seq ?_
 refine sy_tx' [0, 1, 2] rfl ?_
 refine sp rfl (PE.move rfl) rfl ?_
 refine sp rfl (PE.assign rfl) rfl ?_
 refine sp rfl (PE.assign rfl) rfl ?_
 refine sy_ret ?_
 exact sy_return (vs := [_, _]) rfl (.cons (RV.tmp rfl) (.cons (RV.tmp rfl) .nil)) rfl ⟨.inl ⟨by rw [ese]; exact hc1, by rw [ese]; rfl⟩, rfl, rfl⟩ drp
 try simp only [decide_eq_true_eq, decide_eq_false_iff_not, Bool.and_eq_true, Bool.or_eq_true, Bool.not_eq_true', Int.not_le, Int.not_lt] at hc1
 have hqz : planErr b.bins.length b.gangs (lls ql) = 0 := by omega
 refine sy_skip ?_
 refine sy_seq ?_
 refine sy_seq ?_
 refine sy_tx' [0, 1, 2] rfl ?_
 refine sp rfl (PE.move rfl) rfl ?_
 refine sp rfl (PE.lenSl isl26 rfl) rfl ?_
 refine sp rfl (PE.eql rfl rfl) rfl ?_
 refine sy_cond rfl (fun hc2 => ?_) (fun hc2 => ?_)
 try simp only [decide_eq_true_eq, decide_eq_false_iff_not, Bool.and_eq_true, Bool.or_eq_true, Bool.not_eq_true', Int.not_le, Int.not_lt] at hc2
 have ese : goesErr b (lls pl) (lls ql) = 6 := by unfold goesErr; rw [decide_eq_true hpz, decide_eq_true hqz, lls_len, decide_eq_true (show ql.length = 0 by omega)]; rfl
 refine sy_seq ?_
 refine sy_tx' [0, 1] rfl ?_
 refine sp rfl (PE.assign rfl) rfl ?_
 refine sp rfl (PE.assign rfl) rfl ?_
 refine sy_ret ?_
 exact sy_return (vs := [_, _]) rfl (.cons (RV.tmp rfl) (.cons (RV.tmp rfl) .nil)) rfl ⟨.inl ⟨by rw [ese]; decide, by rw [ese]; rfl⟩, rfl, rfl⟩ drp
 try simp only [decide_eq_true_eq, decide_eq_false_iff_not, Bool.and_eq_true, Bool.or_eq_true, Bool.not_eq_true', Int.not_le, Int.not_lt] at hc2
 have ese : goesErr b (lls pl) (lls ql) = 0 := by unfold goesErr; rw [decide_eq_true hpz, decide_eq_true hqz, lls_len, decide_eq_false (show ¬ ql.length = 0 by omega)]; rfl
 refine sy_skip ?_
 refine sy_seq ?_
 refine sy_tx' [0, 1, 2, 3, 4, 5, 6, 7, 8] rfl ?_
 refine spL rfl rfl (lhA (btl b (b.sl ab cb)) ag25 rfl rfl rfl) rfl ?_
 refine sp rfl (PE.move rfl) rfl ?_
 refine cl rfl cal29 rfl rfl (c_After b ab cb hl hr pl ap cp hpl hpi _ _) ?_
 rintro _ _ R1 ⟨hR1, hQQ⟩
 obtain rfl := hR1.symm
 rcases hQQ with ⟨hpn, _, _⟩ | ⟨_, hbs, rfl, rfl⟩ | ⟨_, us, bo2, hbn, hcn, rfl, rfl⟩
 exact absurd hpz hpn
 refine sp rfl (PE.move rfl) rfl ?_
 refine sp rfl (PE.extract rfl rfl) rfl ?_
 refine sp rfl (PE.extract rfl rfl) rfl ?_
 refine alc rfl zl25 rfl (fun b10 => ?_)
 refine sto rfl rfl rfl cn25 rfl rfl rfl rfl ?_
 refine sp rfl (PE.assign rfl) rfl ?_
 refine sy_seq ?_
 refine sy_seq ?_
 refine sy_tx' [0, 1] rfl ?_
 refine sp rfl (PE.move rfl) rfl ?_
 refine sp rfl (PE.neq rfl rfl) rfl ?_
 refine sy_condT (rfl) ?_
 refine sy_seq ?_
 refine sy_tx' [0, 1] rfl ?_
 refine sp rfl (PE.assign rfl) rfl ?_
 refine sp rfl (PE.assign rfl) rfl ?_
 refine sy_ret ?_
 exact sy_return (vs := [_, _]) rfl (.cons (RV.tmp rfl) (.cons (RV.tmp rfl) .nil)) rfl ⟨.inr ⟨ese, _, ⟨fun h => (by cases h), fun h => by have h0 := h 0; obtain ⟨x, w, h1⟩ := hbs; rw [show lls pl ++ rep 0 (lls ql) = lls pl from List.append_nil _, h1] at h0; cases h0⟩, rfl⟩, rfl, rfl⟩ (fun w h => (h.del b10).del b3)
 refine sp rfl (PE.move rfl) rfl ?_
 refine sp rfl (PE.extract rfl rfl) rfl ?_
 refine sp rfl (PE.extract rfl rfl) rfl ?_
 refine alc rfl zl25 rfl (fun b10 => ?_)
 refine sto rfl rfl rfl cn25 rfl rfl rfl rfl ?_
 refine sp rfl (PE.assign rfl) rfl ?_
 refine sy_seq ?_
 refine sy_seq ?_
 refine sy_tx' [0, 1] rfl ?_
 refine sp rfl (PE.move rfl) rfl ?_
 refine sp rfl (PE.neq rfl rfl) rfl ?_
 refine sy_condF (rfl) ?_
 refine sy_skip ?_
 refine sy_block ?_
 have h00 : b.burnsF b.warms (lls pl ++ rep 0 (lls ql)) 0 = (none, us) := by rw [show lls pl ++ rep 0 (lls ql) = lls pl from List.append_nil _]; exact hbn
 refine Sy.heap (H' := (b10, cel 25 (btl (b.withB (wbins b.bins us)) ((b.withB (wbins b.bins us)).sl (some ⟨bo2, 0, none⟩) b.bins.length))) :: (b3, cel 25 (btl b (b.sl ab cb))) :: H) (R' := RowsA (some ⟨bo2, 0, none⟩) 4 (brows (wbins b.bins us)) :: R) (fun w h => St.rows (sz := 4) (rows := brows (wbins b.bins us)) (rest := []) (by rw [List.append_nil]; exact h.pull bo2) (br_four _)) ?_
 refine sy_loop (ι := {x : (Nat × List Int) × Nat // Cool b x.1.2 ∧ b.burnsF b.warms (lls pl ++ rep x.1.1 (lls ql)) 0 = (none, x.1.2) ∧ (x.1.1 = 0 ∨ ∀ k < b.bins.length, na x.1.2 k ≤ wst b.cool (b.worst (b.bins.getD k hb0)) k (na x.1.2 k) (lls ql))}) (fun x => ⟨[(2, .slice aq ql.length cq), (3, .pointer (some ⟨b3, 0, none⟩)), (10, .pointer (some ⟨b10, 0, none⟩))], (b10, cel 25 (btl (b.withB (wbins b.bins x.1.1.2)) ((b.withB (wbins b.bins x.1.1.2)).sl (some ⟨x.1.2, 0, none⟩) b.bins.length))) :: (b3, cel 25 (btl b (b.sl ab cb))) :: H, RowsA (some ⟨x.1.2, 0, none⟩) 4 (brows (wbins b.bins x.1.1.2)) :: R⟩) (fun x => if x.1.1.1 = 0 then 1000 else roomW b x.1.1.2) ⟨((0, us), bo2), hcn, h00, .inl rfl⟩ ?_ (fun x => ?_)
 exact sy_at (by repeat' first | exact Sub.nil | apply Sub.cons | rfl | (simp [lk]; omega)) (fun _ h => h)
 obtain ⟨⟨⟨i, ws⟩, bo⟩, hcw, hbw, hgr⟩ := x
 dsimp only at hcw hbw hgr ⊢
 have hwl := hcw.len
 have hpw := withW_planned hok hck hcw hqz
 have hnl : (b.withB (wbins b.bins ws)).bins.length = b.bins.length := wbins_len hwl
 have hwm : (b.withB (wbins b.bins ws)).warms = ws := withW_warms hwl
 have hwb := withW_burns (b := b) hwl (lls ql) ws 0
 haveI : MemRows (some ⟨bo, 0, none⟩) 4 (brows (b.withB (wbins b.bins ws)).bins) (RowsA (some ⟨bo, 0, none⟩) 4 (brows (wbins b.bins ws)) :: R) := inferInstanceAs (MemRows (some ⟨bo, 0, none⟩) 4 (brows (wbins b.bins ws)) (RowsA (some ⟨bo, 0, none⟩) 4 (brows (wbins b.bins ws)) :: R))
 refine sy_block ?_
 refine sy_seq ?_
 refine sy_tx' [0, 1, 2, 3, 4, 5, 6, 7, 8] rfl ?_
 refine spL rfl rfl (lhA (btl (b.withB (wbins b.bins ws)) ((b.withB (wbins b.bins ws)).sl (some ⟨bo, 0, none⟩) b.bins.length)) ag25 rfl rfl rfl) rfl ?_
 refine sp rfl (PE.move rfl) rfl ?_
 refine cl rfl cal29 rfl rfl (c_After (b.withB (wbins b.bins ws)) (some ⟨bo, 0, none⟩) b.bins.length (by omega) hok.len ql aq cq hql hqi _ _) ?_
 rintro _ _ R1 ⟨hR1, hQQ⟩
 obtain rfl := hR1.symm
 rcases hQQ with ⟨hpn, _, _⟩ | ⟨_, hbs, rfl, rfl⟩ | ⟨_, us, bo2, hbn, hcn, rfl, rfl⟩
 exact absurd hpw hpn
 rw [hwm, hwb] at hbs
 refine sp rfl (PE.move rfl) rfl ?_
 refine sp rfl (PE.extract rfl rfl) rfl ?_
 refine sp rfl (PE.extract rfl rfl) rfl ?_
 refine alc rfl zl25 rfl (fun b12 => ?_)
 refine sto rfl rfl rfl cn25 rfl rfl rfl rfl ?_
 refine sp rfl (PE.assign rfl) rfl ?_
 refine sy_seq ?_
 refine sy_seq ?_
 refine sy_tx' [0, 1] rfl ?_
 refine sp rfl (PE.move rfl) rfl ?_
 refine sp rfl (PE.neq rfl rfl) rfl ?_
 refine sy_condT (rfl) ?_
 refine sy_seq ?_
 refine sy_tx' [0, 1] rfl ?_
 refine sp rfl (PE.assign rfl) rfl ?_
 refine sp rfl (PE.assign rfl) rfl ?_
 refine sy_ret ?_
 exact sy_return (vs := [_, _]) rfl (.cons (RV.tmp rfl) (.cons (RV.tmp rfl) .nil)) rfl ⟨.inr ⟨ese, _, ⟨fun h => (by cases h), fun h => absurd h (goes_no hbw hbs)⟩, rfl⟩, rfl, rfl⟩ (fun w h => (((h.del b12).del b10).del b3).ftail)
 rw [hwm, hwb] at hbn
 replace hcn := withW_cool hwl hcn
 have hul := hcn.len
 rw [withW_eq hwl hul, hnl, show wbins (b.withB (wbins b.bins ws)).bins us = wbins b.bins us from withW_twice hwl hul]
 refine Sy.heap (H' := (b10, cel 25 (btl (b.withB (wbins b.bins ws)) ((b.withB (wbins b.bins ws)).sl (some ⟨bo, 0, none⟩) b.bins.length))) :: (b3, cel 25 (btl b (b.sl ab cb))) :: H) (R' := RowsA (some ⟨bo2, 0, none⟩) 4 (brows (wbins b.bins us)) :: RowsA (some ⟨bo, 0, none⟩) 4 (brows (wbins b.bins ws)) :: R) (fun w h => St.rows (sz := 4) (rows := brows (wbins b.bins us)) (rest := []) (by rw [List.append_nil]; exact h.pull bo2) (br_four _)) ?_
 refine sp rfl (PE.move rfl) rfl ?_
 refine sp rfl (PE.extract rfl rfl) rfl ?_
 refine sp rfl (PE.extract rfl rfl) rfl ?_
 refine alc rfl zl25 rfl (fun b12 => ?_)
 refine sto rfl rfl rfl cn25 rfl rfl rfl rfl ?_
 refine sp rfl (PE.assign rfl) rfl ?_
 refine sy_seq ?_
 refine sy_seq ?_
 refine sy_tx' [0, 1] rfl ?_
 refine sp rfl (PE.move rfl) rfl ?_
 refine sp rfl (PE.neq rfl rfl) rfl ?_
 refine sy_condF (rfl) ?_
 refine sy_skip ?_
 refine sy_seq ?_
 refine sy_seq ?_
 refine sy_tx' [0, 1, 2, 3, 4] rfl ?_
 refine sp rfl (PE.fieldAddr fo25_3 rfl) rfl ?_
 refine spL rfl rfl (lh sc23 rfl rfl) rfl ?_
 refine sp rfl (PE.fieldAddr fo25_3 rfl) rfl ?_
 refine spL rfl rfl (lh sc23 rfl rfl) rfl ?_
 refine clV rfl cal97 rfl rfl (c_eq_bin (wbins b.bins us) (wbins b.bins ws) (some ⟨bo2, 0, none⟩) (some ⟨bo, 0, none⟩) b.bins.length b.bins.length (by rw [wbins_len hul]; exact hl) (by rw [wbins_len hwl]; exact hl) _ _) ?_
 refine sy_cond rfl (fun hc5 => ?_) (fun hc5 => ?_)
 try simp only [decide_eq_true_eq, decide_eq_false_iff_not, Bool.and_eq_true, Bool.or_eq_true, Bool.not_eq_true', Int.not_le, Int.not_lt] at hc5
 have hue : us = ws := wbins_inj hwl hul hc5
 subst hue
 refine sy_seq ?_
 refine sy_tx' [0, 1] rfl ?_
 refine sp rfl (PE.assign rfl) rfl ?_
 refine sp rfl (PE.assign rfl) rfl ?_
 refine sy_ret ?_
 exact sy_return (vs := [_, _]) rfl (.cons (RV.tmp rfl) (.cons (RV.tmp rfl) .nil)) rfl ⟨.inr ⟨ese, _, ⟨fun _ => goes_yes hbw hbn, fun _ => rfl⟩, rfl⟩, rfl, rfl⟩ (fun w h => (((h.del b12).del b10).del b3).ftail.ftail)
 try simp only [decide_eq_true_eq, decide_eq_false_iff_not, Bool.and_eq_true, Bool.or_eq_true, Bool.not_eq_true', Int.not_le, Int.not_lt] at hc5
 have hne : us ≠ ws := fun e => hc5 (by rw [e])
 refine sy_skip ?_
 refine sy_tx' [0, 1] rfl ?_
 refine spL rfl rfl (lhA (btl (b.withB (wbins b.bins us)) ((b.withB (wbins b.bins us)).sl (some ⟨bo2, 0, none⟩) b.bins.length)) ag25 rfl rfl rfl) rfl ?_
 refine sto rfl rfl rfl cn25 rfl rfl rfl rfl ?_
 refine sy_next ⟨((i + 1, us), bo2), hcn, goes_step hbw hbn, .inr (grown_next hok hcw hbn)⟩ ?_ (by repeat' first | exact Sub.nil | apply Sub.cons | rfl | (simp [lk]; omega)) (fun w h => St.sub (h.del b12))
 dsimp only
 rw [if_neg (by omega)]
 rcases hgr with h0 | hgr
 · rw [if_pos h0]
   have := roomW_le b (ws := us) (fun k hk => by obtain ⟨y, hy⟩ : ∃ y, b.bins[k]? = some y := ⟨_, List.getElem?_eq_getElem hk⟩; exact (hcn.at_ k y hy).1) hmn.2
   omega
 · have := room_less hok hcw hcn hgr hbn hne
   split
   · have := roomW_le b (ws := us) (fun k hk => by obtain ⟨y, hy⟩ : ∃ y, b.bins[k]? = some y := ⟨_, List.getElem?_eq_getElem hk⟩; exact (hcn.at_ k y hy).1) hmn.2
     omega
   · exact this
end Go.Proofs.Ytelegnmfhjfbaaa
namespace Go.Proofs.Ytelegnmfhjfbaaa
set_option linter.unusedSimpArgs false
set_option linter.unusedVariables false
open Go
def setN (l : List Nat) : Nat := l.foldl (fun o k => o ||| (1 * 2 ^ k)) 0
theorem setN_snoc (l : List Nat) (k : Nat) : setN (l ++ [k]) = setN l ||| (1 * 2 ^ k) := by unfold setN; rw [List.foldl_append]; rfl
theorem setN_bit : ∀ (l : List Nat) (o j : Nat), (l.foldl (fun o k => o ||| (1 * 2 ^ k)) o).testBit j = (o.testBit j || decide (j ∈ l))
  | [], o, j => by simp
  | k :: l, o, j => by
    rw [List.foldl_cons, setN_bit l, Nat.testBit_or, Nat.one_mul, Nat.testBit_two_pow]
    by_cases h : k = j
    · subst h; simp
    · have h' : ¬ j = k := fun e => h e.symm
      simp [h, h']
theorem setN_mem (l : List Nat) (j : Nat) : (setN l).testBit j = decide (j ∈ l) := by unfold setN; rw [setN_bit]; simp
theorem setN_lt {l : List Nat} {m : Nat} (h : ∀ k ∈ l, k < m) : setN l < 2 ^ m := by
  apply Nat.lt_pow_two_of_testBit
  intro i hi
  rw [setN_mem]
  have : i ∉ l := fun hm => by have := h i hm; omega
  simpa using this
theorem bitl_more {s K : Nat} (h : s < 2 ^ K) : ∀ j, bitl (K + j) s = bitl K s
  | 0 => rfl
  | j + 1 => by
    rw [show K + (j + 1) = (K + j) + 1 from rfl, bitl_succ, bitl_more h j, Nat.testBit_lt_two_pow (Nat.lt_of_lt_of_le h (Nat.pow_le_pow_right (by decide) (by omega)))]
    exact List.append_nil _
theorem bitl_same {s K n : Nat} (h : s < 2 ^ K) (h' : s < 2 ^ n) : bitl K s = bitl n s := by
  rcases Nat.le_total K n with h1 | h1
  · obtain ⟨j, rfl⟩ : ∃ j, n = K + j := ⟨n - K, by omega⟩
    exact (bitl_more h j).symm
  · obtain ⟨j, rfl⟩ : ∃ j, K = n + j := ⟨K - n, by omega⟩
    exact bitl_more h' j
theorem c_set (l : List Nat) (hl : ∀ k ∈ l, k < 4) (hll : l.length ≤ 1000000) (a : Option Addr) (c : Nat) (H : Heap) (R : Facts) [hL : MemRows a 1 (irows (il l)) R] :
    FnV Try.prog 137 [.slice a l.length c] H R (.int .i64 (setN l : Nat)) := by
 refine fn_of Try.func137 rfl Try.ntmps137 rfl ?_
 refine sy_seq ?_
 refine sy_tx' [0] rfl ?_
 refine sp rfl (PE.assign rfl) rfl ?_
 refine sy_seq ?_
 refine sy_tx' [0] rfl ?_
 refine sp rfl (PE.assign rfl) rfl ?_
 refine sy_seq ?_
 refine sy_seq ?_
 refine sy_tx' [0, 1, 2] rfl ?_
 refine sp rfl (PE.move rfl) rfl ?_
 refine sp rfl (PE.lenSl isl40 rfl) rfl ?_
 refine sp rfl (PE.move rfl) rfl ?_
 refine sy_block ?_
 refine sy_loop (ι := {k : Nat // k ≤ l.length}) (fun k => ⟨[(3, .int .i64 (setN (l.take k.1) : Nat)), (6, .slice a l.length c), (7, .int .i64 l.length), (8, .int .i64 k.1)], H, R⟩) (fun k => l.length - k.1) ⟨0, Nat.zero_le _⟩ ?_ (fun k => ?_)
 exact sy_at (by repeat' first | exact Sub.nil | apply Sub.cons | rfl | (simp [lk]; omega)) (fun _ h => h)
 obtain ⟨k, hk⟩ := k
 dsimp only at hk ⊢
 refine sy_seq ?_
 refine sy_tx' [0] rfl ?_
 refine sp rfl (PE.lss rfl rfl) rfl ?_
 refine sy_seq ?_
 refine sy_cond rfl (fun hc0 => ?_) (fun hc0 => ?_)
 try simp only [decide_eq_true_eq, decide_eq_false_iff_not, Bool.and_eq_true, Bool.or_eq_true, Bool.not_eq_true', Int.not_le, Int.not_lt] at hc0
 obtain ⟨j, hj⟩ : ∃ j, l[k]? = some j := ⟨_, List.getElem?_eq_getElem (by omega)⟩
 have hj4 := hl j (List.mem_of_getElem? hj)
 have hlt : setN (l.take k) < 2 ^ 4 := setN_lt fun i hi => hl i (List.mem_of_mem_take hi)
 have hj16 : 2 ^ j ≤ 8 := Nat.le_trans (Nat.pow_le_pow_right (by decide) (show j ≤ 3 by omega)) (by decide)
 refine sy_addr (a := a) (sz := 1) (rows := irows (il l)) (by intro h0; have := congrArg List.length h0; rw [irows_len, il_len] at this; simp only [List.length_nil] at this; omega) (fun ba oa he => ?_)
 subst he
 refine sy_skip ?_
 refine sy_seq ?_
 refine sy_block ?_
 refine sy_seq ?_
 refine sy_tx' [0, 1, 2] rfl ?_
 refine sp rfl (PE.indexAddr el40 rfl rfl (by omega) (by omega)) rfl ?_
 refine spL rfl rfl (lf0 sc3 (ir_get (x := (j : Int)) (by simp [il, hj])) rfl) rfl ?_
 refine sp rfl (PE.assign rfl) rfl ?_
 refine sy_tx' [0, 1, 2, 3, 4] rfl ?_
 refine sp rfl (PE.move rfl) rfl ?_
 refine sp rfl (PE.move rfl) rfl ?_
 refine sp rfl (PE.shlN (m := 1) (n := j) rfl rfl rfl (by omega) (by omega)) rfl ?_
 refine sp rfl (PE.orN (m := setN (l.take k)) (n := 1 * 2 ^ j) rfl rfl (by omega) (by omega)) rfl ?_
 refine sp rfl (PE.assign rfl) rfl ?_
 refine sy_tx' [0, 1] rfl ?_
 refine sp rfl (PE.add rfl rfl (by omega)) rfl ?_
 refine sp rfl (PE.move rfl) rfl ?_
 exact sy_next ⟨k + 1, by omega⟩ (by dsimp only; omega) (by rw [take_snoc hj, setN_snoc]; exact (by repeat' first | exact Sub.nil | apply Sub.cons | rfl | (simp [lk]; omega))) (fun _ h => h)
 try simp only [decide_eq_true_eq, decide_eq_false_iff_not, Bool.and_eq_true, Bool.or_eq_true, Bool.not_eq_true', Int.not_le, Int.not_lt] at hc0
 obtain rfl : k = l.length := by omega
 rw [List.take_length]
 refine sy_exit ?_
 repeat refine sy_tx ?_
 refine sy_bx ?_
 refine sy_seq ?_
 refine sy_tx' [0, 1] rfl ?_
 refine sp rfl (PE.move rfl) rfl ?_
 refine sp rfl (PE.assign rfl) rfl ?_
 refine sy_ret ?_
 exact sy_return (vs := [_]) rfl (.cons (RV.tmp rfl) .nil) rfl ⟨rfl, rfl, rfl⟩ (fun _ h => h)
theorem c_list (s : Nat) (hs : s < 2 ^ 4) (H : Heap) (R : Facts) :
    Fn Try.prog 138 [.int .i64 s] H R (fun v H' R' => ∃ o : OSl 3 1 (irows (il (bitl 4 s))), v = o.fs ∧ H' = o.G ++ H ∧ R' = R) := by
 refine fn_of Try.func138 rfl Try.ntmps138 rfl ?_
 refine sy_seq ?_
 refine sy_tx' [0] rfl ?_
 refine sp rfl (PE.assign rfl) rfl ?_
 refine sy_seq ?_
 refine sy_tx' [0] rfl ?_
 refine sp rfl (PE.assign rfl) rfl ?_
 refine sy_seq ?_
 refine sy_seq ?_
 refine sy_tx' [0] rfl ?_
 refine sp rfl (PE.assign rfl) rfl ?_
 refine sy_block ?_
 refine sy_loop (ι := (k : {k : Nat // k ≤ 4}) × OSl 3 1 (irows (il (bitl k.1 s)))) (fun x => ⟨[(0, .int .i64 s), (3, x.2.fs), (4, .int .i64 x.1.1)], x.2.G ++ H, R⟩) (fun x => 4 - x.1.1) ⟨⟨0, by omega⟩, OSl.nil _ _⟩ ?_ (fun x => ?_)
 exact sy_at (by repeat' first | exact Sub.nil | apply Sub.cons | rfl | (simp [lk]; omega)) (fun _ h => h)
 obtain ⟨⟨k, hk⟩, o⟩ := x
 dsimp only at hk o ⊢
 have eb := bitl_succ k s
 refine sy_seq ?_
 refine sy_seq ?_
 refine sy_tx' [0, 1, 2, 3] rfl ?_
 refine sp rfl (PE.move rfl) rfl ?_
 refine sp rfl (PE.move rfl) rfl ?_
 refine sp rfl (PE.shrN (m := s) (n := k) rfl rfl (by omega)) rfl ?_
 refine sp rfl (PE.gtr rfl rfl) rfl ?_
 refine sy_cond rfl (fun hc0 => ?_) (fun hc0 => ?_)
 try simp only [decide_eq_true_eq, decide_eq_false_iff_not, Bool.and_eq_true, Bool.or_eq_true, Bool.not_eq_true', Int.not_le, Int.not_lt] at hc0
 have hk4 : k < 4 := by
   rcases Nat.lt_or_ge k 4 with h1 | h1
   · exact h1
   · obtain rfl : k = 4 := by omega
     have : s >>> 4 = 0 := by rw [Nat.shiftRight_eq_div_pow]; exact Nat.div_eq_of_lt hs
     omega
 refine sy_skip ?_
 refine sy_seq ?_
 refine sy_block ?_
 refine sy_seq ?_
 refine sy_tx' [0, 1, 2, 3, 4] rfl ?_
 refine sp rfl (PE.move rfl) rfl ?_
 refine sp rfl (PE.move rfl) rfl ?_
 refine sp rfl (PE.shrN (m := s) (n := k) rfl rfl (by omega)) rfl ?_
 refine sp rfl (PE.andN (m := s >>> k) (n := 1) rfl rfl rfl (Nat.le_trans (Nat.shiftRight_le _ _) (by omega)) (by decide)) rfl ?_
 refine sp rfl (PE.eql rfl rfl) rfl ?_
 refine sy_cond rfl (fun hc1 => ?_) (fun hc1 => ?_)
 rw [bit_one] at hc1
 rw [hc1, cond_true] at eb
 refine sy_tx' [0, 1, 2, 3, 4] rfl ?_
 refine sp rfl (PE.move rfl) rfl ?_
 refine sp rfl (PE.move rfl) rfl ?_
 refine bsl (out := [_]) rfl sl40 zl3 rfl rfl rfl rfl rfl rfl (fun b18 => ?_)
 refine apO (o) rfl ap40 rfl rfl (rowsH (row := [.int .i64 k]) rfl) rfl rfl ((by have := bitl_len k s; simp only [irows, il, List.length_map, List.length_singleton]; omega)) rfl (fun o19 => ?_)
 refine sp rfl (PE.assign rfl) rfl ?_
 refine sy_tx' [0, 1, 2] rfl ?_
 refine sp rfl (PE.move rfl) rfl ?_
 refine sp rfl (PE.add rfl rfl (by omega)) rfl ?_
 refine sp rfl (PE.assign rfl) rfl ?_
 first
   | exact sy_next ⟨⟨k + 1, by omega⟩, o19.cast (by rw [eb]; simp [irows, il])⟩ (by dsimp only; omega) (by repeat' first | exact Sub.nil | apply Sub.cons | rfl | (simp [lk]; omega)) (fun w h => h.del b18)
   | exact sy_next ⟨⟨k + 1, by omega⟩, o.cast (by rw [eb])⟩ (by dsimp only; omega) (by repeat' first | exact Sub.nil | apply Sub.cons | rfl | (simp [lk]; omega)) (fun _ h => h)
 rw [bit_one] at hc1
 rw [hc1, cond_false, List.append_nil] at eb
 refine sy_skip ?_
 refine sy_tx' [0, 1, 2] rfl ?_
 refine sp rfl (PE.move rfl) rfl ?_
 refine sp rfl (PE.add rfl rfl (by omega)) rfl ?_
 refine sp rfl (PE.assign rfl) rfl ?_
 first
   | exact sy_next ⟨⟨k + 1, by omega⟩, o19.cast (by rw [eb]; simp [irows, il])⟩ (by dsimp only; omega) (by repeat' first | exact Sub.nil | apply Sub.cons | rfl | (simp [lk]; omega)) (fun w h => h.del b18)
   | exact sy_next ⟨⟨k + 1, by omega⟩, o.cast (by rw [eb])⟩ (by dsimp only; omega) (by repeat' first | exact Sub.nil | apply Sub.cons | rfl | (simp [lk]; omega)) (fun _ h => h)
 try simp only [decide_eq_true_eq, decide_eq_false_iff_not, Bool.and_eq_true, Bool.or_eq_true, Bool.not_eq_true', Int.not_le, Int.not_lt] at hc0
 have hz : s < 2 ^ k := by
   rcases Nat.lt_or_ge s (2 ^ k) with h1 | h1
   · exact h1
   · have : 1 ≤ s >>> k := by rw [Nat.shiftRight_eq_div_pow]; exact (Nat.one_le_div_iff (Nat.two_pow_pos k)).2 h1
     omega
 refine sy_exit ?_
 repeat refine sy_tx ?_
 refine sy_bx ?_
 refine sy_seq ?_
 refine sy_tx' [0, 1] rfl ?_
 refine sp rfl (PE.move rfl) rfl ?_
 refine sp rfl (PE.assign rfl) rfl ?_
 refine sy_ret ?_
 exact sy_return (vs := [_]) rfl (.cons (RV.tmp rfl) .nil) rfl ⟨o.cast (by rw [bitl_same hz hs]), rfl, rfl, rfl⟩ (fun _ h => h)
end Go.Proofs.Ytelegnmfhjfbaaa
namespace Go.Proofs.Ytelegnmfhjfbaaa
set_option linter.unusedSimpArgs false
set_option linter.unusedVariables false
open Go
theorem ag178 : aggN Try.prog 178 = some 6 := by kernel_rfl
theorem ap180 : apT Try.prog 180 = some (179, 1, 8) := by kernel_rfl
theorem ap26 : apT Try.prog 26 = some (40, 1, 24) := by kernel_rfl
theorem cal137 : cal Try.prog 137 = true := by kernel_rfl
theorem cal138 : cal Try.prog 138 = true := by kernel_rfl
theorem cn178 : cellN Try.prog 178 = some 6 := by kernel_rfl
theorem cn179 : cellN Try.prog 179 = some 1 := by kernel_rfl
theorem cn180 : cellN Try.prog 180 = some 1 := by kernel_rfl
theorem cn40 : cellN Try.prog 40 = some 1 := by kernel_rfl
theorem el180 : elN Try.prog 180 = some 1 := by kernel_rfl
theorem eqf178 : eqB Try.prog 10000 178 = some (true, 6) := by kernel_rfl
theorem eqg178 : Try.prog.eqGuardType Try.prog.depth 178 = false := by kernel_rfl
theorem fo178_0 : fOff Try.prog 178 0 = some 0 := by kernel_rfl
theorem fo178_1 : fOff Try.prog 178 1 = some 4 := by kernel_rfl
theorem fo178_2 : fOff Try.prog 178 2 = some 5 := by kernel_rfl
theorem mke179 : mapKE Try.prog 179 = some (127, 178) := by kernel_rfl
theorem pl178 : placeL Try.prog 178 = some [(0, 4), (4, 1), (5, 1)] := by kernel_rfl
theorem sc179 : scal Try.prog 179 = true := by kernel_rfl
theorem sc180 : scal Try.prog 180 = true := by kernel_rfl
theorem sl180 : slE Try.prog 180 = some (179, 1) := by kernel_rfl
theorem zl178 : zeroL Try.prog 178 = some ([.int .i64 0, .int .i64 0, .int .i64 0, .int .i64 0, .int .i64 0, .int .i64 0]) := by kernel_rfl
theorem zl179 : zeroL Try.prog 179 = some ([.map none]) := by kernel_rfl
theorem zl180 : zeroL Try.prog 180 = some ([.slice none 0 0]) := by kernel_rfl
theorem zl40 : zeroL Try.prog 40 = some ([.slice none 0 0]) := by kernel_rfl
theorem zv178 : zvl Try.prog 178 = some (.agg #[.int .i64 0, .int .i64 0, .int .i64 0, .int .i64 0, .int .i64 0, .int .i64 0]) := by kernel_rfl
abbrev MW := List (HSt × List Int)
def zw : List Int := [0, 0, 0, 0, 0, 0]
def wvl (w : List Int) : Value := .agg (ints w).toArray
def mget (m : MW) (s : HSt) : Option (List Int) := (m.find? fun e => decide (e.1 = s)).map (·.2)
def mput : MW → HSt → List Int → MW
  | [], k, v => [(k, v)]
  | (k', v') :: l, k, v => bif decide (k' = k) then (k, v) :: l else (k', v') :: mput l k v
def kvw (m : MW) : KV := m.map fun p => (p.1, wvl p.2)
theorem kvw_get : ∀ (m : MW) (s : HSt), (kvw m).get s = (mget m s).map wvl
  | [], s => rfl
  | (k, v) :: m, s => by
    have ih := kvw_get m s
    unfold KV.get mget at ih ⊢
    show (((k, wvl v) :: kvw m).find? fun e => decide (e.1 = s)).map (·.2) = _
    rw [List.find?_cons, List.find?_cons]
    dsimp only
    cases decide (k = s) with
    | true => rfl
    | false => exact ih
theorem kvw_put : ∀ (m : MW) (k : HSt) (v : List Int), (kvw m).put k (wvl v) = kvw (mput m k v)
  | [], k, v => rfl
  | (k', v') :: m, k, v => by
    have ih := kvw_put m k v
    show KV.put ((k', wvl v') :: kvw m) k (wvl v) = kvw (bif decide (k' = k) then (k, v) :: m else (k', v') :: mput m k v)
    unfold KV.put
    cases decide (k' = k) with
    | true => rfl
    | false =>
      rw [cond_false, cond_false]
      show (k', wvl v') :: (kvw m).put k (wvl v) = _
      rw [ih]; rfl
theorem mget_mput : ∀ (m : MW) (k : HSt) (v : List Int) (s : HSt), mget (mput m k v) s = bif decide (k = s) then some v else mget m s
  | [], k, v, s => by
    unfold mput mget
    rw [List.find?_cons]
    dsimp only
    cases decide (k = s) <;> rfl
  | (k', v') :: m, k, v, s => by
    have ih := mget_mput m k v s
    unfold mput
    by_cases h : k' = k
    · subst h
      rw [decide_eq_true rfl, cond_true]
      unfold mget
      rw [List.find?_cons, List.find?_cons]
      dsimp only
      cases decide (k' = s) <;> rfl
    · rw [decide_eq_false h, cond_false]
      unfold mget at ih ⊢
      rw [List.find?_cons, List.find?_cons]
      dsimp only
      by_cases h2 : k' = s
      · subst h2
        rw [decide_eq_true rfl, decide_eq_false (fun e => h e.symm)]; rfl
      · rw [decide_eq_false h2]; exact ih
structure WOk (B : Int) (e : HSt × List Int) : Prop where
  k : e.1.length = 4
  v : e.2.length = 6
  t : 0 ≤ na e.2 4 ∧ na e.2 4 < 16
  a : 0 ≤ na e.2 5 ∧ na e.2 5 ≤ B
def MwOk (B : Int) (m : MW) : Prop := ∀ e ∈ m, WOk B e
theorem mput_ok {B : Int} : ∀ {m : MW} {k : HSt} {v : List Int}, MwOk B m → WOk B (k, v) → MwOk B (mput m k v)
  | [], k, v, _, h => fun e he => by rw [List.mem_singleton.1 he]; exact h
  | (k', v') :: m, k, v, hm, h => fun e he => by
    unfold mput at he
    cases hd : decide (k' = k) with
    | true =>
      rw [hd, cond_true] at he
      rcases List.mem_cons.1 he with rfl | h1
      · exact h
      · exact hm e (by simp [h1])
    | false =>
      rw [hd, cond_false] at he
      rcases List.mem_cons.1 he with rfl | h1
      · exact hm _ (by simp)
      · exact mput_ok (m := m) (fun e he => hm e (by simp [he])) h e h1
theorem mget_ok {B : Int} {m : MW} (hm : MwOk B m) {s : HSt} {w : List Int} (h : mget m s = some w) : w.length = 6 ∧ (0 ≤ na w 4 ∧ na w 4 < 16) ∧ 0 ≤ na w 5 ∧ na w 5 ≤ B := by
  unfold mget at h
  rw [Option.map_eq_some_iff] at h
  obtain ⟨e, he, rfl⟩ := h
  have := hm e (List.mem_of_find?_eq_some he)
  exact ⟨this.v, this.t, this.a⟩
theorem zw_ok : (0 ≤ na zw 4 ∧ na zw 4 < 16) ∧ 0 ≤ na zw 5 ∧ na zw 5 ≤ 0 := by decide
theorem kvw_len {B : Int} {m : MW} (hm : MwOk B m) : ∀ e ∈ kvw m, e.1.length = 4 := fun e he => by
  obtain ⟨p, hp, rfl⟩ := List.mem_map.1 he
  exact (hm p hp).k
theorem wor {o : Option (List Int)} : (o.map wvl).getD (wvl zw) = wvl (o.getD zw) := by cases o <;> rfl
theorem wor_some {o : Option (List Int)} : (o.map wvl).isSome = o.isSome := by cases o <;> rfl
theorem list6' {l : List Int} (h : l.length = 6) : ∃ a b c d e f, l = [a, b, c, d, e, f] := by
  match l, h with
  | [a, b, c, d, e, f], _ => exact ⟨a, b, c, d, e, f, rfl⟩
def updW (m : MW) (e : HSt × List Int) : MW := bif decide ((mget m e.1).getD zw = zw) || decide (na e.2 5 < na ((mget m e.1).getD zw) 5) then mput m e.1 e.2 else m
theorem updW_ok {B : Int} {m : MW} {e : HSt × List Int} (hm : MwOk B m) (he : WOk B e) : MwOk B (updW m e) := by
  unfold updW
  cases (decide ((mget m e.1).getD zw = zw) || decide (na e.2 5 < na ((mget m e.1).getD zw) 5)) with
  | true => exact mput_ok hm he
  | false => exact hm
def evOf (d : Dsk) (s : HSt) (c : Int) (l : List Nat) : Option (HSt × List Int) := (d.next s l).map fun t => (t, s ++ [(setN l : Int), c + (l.length : Int)])
def evsP (d : Dsk) (m : MW) (s : HSt) (j : Nat) : List (HSt × List Int) := match mget m s with
  | none => []
  | some w => ((d.trs false).take j).filterMap (evOf d s (na w 5))
def evW (d : Dsk) (m : MW) (s : HSt) : List (HSt × List Int) := evsP d m s (d.trs false).length
def nowM (d : Dsk) (m : MW) (k : Nat) : MW := ((d.sts.take k).flatMap (evW d m)).foldl updW []
def mday (d : Dsk) (s0 : HSt) : Nat → MW
  | 0 => [(s0, zw)]
  | i + 1 => nowM d (mday d s0 i) d.nst
theorem nowM_succ {d : Dsk} {m : MW} {k : Nat} {s : HSt} (h : d.sts[k]? = some s) : nowM d m (k + 1) = (evW d m s).foldl updW (nowM d m k) := by
  unfold nowM
  rw [take_snoc h, List.flatMap_append, List.foldl_append, List.flatMap_singleton]
theorem evsP_none {d : Dsk} {m : MW} {s : HSt} (h : mget m s = none) (j : Nat) : evsP d m s j = [] := by unfold evsP; rw [h]
theorem evsP_zero (d : Dsk) (m : MW) (s : HSt) : evsP d m s 0 = [] := by unfold evsP; cases mget m s <;> simp
theorem evsP_succ {d : Dsk} {m : MW} {s : HSt} {w : List Int} (h : mget m s = some w) {j : Nat} {l : List Nat} (hl : (d.trs false)[j]? = some l) : evsP d m s (j + 1) = evsP d m s j ++ (match d.next s l with | none => [] | some t => [(t, s ++ [(setN l : Int), na w 5 + (l.length : Int)])]) := by
  unfold evsP
  rw [h]
  dsimp only
  rw [take_snoc hl, List.filterMap_append]
  congr 1
  unfold evOf
  cases hn : d.next s l with
  | none => simp [hn]
  | some t => simp [hn]
theorem trs_len4 {d : Dsk} (hd : d.ok) {full : Bool} {l : List Nat} (h : l ∈ d.trs full) : l.length ≤ 4 := by
  obtain ⟨i, _, rfl⟩ := List.mem_map.1 (List.mem_filter.1 h).1
  have := bitl_len d.n i
  have := hd.n
  omega
theorem ev_ok {d : Dsk} (hd : d.ok) {s t : HSt} {B c : Int} (hs : d.inS s) (hc : 0 ≤ c ∧ c ≤ B) {l : List Nat} (hl : l ∈ d.trs false) (hn : d.next s l = some t) : WOk (B + 4) (t, s ++ [(setN l : Int), c + (l.length : Int)]) := by
  have h1 := d.trs_lt hl
  have h2 := trs_len4 hd hl
  have h3 := setN_lt (l := l) (m := 4) (fun k hk => by have := h1 k hk; have := hd.n; omega)
  obtain ⟨s0, s1, s2, s3, rfl⟩ := list4 hs.len
  refine ⟨(d.next_inS hd hs h1 hn).len, rfl, ?_, ?_⟩
  · show 0 ≤ (setN l : Int) ∧ (setN l : Int) < 16; omega
  · show 0 ≤ c + (l.length : Int) ∧ c + (l.length : Int) ≤ B + 4; omega
theorem fold_ok {B : Int} : ∀ {es : List (HSt × List Int)} {m : MW}, MwOk B m → (∀ e ∈ es, WOk B e) → MwOk B (es.foldl updW m)
  | [], _, hm, _ => hm
  | e :: es, m, hm, he => fold_ok (m := updW m e) (updW_ok hm (he e (by simp))) (fun f hf => he f (by simp [hf]))
theorem evsP_ok {d : Dsk} (hd : d.ok) {m : MW} {B : Int} (hm : MwOk B m) {s : HSt} (hs : s ∈ d.sts) (j : Nat) : ∀ e ∈ evsP d m s j, WOk (B + 4) e := fun e he => by
  unfold evsP at he
  cases h : mget m s with
  | none => rw [h] at he; cases he
  | some w =>
    rw [h] at he
    obtain ⟨l, hl, hle⟩ := List.mem_filterMap.1 he
    unfold evOf at hle
    rw [Option.map_eq_some_iff] at hle
    obtain ⟨t, ht, rfl⟩ := hle
    exact ev_ok hd ((d.mem_sts hd s).1 hs) (mget_ok hm h).2.2 (List.mem_of_mem_take hl) ht
theorem nowM_ok {d : Dsk} (hd : d.ok) {m : MW} {B : Int} (hm : MwOk B m) (k : Nat) : MwOk (B + 4) (nowM d m k) := by
  refine fold_ok (fun e he => by cases he) fun e he => ?_
  obtain ⟨s, hs, hes⟩ := List.mem_flatMap.1 he
  exact evsP_ok hd hm (List.mem_of_mem_take hs) _ e hes
theorem mday_ok {d : Dsk} (hd : d.ok) {s0 : HSt} (hs : s0.length = 4) : ∀ (i : Nat), MwOk (4 * i) (mday d s0 i)
  | 0 => fun e he => by rw [List.mem_singleton.1 he]; exact ⟨hs, rfl, zw_ok.1, ⟨zw_ok.2.1, zw_ok.2.2⟩⟩
  | i + 1 => by
    have := nowM_ok hd (mday_ok hd hs i) d.nst
    have e : (4 * ((i + 1 : Nat) : Int)) = 4 * (i : Int) + 4 := by push_cast; omega
    rw [e]; exact this
def bestS (m : MW) (acc : Option (HSt × Int)) (s : HSt) : Option (HSt × Int) := match mget m s with
  | none => acc
  | some w => match acc with
    | none => some (s, na w 5)
    | some (t, n) => bif decide (na w 5 < n) then some (s, na w 5) else some (t, n)
def bestT (d : Dsk) (m : MW) (k : Nat) : Option (HSt × Int) := (d.sts.take k).foldl (bestS m) none
theorem bestT_succ {d : Dsk} {m : MW} {k : Nat} {s : HSt} (h : d.sts[k]? = some s) : bestT d m (k + 1) = bestS m (bestT d m k) s := by
  unfold bestT; rw [take_snoc h, List.foldl_append]; rfl
def backP (d : Dsk) (s0 : HSt) : Nat → HSt → List (List Nat)
  | 0, _ => []
  | j + 1, s => backP d s0 j (((mget (mday d s0 (j + 1)) s).getD zw).take 4) ++ [bitl 4 (na ((mget (mday d s0 (j + 1)) s).getD zw) 4).toNat]
def MapsF (ms : List (Nat × MW)) (w : World) : Prop := ∀ p ∈ ms, w.heap[p.1]? = some (mapO true (kvw p.2))
def msrows (ms : List (Nat × MW)) : List (List Value) := ms.map fun p => [.map (some p.1)]
def mcells (ms : List (Nat × MW)) : List Value := ms.map fun p => .map (some p.1)
theorem msrows_len (ms : List (Nat × MW)) : (msrows ms).length = ms.length := List.length_map _
theorem mcells_len (ms : List (Nat × MW)) : (mcells ms).length = ms.length := List.length_map _
theorem msrows_flat : ∀ (ms : List (Nat × MW)), (msrows ms).flatten = mcells ms
  | [] => rfl
  | p :: ms => by show [Value.map (some p.1)] ++ (msrows ms).flatten = _; rw [msrows_flat ms]; rfl
theorem mc_get {ms : List (Nat × MW)} {junk : List Value} {d i : Nat} {p : Nat × MW} (h : ms[d]? = some p) (e : i = d) : (mcells ms ++ junk)[i]? = some (.map (some p.1)) := by
  subst e
  rw [List.getElem?_append_left (by rw [mcells_len]; exact (List.getElem?_eq_some_iff.1 h).1)]
  simp [mcells, h]
theorem maps_now {ms : List (Nat × MW)} {H : Heap} {R : Facts} [m : MemF (MapsF ms) R] {p : Nat × MW} (hp : p ∈ ms) : ∀ w, St H R w → w.heap[p.1]? = some (mapO true (kvw p.2)) := fun w hs => hs.now m.mem p hp
theorem St.maps {ms : List (Nat × MW)} {x : Nat} {m : MW} {H : Heap} {R : Facts} {w : World} [mf : MemF (MapsF ms) R] (h : St ((x, mapO true (kvw m)) :: H) R w) : St H (MapsF (ms ++ [(x, m)]) :: R) w := by
  have h1 := (St.freeze h).also (f := MapsF (ms ++ [(x, m)])) (fun w' hw p hp => by
    rcases List.mem_append.1 hp with h2 | h2
    · exact hw _ (List.mem_cons_of_mem _ mf.mem) p h2
    · rw [List.mem_singleton.1 h2]; exact hw (fun w => w.heap[x]? = some (mapO true (kvw m))) (by simp))
  exact h1.facts (fun g hg => by rcases List.mem_cons.1 hg with h2 | h2 <;> simp [h2])
theorem St.maps1 {x : Nat} {m : MW} {H : Heap} {R : Facts} {w : World} (h : St ((x, mapO true (kvw m)) :: H) R w) : St H (MapsF [(x, m)] :: R) w := by
  have h1 := (St.freeze h).also (f := MapsF [(x, m)]) (fun w' hw p hp => by
    rw [List.mem_singleton.1 hp]; exact hw (fun w => w.heap[x]? = some (mapO true (kvw m))) (by simp))
  exact h1.facts (fun g hg => by rcases List.mem_cons.1 hg with h2 | h2 <;> simp [h2])
def MsOk (d : Dsk) (s0 : HSt) (ms : List (Nat × MW)) (n : Nat) : Prop := ms.length = n ∧ ∀ j < n, ∃ x, ms[j]? = some (x, mday d s0 j)
theorem lk_way {H : Heap} {R : Facts} {m : MW} {B : Int} (hm : MwOk B m) {x : Nat} (hx : ∀ w, St H R w → w.heap[x]? = some (mapO true (kvw m))) (s : HSt) (hs : s.length = 4) :
    ∀ w, St H R w → Lkp Try.prog 179 (.map (some x)) (mkv true s) true (.tuple #[wvl ((mget m s).getD zw), .bool (mget m s).isSome]) w := fun w hw => by
  have h := lk_fact (b := true) (kvw m) s mke179 (KeyT.of eqf127 noa127) (run_zv zv178) hs (kvw_len hm) hx true w hw
  rw [kvw_get] at h
  rw [← wor, ← wor_some]
  exact h
theorem lk_way0 {H : Heap} {R : Facts} {m : MW} {B : Int} (hm : MwOk B m) {x : Nat} (hx : ∀ w, St H R w → w.heap[x]? = some (mapO true (kvw m))) (s : HSt) (hs : s.length = 4) :
    ∀ w, St H R w → Lkp Try.prog 179 (.map (some x)) (mkv true s) false (wvl ((mget m s).getD zw)) w := fun w hw => by
  have h := lk_fact (b := true) (kvw m) s mke179 (KeyT.of eqf127 noa127) (run_zv zv178) hs (kvw_len hm) hx false w hw
  rw [kvw_get] at h
  rw [← wor]
  exact h
theorem heldM {H : Heap} {R : Facts} {x : Nat} {o : Obj} [mm : Mem1 x o H] : ∀ w, St H R w → w.heap[x]? = some o := fun w hs => hs.held _ mm.mem
theorem wo_len {B : Int} {m : MW} (hm : MwOk B m) (s : HSt) : ((mget m s).getD zw).length = 6 ∧ (0 ≤ na ((mget m s).getD zw) 4 ∧ na ((mget m s).getD zw) 4 < 16) ∧ 0 ≤ na ((mget m s).getD zw) 5 := by
  cases h : mget m s with
  | none => exact ⟨rfl, by decide, by decide⟩
  | some w => have := mget_ok hm h; exact ⟨this.1, this.2.1, this.2.2.1⟩
theorem lk_wayE {H : Heap} {R : Facts} {m : MW} {B : Int} (hm : MwOk B m) {x : Nat} (hx : ∀ w, St H R w → w.heap[x]? = some (mapO true (kvw m))) (s : HSt) (hs : s.length = 4) {wo : Option (List Int)} (hwo : mget m s = wo) :
    ∀ w, St H R w → Lkp Try.prog 179 (.map (some x)) (mkv true s) true (.tuple #[wvl (wo.getD zw), .bool wo.isSome]) w := by subst hwo; exact lk_way hm hx s hs
theorem lk_way0E {H : Heap} {R : Facts} {m : MW} {B : Int} (hm : MwOk B m) {x : Nat} (hx : ∀ w, St H R w → w.heap[x]? = some (mapO true (kvw m))) (s : HSt) (hs : s.length = 4) {wo : List Int} (hwo : (mget m s).getD zw = wo) :
    ∀ w, St H R w → Lkp Try.prog 179 (.map (some x)) (mkv true s) false (wvl wo) w := by subst hwo; exact lk_way0 hm hx s hs
def bN (a : Option (HSt × Int)) : Int := match a with
  | none => 0
  | some p => p.2
def bS (a : Option (HSt × Int)) : HSt := match a with
  | none => [0, 0, 0, 0]
  | some p => p.1
def FewQ (d : Dsk) (s0 : HSt) (days : Nat) (H : Heap) (R : Facts) : Value → Heap → Facts → Prop := fun v H' R' => H' = H ∧
  ((bestT d (mday d s0 days) d.nst = none ∧ v = .tuple #[.slice none 0 0, .int .i64 0, .bool false] ∧ R' = R) ∨
   (∃ (s : HSt) (n : Int) (pl : List PL) (bp : Nat), bestT d (mday d s0 days) d.nst = some (s, n) ∧ lls pl = (backP d s0 days s).map il ∧ v = .tuple #[.slice (some ⟨bp, 0, none⟩) days days, .int .i64 n, .bool true] ∧ R' = RowsA (some ⟨bp, 0, none⟩) 1 (plrows pl) :: Inn pl :: R))
theorem msrows_snoc (ms : List (Nat × MW)) (x : Nat) (m : MW) : msrows (ms ++ [(x, m)]) = msrows ms ++ [[.map (some x)]] := by simp [msrows]
theorem MsOk.start (d : Dsk) (s0 : HSt) (x : Nat) : MsOk d s0 [(x, [(s0, zw)])] 1 := ⟨rfl, fun j hj => by
  obtain rfl : j = 0 := by omega
  exact ⟨x, rfl⟩⟩
theorem MsOk.snoc {d : Dsk} {s0 : HSt} {ms : List (Nat × MW)} {n : Nat} (h : MsOk d s0 ms (n + 1)) (x : Nat) : MsOk d s0 (ms ++ [(x, nowM d (mday d s0 n) d.nst)]) (n + 1 + 1) := by
  obtain ⟨h1, h2⟩ := h
  refine ⟨by rw [List.length_append, h1]; rfl, fun j hj => ?_⟩
  rcases Nat.lt_or_ge j (n + 1) with h3 | h3
  · obtain ⟨y, hy⟩ := h2 j h3
    exact ⟨y, by rw [List.getElem?_append_left (by omega)]; exact hy⟩
  · obtain rfl : j = n + 1 := by omega
    exact ⟨x, by rw [List.getElem?_append_right (by omega), h1, Nat.sub_self]; rfl⟩
theorem spl_fill {j i : Nat} {v z : Value} {cs : List Value} (e : i = j) : spl (List.replicate (j + 1) z ++ cs) i [v] = List.replicate j z ++ v :: cs := by
  subst e
  rw [List.replicate_succ', List.append_assoc]
  have := spl_at (p := List.replicate i z) (q := [z]) (s := cs) (vs := [v]) rfl
  rw [List.length_replicate] at this
  exact this
theorem St.innCons {a : Option Addr} {c : Nat} {l0 : List Int} {l : List PL} {H : Heap} {R : Facts} {w : World} [m1 : MemF (Inn l) R] [m2 : MemRows a 1 (irows l0) R] (h : St H R w) : St H (Inn (⟨a, c, l0⟩ :: l) :: R) w :=
  h.also fun _ hw y hy => by
    rcases List.mem_cons.1 hy with rfl | hy
    · exact hw _ m2.mem
    · exact hw _ m1.mem y hy
theorem bestT_len {d : Dsk} (hd : d.ok) (m : MW) : ∀ k, (bS (bestT d m k)).length = 4 := by
  have key : ∀ (l : List HSt) (acc : Option (HSt × Int)), (∀ s ∈ l, s.length = 4) → (bS acc).length = 4 → (bS (l.foldl (bestS m) acc)).length = 4 := by
    intro l
    induction l with
    | nil => intro acc _ h; exact h
    | cons s l ih =>
      intro acc hl h
      refine ih _ (fun t ht => hl t (by simp [ht])) ?_
      have hs := hl s (by simp)
      unfold bestS
      cases mget m s with
      | none => exact h
      | some w =>
        cases acc with
        | none => exact hs
        | some p =>
          obtain ⟨t, n⟩ := p
          dsimp only
          cases decide (na w 5 < n) with
          | true => exact hs
          | false => exact h
  exact fun k => key _ none (fun s hs => ((d.mem_sts hd s).1 (List.mem_of_mem_take hs)).len) rfl
set_option maxHeartbeats 4000000 in
theorem c_fewest (b : Barn) (hok : b.ok) (ab : Option Addr) (cb bd m : Nat) (days : Nat) (hdy : days ≤ 20) (H : Heap) (R : Facts) [hD : MemRows (some ⟨bd, 0, none⟩) 18 [dcs b (b.sl ab cb) b.lasts b.most m] R] [hB : MemRows ab 4 (brows b.bins) R] :
    Fn Try.prog 124 [.pointer (some ⟨bd, 0, none⟩), .int .i64 days] H R (FewQ b.dsk b.state days H R) := by
 have hdk := b.dsk_ok hok
 have hl4 := hdk.lasts.len
 have hm4 := hdk.most.len
 refine fnM_of Try.func124 rfl Try.ntmps124 rfl ?_
 refine sy_seq ?_
 refine sy_tx' [0, 1, 2, 3, 4] rfl ?_
 refine bx rfl rfl rfl (fun b2 => ?_)
 refine bx rfl rfl rfl (fun b3 => ?_)
 refine sp rfl (PE.assign rfl) rfl ?_
 refine sp rfl (PE.assign rfl) rfl ?_
 refine sp rfl (PE.assign rfl) rfl ?_
 refine sy_seq ?_
 refine sy_tx' [0, 1, 2, 3, 4, 5, 6, 7, 8, 9, 10, 11] rfl ?_
 refine mkm rfl rfl true (fun m27 => ?_)
 refine spL rfl rfl (lh sc123 rfl rfl) rfl ?_
 refine sp rfl (PE.nilCheck rfl) rfl ?_
 refine sp rfl (PE.fieldAddr fo130_0 rfl) rfl ?_
 refine spL rfl rfl (lfBA (sz := 18) (btl b (b.sl ab cb)) ag25 rfl rfl) rfl ?_
 refine clV rfl cal91 rfl rfl (c_state b ab cb hok _ _) ?_
 refine sp rfl (PE.build (out := [_, _, _, _, _, _]) pl178 zl178 rfl rfl) rfl ?_
 refine mpi [] b.state rfl mke179 (KeyT.of eqf127 noa127) rfl rfl rfl (b.state_sml hok).len (by simp) ?_
 refine sp rfl (PE.move rfl) rfl ?_
 refine bsl (out := [_]) rfl sl180 zl179 rfl rfl rfl rfl rfl rfl (fun b35 => ?_)
 refine alc rfl zl180 rfl (fun b7 => ?_)
 refine sto rfl rfl rfl cn180 rfl rfl rfl rfl ?_
 refine sy_seq ?_
 refine sy_seq ?_
 refine sy_tx' [0, 1] rfl ?_
 refine spL rfl rfl (lh sc3 rfl rfl) rfl ?_
 refine sp rfl (PE.move rfl) rfl ?_
 refine sy_block ?_
 refine Sy.heap (fun w h => St.maps1 (x := m27) (m := [(b.state, zw)]) (h.pull m27)) ?_
 obtain ⟨o0, h0f, h0g⟩ : ∃ o : OSl 179 1 (msrows [(m27, [(b.state, zw)])]), o.fs = .slice (some ⟨b35, 0, none⟩) 1 1 ∧ o.G = [(b35, cel 179 [.map (some m27)])] := ⟨⟨.slice (some ⟨b35, 0, none⟩) 1 1, [(b35, cel 179 [.map (some m27)])], by intro r hr; simp only [msrows, List.map_cons, List.map_nil, List.mem_singleton] at hr; subst hr; rfl, .inr ⟨b35, 1, [], rfl, rfl, rfl, Nat.le_refl _, by decide⟩⟩, rfl, rfl⟩
 refine Sy.heap (H' := (b7, cel 180 [o0.fs]) :: (b3, cel 3 [.int .i64 days]) :: (b2, cel 123 [.pointer (some ⟨bd, 0, none⟩)]) :: (o0.G ++ (mkh [] ++ H))) (fun w h => by rw [h0f, h0g]; exact (((h.pull b35).pull b2).pull b3).pull b7) ?_
 have hs0 : b.state.length = 4 := (b.state_sml hok).len
 refine sy_loopD (ι := (x : {x : Nat × List (Nat × MW) × List Nat // x.1 ≤ days ∧ MsOk b.dsk b.state x.2.1 (x.1 + 1)}) × OSl 179 1 (msrows x.1.2.1)) (fun x => ⟨[(2, .pointer (some ⟨b2, 0, none⟩)), (3, .pointer (some ⟨b3, 0, none⟩)), (7, .pointer (some ⟨b7, 0, none⟩)), (36, .int .i64 days), (37, .int .i64 x.1.1.1)], mks x.1.1.2.2, (b7, cel 180 [x.2.fs]) :: (b3, cel 3 [.int .i64 days]) :: (b2, cel 123 [.pointer (some ⟨bd, 0, none⟩)]) :: (x.2.G ++ (mkh x.1.1.2.2 ++ H)), MapsF x.1.1.2.1 :: R⟩) (fun x => days - x.1.1.1) ⟨⟨(0, [(m27, [(b.state, zw)])], []), Nat.zero_le _, MsOk.start _ _ _⟩, o0⟩ ?_ (fun x => ?_)
 exact sy_atD (by repeat' first | exact Sub.nil | apply Sub.cons | rfl | (simp [lk]; omega)) rfl (fun _ h => h)
 ·
  obtain ⟨⟨⟨d, ms, mk⟩, hd, hms⟩, o⟩ := x
  dsimp only at hd hms o ⊢
  obtain ⟨hml, hmg⟩ := hms
  obtain ⟨br, cr, jr, hrf, hrG, hrj, hrc, hrx⟩ := o.is.resolve_left (fun h => by have := congrArg List.length h.1; rw [msrows_len] at this; simp only [List.length_nil] at this; omega)
  rw [msrows_len] at hrf hrj hrc
  rw [msrows_flat] at hrG
  rw [hrf]
  refine Sy.heap (H' := (b7, cel 180 [.slice (some ⟨br, 0, none⟩) ms.length cr]) :: (b3, cel 3 [.int .i64 days]) :: (b2, cel 123 [.pointer (some ⟨bd, 0, none⟩)]) :: (br, cel 179 (mcells ms ++ jr)) :: (mkh mk ++ H)) (fun w h => by rw [hrG] at h; exact h) ?_
  obtain ⟨mj, hmj⟩ := hmg d (by omega)
  have hmok := mday_ok hdk hs0 d
  refine sy_seq ?_
  refine sy_tx' [0] rfl ?_
  refine sp rfl (PE.lss rfl rfl) rfl ?_
  refine sy_seq ?_
  refine sy_cond rfl (fun hc0 => ?_) (fun hc0 => ?_)
  ·
   try simp only [decide_eq_true_eq, decide_eq_false_iff_not, Bool.and_eq_true, Bool.or_eq_true, Bool.not_eq_true', Int.not_le, Int.not_lt] at hc0
   refine sy_skip ?_
   refine sy_seq ?_
   refine sy_block ?_
   refine sy_seq ?_
   refine sy_tx' [0, 1, 2] rfl ?_
   refine sp rfl (PE.move rfl) rfl ?_
   refine alc rfl zl3 rfl (fun b8 => ?_)
   refine sto rfl rfl rfl cn3 rfl rfl rfl rfl ?_
   refine sy_seq ?_
   refine sy_tx' [0, 1, 2] rfl ?_
   refine mkm rfl rfl true (fun m40 => ?_)
   refine alc rfl zl179 rfl (fun b9 => ?_)
   refine sto rfl rfl rfl cn179 rfl rfl rfl rfl ?_
   refine sy_seq ?_
   refine sy_seq ?_
   refine sy_tx' [0, 1] rfl ?_
   refine spL rfl rfl (lh sc123 rfl rfl) rfl ?_
   refine cl rfl cal122 rfl rfl (c_states bd _ _) ?_
   rintro _ _ _ ⟨xb, rfl, rfl, rfl⟩
   refine sy_block ?_
   refine sy_range rfl cal136 (fun c0 bl0 bd0 hcp0 hca0 hcb0 hck0 => ?_)
   refine ⟨fun st pend T R' => st = .ready ∧ pend = none ∧ T = (bd0, .deferred (some [])) :: (b9, cel 179 [.map (some m40)]) :: (m40, mapO true (kvw (nowM b.dsk (mday b.dsk b.state d) b.dsk.nst))) :: (b8, cel 3 [.int .i64 d]) :: (b7, cel 180 [.slice (some ⟨br, 0, none⟩) ms.length cr]) :: (b3, cel 3 [.int .i64 days]) :: (b2, cel 123 [.pointer (some ⟨bd, 0, none⟩)]) :: (br, cel 179 (mcells ms ++ jr)) :: (mkh mk ++ H) ∧ R' = RowsA (some ⟨xb, 0, none⟩) 1 [[.pointer (some ⟨bd, 0, none⟩)]] :: MapsF ms :: R,
     Fn.mono (c_states1 b hok ab cb bd m xb bl0 (fun k H' R' => H' = (bl0, lob c0 .ready none) :: (bd0, .deferred (some [])) :: (b9, cel 179 [.map (some m40)]) :: (m40, mapO true (kvw (nowM b.dsk (mday b.dsk b.state d) k))) :: (b8, cel 3 [.int .i64 d]) :: (b7, cel 180 [.slice (some ⟨br, 0, none⟩) ms.length cr]) :: (b3, cel 3 [.int .i64 days]) :: (b2, cel 123 [.pointer (some ⟨bd, 0, none⟩)]) :: (br, cel 179 (mcells ms ++ jr)) :: (mkh mk ++ H) ∧ R' = RowsA (some ⟨xb, 0, none⟩) 1 [[.pointer (some ⟨bd, 0, none⟩)]] :: MapsF ms :: R) (fun _ _ => False)
       (fun k H' R' h => by obtain ⟨_, rfl⟩ := h; exact ⟨by simp, List.mem_cons_of_mem _ (List.mem_cons_of_mem _ hD.mem)⟩) (fun k s q oo H' R' hk hI => ?_) _ _ ⟨rfl, rfl⟩) (fun v H' R' h => ?_), ?_⟩
   rotate_left
   · rcases h with ⟨rfl, rfl⟩ | h
     · exact ⟨.ready, none, _, by simp, .refl _, rfl, rfl, rfl, rfl⟩
     · exact h.elim
   rotate_left
   ·
    have hmem := List.mem_of_getElem? hk
    have hsi := (b.dsk.mem_sts hdk s).1 hmem
    obtain ⟨s0, s1, s2, s3, rfl⟩ := list4 hsi.len
    have hnk := nowM_succ (m := (mday b.dsk b.state d)) hk
    obtain ⟨hw6, hw4, hw5⟩ := wo_len hmok [s0, s1, s2, s3]
    obtain ⟨wo, hwo⟩ : ∃ wo, mget (mday b.dsk b.state d) [s0, s1, s2, s3] = wo := ⟨_, rfl⟩
    rw [hwo] at hw6 hw4 hw5
    obtain ⟨rfl, rfl⟩ := hI
    refine yd_of hcp0 hca0 hcb0 hck0 rfl ?_
    refine sy_tx' [0, 1] rfl ?_
    refine alc rfl zl127 rfl (fun b10 => ?_)
    refine sto rfl rfl rfl cn127 rfl rfl rfl rfl ?_
    refine sy_beginRound ?_
    refine sy_block ?_
    refine sy_seq ?_
    refine sy_draw [0, 0, 3, 7, 0, 31, 63, 127, 127, 0, 767, 2047] (.ld 0 (.ld 1 (.tk 2 (.ld 3 (.ld 4 (.ld 5 (.tk 6 (.tk 7 (.tk 8 (.big 9 (.big 10 (.tk 11 .done)))))))))))) mixed (by kernel_rfl) ?_
    refine ld rfl rfl (lh sc180 rfl rfl) rfl ?_
    refine ld rfl rfl (lh sc3 rfl rfl) rfl ?_
    refine tk rfl (PE.indexAddr el180 rfl rfl (by omega) (by omega)) rfl ?_
    refine ld rfl rfl (lh sc179 rfl (mc_get hmj (by show 0 + ((d : Nat) : Int).toNat * 1 = d; omega))) rfl ?_
    refine ld rfl rfl (lhA [_, _, _, _] ag127 rfl rfl rfl) rfl ?_
    refine ldK rfl rfl rfl (lk_wayE hmok (maps_now (List.mem_of_getElem? hmj)) [s0, s1, s2, s3] rfl hwo) rfl ?_
    refine tk rfl (PE.move rfl) rfl ?_
    refine tk rfl (PE.extract rfl rfl) rfl ?_
    refine tk rfl (PE.extract rfl rfl) rfl ?_
    refine alc rfl zl178 rfl (fun b11 => ?_)
    refine bg (fun w hs => ⟨(lk_wayE hmok (maps_now (List.mem_of_getElem? hmj)) [s0, s1, s2, s3] rfl hwo) w hs, (lhA [_, _, _, _] ag127 rfl rfl rfl) w hs, (lh sc179 rfl (mc_get hmj (by show 0 + ((d : Nat) : Int).toNat * 1 = d; omega))) w hs, (lh sc3 rfl rfl) w hs, (lh sc180 rfl rfl) w hs, trivial⟩) ?_
    refine stoA (vs := ints (wo.getD zw)) rfl rfl rfl cn178 rfl (by rw [ints_length]; exact hw6) rfl (ints_one _) ?_
    refine bg (fun w hs => ⟨trivial, trivial, trivial, trivial, trivial, trivial⟩) ?_
    refine tk rfl (PE.assign rfl) rfl ?_
    refine sy_seq ?_
    refine sy_seq ?_
    refine sy_tx' [0, 1] rfl ?_
    refine sp rfl (PE.move rfl) rfl ?_
    refine sp rfl (PE.not rfl) rfl ?_
    refine sy_cond rfl (fun hc1 => ?_) (fun hc1 => ?_)
    have hwn : wo = none := by cases wo with
      | none => rfl
      | some w => cases hc1
    have hev : evW b.dsk (mday b.dsk b.state d) [s0, s1, s2, s3] = [] := evsP_none (hwo.trans hwn) _
    refine sy_exit ?_
    refine sy_tx ?_
    refine sy_bx ?_
    exact sy_roundOn (.inl ⟨rfl, _, rfl, rfl, rfl⟩) (fun w h => by rw [hnk, hev]; exact (h.del b11).del b10)
    ·
     obtain ⟨w, rfl⟩ : ∃ w, wo = some w := by cases wo with
       | none => cases hc1
       | some w => exact ⟨w, rfl⟩
     obtain ⟨w0, w1, w2, w3, w4, w5, rfl⟩ := list6' (show w.length = 6 from hw6)
     have hwb : 0 ≤ w5 ∧ w5 ≤ 4 * (d : Int) := (mget_ok hmok hwo).2.2
     refine sy_skip ?_
     refine sy_seq ?_
     refine sy_tx' [0, 1] rfl ?_
     refine spL rfl rfl (lh sc123 rfl rfl) rfl ?_
     refine cl rfl cal115 rfl rfl (c_turnings bd false _ _) ?_
     rintro _ _ _ ⟨xt, xf, rfl, rfl, rfl⟩
     refine sy_block ?_
     refine sy_rangeN rfl cal133 (fun c1 bl1 hcp1 hca1 hcb1 hck1 => ?_)
     refine ⟨fun st pend T R' => st = .ready ∧ pend = none ∧ T = (b11, cel 178 [.int .i64 w0, .int .i64 w1, .int .i64 w2, .int .i64 w3, .int .i64 w4, .int .i64 w5]) :: (b10, cel 127 [.int .i64 s0, .int .i64 s1, .int .i64 s2, .int .i64 s3]) :: (q, oo) :: (bl0, lob c0 .busy none) :: (bd0, .deferred (some [])) :: (b9, cel 179 [.map (some m40)]) :: (m40, mapO true (kvw ((evsP b.dsk (mday b.dsk b.state d) [s0, s1, s2, s3] (b.dsk.trs false).length).foldl updW (nowM b.dsk (mday b.dsk b.state d) k)))) :: (b8, cel 3 [.int .i64 d]) :: (b7, cel 180 [.slice (some ⟨br, 0, none⟩) ms.length cr]) :: (b3, cel 3 [.int .i64 days]) :: (b2, cel 123 [.pointer (some ⟨bd, 0, none⟩)]) :: (br, cel 179 (mcells ms ++ jr)) :: (mkh mk ++ H) ∧ R' = RowsA (some ⟨xf, 0, none⟩) 1 [[.bool false]] :: RowsA (some ⟨xt, 0, none⟩) 1 [[.pointer (some ⟨bd, 0, none⟩)]] :: RowsA (some ⟨xb, 0, none⟩) 1 [[.pointer (some ⟨bd, 0, none⟩)]] :: MapsF ms :: R,
       Fn.mono (c_turnings1 b hok ab cb bd m false xt xf bl1 (fun j H' R' => H' = (bl1, lob c1 .ready none) :: (b11, cel 178 [.int .i64 w0, .int .i64 w1, .int .i64 w2, .int .i64 w3, .int .i64 w4, .int .i64 w5]) :: (b10, cel 127 [.int .i64 s0, .int .i64 s1, .int .i64 s2, .int .i64 s3]) :: (q, oo) :: (bl0, lob c0 .busy none) :: (bd0, .deferred (some [])) :: (b9, cel 179 [.map (some m40)]) :: (m40, mapO true (kvw ((evsP b.dsk (mday b.dsk b.state d) [s0, s1, s2, s3] j).foldl updW (nowM b.dsk (mday b.dsk b.state d) k)))) :: (b8, cel 3 [.int .i64 d]) :: (b7, cel 180 [.slice (some ⟨br, 0, none⟩) ms.length cr]) :: (b3, cel 3 [.int .i64 days]) :: (b2, cel 123 [.pointer (some ⟨bd, 0, none⟩)]) :: (br, cel 179 (mcells ms ++ jr)) :: (mkh mk ++ H) ∧ R' = RowsA (some ⟨xf, 0, none⟩) 1 [[.bool false]] :: RowsA (some ⟨xt, 0, none⟩) 1 [[.pointer (some ⟨bd, 0, none⟩)]] :: RowsA (some ⟨xb, 0, none⟩) 1 [[.pointer (some ⟨bd, 0, none⟩)]] :: MapsF ms :: R) (fun _ _ => False)
         (fun k H' R' h => by obtain ⟨_, rfl⟩ := h; exact ⟨by simp, by simp, List.mem_cons_of_mem _ (List.mem_cons_of_mem _ (List.mem_cons_of_mem _ (List.mem_cons_of_mem _ hD.mem)))⟩) (fun j l a c H' R' hj hI => ?_) _ _ ⟨by rw [evsP_zero]; rfl, rfl⟩) (fun v H' R' h => ?_), ?_⟩
     rotate_left
     · rcases h with ⟨rfl, rfl⟩ | h
       · exact ⟨.ready, none, _, by simp, .refl _, rfl, rfl, rfl, rfl⟩
       · exact h.elim
     rotate_left
     have hlm := List.mem_of_getElem? hj
     have hlt := b.dsk.trs_lt hlm
     have hl4' := trs_len4 hdk hlm
     have hll : l.length ≤ 1000000 := by omega
     have hcm : MwOk (4 * (d : Int) + 4) ((evsP b.dsk (mday b.dsk b.state d) [s0, s1, s2, s3] j).foldl updW (nowM b.dsk (mday b.dsk b.state d) k)) := fold_ok (nowM_ok hdk hmok k) (evsP_ok hdk hmok hmem j)
     have hes := evsP_succ hwo hj
     obtain ⟨cu, hcu⟩ : ∃ cu, ((evsP b.dsk (mday b.dsk b.state d) [s0, s1, s2, s3] j).foldl updW (nowM b.dsk (mday b.dsk b.state d) k)) = cu := ⟨_, rfl⟩
     have hcs : ((evsP b.dsk (mday b.dsk b.state d) [s0, s1, s2, s3] (j + 1)).foldl updW (nowM b.dsk (mday b.dsk b.state d) k)) = (match b.dsk.next [s0, s1, s2, s3] l with | none => cu | some t => updW cu (t, [s0, s1, s2, s3, (setN l : Int), w5 + (l.length : Int)])) := by
       rw [hes, List.foldl_append, hcu]; cases b.dsk.next [s0, s1, s2, s3] l <;> rfl
     obtain ⟨rfl, rfl⟩ := hI
     rw [hcu] at hcm ⊢
     refine yd_of hcp1 hca1 hcb1 hck1 rfl ?_
     refine sy_tx' [0] rfl ?_
     refine sp rfl (PE.assign rfl) rfl ?_
     refine sy_beginRound ?_
     refine sy_block ?_
     refine sy_seq ?_
     refine sy_tx' [0, 1, 2, 3, 4, 5, 6, 7, 8, 9] rfl ?_
     refine spL rfl rfl (lh sc123 rfl rfl) rfl ?_
     refine spL rfl rfl (lhA [_, _, _, _] ag127 rfl rfl rfl) rfl ?_
     refine sp rfl (PE.move rfl) rfl ?_
     refine cl rfl cal116 rfl rfl (c_next b hok ab cb bd m [s0, s1, s2, s3] (b.dsk.inS_sml hdk hsi) l hlt hll a c _ _) ?_
     rintro _ _ _ ⟨rfl, rfl, rfl⟩
     rcases hnx : b.dsk.next [s0, s1, s2, s3] l with _ | t
     have hcs2 : ((evsP b.dsk (mday b.dsk b.state d) [s0, s1, s2, s3] (j + 1)).foldl updW (nowM b.dsk (mday b.dsk b.state d) k)) = cu := by rw [hcs, hnx]
     refine sp rfl (PE.move rfl) rfl ?_
     refine sp rfl (PE.extract rfl rfl) rfl ?_
     refine sp rfl (PE.extract rfl rfl) rfl ?_
     refine alc rfl zl127 rfl (fun b14 => ?_)
     refine sto rfl rfl rfl cn127 rfl rfl rfl rfl ?_
     refine sp rfl (PE.assign rfl) rfl ?_
     refine sy_seq ?_
     refine sy_seq ?_
     refine sy_tx' [0, 1] rfl ?_
     refine sp rfl (PE.move rfl) rfl ?_
     refine sp rfl (PE.not rfl) rfl ?_
     refine sy_condT rfl ?_
     refine sy_exit ?_
     refine sy_tx ?_
     refine sy_bx ?_
     exact sy_roundOn (.inl ⟨rfl, rfl, rfl⟩) (fun w h => by rw [hcs2]; exact (h.del b14).ftail)
     have hts := b.dsk.next_inS hdk hsi hlt hnx
     obtain ⟨t0, t1, t2, t3, rfl⟩ := list4 hts.len
     have hcs2 : ((evsP b.dsk (mday b.dsk b.state d) [s0, s1, s2, s3] (j + 1)).foldl updW (nowM b.dsk (mday b.dsk b.state d) k)) = updW cu ([t0, t1, t2, t3], [s0, s1, s2, s3, (setN l : Int), w5 + (l.length : Int)]) := by rw [hcs, hnx]
     refine sp rfl (PE.move rfl) rfl ?_
     refine sp rfl (PE.extract rfl rfl) rfl ?_
     refine sp rfl (PE.extract rfl rfl) rfl ?_
     refine alc rfl zl127 rfl (fun b14 => ?_)
     refine sto rfl rfl rfl cn127 rfl rfl rfl rfl ?_
     refine sp rfl (PE.assign rfl) rfl ?_
     refine sy_seq ?_
     refine sy_seq ?_
     refine sy_tx' [0, 1] rfl ?_
     refine sp rfl (PE.move rfl) rfl ?_
     refine sp rfl (PE.not rfl) rfl ?_
     refine sy_condF rfl ?_
     refine sy_skip ?_
     refine sy_seq ?_
     refine sy_draw [0, 0, 2, 0, 8, 0, 32, 120, 255, 0, 1023] (.ld 0 (.tk 1 (.tk 3 (.ld 4 (.tk 5 (.tk 6 (.tk 7 (.any (.alt 2 (.tk 8 (.big 9 (.big 10 .done))) (.alt 9 (.big 2 (.tk 8 (.big 10 .done))) .stop)))))))))) mixed (by kernel_rfl) ?_
     refine ld rfl rfl (lhA [_, _, _, _] ag127 rfl rfl rfl) rfl ?_
     refine tk rfl (PE.move rfl) rfl ?_
     refine tk rfl (PE.fieldAddr fo178_2 rfl) rfl ?_
     refine ld rfl rfl (lh sc3 rfl rfl) rfl ?_
     refine tk rfl (PE.move rfl) rfl ?_
     refine tk rfl (PE.lenSl isl40 rfl) rfl ?_
     refine tk rfl (PE.add rfl rfl (by omega)) rfl ?_
     refine sy_alt ?_ ?_
     refine clV rfl cal137 rfl rfl (c_set l (fun k hk => by have h1 := hlt k hk; have h2 : b.dsk.n ≤ 4 := hdk.n.2; omega) hll a c _ _) ?_
     refine bg (fun w hs => ⟨(lh sc3 rfl rfl) w hs, (lhA [_, _, _, _] ag127 rfl rfl rfl) w hs, trivial⟩) ?_
     refine tk rfl (PE.build (out := [_, _, _, _, _, _]) pl178 zl178 rfl rfl) rfl ?_
     refine alc rfl zl178 rfl (fun b16 => ?_)
     refine bg (fun w hs => ⟨(lh sc3 rfl rfl) w hs, (lhA [_, _, _, _] ag127 rfl rfl rfl) w hs, trivial⟩) ?_
     refine sto rfl rfl rfl cn178 rfl rfl rfl rfl ?_
     refine bg (fun w hs => ⟨trivial, trivial, trivial⟩) ?_
     refine sy_seq ?_
     refine sy_tx' [0, 1, 2, 3, 4] rfl ?_
     refine spL rfl rfl (lh sc179 rfl rfl) rfl ?_
     refine spL rfl rfl (lhA [_, _, _, _] ag127 rfl rfl rfl) rfl ?_
     refine spK rfl rfl rfl (lk_way0 hcm (heldM (x := m40)) [t0, t1, t2, t3] rfl) rfl ?_
     have hl6 := (wo_len hcm [t0, t1, t2, t3]).1
     obtain ⟨ol, hol⟩ : ∃ ol, (mget cu [t0, t1, t2, t3]).getD zw = ol := ⟨_, rfl⟩
     rw [hol] at hl6 ⊢
     obtain ⟨o0, o1, o2, o3, o4, o5, rfl⟩ := list6' hl6
     refine alc rfl zl178 rfl (fun b17 => ?_)
     refine sto rfl rfl rfl cn178 rfl rfl rfl rfl ?_
     refine sy_seq ?_
     refine sy_tx' [0, 1, 2, 3, 4, 5, 6, 7, 8, 9] rfl ?_
     refine spL rfl rfl (lhA [_, _, _, _, _, _] ag178 rfl rfl rfl) rfl ?_
     refine sp rfl (PE.build (out := [_, _, _, _, _, _]) pl178 zl178 rfl rfl) rfl ?_
     refine sp rfl (PE.eqlAgg [o0, o1, o2, o3, o4, o5] [0, 0, 0, 0, 0, 0] (eqB_ok 10000 178 true 6 eqf178) eqg178 rfl rfl rfl rfl) rfl ?_
     refine sp rfl (PE.move rfl) rfl ?_
     refine sy_case (t := 82) rfl (fun g82 => ?_) (fun g82 => ?_)
     have hu : updW cu ([t0, t1, t2, t3], [s0, s1, s2, s3, (setN l : Int), w5 + (l.length : Int)]) = mput cu [t0, t1, t2, t3] [s0, s1, s2, s3, (setN l : Int), w5 + (l.length : Int)] := by unfold updW; dsimp only; rw [hol, show decide ([o0, o1, o2, o3, o4, o5] = zw) = true from g82]; rfl
     repeat refine spN rfl rfl rfl rfl rfl rfl rfl rfl ?_
     refine sp rfl (PE.pick rfl rfl rfl) rfl ?_
     refine sy_condT rfl ?_
     refine sy_tx' [0, 1, 2, 3] rfl ?_
     refine spL rfl rfl (lh sc179 rfl rfl) rfl ?_
     refine spL rfl rfl (lhA [_, _, _, _] ag127 rfl rfl rfl) rfl ?_
     refine spL rfl rfl (lhA [_, _, _, _, _, _] ag178 rfl rfl rfl) rfl ?_
     refine mpu (kvw cu) [t0, t1, t2, t3] (v := wvl [s0, s1, s2, s3, (setN l : Int), w5 + (l.length : Int)]) rfl mke179 (KeyT.of eqf127 noa127) rfl rfl rfl rfl (kvw_len hcm) ?_
     rw [kvw_put]
     exact sy_roundOn (.inl ⟨rfl, rfl, rfl⟩) (fun w h => by rw [hcs2, hu]; exact (((h.del b17).del b16).del b14).ftail)
     refine spG rfl rfl rfl rfl (PE.fieldAddr fo178_2 rfl) rfl ?_
     refine spLG rfl rfl rfl rfl rfl (lh sc3 rfl rfl) rfl ?_
     refine spG rfl rfl rfl rfl (PE.fieldAddr fo178_2 rfl) rfl ?_
     refine spLG rfl rfl rfl rfl rfl (lh sc3 rfl rfl) rfl ?_
     refine spG rfl rfl rfl rfl (PE.lss rfl rfl) rfl ?_
     refine sp rfl (PE.pick rfl rfl rfl) rfl ?_
     refine sy_cond rfl (fun hc3 => ?_) (fun hc3 => ?_)
     have hu : updW cu ([t0, t1, t2, t3], [s0, s1, s2, s3, (setN l : Int), w5 + (l.length : Int)]) = mput cu [t0, t1, t2, t3] [s0, s1, s2, s3, (setN l : Int), w5 + (l.length : Int)] := by unfold updW; dsimp only; rw [hol, show decide ([o0, o1, o2, o3, o4, o5] = zw) = false from g82, show decide (na [s0, s1, s2, s3, (setN l : Int), w5 + (l.length : Int)] 5 < na [o0, o1, o2, o3, o4, o5] 5) = true from hc3]; rfl
     refine sy_tx' [0, 1, 2, 3] rfl ?_
     refine spL rfl rfl (lh sc179 rfl rfl) rfl ?_
     refine spL rfl rfl (lhA [_, _, _, _] ag127 rfl rfl rfl) rfl ?_
     refine spL rfl rfl (lhA [_, _, _, _, _, _] ag178 rfl rfl rfl) rfl ?_
     refine mpu (kvw cu) [t0, t1, t2, t3] (v := wvl [s0, s1, s2, s3, (setN l : Int), w5 + (l.length : Int)]) rfl mke179 (KeyT.of eqf127 noa127) rfl rfl rfl rfl (kvw_len hcm) ?_
     rw [kvw_put]
     exact sy_roundOn (.inl ⟨rfl, rfl, rfl⟩) (fun w h => by rw [hcs2, hu]; exact (((h.del b17).del b16).del b14).ftail)
     have hu : updW cu ([t0, t1, t2, t3], [s0, s1, s2, s3, (setN l : Int), w5 + (l.length : Int)]) = cu := by unfold updW; dsimp only; rw [hol, show decide ([o0, o1, o2, o3, o4, o5] = zw) = false from g82, show decide (na [s0, s1, s2, s3, (setN l : Int), w5 + (l.length : Int)] 5 < na [o0, o1, o2, o3, o4, o5] 5) = false from hc3]; rfl
     refine sy_skip ?_
     exact sy_roundOn (.inl ⟨rfl, rfl, rfl⟩) (fun w h => by rw [hcs2, hu]; exact (((h.del b17).del b16).del b14).ftail)
     refine sy_alt ?_ ?_
     refine alc rfl zl178 rfl (fun b16 => ?_)
     refine bg (fun w hs => ⟨(lh sc3 rfl rfl) w hs, (lhA [_, _, _, _] ag127 rfl rfl rfl) w hs, trivial⟩) ?_
     refine clV rfl cal137 rfl rfl (c_set l (fun k hk => by have h1 := hlt k hk; have h2 : b.dsk.n ≤ 4 := hdk.n.2; omega) hll a c _ _) ?_
     refine bg (fun w hs => ⟨(lh sc3 rfl rfl) w hs, (lhA [_, _, _, _] ag127 rfl rfl rfl) w hs, trivial⟩) ?_
     refine tk rfl (PE.build (out := [_, _, _, _, _, _]) pl178 zl178 rfl rfl) rfl ?_
     refine sto rfl rfl rfl cn178 rfl rfl rfl rfl ?_
     refine bg (fun w hs => ⟨trivial, trivial, trivial⟩) ?_
     refine sy_seq ?_
     refine sy_tx' [0, 1, 2, 3, 4] rfl ?_
     refine spL rfl rfl (lh sc179 rfl rfl) rfl ?_
     refine spL rfl rfl (lhA [_, _, _, _] ag127 rfl rfl rfl) rfl ?_
     refine spK rfl rfl rfl (lk_way0 hcm (heldM (x := m40)) [t0, t1, t2, t3] rfl) rfl ?_
     have hl6 := (wo_len hcm [t0, t1, t2, t3]).1
     obtain ⟨ol, hol⟩ : ∃ ol, (mget cu [t0, t1, t2, t3]).getD zw = ol := ⟨_, rfl⟩
     rw [hol] at hl6 ⊢
     obtain ⟨o0, o1, o2, o3, o4, o5, rfl⟩ := list6' hl6
     refine alc rfl zl178 rfl (fun b17 => ?_)
     refine sto rfl rfl rfl cn178 rfl rfl rfl rfl ?_
     refine sy_seq ?_
     refine sy_tx' [0, 1, 2, 3, 4, 5, 6, 7, 8, 9] rfl ?_
     refine spL rfl rfl (lhA [_, _, _, _, _, _] ag178 rfl rfl rfl) rfl ?_
     refine sp rfl (PE.build (out := [_, _, _, _, _, _]) pl178 zl178 rfl rfl) rfl ?_
     refine sp rfl (PE.eqlAgg [o0, o1, o2, o3, o4, o5] [0, 0, 0, 0, 0, 0] (eqB_ok 10000 178 true 6 eqf178) eqg178 rfl rfl rfl rfl) rfl ?_
     refine sp rfl (PE.move rfl) rfl ?_
     refine sy_case (t := 82) rfl (fun g82 => ?_) (fun g82 => ?_)
     have hu : updW cu ([t0, t1, t2, t3], [s0, s1, s2, s3, (setN l : Int), w5 + (l.length : Int)]) = mput cu [t0, t1, t2, t3] [s0, s1, s2, s3, (setN l : Int), w5 + (l.length : Int)] := by unfold updW; dsimp only; rw [hol, show decide ([o0, o1, o2, o3, o4, o5] = zw) = true from g82]; rfl
     repeat refine spN rfl rfl rfl rfl rfl rfl rfl rfl ?_
     refine sp rfl (PE.pick rfl rfl rfl) rfl ?_
     refine sy_condT rfl ?_
     refine sy_tx' [0, 1, 2, 3] rfl ?_
     refine spL rfl rfl (lh sc179 rfl rfl) rfl ?_
     refine spL rfl rfl (lhA [_, _, _, _] ag127 rfl rfl rfl) rfl ?_
     refine spL rfl rfl (lhA [_, _, _, _, _, _] ag178 rfl rfl rfl) rfl ?_
     refine mpu (kvw cu) [t0, t1, t2, t3] (v := wvl [s0, s1, s2, s3, (setN l : Int), w5 + (l.length : Int)]) rfl mke179 (KeyT.of eqf127 noa127) rfl rfl rfl rfl (kvw_len hcm) ?_
     rw [kvw_put]
     exact sy_roundOn (.inl ⟨rfl, rfl, rfl⟩) (fun w h => by rw [hcs2, hu]; exact (((h.del b17).del b16).del b14).ftail)
     refine spG rfl rfl rfl rfl (PE.fieldAddr fo178_2 rfl) rfl ?_
     refine spLG rfl rfl rfl rfl rfl (lh sc3 rfl rfl) rfl ?_
     refine spG rfl rfl rfl rfl (PE.fieldAddr fo178_2 rfl) rfl ?_
     refine spLG rfl rfl rfl rfl rfl (lh sc3 rfl rfl) rfl ?_
     refine spG rfl rfl rfl rfl (PE.lss rfl rfl) rfl ?_
     refine sp rfl (PE.pick rfl rfl rfl) rfl ?_
     refine sy_cond rfl (fun hc3 => ?_) (fun hc3 => ?_)
     have hu : updW cu ([t0, t1, t2, t3], [s0, s1, s2, s3, (setN l : Int), w5 + (l.length : Int)]) = mput cu [t0, t1, t2, t3] [s0, s1, s2, s3, (setN l : Int), w5 + (l.length : Int)] := by unfold updW; dsimp only; rw [hol, show decide ([o0, o1, o2, o3, o4, o5] = zw) = false from g82, show decide (na [s0, s1, s2, s3, (setN l : Int), w5 + (l.length : Int)] 5 < na [o0, o1, o2, o3, o4, o5] 5) = true from hc3]; rfl
     refine sy_tx' [0, 1, 2, 3] rfl ?_
     refine spL rfl rfl (lh sc179 rfl rfl) rfl ?_
     refine spL rfl rfl (lhA [_, _, _, _] ag127 rfl rfl rfl) rfl ?_
     refine spL rfl rfl (lhA [_, _, _, _, _, _] ag178 rfl rfl rfl) rfl ?_
     refine mpu (kvw cu) [t0, t1, t2, t3] (v := wvl [s0, s1, s2, s3, (setN l : Int), w5 + (l.length : Int)]) rfl mke179 (KeyT.of eqf127 noa127) rfl rfl rfl rfl (kvw_len hcm) ?_
     rw [kvw_put]
     exact sy_roundOn (.inl ⟨rfl, rfl, rfl⟩) (fun w h => by rw [hcs2, hu]; exact (((h.del b17).del b16).del b14).ftail)
     have hu : updW cu ([t0, t1, t2, t3], [s0, s1, s2, s3, (setN l : Int), w5 + (l.length : Int)]) = cu := by unfold updW; dsimp only; rw [hol, show decide ([o0, o1, o2, o3, o4, o5] = zw) = false from g82, show decide (na [s0, s1, s2, s3, (setN l : Int), w5 + (l.length : Int)] 5 < na [o0, o1, o2, o3, o4, o5] 5) = false from hc3]; rfl
     refine sy_skip ?_
     exact sy_roundOn (.inl ⟨rfl, rfl, rfl⟩) (fun w h => by rw [hcs2, hu]; exact (((h.del b17).del b16).del b14).ftail)
     exact sy_stop
     rintro _ _ _ _ ⟨rfl, rfl, rfl, rfl⟩
     refine sy_jn ?_
     exact sy_roundOn (.inl ⟨rfl, _, rfl, rfl, rfl⟩) (fun w h => by rw [hnk]; exact ((h.del b11).del b10).ftail.ftail)
   rintro _ _ _ _ ⟨rfl, rfl, rfl, rfl⟩
   refine sy_jn ?_
   refine sy_tx' [0, 1, 2, 3, 4] rfl ?_
   refine spL rfl rfl (lh sc180 rfl rfl) rfl ?_
   refine spL rfl rfl (lh sc179 rfl rfl) rfl ?_
   refine bsl (out := [_]) rfl sl180 zl179 rfl rfl rfl rfl rfl rfl (fun b94 => ?_)
   rw [← hrf]
   refine Sy.heap (H' := (b94, cel 179 [.map (some m40)]) :: (bd0, .deferred (some [])) :: (b9, cel 179 [.map (some m40)]) :: (m40, mapO true (kvw (nowM b.dsk (mday b.dsk b.state d) b.dsk.nst))) :: (b8, cel 3 [.int .i64 d]) :: (b7, cel 180 [o.fs]) :: (b3, cel 3 [.int .i64 days]) :: (b2, cel 123 [.pointer (some ⟨bd, 0, none⟩)]) :: (o.G ++ (mkh mk ++ H))) (fun w h => by rw [hrG]; exact h) ?_
   refine apO (o) rfl ap180 rfl rfl (rowsH (row := [.map (some m40)]) rfl) rfl rfl ((by rw [msrows_len]; simp only [List.length_singleton]; omega)) rfl (fun o95 => ?_)
   refine stoE (l' := [o95.fs]) rfl rfl rfl cn180 rfl (by rw [o95.cells.1]; first | done | rfl) (by rw [o95.cells.1]; simp [o95.cells.2]) (by rw [o95.cells.1]; first | done | rfl) (by rw [o95.cells.1]; first | done | exact Nat.le_refl _) ?_
   refine sy_tx' [0, 1] rfl ?_
   refine sp rfl (PE.add rfl rfl (by omega)) rfl ?_
   refine sp rfl (PE.move rfl) rfl ?_
   exact sy_nextD ⟨⟨(d + 1, ms ++ [(m40, (nowM b.dsk (mday b.dsk b.state d) b.dsk.nst))], bd0 :: mk), by dsimp only; omega, MsOk.snoc ⟨hml, hmg⟩ m40⟩, o95.cast (msrows_snoc ms m40 _).symm⟩ (by dsimp only; omega) (by repeat' first | exact Sub.nil | apply Sub.cons | rfl | (simp [lk]; omega)) rfl (fun w h => St.sub ((St.maps (ms := ms) ((((h.del b94).del b9).del b8).pull m40)).perm (perm_swap3 [_] ([_, _, _] ++ o95.G) _)))
  ·
   try simp only [decide_eq_true_eq, decide_eq_false_iff_not, Bool.and_eq_true, Bool.or_eq_true, Bool.not_eq_true', Int.not_le, Int.not_lt] at hc0
   obtain rfl : days = d := by omega
   refine sy_exit ?_
   repeat refine sy_tx ?_
   refine sy_bx ?_
   refine sy_seq ?_
   refine sy_tx' [0] rfl ?_
   refine alc rfl zl127 rfl (fun b18 => ?_)
   refine sy_seq ?_
   refine sy_tx' [0, 1, 2, 3] rfl ?_
   refine alc rfl zl3 rfl (fun b19 => ?_)
   refine alc rfl zl4 rfl (fun b20 => ?_)
   refine sto rfl rfl rfl cn3 rfl rfl rfl rfl ?_
   refine sto rfl rfl rfl cn4 rfl rfl rfl rfl ?_
   refine sy_seq ?_
   refine sy_seq ?_
   refine sy_tx' [0, 1] rfl ?_
   refine spL rfl rfl (lh sc123 rfl rfl) rfl ?_
   refine cl rfl cal122 rfl rfl (c_states bd _ _) ?_
   rintro _ _ _ ⟨xb, rfl, rfl, rfl⟩
   refine sy_block ?_
   refine sy_range rfl cal136 (fun c2 bl2 bd2 hcp2 hca2 hcb2 hck2 => ?_)
   refine ⟨fun st pend T R' => st = .ready ∧ pend = none ∧ T = (bd2, .deferred (some [])) :: (b20, cel 4 [.bool (bestT b.dsk (mday b.dsk b.state days) b.dsk.nst).isSome]) :: (b19, cel 3 [.int .i64 (bN (bestT b.dsk (mday b.dsk b.state days) b.dsk.nst))]) :: (b18, cel 127 (ints (bS (bestT b.dsk (mday b.dsk b.state days) b.dsk.nst)))) :: (b7, cel 180 [.slice (some ⟨br, 0, none⟩) ms.length cr]) :: (b3, cel 3 [.int .i64 days]) :: (b2, cel 123 [.pointer (some ⟨bd, 0, none⟩)]) :: (br, cel 179 (mcells ms ++ jr)) :: (mkh mk ++ H) ∧ R' = RowsA (some ⟨xb, 0, none⟩) 1 [[.pointer (some ⟨bd, 0, none⟩)]] :: MapsF ms :: R,
     Fn.mono (c_states1 b hok ab cb bd m xb bl2 (fun k H' R' => H' = (bl2, lob c2 .ready none) :: (bd2, .deferred (some [])) :: (b20, cel 4 [.bool (bestT b.dsk (mday b.dsk b.state days) k).isSome]) :: (b19, cel 3 [.int .i64 (bN (bestT b.dsk (mday b.dsk b.state days) k))]) :: (b18, cel 127 (ints (bS (bestT b.dsk (mday b.dsk b.state days) k)))) :: (b7, cel 180 [.slice (some ⟨br, 0, none⟩) ms.length cr]) :: (b3, cel 3 [.int .i64 days]) :: (b2, cel 123 [.pointer (some ⟨bd, 0, none⟩)]) :: (br, cel 179 (mcells ms ++ jr)) :: (mkh mk ++ H) ∧ R' = RowsA (some ⟨xb, 0, none⟩) 1 [[.pointer (some ⟨bd, 0, none⟩)]] :: MapsF ms :: R) (fun _ _ => False)
       (fun k H' R' h => by obtain ⟨_, rfl⟩ := h; exact ⟨by simp, List.mem_cons_of_mem _ (List.mem_cons_of_mem _ hD.mem)⟩) (fun k s q oo H' R' hk hI => ?_) _ _ ⟨rfl, rfl⟩) (fun v H' R' h => ?_), ?_⟩
   rotate_left
   · rcases h with ⟨rfl, rfl⟩ | h
     · exact ⟨.ready, none, _, by simp, .refl _, rfl, rfl, rfl, rfl⟩
     · exact h.elim
   rotate_left
   have hmem := List.mem_of_getElem? hk
   have hsi := (b.dsk.mem_sts hdk s).1 hmem
   obtain ⟨s0, s1, s2, s3, rfl⟩ := list4 hsi.len
   have hbs := bestT_succ (m := (mday b.dsk b.state days)) hk
   have hbl := bestT_len hdk (mday b.dsk b.state days) k
   obtain ⟨hw6, hw4, hw5⟩ := wo_len hmok [s0, s1, s2, s3]
   obtain ⟨wo, hwo⟩ : ∃ wo, mget (mday b.dsk b.state days) [s0, s1, s2, s3] = wo := ⟨_, rfl⟩
   rw [hwo] at hw6 hw4 hw5
   obtain ⟨rfl, rfl⟩ := hI
   obtain ⟨acc, hacc⟩ : ∃ acc, (bestT b.dsk (mday b.dsk b.state days) k) = acc := ⟨_, rfl⟩
   rw [hacc] at hbs hbl ⊢
   refine yd_of hcp2 hca2 hcb2 hck2 rfl ?_
   refine sy_tx' [0, 1] rfl ?_
   refine alc rfl zl127 rfl (fun b21 => ?_)
   refine sto rfl rfl rfl cn127 rfl rfl rfl rfl ?_
   refine sy_beginRound ?_
   refine sy_block ?_
   refine sy_seq ?_
   refine sy_draw [0, 0, 3, 7, 0, 31, 63, 127, 127, 0, 767, 2047] (.ld 0 (.ld 1 (.tk 2 (.ld 3 (.ld 4 (.ld 5 (.tk 6 (.tk 7 (.tk 8 (.big 9 (.big 10 (.tk 11 .done)))))))))))) mixed (by kernel_rfl) ?_
   refine ld rfl rfl (lh sc180 rfl rfl) rfl ?_
   refine ld rfl rfl (lh sc3 rfl rfl) rfl ?_
   refine tk rfl (PE.indexAddr el180 rfl rfl (by omega) (by omega)) rfl ?_
   refine ld rfl rfl (lh sc179 rfl (mc_get hmj (by show 0 + ((days : Nat) : Int).toNat * 1 = days; omega))) rfl ?_
   refine ld rfl rfl (lhA [_, _, _, _] ag127 rfl rfl rfl) rfl ?_
   refine ldK rfl rfl rfl (lk_wayE hmok (maps_now (List.mem_of_getElem? hmj)) [s0, s1, s2, s3] rfl hwo) rfl ?_
   refine tk rfl (PE.move rfl) rfl ?_
   refine tk rfl (PE.extract rfl rfl) rfl ?_
   refine tk rfl (PE.extract rfl rfl) rfl ?_
   refine alc rfl zl178 rfl (fun b22 => ?_)
   refine bg (fun w hs => ⟨(lk_wayE hmok (maps_now (List.mem_of_getElem? hmj)) [s0, s1, s2, s3] rfl hwo) w hs, (lhA [_, _, _, _] ag127 rfl rfl rfl) w hs, (lh sc179 rfl (mc_get hmj (by show 0 + ((days : Nat) : Int).toNat * 1 = days; omega))) w hs, (lh sc3 rfl rfl) w hs, (lh sc180 rfl rfl) w hs, trivial⟩) ?_
   refine stoA (vs := ints (wo.getD zw)) rfl rfl rfl cn178 rfl (by rw [ints_length]; exact hw6) rfl (ints_one _) ?_
   refine bg (fun w hs => ⟨trivial, trivial, trivial, trivial, trivial, trivial⟩) ?_
   refine tk rfl (PE.assign rfl) rfl ?_
   refine sy_seq ?_
   refine sy_tx' [0, 1, 2, 3, 4, 5, 6, 7, 8, 9, 10] rfl ?_
   refine sp rfl (PE.move rfl) rfl ?_
   refine sp rfl (PE.move rfl) rfl ?_
   refine sy_case (t := 110) rfl (fun g110 => ?_) (fun g110 => ?_)
   obtain ⟨w, rfl⟩ : ∃ w, wo = some w := Option.isSome_iff_exists.1 g110
   obtain ⟨w0, w1, w2, w3, w4, w5, rfl⟩ := list6' (show w.length = 6 from hw6)
   refine spLG rfl rfl rfl rfl rfl (lh sc4 rfl rfl) rfl ?_
   refine spG rfl rfl rfl rfl (PE.not rfl) rfl ?_
   refine spG rfl rfl rfl rfl (PE.move rfl) rfl ?_
   refine sy_case (t := 113) rfl (fun g113 => ?_) (fun g113 => ?_)
   have han : acc = none := by cases acc with
     | none => rfl
     | some w => cases g113
   subst han
   have hb2 : (bestT b.dsk (mday b.dsk b.state days) (k + 1)) = some ([s0, s1, s2, s3], w5) := by rw [hbs]; unfold bestS; rw [hwo]; rfl
   repeat refine spN rfl rfl rfl rfl rfl rfl rfl rfl ?_
   refine spG rfl rfl rfl rfl (PE.pick rfl rfl rfl) rfl ?_
   refine sp rfl (PE.pick rfl rfl rfl) rfl ?_
   refine sy_condT rfl ?_
   refine sy_draw [0, 0, 2, 1, 15, 31] (.ld 0 (.tk 1 (.ld 2 (.big 3 (.big 4 (.big 5 .done)))))) mixed (by kernel_rfl) ?_
   refine ld rfl rfl (lhA [_, _, _, _] ag127 rfl rfl rfl) rfl ?_
   refine tk rfl (PE.fieldAddr fo178_2 rfl) rfl ?_
   refine ld rfl rfl (lh sc3 rfl rfl) rfl ?_
   refine sto rfl rfl rfl cn127 rfl rfl rfl rfl ?_
   refine bg (fun w hs => ⟨(lh sc3 rfl rfl) w hs, trivial, trivial⟩) ?_
   refine sto rfl rfl rfl cn3 rfl rfl rfl rfl ?_
   refine bg (fun w hs => ⟨trivial, trivial⟩) ?_
   refine sto rfl rfl rfl cn4 rfl rfl rfl rfl ?_
   refine bg (fun w hs => trivial) ?_
   exact sy_roundOn (.inl ⟨rfl, _, rfl, rfl, rfl⟩) (fun w h => by rw [hb2]; exact (h.del b22).del b21)
   obtain ⟨⟨ta, nn⟩, rfl⟩ : ∃ p, acc = some p := by cases acc with
     | none => cases g113
     | some p => exact ⟨p, rfl⟩
   obtain ⟨a0, a1, a2, a3, rfl⟩ := list4 (show ta.length = 4 from hbl)
   refine spG rfl rfl rfl rfl (PE.fieldAddr fo178_2 rfl) rfl ?_
   refine spLG rfl rfl rfl rfl rfl (lh sc3 rfl rfl) rfl ?_
   refine spLG rfl rfl rfl rfl rfl (lh sc3 rfl rfl) rfl ?_
   refine spG rfl rfl rfl rfl (PE.lss rfl rfl) rfl ?_
   refine spG rfl rfl rfl rfl (PE.pick rfl rfl rfl) rfl ?_
   refine sp rfl (PE.pick rfl rfl rfl) rfl ?_
   refine sy_cond rfl (fun hc4 => ?_) (fun hc4 => ?_)
   have hb2 : (bestT b.dsk (mday b.dsk b.state days) (k + 1)) = some ([s0, s1, s2, s3], w5) := by rw [hbs]; unfold bestS; rw [hwo]; dsimp only; rw [show decide (na [w0, w1, w2, w3, w4, w5] 5 < nn) = true from hc4]; rfl
   refine sy_draw [0, 0, 2, 1, 15, 31] (.ld 0 (.tk 1 (.ld 2 (.big 3 (.big 4 (.big 5 .done)))))) mixed (by kernel_rfl) ?_
   refine ld rfl rfl (lhA [_, _, _, _] ag127 rfl rfl rfl) rfl ?_
   refine tk rfl (PE.fieldAddr fo178_2 rfl) rfl ?_
   refine ld rfl rfl (lh sc3 rfl rfl) rfl ?_
   refine sto rfl rfl rfl cn127 rfl rfl rfl rfl ?_
   refine bg (fun w hs => ⟨(lh sc3 rfl rfl) w hs, trivial, trivial⟩) ?_
   refine sto rfl rfl rfl cn3 rfl rfl rfl rfl ?_
   refine bg (fun w hs => ⟨trivial, trivial⟩) ?_
   refine sto rfl rfl rfl cn4 rfl rfl rfl rfl ?_
   refine bg (fun w hs => trivial) ?_
   exact sy_roundOn (.inl ⟨rfl, _, rfl, rfl, rfl⟩) (fun w h => by rw [hb2]; exact (h.del b22).del b21)
   have hb2 : (bestT b.dsk (mday b.dsk b.state days) (k + 1)) = some ([a0, a1, a2, a3], nn) := by rw [hbs]; unfold bestS; rw [hwo]; dsimp only; rw [show decide (na [w0, w1, w2, w3, w4, w5] 5 < nn) = false from hc4]; rfl
   refine sy_skip ?_
   exact sy_roundOn (.inl ⟨rfl, _, rfl, rfl, rfl⟩) (fun w h => by rw [hb2]; exact (h.del b22).del b21)
   have hwn : wo = none := by cases wo with
     | none => rfl
     | some w => cases g110
   have hb2 : (bestT b.dsk (mday b.dsk b.state days) (k + 1)) = acc := by rw [hbs]; unfold bestS; rw [hwo.trans hwn]
   repeat refine spN rfl rfl rfl rfl rfl rfl rfl rfl ?_
   repeat refine spU rfl rfl rfl rfl rfl rfl rfl ?_
   refine spN rfl rfl rfl rfl rfl rfl rfl rfl ?_
   refine sp rfl (PE.pick rfl rfl rfl) rfl ?_
   refine sy_condF rfl ?_
   refine sy_skip ?_
   exact sy_roundOn (.inl ⟨rfl, _, rfl, rfl, rfl⟩) (fun w h => by rw [hb2]; exact (h.del b22).del b21)
   rintro _ _ _ _ ⟨rfl, rfl, rfl, rfl⟩
   have hbl := bestT_len hdk (mday b.dsk b.state days) b.dsk.nst
   obtain ⟨acc, hacc⟩ : ∃ acc, (bestT b.dsk (mday b.dsk b.state days) b.dsk.nst) = acc := ⟨_, rfl⟩
   rw [hacc] at hbl ⊢
   refine sy_jn ?_
   refine sy_seq ?_
   refine sy_seq ?_
   refine sy_tx' [0, 1] rfl ?_
   refine spL rfl rfl (lh sc4 rfl rfl) rfl ?_
   refine sp rfl (PE.not rfl) rfl ?_
   refine sy_cond rfl (fun hc5 => ?_) (fun hc5 => ?_)
   have han : acc = none := by cases acc with
     | none => rfl
     | some w => cases hc5
   subst han
   refine sy_seq ?_
   refine sy_tx' [0, 1, 2] rfl ?_
   refine sp rfl (PE.assign rfl) rfl ?_
   refine sp rfl (PE.assign rfl) rfl ?_
   refine sp rfl (PE.assign rfl) rfl ?_
   refine sy_ret ?_
   refine Sy.heap (H' := mkh (bd2 :: mk) ++ H) (R' := R) (fun w h => St.sub (((((((h.del b20).del b19).del b18).del b7).del b3).del b2).del br)) ?_
   exact sy_returnM (bd2 :: mk) (fun _ h => h) rfl (.cons (RV.tmp rfl) (.cons (RV.tmp rfl) (.cons (RV.tmp rfl) .nil))) rfl ⟨rfl, .inl ⟨hacc, rfl, rfl⟩⟩ (fun _ h => h)
   obtain ⟨⟨sb, nb⟩, rfl⟩ : ∃ p, acc = some p := by cases acc with
     | none => cases hc5
     | some p => exact ⟨p, rfl⟩
   have hsb : sb.length = 4 := hbl
   refine sy_skip ?_
   refine sy_seq ?_
   refine sy_tx' [0, 1, 2] rfl ?_
   refine spL rfl rfl (lh sc3 rfl rfl) rfl ?_
   refine mkS rfl ap26 zl40 rfl rfl (Nat.le_refl _) ⟨by omega, by omega⟩ rfl (fun b126 => ?_)
   rw [repl1]
   refine sp rfl (PE.assign rfl) rfl ?_
   refine sy_seq ?_
   refine sy_seq ?_
   refine sy_tx' [0, 1] rfl ?_
   refine spL rfl rfl (lh sc3 rfl rfl) rfl ?_
   refine sp rfl (PE.assign rfl) rfl ?_
   refine sy_block ?_
   refine sy_loop (ι := {x : Nat × HSt × List PL // x.1 ≤ days ∧ x.2.1.length = 4 ∧ x.2.2.length + x.1 = days ∧ (backP b.dsk b.state days sb).map il = (backP b.dsk b.state x.1 x.2.1).map il ++ lls x.2.2}) (fun x => ⟨[(7, .pointer (some ⟨b7, 0, none⟩)), (18, .pointer (some ⟨b18, 0, none⟩)), (19, .pointer (some ⟨b19, 0, none⟩)), (24, .slice (some ⟨b126, 0, none⟩) days days), (25, .int .i64 x.1.1)], (b126, cel 40 (List.replicate x.1.1 (.slice none 0 0) ++ (plrows x.1.2.2).flatten)) :: (bd2, .deferred (some [])) :: (b20, cel 4 [.bool true]) :: (b19, cel 3 [.int .i64 nb]) :: (b18, cel 127 (ints x.1.2.1)) :: (b7, cel 180 [.slice (some ⟨br, 0, none⟩) ms.length cr]) :: (b3, cel 3 [.int .i64 days]) :: (b2, cel 123 [.pointer (some ⟨bd, 0, none⟩)]) :: (br, cel 179 (mcells ms ++ jr)) :: (mkh mk ++ H), Inn x.1.2.2 :: RowsA (some ⟨xb, 0, none⟩) 1 [[.pointer (some ⟨bd, 0, none⟩)]] :: MapsF ms :: R⟩) (fun x => x.1.1) ⟨(days, sb, []), Nat.le_refl _, hsb, by simp, by simp [lls]⟩ ?_ (fun x => ?_)
   exact sy_at (by repeat' first | exact Sub.nil | apply Sub.cons | rfl | (simp [lk]; omega)) (fun w h => by dsimp only; rw [show (plrows []).flatten = [] from rfl, List.append_nil]; exact h.also fun _ _ y hy => by cases hy)
   obtain ⟨⟨j, sj, pl⟩, hj, hjs, hjl, hjb⟩ := x
   dsimp only at hj hjs hjl hjb ⊢
   refine sy_seq ?_
   refine sy_seq ?_
   refine sy_tx' [0, 1] rfl ?_
   refine sp rfl (PE.move rfl) rfl ?_
   refine sp rfl (PE.gtr rfl rfl) rfl ?_
   refine sy_cond rfl (fun hc6 => ?_) (fun hc6 => ?_)
   try simp only [decide_eq_true_eq, decide_eq_false_iff_not, Bool.and_eq_true, Bool.or_eq_true, Bool.not_eq_true', Int.not_le, Int.not_lt] at hc6
   obtain ⟨i, rfl⟩ : ∃ i, j = i + 1 := ⟨j - 1, by omega⟩
   obtain ⟨s0, s1, s2, s3, rfl⟩ := list4 hjs
   obtain ⟨mi, hmi⟩ := hmg (i + 1) (by omega)
   have hmo := mday_ok hdk hs0 (i + 1)
   obtain ⟨hw6, hw4, _⟩ := wo_len hmo [s0, s1, s2, s3]
   obtain ⟨wo, hwo⟩ : ∃ wo, (mget (mday b.dsk b.state (i + 1)) [s0, s1, s2, s3]).getD zw = wo := ⟨_, rfl⟩
   rw [hwo] at hw6 hw4
   obtain ⟨w0, w1, w2, w3, w4, w5, rfl⟩ := list6' hw6
   have hw4' : 0 ≤ w4 ∧ w4 < 16 := hw4
   obtain ⟨n4, rfl⟩ : ∃ n : Nat, w4 = n := ⟨w4.toNat, by omega⟩
   have hback : backP b.dsk b.state (i + 1) [s0, s1, s2, s3] = backP b.dsk b.state i [w0, w1, w2, w3] ++ [bitl 4 n4] := by
     show backP b.dsk b.state i (((mget (mday b.dsk b.state (i + 1)) [s0, s1, s2, s3]).getD zw).take 4) ++ [bitl 4 (na ((mget (mday b.dsk b.state (i + 1)) [s0, s1, s2, s3]).getD zw) 4).toNat] = _
     rw [hwo]; rfl
   refine sy_skip ?_
   refine sy_seq ?_
   refine sy_block ?_
   refine sy_seq ?_
   refine sy_draw [0, 0, 3, 7, 0, 31, 0, 127] (.ld 0 (.tk 1 (.tk 2 (.ld 3 (.ld 4 (.ld 5 (.big 6 (.big 7 .done)))))))) mixed (by kernel_rfl) ?_
   refine ld rfl rfl (lh sc180 rfl rfl) rfl ?_
   refine tk rfl (PE.move rfl) rfl ?_
   refine tk rfl (PE.indexAddr el180 rfl rfl (by omega) (by omega)) rfl ?_
   refine ld rfl rfl (lh sc179 rfl (mc_get hmi (by show 0 + ((i + 1 : Nat) : Int).toNat * 1 = i + 1; omega))) rfl ?_
   refine ld rfl rfl (lhA [_, _, _, _] ag127 rfl rfl rfl) rfl ?_
   refine ldK rfl rfl rfl (lk_way0E hmo (maps_now (List.mem_of_getElem? hmi)) [s0, s1, s2, s3] rfl hwo) rfl ?_
   refine alc rfl zl178 rfl (fun b26 => ?_)
   refine bg (fun w hs => ⟨(lk_way0E hmo (maps_now (List.mem_of_getElem? hmi)) [s0, s1, s2, s3] rfl hwo) w hs, (lhA [_, _, _, _] ag127 rfl rfl rfl) w hs, (lh sc179 rfl (mc_get hmi (by show 0 + ((i + 1 : Nat) : Int).toNat * 1 = i + 1; omega))) w hs, (lh sc180 rfl rfl) w hs, trivial⟩) ?_
   refine sto rfl rfl rfl cn178 rfl rfl rfl rfl ?_
   refine bg (fun w hs => ⟨trivial, trivial, trivial, trivial, trivial⟩) ?_
   refine sy_draw [0, 0, 2, 0, 8, 24, 0, 64, 63, 319, 1023] (.tk 0 (.tk 1 (.tk 2 (.tk 3 (.ld 4 (.tk 6 (.ld 7 (.big 5 (.tk 8 (.big 9 (.big 10 .done))))))))))) mixed (by kernel_rfl) ?_
   refine tk rfl (PE.move rfl) rfl ?_
   refine tk rfl (PE.move rfl) rfl ?_
   refine tk rfl (PE.sub rfl rfl (by omega)) rfl ?_
   refine tk rfl (PE.fieldAddr fo178_1 rfl) rfl ?_
   refine ld rfl rfl (lh sc3 rfl rfl) rfl ?_
   refine tk rfl (PE.fieldAddr fo178_0 rfl) rfl ?_
   refine ld rfl rfl (lhA [_, _, _, _] ag127 rfl rfl rfl) rfl ?_
   refine cl rfl cal138 rfl rfl (c_list n4 (by omega) _ _) ?_
   rintro _ _ _ ⟨ol, rfl, rfl, rfl⟩
   refine bg (fun w hs => ⟨(lhA [_, _, _, _] ag127 rfl rfl rfl) w hs, trivial, trivial⟩) ?_
   refine tk rfl (PE.indexAddr el26 rfl rfl (by omega) (by omega)) rfl ?_
   refine stoE (l' := List.replicate i (.slice none 0 0) ++ (ol.fs :: (plrows pl).flatten)) rfl rfl rfl cn40 rfl (by rw [ol.cells.1]; first | done | rfl) (by rw [ol.cells.1]; simp [ol.cells.2]) (by rw [ol.cells.1]; exact spl_fill (by show 0 + (((i + 1 : Nat) : Int) - 1).toNat * 1 = i; omega)) (by rw [ol.cells.1, List.length_append, List.length_replicate]; show 0 + (((i + 1 : Nat) : Int) - 1).toNat * 1 + 1 ≤ _; omega) ?_
   refine bg (fun w hs => ⟨(lhA [_, _, _, _] ag127 rfl rfl rfl) w hs, trivial⟩) ?_
   refine sto rfl rfl rfl cn127 rfl rfl rfl rfl ?_
   refine bg (fun w hs => ⟨trivial, trivial⟩) ?_
   refine sy_tx' [0, 1, 2] rfl ?_
   obtain ⟨al, cl, he, hf⟩ := ol.freeze
   rw [he, irows_len]
   refine Sy.heap (fun w h => hf h) ?_
   clear he hf
   refine sp rfl (PE.move rfl) rfl ?_
   refine sp rfl (PE.sub rfl rfl (by omega)) rfl ?_
   refine sp rfl (PE.assign rfl) rfl ?_
   rw [show (((i + 1 : Nat) : Int) - 1) = (i : Int) by omega]
   exact sy_next ⟨(i, [w0, w1, w2, w3], ⟨al, cl, il (bitl 4 n4)⟩ :: pl), by dsimp only; omega, rfl, by simp only [List.length_cons]; omega, by rw [hjb, hback]; simp [lls]⟩ (by dsimp only; omega) (by repeat' first | exact Sub.nil | apply Sub.cons | rfl | (simp [lk]; omega)) (fun w h => St.sub (St.innCons (a := al) (c := cl) (l0 := il (bitl 4 n4)) (l := pl) (h.del b26)))
   try simp only [decide_eq_true_eq, decide_eq_false_iff_not, Bool.and_eq_true, Bool.or_eq_true, Bool.not_eq_true', Int.not_le, Int.not_lt] at hc6
   obtain rfl : j = 0 := by omega
   refine sy_exit ?_
   repeat refine sy_tx ?_
   refine sy_bx ?_
   refine sy_seq ?_
   refine sy_draw [0, 0, 1, 7, 15] (.tk 0 (.ld 1 (.tk 2 (.tk 3 (.tk 4 .done))))) mixed (by kernel_rfl) ?_
   refine tk rfl (PE.move rfl) rfl ?_
   refine ld rfl rfl (lh sc3 rfl rfl) rfl ?_
   refine tk rfl (PE.assign rfl) rfl ?_
   refine tk rfl (PE.assign rfl) rfl ?_
   refine tk rfl (PE.assign rfl) rfl ?_
   refine sy_ret ?_
   refine Sy.heap (H' := mkh (bd2 :: mk) ++ H) (R' := RowsA (some ⟨b126, 0, none⟩) 1 (plrows pl) :: Inn pl :: R) (fun w h => St.sub (St.rows (sz := 1) (rows := plrows pl) (rest := []) (by rw [List.append_nil]; exact (((((((h.del b20).del b19).del b18).del b7).del b3).del b2).del br)) (fun r hr => by obtain ⟨x, _, rfl⟩ := List.mem_map.1 hr; rfl))) ?_
   exact sy_returnM (bd2 :: mk) (fun _ h => h) rfl (.cons (RV.tmp rfl) (.cons (RV.tmp rfl) (.cons (RV.tmp rfl) .nil))) rfl ⟨rfl, .inr ⟨sb, nb, pl, b126, hacc, by rw [hjb]; rfl, rfl, rfl⟩⟩ (fun _ h => h)
end Go.Proofs.Ytelegnmfhjfbaaa
namespace Go.Proofs.Ytelegnmfhjfbaaa
set_option linter.unusedSimpArgs false
set_option linter.unusedVariables false
open Go
theorem cal124 : cal Try.prog 124 = true := by kernel_rfl
theorem cal93 : cal Try.prog 93 = true := by kernel_rfl
def planE (b : Barn) (days : Int) : Int := bif decide (b.check = 0) then (bif !(inB days 0 20) then 3 else (bif (bestT b.dsk (mday b.dsk b.state days.toNat) b.dsk.nst).isNone then 6 else 0)) else b.check
def turnsV (b : Barn) (days : Int) : Int := bif decide (planE b days = 0) then bN (bestT b.dsk (mday b.dsk b.state days.toNat) b.dsk.nst) else 0
def planLs (b : Barn) (days : Int) : List (List Int) := (backP b.dsk b.state days.toNat (bS (bestT b.dsk (mday b.dsk b.state days.toNat) b.dsk.nst))).map il
def AskQ (b : Barn) (days : Int) (H : Heap) (R : Facts) : Value → Heap → Facts → Prop := fun v H' R' => H' = H ∧
  ((planE b days ≠ 0 ∧ v = .tuple #[.slice none 0 0, .int .i64 0, .int .i64 (planE b days)] ∧ R' = R) ∨
   (planE b days = 0 ∧ ∃ (pl : List PL) (bp : Nat), lls pl = planLs b days ∧ v = .tuple #[.slice (some ⟨bp, 0, none⟩) days.toNat days.toNat, .int .i64 (turnsV b days), .int .i64 0] ∧ R' = RowsA (some ⟨bp, 0, none⟩) 1 (plrows pl) :: Inn pl :: R))
theorem c_asked (b : Barn) (ab : Option Addr) (cb : Nat) (hl : b.bins.length ≤ 9223372036854775807) (hr : b.rise.length = 6) (days : Int) (H : Heap) (R : Facts) [hB : MemRows ab 4 (brows b.bins) R] :
    Fn Try.prog 93 [b.v (b.sl ab cb), .int .i64 days] H R (AskQ b days H R) := by
 refine fn_of Try.func93 rfl Try.ntmps93 rfl ?_
 refine sy_seq ?_
 refine sy_tx' [0, 1, 2, 3] rfl ?_
 refine bx rfl rfl rfl (fun b2 => ?_)
 refine sp rfl (PE.assign rfl) rfl ?_
 refine sp rfl (PE.assign rfl) rfl ?_
 refine sp rfl (PE.assign rfl) rfl ?_
 refine sy_seq ?_
 refine sy_tx' [0, 1, 2, 3, 4, 5, 6] rfl ?_
 refine spL rfl rfl (lhA (btl b (b.sl ab cb)) ag25 rfl rfl rfl) rfl ?_
 refine cl rfl cal89 rfl rfl (c_opened b ab cb hl hr _ _) ?_
 rintro _ _ _ (⟨hck, rfl, rfl, rfl⟩ | ⟨hck, bd, m, rfl, rfl, rfl⟩)
 refine sp rfl (PE.move rfl) rfl ?_
 refine sp rfl (PE.extract rfl rfl) rfl ?_
 refine sp rfl (PE.extract rfl rfl) rfl ?_
 refine sp rfl (PE.assign rfl) rfl ?_
 refine sp rfl (PE.assign rfl) rfl ?_
 refine sy_seq ?_
 refine sy_block ?_
 refine sy_seq ?_
 refine sy_tx' [0, 1, 2] rfl ?_
 refine sp rfl (PE.move rfl) rfl ?_
 refine sp rfl (PE.neq rfl rfl) rfl ?_
 refine sp rfl (PE.assign rfl) rfl ?_
 refine sy_condT (congrArg (fun b => some (Value.bool b)) (decide_eq_true hck)) ?_
 refine sy_seq ?_
 refine sy_tx' [0, 1, 2, 3] rfl ?_
 have ese : planE b days = b.check := by unfold planE; rw [decide_eq_false hck]; rfl
 refine sp rfl (PE.move rfl) rfl ?_
 refine sp rfl (PE.assign rfl) rfl ?_
 refine sp rfl (PE.assign rfl) rfl ?_
 refine sp rfl (PE.assign rfl) rfl ?_
 refine sy_ret ?_
 exact sy_return (vs := [_, _, _]) rfl (.cons (RV.tmp rfl) (.cons (RV.tmp rfl) (.cons (RV.tmp rfl) .nil))) rfl ⟨rfl, .inl ⟨by rw [ese]; exact hck, by rw [ese]; rfl, rfl⟩⟩ drp
 have hok := Barn.ok_of hr hck
 have hdk := b.dsk_ok hok
 have hl4 := hdk.lasts.len
 have hm4 := hdk.most.len
 refine sp rfl (PE.move rfl) rfl ?_
 refine sp rfl (PE.extract rfl rfl) rfl ?_
 refine sp rfl (PE.extract rfl rfl) rfl ?_
 refine sp rfl (PE.assign rfl) rfl ?_
 refine sp rfl (PE.assign rfl) rfl ?_
 refine sy_seq ?_
 refine sy_block ?_
 refine sy_seq ?_
 refine sy_tx' [0, 1, 2] rfl ?_
 refine sp rfl (PE.move rfl) rfl ?_
 refine sp rfl (PE.neq rfl rfl) rfl ?_
 refine sp rfl (PE.assign rfl) rfl ?_
 refine sy_condF (rfl) ?_
 refine sy_seq ?_
 refine sy_tx' [0, 1, 2, 3] rfl ?_
 refine sp rfl (PE.move rfl) rfl ?_
 refine clV rfl cal101 rfl rfl (c_in _ _ _ _ _) ?_
 refine sp rfl (PE.not rfl) rfl ?_
 refine sp rfl (PE.assign rfl) rfl ?_
 refine sy_cond rfl (fun hc1 => ?_) (fun hc1 => ?_)
 have ese : planE b days = 3 := by unfold planE; rw [decide_eq_true hck, hc1]; rfl
 refine sy_seq ?_
 refine sy_tx' [0, 1, 2] rfl ?_
 refine sp rfl (PE.assign rfl) rfl ?_
 refine sp rfl (PE.assign rfl) rfl ?_
 refine sp rfl (PE.assign rfl) rfl ?_
 refine sy_ret ?_
 exact sy_return (vs := [_, _, _]) rfl (.cons (RV.tmp rfl) (.cons (RV.tmp rfl) (.cons (RV.tmp rfl) .nil))) rfl ⟨rfl, .inl ⟨by rw [ese]; decide, by rw [ese]; rfl, rfl⟩⟩ (fun w h => ((h.del b2).del m).ftail)
 have hin := hc1
 rw [Bool.not_eq_false'] at hin
 simp only [inB, Bool.and_eq_true, decide_eq_true_eq] at hin
 obtain ⟨n, rfl⟩ : ∃ n : Nat, days = n := ⟨days.toNat, by omega⟩
 refine sy_skip ?_
 refine sy_seq ?_
 refine sy_tx' [0, 1, 2, 3, 4, 5, 6, 7, 8, 9] rfl ?_
 refine sp rfl (PE.move rfl) rfl ?_
 refine sp rfl (PE.move rfl) rfl ?_
 refine cl rfl cal124 rfl rfl (c_fewest b hok ab cb bd m n (by omega) _ _) ?_
 rintro _ _ R1 ⟨rfl, hQ⟩
 rcases hQ with ⟨hbn, rfl, hR1⟩ | ⟨sb, nb, pl, bp, hbn, hpl, rfl, hR1⟩ <;> obtain rfl := hR1.symm
 refine sp rfl (PE.move rfl) rfl ?_
 refine sp rfl (PE.extract rfl rfl) rfl ?_
 refine sp rfl (PE.extract rfl rfl) rfl ?_
 refine sp rfl (PE.extract rfl rfl) rfl ?_
 refine sp rfl (PE.assign rfl) rfl ?_
 refine sp rfl (PE.assign rfl) rfl ?_
 refine sp rfl (PE.assign rfl) rfl ?_
 refine sy_seq ?_
 refine sy_seq ?_
 refine sy_tx' [0, 1] rfl ?_
 have ese : planE b (n : Int) = 6 := by unfold planE; rw [decide_eq_true hck, hc1, Int.toNat_natCast, hbn]; rfl
 refine sp rfl (PE.move rfl) rfl ?_
 refine sp rfl (PE.not rfl) rfl ?_
 refine sy_condT rfl ?_
 refine sy_seq ?_
 refine sy_tx' [0, 1, 2] rfl ?_
 refine sp rfl (PE.assign rfl) rfl ?_
 refine sp rfl (PE.assign rfl) rfl ?_
 refine sp rfl (PE.assign rfl) rfl ?_
 refine sy_ret ?_
 exact sy_return (vs := [_, _, _]) rfl (.cons (RV.tmp rfl) (.cons (RV.tmp rfl) (.cons (RV.tmp rfl) .nil))) rfl ⟨rfl, .inl ⟨by rw [ese]; decide, by rw [ese]; rfl, rfl⟩⟩ (fun w h => ((h.del b2).del m).ftail)
 refine sp rfl (PE.move rfl) rfl ?_
 refine sp rfl (PE.extract rfl rfl) rfl ?_
 refine sp rfl (PE.extract rfl rfl) rfl ?_
 refine sp rfl (PE.extract rfl rfl) rfl ?_
 refine sp rfl (PE.assign rfl) rfl ?_
 refine sp rfl (PE.assign rfl) rfl ?_
 refine sp rfl (PE.assign rfl) rfl ?_
 refine sy_seq ?_
 refine sy_seq ?_
 refine sy_tx' [0, 1] rfl ?_
 have ese : planE b (n : Int) = 0 := by unfold planE; rw [decide_eq_true hck, hc1, Int.toNat_natCast, hbn]; rfl
 have etv : turnsV b (n : Int) = nb := by unfold turnsV; rw [decide_eq_true ese, Int.toNat_natCast, hbn]; rfl
 refine sp rfl (PE.move rfl) rfl ?_
 refine sp rfl (PE.not rfl) rfl ?_
 refine sy_condF rfl ?_
 refine sy_skip ?_
 refine sy_seq ?_
 refine sy_tx' [0, 1, 2, 3, 4] rfl ?_
 refine sp rfl (PE.move rfl) rfl ?_
 refine sp rfl (PE.move rfl) rfl ?_
 refine sp rfl (PE.assign rfl) rfl ?_
 refine sp rfl (PE.assign rfl) rfl ?_
 refine sp rfl (PE.assign rfl) rfl ?_
 refine sy_ret ?_
 exact sy_return (vs := [_, _, _]) rfl (.cons (RV.tmp rfl) (.cons (RV.tmp rfl) (.cons (RV.tmp rfl) .nil))) rfl ⟨rfl, .inr ⟨ese, pl, bp, by unfold planLs; rw [Int.toNat_natCast, hbn]; exact hpl, by rw [etv]; rfl, rfl⟩⟩ (fun w h => St.sub ((h.del b2).del m))
theorem c_Turnings (b : Barn) (ab : Option Addr) (cb : Nat) (hl : b.bins.length ≤ 9223372036854775807) (hr : b.rise.length = 6) (days : Int) (H : Heap) (R : Facts) [hB : MemRows ab 4 (brows b.bins) R] :
    FnV Try.prog 40 [b.v (b.sl ab cb), .int .i64 days] H R (.tuple #[.int .i64 (turnsV b days), .int .i64 (planE b days)]) := by
 refine fn_of Try.func40 rfl Try.ntmps40 rfl ?_
 refine sy_seq ?_
 refine sy_tx' [0, 1, 2] rfl ?_
 refine bx rfl rfl rfl (fun b2 => ?_)
 refine sp rfl (PE.assign rfl) rfl ?_
 refine sp rfl (PE.assign rfl) rfl ?_
 refine sy_seq ?_
 refine sy_tx' [0, 1, 2, 3, 4, 5, 6, 7, 8, 9] rfl ?_
 refine spL rfl rfl (lhA (btl b (b.sl ab cb)) ag25 rfl rfl rfl) rfl ?_
 refine sp rfl (PE.move rfl) rfl ?_
 refine cl rfl cal93 rfl rfl (c_asked b ab cb hl hr days _ _) ?_
 rintro _ _ R1 ⟨rfl, hQ⟩
 rcases hQ with ⟨hpe, rfl, hR1⟩ | ⟨hpe, pl, bp, hpl, rfl, hR1⟩ <;> obtain rfl := hR1.symm
 refine sp rfl (PE.move rfl) rfl ?_
 refine sp rfl (PE.extract rfl rfl) rfl ?_
 refine sp rfl (PE.extract rfl rfl) rfl ?_
 refine sp rfl (PE.extract rfl rfl) rfl ?_
 refine sp rfl (PE.assign rfl) rfl ?_
 refine sp rfl (PE.assign rfl) rfl ?_
 refine sp rfl (PE.assign rfl) rfl ?_
 refine sy_seq ?_
 refine sy_tx' [0, 1, 2, 3] rfl ?_
 refine sp rfl (PE.move rfl) rfl ?_
 refine sp rfl (PE.move rfl) rfl ?_
 refine sp rfl (PE.assign rfl) rfl ?_
 refine sp rfl (PE.assign rfl) rfl ?_
 refine sy_ret ?_
 exact sy_return (vs := [_, _]) rfl (.cons (RV.tmp rfl) (.cons (RV.tmp rfl) .nil)) rfl ⟨by unfold turnsV; rw [decide_eq_false hpe]; rfl, rfl, rfl⟩ drp
 refine sp rfl (PE.move rfl) rfl ?_
 refine sp rfl (PE.extract rfl rfl) rfl ?_
 refine sp rfl (PE.extract rfl rfl) rfl ?_
 refine sp rfl (PE.extract rfl rfl) rfl ?_
 refine sp rfl (PE.assign rfl) rfl ?_
 refine sp rfl (PE.assign rfl) rfl ?_
 refine sp rfl (PE.assign rfl) rfl ?_
 refine sy_seq ?_
 refine sy_tx' [0, 1, 2, 3] rfl ?_
 refine sp rfl (PE.move rfl) rfl ?_
 refine sp rfl (PE.move rfl) rfl ?_
 refine sp rfl (PE.assign rfl) rfl ?_
 refine sp rfl (PE.assign rfl) rfl ?_
 refine sy_ret ?_
 exact sy_return (vs := [_, _]) rfl (.cons (RV.tmp rfl) (.cons (RV.tmp rfl) .nil)) rfl ⟨by rw [hpe]; rfl, rfl, rfl⟩ drp
end Go.Proofs.Ytelegnmfhjfbaaa
namespace Go.Proofs.Ytelegnmfhjfbaaa
set_option linter.unusedSimpArgs false
set_option linter.unusedVariables false
open Go
theorem cal26 : cal Try.prog 26 = true := by kernel_rfl
theorem cal27 : cal Try.prog 27 = true := by kernel_rfl
theorem cal28 : cal Try.prog 28 = true := by kernel_rfl
theorem cal30 : cal Try.prog 30 = true := by kernel_rfl
theorem cal36 : cal Try.prog 36 = true := by kernel_rfl
theorem cal37 : cal Try.prog 37 = true := by kernel_rfl
theorem cal40 : cal Try.prog 40 = true := by kernel_rfl
theorem cal43 : cal Try.prog 43 = true := by kernel_rfl
theorem cal70 : cal Try.prog 70 = true := by kernel_rfl
theorem cal80 : cal Try.prog 80 = true := by kernel_rfl
theorem el39 : elN Try.prog 39 = some 2 := by kernel_rfl
theorem eqf43 : eqB Try.prog 10000 43 = some (true, 2) := by kernel_rfl
theorem eqg43 : Try.prog.eqGuardType Try.prog.depth 43 = false := by kernel_rfl
theorem isl39 : isSl Try.prog 39 = true := by kernel_rfl
theorem pl45 : placeL Try.prog 45 = some [(0, 1), (1, 1), (2, 2)] := by kernel_rfl
theorem sl26 : slE Try.prog 26 = some (40, 1) := by kernel_rfl
theorem zl22 : zeroL Try.prog 22 = some ([.int .i64 0, .int .i64 0, .int .i64 0, .int .i64 0, .int .i64 0, .int .i64 0]) := by kernel_rfl
def thr (n : Nat) : Barn := ⟨20, 1, [0, 0, 6, 8, 10, 20], [⟨20, 40, 3, 4⟩, ⟨30, 50, 2, 3⟩, ⟨30, 40, 4, 4⟩].take n⟩
theorem thr_len {n : Nat} (h : n ≤ 3) : (thr n).bins.length = n := by simp [thr]; omega
theorem St.inn0 {H : Heap} {R : Facts} {w : World} (h : St H R w) : St H (Inn [] :: R) w := h.also fun _ _ y hy => by cases hy
theorem St.innN {l : List PL} {H : Heap} {R : Facts} {w : World} [m1 : MemF (Inn l) R] (h : St H R w) : St H (Inn (⟨none, 0, []⟩ :: l) :: R) w :=
  h.also fun _ hw y hy => by
    rcases List.mem_cons.1 hy with rfl | hy
    · exact fun i row hi => by simp at hi
    · exact hw _ m1.mem y hy
theorem ex_w : warmErr (thr 2) [[], [], []] 0 = 0 ∧ warmL (thr 2) [[], [], []] 0 = [(28, 30), (36, 40), (44, 50)] := by decide +kernel
theorem ex_b : (thr 2).planned [[], [], [0]] = 0 ∧ ((thr 2).burnsF (thr 2).warms [[], [], [0]] 0).1 = some (2, 1) := by decide +kernel
theorem ex_k : (thr 2).planned [[], [0], [1]] = 0 ∧ ((thr 2).burnsF (thr 2).warms [[], [0], [1]] 0).1 = none := by decide +kernel
theorem ex_c : (thr 2).check = 0 ∧ (thr 3).check = 0 := by decide +kernel
theorem kpt_ever {d : Dsk} {s : HSt} {n : Nat} (hf : d.alive (n + 1) = d.alive n) (hs : s ∈ d.alive n) : Kpt d s 1000000 := .inl ⟨rfl, fun m => by
  rcases Nat.lt_or_ge m n with h | h
  · exact d.alive_le (by omega) hs
  · obtain ⟨k, rfl⟩ : ∃ k, m = n + k := ⟨m - n, by omega⟩
    rw [d.alive_fix hf]; exact hs⟩
theorem ex_l : (thr 2).dsk.alive 4 = (thr 2).dsk.alive 3 ∧ (thr 2).state ∈ (thr 2).dsk.alive 3 := by decide +kernel
theorem ex_t : planE (thr 2) 3 = 0 ∧ turnsV (thr 2) 3 = 2 := by decide +kernel
theorem ex_f : (thr 3).state ∈ (thr 3).dsk.alive 3 ∧ (thr 3).state ∉ (thr 3).dsk.alive 4 := by decide +kernel
theorem ex_s0 : (thr 3).state ∈ ((thr 3).withG 0).dsk.alive 1 ∧ (thr 3).state ∉ ((thr 3).withG 0).dsk.alive 2 := by decide +kernel
theorem ex_s2 : ((thr 3).withG 2).dsk.alive 4 = ((thr 3).withG 2).dsk.alive 3 ∧ (thr 3).state ∈ ((thr 3).withG 2).dsk.alive 3 := by decide +kernel
theorem ex_g : goesErr (thr 2) [] [[0], [1]] = 0 ∧ (thr 2).burnsF (thr 2).warms ([] ++ rep 1 [[0], [1]]) 0 = (none, [40, 28]) ∧ (thr 2).burnsF [40, 28] [[0], [1]] 0 = (none, [40, 28]) := by decide +kernel
theorem c_eq_span (xs ys : List (Int × Int)) (a a2 : Option Addr) (c c2 : Nat) (hl : xs.length ≤ 9223372036854775807) (hl2 : ys.length ≤ 9223372036854775807) (H : Heap) (R : Facts) [hR : MemRows a 2 (sprows xs) R] [hR2 : MemRows a2 2 (sprows ys) R] :
    FnV Try.prog 80 [.slice a xs.length c, .slice a2 ys.length c2] H R (.bool (decide (xs = ys))) := by
 refine fn_of Try.func80 rfl Try.ntmps80 rfl ?_
 refine sy_seq ?_
 refine sy_tx' [0] rfl ?_
 refine sp rfl (PE.assign rfl) rfl ?_
 refine sy_seq ?_
 refine sy_seq ?_
 refine sy_tx' [0, 1, 2, 3, 4] rfl ?_
 refine sp rfl (PE.move rfl) rfl ?_
 refine sp rfl (PE.lenSl isl39 rfl) rfl ?_
 refine sp rfl (PE.move rfl) rfl ?_
 refine sp rfl (PE.lenSl isl39 rfl) rfl ?_
 refine sp rfl (PE.neq rfl rfl) rfl ?_
 refine sy_cond rfl (fun hc0 => ?_) (fun hc0 => ?_)
 have hne : xs ≠ ys := fun e => by subst e; simp at hc0
 refine sy_seq ?_
 refine sy_tx' [0] rfl ?_
 refine sp rfl (PE.assign rfl) rfl ?_
 refine sy_ret ?_
 exact sy_return (vs := [_]) rfl (.cons (RV.tmp rfl) .nil) rfl ⟨by first | (simp only [retV]; rw [decide_eq_true heq]; done) | (simp only [retV]; rw [decide_eq_false hne]), rfl, rfl⟩ (fun _ h => h)
 have hle : xs.length = ys.length := by simp only [decide_eq_true_eq, decide_eq_false_iff_not, Bool.and_eq_true, Bool.or_eq_true, Bool.not_eq_true', Int.not_le, Int.not_lt] at hc0; omega
 refine sy_skip ?_
 refine sy_seq ?_
 refine sy_seq ?_
 refine sy_tx' [0, 1, 2] rfl ?_
 refine sp rfl (PE.move rfl) rfl ?_
 refine sp rfl (PE.lenSl isl39 rfl) rfl ?_
 refine sp rfl (PE.move rfl) rfl ?_
 refine sy_block ?_
 refine sy_loop (ι := {k : Nat // k ≤ xs.length ∧ xs.take k = ys.take k}) (fun k => ⟨[(0, .slice a xs.length c), (1, .slice a2 ys.length c2), (12, .int .i64 xs.length), (13, .int .i64 k.1)], H, R⟩) (fun k => xs.length - k.1) ⟨0, by simp⟩ ?_ (fun k => ?_)
 exact sy_at (by repeat' first | exact Sub.nil | apply Sub.cons | rfl | (simp [lk]; omega)) (fun _ h => h)
 obtain ⟨k, hk, hn⟩ := k
 dsimp only
 refine sy_seq ?_
 refine sy_tx' [0] rfl ?_
 refine sp rfl (PE.lss rfl rfl) rfl ?_
 refine sy_seq ?_
 refine sy_cond rfl (fun hc1 => ?_) (fun hc1 => ?_)
 simp only [decide_eq_true_eq, decide_eq_false_iff_not, Bool.and_eq_true, Bool.or_eq_true, Bool.not_eq_true', Int.not_le, Int.not_lt] at hc1
 obtain ⟨x, hx⟩ : ∃ x, xs[k]? = some x := ⟨_, List.getElem?_eq_getElem (by omega)⟩
 obtain ⟨z, hz⟩ : ∃ z, ys[k]? = some z := ⟨_, List.getElem?_eq_getElem (by omega)⟩
 refine sy_addr (a := a) (sz := 2) (rows := sprows xs) (by intro h0; simp [sprows] at h0; simp [h0] at hx) (fun b off he => ?_)
 subst he
 refine sy_addr (a := a2) (sz := 2) (rows := sprows ys) (by intro h0; simp [sprows] at h0; simp [h0] at hz) (fun b2 off2 he => ?_)
 subst he
 refine sy_skip ?_
 refine sy_seq ?_
 refine sy_block ?_
 refine sy_seq ?_
 refine sy_tx' [0, 1] rfl ?_
 refine sp rfl (PE.move rfl) rfl ?_
 refine sp rfl (PE.assign rfl) rfl ?_
 refine sy_seq ?_
 refine sy_draw [0, 0, 3, 7, 0, 0, 48, 112, 255] (.tk 0 (.tk 1 (.tk 2 (.ld 3 (.tk 4 (.tk 5 (.tk 6 (.ld 7 (.tk 8 .done))))))))) mixed (by kernel_rfl) ?_
 refine tk rfl (PE.move rfl) rfl ?_
 refine tk rfl (PE.move rfl) rfl ?_
 refine tk rfl (PE.indexAddr el39 rfl rfl (by omega) (by omega)) rfl ?_
 refine ld rfl rfl (lfA ag43 (row := sprow x) (by simp [sprows, hx]) rfl) rfl ?_
 refine tk rfl (PE.move rfl) rfl ?_
 refine tk rfl (PE.move rfl) rfl ?_
 refine tk rfl (PE.indexAddr el39 rfl rfl (by omega) (by omega)) rfl ?_
 refine ld rfl rfl (lfA ag43 (row := sprow z) (by simp [sprows, hz]) rfl) rfl ?_
 refine tk rfl (PE.neqAgg [x.1, x.2] [z.1, z.2] (eqB_ok 10000 43 true 2 eqf43) eqg43 rfl rfl rfl rfl) rfl ?_
 refine sy_cond rfl (fun hc2 => ?_) (fun hc2 => ?_)
 have hne : xs ≠ ys := fun e => by subst e; rw [hx] at hz; cases hz; simp at hc2
 refine sy_seq ?_
 refine sy_tx' [0] rfl ?_
 refine sp rfl (PE.assign rfl) rfl ?_
 refine sy_ret ?_
 exact sy_return (vs := [_]) rfl (.cons (RV.tmp rfl) .nil) rfl ⟨by first | (simp only [retV]; rw [decide_eq_true heq]; done) | (simp only [retV]; rw [decide_eq_false hne]), rfl, rfl⟩ (fun _ h => h)
 have hxz : x = z := by cases x; cases z; simpa using hc2
 refine sy_skip ?_
 refine sy_tx' [0, 1] rfl ?_
 refine sp rfl (PE.add rfl rfl (by omega)) rfl ?_
 refine sp rfl (PE.move rfl) rfl ?_
 exact sy_next ⟨k + 1, by omega, by rw [List.take_add_one, List.take_add_one, hn, hx, hz, hxz]⟩ (by dsimp only; omega) (by repeat' first | exact Sub.nil | apply Sub.cons | rfl | (simp [lk]; omega)) (fun _ h => h)
 simp only [decide_eq_true_eq, decide_eq_false_iff_not, Bool.and_eq_true, Bool.or_eq_true, Bool.not_eq_true', Int.not_le, Int.not_lt] at hc1
 obtain rfl : k = xs.length := by omega
 have heq : xs = ys := by
   rw [List.take_length] at hn
   exact hn.trans (by rw [hle]; exact List.take_length)
 refine sy_exit ?_
 repeat refine sy_tx ?_
 refine sy_bx ?_
 refine sy_seq ?_
 refine sy_tx' [0] rfl ?_
 refine sp rfl (PE.assign rfl) rfl ?_
 refine sy_ret ?_
 exact sy_return (vs := [_]) rfl (.cons (RV.tmp rfl) .nil) rfl ⟨by first | (simp only [retV]; rw [decide_eq_true heq]; done) | (simp only [retV]; rw [decide_eq_false hne]), rfl, rfl⟩ (fun _ h => h)
theorem c_Eq_span (xs ys : List (Int × Int)) (a a2 : Option Addr) (c c2 : Nat) (hl : xs.length ≤ 9223372036854775807) (hl2 : ys.length ≤ 9223372036854775807) (H : Heap) (R : Facts) [hR : MemRows a 2 (sprows xs) R] [hR2 : MemRows a2 2 (sprows ys) R] :
    FnV Try.prog 30 [.slice a xs.length c, .slice a2 ys.length c2] H R (.bool (decide (xs = ys))) := by
 refine fn_of Try.func30 rfl Try.ntmps30 rfl ?_
 refine sy_seq ?_
 refine sy_tx' [0] rfl ?_
 refine sp rfl (PE.assign rfl) rfl ?_
 refine sy_seq ?_
 refine sy_tx' [0, 1, 2, 3] rfl ?_
 refine sp rfl (PE.move rfl) rfl ?_
 refine sp rfl (PE.move rfl) rfl ?_
 refine clV rfl cal80 rfl rfl (c_eq_span xs ys a a2 c c2 hl hl2 _ _) ?_
 refine sp rfl (PE.assign rfl) rfl ?_
 refine sy_ret ?_
 exact sy_return (vs := [_]) rfl (.cons (RV.tmp rfl) .nil) rfl ⟨rfl, rfl, rfl⟩ drp
theorem c_Eq_bin (xs ys : List HBin) (a a2 : Option Addr) (c c2 : Nat) (hl : xs.length ≤ 9223372036854775807) (hl2 : ys.length ≤ 9223372036854775807) (H : Heap) (R : Facts) [hR : MemRows a 4 (brows xs) R] [hR2 : MemRows a2 4 (brows ys) R] :
    FnV Try.prog 81 [.slice a xs.length c, .slice a2 ys.length c2] H R (.bool (decide (xs = ys))) := by
 refine fn_of Try.func81 rfl Try.ntmps81 rfl ?_
 refine sy_seq ?_
 refine sy_tx' [0] rfl ?_
 refine sp rfl (PE.assign rfl) rfl ?_
 refine sy_seq ?_
 refine sy_tx' [0, 1, 2, 3] rfl ?_
 refine sp rfl (PE.move rfl) rfl ?_
 refine sp rfl (PE.move rfl) rfl ?_
 refine clV rfl cal97 rfl rfl (c_eq_bin xs ys a a2 c c2 hl hl2 _ _) ?_
 refine sp rfl (PE.assign rfl) rfl ?_
 refine sy_ret ?_
 exact sy_return (vs := [_]) rfl (.cons (RV.tmp rfl) .nil) rfl ⟨rfl, rfl, rfl⟩ drp
theorem c_Three (n : Nat) (hn : n ≤ 3) (H : Heap) (R : Facts) :
    Fn Try.prog 70 [.int .i64 n] H R (fun v H' R' => ∃ ba, v = (thr n).v ((thr n).sl (some ⟨ba, 0, none⟩) 3) ∧ H' = H ∧ R' = RowsA (some ⟨ba, 0, none⟩) 4 (brows (thr n).bins) :: R) := by
 refine fn_of Try.func70 rfl Try.ntmps70 rfl ?_
 refine sy_seq ?_
 refine sy_tx' [0] rfl ?_
 refine alc rfl zl25 rfl (fun b2 => ?_)
 refine sy_seq ?_
 refine sy_tx' [0, 1, 2, 3, 4, 5, 6, 7] rfl ?_
 refine sp rfl (PE.build (out := [_, _]) pl43 zl43 rfl rfl) rfl ?_
 refine sp rfl (PE.build (out := [_, _, _, _]) pl45 zl45 rfl rfl) rfl ?_
 refine sp rfl (PE.build (out := [_, _]) pl43 zl43 rfl rfl) rfl ?_
 refine sp rfl (PE.build (out := [_, _, _, _]) pl45 zl45 rfl rfl) rfl ?_
 refine sp rfl (PE.build (out := [_, _]) pl43 zl43 rfl rfl) rfl ?_
 refine sp rfl (PE.build (out := [_, _, _, _]) pl45 zl45 rfl rfl) rfl ?_
 refine bsl (out := [_, _, _, _, _, _, _, _, _, _, _, _]) rfl sl23 zl45 rfl rfl rfl rfl rfl rfl (fun b10 => ?_)
 refine sp rfl (PE.assign rfl) rfl ?_
 refine sy_seq ?_
 refine sy_tx' [0, 1, 2, 3, 4, 5, 6, 7, 8, 9] rfl ?_
 refine sp rfl (PE.buildArr (out := [_, _, _, _, _, _]) ar22 zl22 rfl rfl) rfl ?_
 refine sp rfl (PE.move rfl) rfl ?_
 refine sp rfl (PE.move rfl) rfl ?_
 refine sp rfl (PE.move rfl) rfl ?_
 refine sp rfl (PE.lenSl isl23 rfl) rfl ?_
 refine sp rfl (PE.min rfl rfl) rfl ?_
 refine sp rfl (PE.max rfl rfl) rfl ?_
 refine sp rfl (PE.slHi (h := n) sl23 rfl (by rw [show (max (0 : Int) (min (n : Int) ((3 : Nat) : Int))) = (n : Int) by omega]; rfl) (by omega)) rfl ?_
 refine sp rfl (PE.build (out := [_, _, _, _, _, _, _, _, _]) pl25 zl25 rfl rfl) rfl ?_
 refine sto rfl rfl rfl cn25 rfl rfl rfl rfl ?_
 refine sy_ret ?_
 refine Sy.heap (fun w h => St.rows (sz := 4) (rows := brows (thr 3).bins) (rest := []) (h.pull b10) (br_four _)) ?_
 refine Sy.heap (R' := RowsA (some ⟨b10, 0, none⟩) 4 (brows (thr n).bins) :: R) (fun w h => (h.rowsTake (a := some ⟨b10, 0, none⟩) (rows := brows (thr 3).bins) n).facts (fun f hf => by
   rcases List.mem_cons.1 hf with h1 | h1
   · rw [h1, show brows (thr n).bins = (brows (thr 3).bins).take n from by simp [brows, thr, List.map_take]]; exact List.mem_cons_self
   · simp [h1])) ?_
 have hln := thr_len hn
 exact sy_return (vs := [_]) rfl (.cons (RV.cell rfl (lhA [_, _, _, _, _, _, _, _, _] ag25 rfl rfl rfl)) .nil) rfl ⟨b10, by unfold Barn.sl; rw [hln]; rfl, rfl, rfl⟩ (fun w h => h.del b2)
set_option maxHeartbeats 2000000 in
theorem c_awake (H : Heap) (R : Facts) :
    FnV Try.prog 18 [] H R (.bool true) := by
 refine fn_of Try.func18 rfl Try.ntmps18 rfl ?_
 refine sy_seq ?_
 refine sy_tx' [0] rfl ?_
 refine sp rfl (PE.assign rfl) rfl ?_
 refine sy_seq ?_
 refine sy_tx' [0, 1, 2, 3, 4, 5, 6, 7] rfl ?_
 refine cl rfl cal70 rfl rfl (c_Three 2 (by decide) _ _) ?_
 rintro _ _ _ ⟨ba19, rfl, rfl, rfl⟩
 refine bsl (out := [_, _, _]) rfl sl26 zl40 rfl rfl rfl rfl rfl rfl (fun b20 => ?_)
 refine Sy.heap (fun w h => St.inn0 h) ?_
 refine Sy.heap (fun w h => St.innN (l := []) h) ?_
 refine Sy.heap (fun w h => St.innN (l := [⟨none, 0, []⟩]) h) ?_
 refine Sy.heap (fun w h => St.innN (l := [⟨none, 0, []⟩, ⟨none, 0, []⟩]) h) ?_
 refine Sy.heap (fun w h => St.rows (sz := 1) (rows := plrows [⟨none, 0, []⟩, ⟨none, 0, []⟩, ⟨none, 0, []⟩]) (rest := []) (h.pull b20) (by simp [plrows, plrow])) ?_
 refine cl rfl cal26 rfl rfl (c_Warmth (thr 2) (some ⟨ba19, 0, none⟩) 3 (by decide) rfl [⟨none, 0, []⟩, ⟨none, 0, []⟩, ⟨none, 0, []⟩] (some ⟨b20, 0, none⟩) 3 (by simp) (fun x hx => by simp only [List.mem_cons, List.not_mem_nil, or_false] at hx; rcases hx with rfl | rfl | rfl <;> simp) 0 _ _) ?_
 rintro _ _ R1 ⟨hQ, hR1⟩
 obtain rfl := hR1.symm
 rcases hQ with ⟨hne, _, _⟩ | ⟨_, ow, rfl, rfl⟩
 exact absurd ex_w.1 hne
 obtain ⟨aw, cw, he, hf⟩ := (ow.cast (congrArg sprows ex_w.2) : OSl 43 2 (sprows [(28, 30), (36, 40), (44, 50)])).freeze
 rw [show ow.fs = _ from he]
 refine Sy.heap (fun w h => hf h) ?_
 clear he hf
 refine sp rfl (PE.move rfl) rfl ?_
 refine sp rfl (PE.extract rfl rfl) rfl ?_
 refine sp rfl (PE.extract rfl rfl) rfl ?_
 refine sp rfl (PE.assign rfl) rfl ?_
 refine sp rfl (PE.assign rfl) rfl ?_
 refine sy_seq ?_
 refine sy_tx' [0, 1, 2, 3, 4, 5, 6, 7, 8, 9, 10] rfl ?_
 refine cl rfl cal70 rfl rfl (c_Three 2 (by decide) _ _) ?_
 rintro _ _ _ ⟨ba25, rfl, rfl, rfl⟩
 refine bsl (out := [_]) rfl sl40 zl3 rfl rfl rfl rfl rfl rfl (fun b26 => ?_)
 refine bsl (out := [_, _, _]) rfl sl26 zl40 rfl rfl rfl rfl rfl rfl (fun b27 => ?_)
 refine Sy.heap (fun w h => St.intRows (l := [0]) (h.pull b26)) ?_
 refine Sy.heap (fun w h => St.inn0 h) ?_
 refine Sy.heap (fun w h => St.innCons (a := some ⟨b26, 0, none⟩) (c := 1) (l0 := [0]) (l := []) h) ?_
 refine Sy.heap (fun w h => St.innN (l := [⟨some ⟨b26, 0, none⟩, 1, [0]⟩]) h) ?_
 refine Sy.heap (fun w h => St.innN (l := [⟨none, 0, []⟩, ⟨some ⟨b26, 0, none⟩, 1, [0]⟩]) h) ?_
 refine Sy.heap (fun w h => St.rows (sz := 1) (rows := plrows [⟨none, 0, []⟩, ⟨none, 0, []⟩, ⟨some ⟨b26, 0, none⟩, 1, [0]⟩]) (rest := []) (h.pull b27) (by simp [plrows, plrow])) ?_
 refine cl rfl cal28 rfl rfl (c_Burns (thr 2) (some ⟨ba25, 0, none⟩) 3 (by decide) rfl [⟨none, 0, []⟩, ⟨none, 0, []⟩, ⟨some ⟨b26, 0, none⟩, 1, [0]⟩] (some ⟨b27, 0, none⟩) 3 (by simp) (fun x hx => by simp only [List.mem_cons, List.not_mem_nil, or_false] at hx; rcases hx with rfl | rfl | rfl <;> simp) _ _) ?_
 rintro _ _ _ ⟨rfl, rfl, rfl⟩
 rw [show (thr 2).burnsV (lls [⟨none, 0, []⟩, ⟨none, 0, []⟩, ⟨some ⟨b26, 0, none⟩, 1, [0]⟩]) = .tuple #[.int .i64 2, .int .i64 1, .int .i64 0] from by unfold Barn.burnsV; rw [show lls [⟨none, 0, []⟩, ⟨none, 0, []⟩, ⟨some ⟨b26, 0, none⟩, 1, [0]⟩] = [[], [], [0]] from rfl, ex_b.1, ex_b.2]; rfl]
 refine sp rfl (PE.move rfl) rfl ?_
 refine sp rfl (PE.extract rfl rfl) rfl ?_
 refine sp rfl (PE.extract rfl rfl) rfl ?_
 refine sp rfl (PE.extract rfl rfl) rfl ?_
 refine sp rfl (PE.assign rfl) rfl ?_
 refine sp rfl (PE.assign rfl) rfl ?_
 refine sp rfl (PE.assign rfl) rfl ?_
 refine sy_seq ?_
 refine sy_tx' [0, 1, 2, 3, 4, 5, 6, 7, 8, 9] rfl ?_
 refine cl rfl cal70 rfl rfl (c_Three 2 (by decide) _ _) ?_
 rintro _ _ _ ⟨ba33, rfl, rfl, rfl⟩
 refine bsl (out := [_]) rfl sl40 zl3 rfl rfl rfl rfl rfl rfl (fun b34 => ?_)
 refine bsl (out := [_]) rfl sl40 zl3 rfl rfl rfl rfl rfl rfl (fun b35 => ?_)
 refine bsl (out := [_, _, _]) rfl sl26 zl40 rfl rfl rfl rfl rfl rfl (fun b36 => ?_)
 refine Sy.heap (fun w h => St.intRows (l := [0]) (h.pull b34)) ?_
 refine Sy.heap (fun w h => St.intRows (l := [1]) (h.pull b35)) ?_
 refine Sy.heap (fun w h => St.inn0 h) ?_
 refine Sy.heap (fun w h => St.innCons (a := some ⟨b35, 0, none⟩) (c := 1) (l0 := [1]) (l := []) h) ?_
 refine Sy.heap (fun w h => St.innCons (a := some ⟨b34, 0, none⟩) (c := 1) (l0 := [0]) (l := [⟨some ⟨b35, 0, none⟩, 1, [1]⟩]) h) ?_
 refine Sy.heap (fun w h => St.innN (l := [⟨some ⟨b34, 0, none⟩, 1, [0]⟩, ⟨some ⟨b35, 0, none⟩, 1, [1]⟩]) h) ?_
 refine Sy.heap (fun w h => St.rows (sz := 1) (rows := plrows [⟨none, 0, []⟩, ⟨some ⟨b34, 0, none⟩, 1, [0]⟩, ⟨some ⟨b35, 0, none⟩, 1, [1]⟩]) (rest := []) (h.pull b36) (by simp [plrows, plrow])) ?_
 refine cl rfl cal27 rfl rfl (c_Keeps (thr 2) (some ⟨ba33, 0, none⟩) 3 (by decide) rfl [⟨none, 0, []⟩, ⟨some ⟨b34, 0, none⟩, 1, [0]⟩, ⟨some ⟨b35, 0, none⟩, 1, [1]⟩] (some ⟨b36, 0, none⟩) 3 (by simp) (fun x hx => by simp only [List.mem_cons, List.not_mem_nil, or_false] at hx; rcases hx with rfl | rfl | rfl <;> simp) _ _) ?_
 rintro _ _ _ ⟨rfl, rfl, rfl⟩
 rw [show (thr 2).keepsV (lls [⟨none, 0, []⟩, ⟨some ⟨b34, 0, none⟩, 1, [0]⟩, ⟨some ⟨b35, 0, none⟩, 1, [1]⟩]) = .tuple #[.bool true, .int .i64 0] from by unfold Barn.keepsV; rw [show lls [⟨none, 0, []⟩, ⟨some ⟨b34, 0, none⟩, 1, [0]⟩, ⟨some ⟨b35, 0, none⟩, 1, [1]⟩] = [[], [0], [1]] from rfl, ex_k.1, ex_k.2]; rfl]
 refine sp rfl (PE.move rfl) rfl ?_
 refine sp rfl (PE.extract rfl rfl) rfl ?_
 refine sp rfl (PE.extract rfl rfl) rfl ?_
 refine sp rfl (PE.assign rfl) rfl ?_
 refine sp rfl (PE.assign rfl) rfl ?_
 refine sy_seq ?_
 refine sy_tx' [0, 1, 2, 3, 4, 5, 6] rfl ?_
 refine cl rfl cal70 rfl rfl (c_Three 2 (by decide) _ _) ?_
 rintro _ _ _ ⟨ba41, rfl, rfl, rfl⟩
 refine cl rfl cal35 rfl rfl (c_Longest (thr 2) (some ⟨ba41, 0, none⟩) 3 (by decide) rfl _ _) ?_
 rintro _ _ R1 ⟨hQ, rfl, hR1⟩
 obtain rfl := hR1.symm
 rcases hQ with ⟨hne, _⟩ | ⟨_, w, hw, rfl⟩
 exact absurd ex_c.1 hne
 obtain rfl := kpt_unique hw (kpt_ever ex_l.1 ex_l.2)
 refine sp rfl (PE.move rfl) rfl ?_
 refine sp rfl (PE.extract rfl rfl) rfl ?_
 refine sp rfl (PE.extract rfl rfl) rfl ?_
 refine sp rfl (PE.assign rfl) rfl ?_
 refine sp rfl (PE.assign rfl) rfl ?_
 refine sy_seq ?_
 refine sy_tx' [0, 1, 2, 3, 4, 5, 6] rfl ?_
 refine cl rfl cal70 rfl rfl (c_Three 2 (by decide) _ _) ?_
 rintro _ _ _ ⟨ba46, rfl, rfl, rfl⟩
 refine cl rfl cal40 rfl rfl (c_Turnings (thr 2) (some ⟨ba46, 0, none⟩) 3 (by decide) rfl 3 _ _) ?_
 rintro _ _ _ ⟨rfl, rfl, rfl⟩
 rw [ex_t.1, ex_t.2]
 refine sp rfl (PE.move rfl) rfl ?_
 refine sp rfl (PE.extract rfl rfl) rfl ?_
 refine sp rfl (PE.extract rfl rfl) rfl ?_
 refine sp rfl (PE.assign rfl) rfl ?_
 refine sp rfl (PE.assign rfl) rfl ?_
 refine sy_seq ?_
 refine sy_tx' [0, 1, 2, 3, 4, 5, 6] rfl ?_
 refine cl rfl cal70 rfl rfl (c_Three 3 (by decide) _ _) ?_
 rintro _ _ _ ⟨ba51, rfl, rfl, rfl⟩
 refine cl rfl cal36 rfl rfl (c_First (thr 3) (some ⟨ba51, 0, none⟩) 3 (by decide) rfl _ _) ?_
 rintro _ _ R1 ⟨hQ, rfl, hR1⟩
 obtain rfl := hR1.symm
 rcases hQ with ⟨hne, _⟩ | ⟨_, w, hw, rfl⟩
 exact absurd ex_c.2 hne
 obtain rfl := kpt_unique hw (.inr ⟨3, by decide, rfl, ex_f.1, ex_f.2⟩)
 refine sp rfl (PE.move rfl) rfl ?_
 refine sp rfl (PE.extract rfl rfl) rfl ?_
 refine sp rfl (PE.extract rfl rfl) rfl ?_
 refine sp rfl (PE.assign rfl) rfl ?_
 refine sp rfl (PE.assign rfl) rfl ?_
 refine sy_seq ?_
 refine sy_tx' [0, 1, 2, 3, 4, 5, 6] rfl ?_
 refine cl rfl cal70 rfl rfl (c_Three 3 (by decide) _ _) ?_
 rintro _ _ _ ⟨ba56, rfl, rfl, rfl⟩
 refine cl rfl cal37 rfl rfl (c_Spare (thr 3) (some ⟨ba56, 0, none⟩) 3 (by decide) rfl _ _) ?_
 rintro v _ R1 ⟨hQ, rfl, hR1⟩
 obtain rfl := hR1.symm
 have e0 : (thr 3).ends 0 := ⟨1, by decide, .inr ⟨1, by decide, rfl, ex_s0.1, ex_s0.2⟩⟩
 have e1 : (thr 3).ends 1 := ⟨3, by decide, .inr ⟨3, by decide, rfl, ex_f.1, ex_f.2⟩⟩
 have k2 : Kpt ((thr 3).withG 2).dsk (thr 3).state 1000000 := kpt_ever ex_s2.1 ex_s2.2
 have k20 : ∀ g : Nat, g = 2 → Kpt ((thr 3).withG g).dsk (thr 3).state 1000000 := fun g hg => by subst hg; exact k2
 replace hQ : ∃ g : Nat, g = 2 ∧ v = .tuple #[.int .i64 g, .int .i64 0] := by
   rcases hQ with ⟨hne, _⟩ | ⟨_, ⟨g, hg, hge, hgk, rfl⟩ | ⟨hall, _⟩⟩
   · exact absurd ex_c.2 hne
   · refine ⟨g, ?_, rfl⟩
     have hg3 : g ≤ 3 := hg
     rcases Nat.lt_or_ge 2 g with h1 | h1
     · obtain ⟨w, hw, hk⟩ := hge 2 h1; exact absurd (kpt_unique hk k2) hw
     · rcases Nat.lt_or_ge g 2 with h2 | h2
       · exfalso
         rcases (by omega : g = 0 ∨ g = 1) with rfl | rfl
         · obtain ⟨w, hw, hk⟩ := e0; exact hw (kpt_unique hk hgk)
         · obtain ⟨w, hw, hk⟩ := e1; exact hw (kpt_unique hk hgk)
       · omega
   · obtain ⟨w, hw, hk⟩ := hall 2 (by decide); exact absurd (kpt_unique hk k2) hw
 obtain ⟨g, rfl, rfl⟩ := hQ
 refine sp rfl (PE.move rfl) rfl ?_
 refine sp rfl (PE.extract rfl rfl) rfl ?_
 refine sp rfl (PE.extract rfl rfl) rfl ?_
 refine sp rfl (PE.assign rfl) rfl ?_
 refine sp rfl (PE.assign rfl) rfl ?_
 refine sy_seq ?_
 refine sy_tx' [0, 1, 2, 3, 4, 5, 6, 7, 8, 9] rfl ?_
 refine cl rfl cal70 rfl rfl (c_Three 2 (by decide) _ _) ?_
 rintro _ _ _ ⟨ba61, rfl, rfl, rfl⟩
 refine bsl (out := [_]) rfl sl40 zl3 rfl rfl rfl rfl rfl rfl (fun b62 => ?_)
 refine bsl (out := [_]) rfl sl40 zl3 rfl rfl rfl rfl rfl rfl (fun b63 => ?_)
 refine bsl (out := [_, _]) rfl sl26 zl40 rfl rfl rfl rfl rfl rfl (fun b64 => ?_)
 refine Sy.heap (fun w h => h.also (f := RowsA none 1 (plrows [])) (fun _ _ i row hi => by simp [plrows] at hi)) ?_
 refine Sy.heap (fun w h => St.intRows (l := [0]) (h.pull b62)) ?_
 refine Sy.heap (fun w h => St.intRows (l := [1]) (h.pull b63)) ?_
 refine Sy.heap (fun w h => St.inn0 h) ?_
 refine Sy.heap (fun w h => St.innCons (a := some ⟨b63, 0, none⟩) (c := 1) (l0 := [1]) (l := []) h) ?_
 refine Sy.heap (fun w h => St.innCons (a := some ⟨b62, 0, none⟩) (c := 1) (l0 := [0]) (l := [⟨some ⟨b63, 0, none⟩, 1, [1]⟩]) h) ?_
 refine Sy.heap (fun w h => St.rows (sz := 1) (rows := plrows [⟨some ⟨b62, 0, none⟩, 1, [0]⟩, ⟨some ⟨b63, 0, none⟩, 1, [1]⟩]) (rest := []) (h.pull b64) (by simp [plrows, plrow])) ?_
 refine cl rfl cal43 rfl rfl (c_Goes (thr 2) (some ⟨ba61, 0, none⟩) 3 (by decide) rfl [] none 0 (by decide) (fun x hx => by cases hx) [⟨some ⟨b62, 0, none⟩, 1, [0]⟩, ⟨some ⟨b63, 0, none⟩, 1, [1]⟩] (some ⟨b64, 0, none⟩) 2 (by simp) (fun x hx => by simp only [List.mem_cons, List.not_mem_nil, or_false] at hx; rcases hx with rfl | rfl <;> simp) _ _) ?_
 rintro _ _ R1 ⟨hQ, rfl, hR1⟩
 obtain rfl := hR1.symm
 rcases hQ with ⟨hne, _⟩ | ⟨_, is, his, rfl⟩
 exact absurd ex_g.1 hne
 obtain rfl : is = true := his.2 (goes_yes (i := 1) ex_g.2.1 ex_g.2.2)
 refine sp rfl (PE.move rfl) rfl ?_
 refine sp rfl (PE.extract rfl rfl) rfl ?_
 refine sp rfl (PE.extract rfl rfl) rfl ?_
 refine sp rfl (PE.assign rfl) rfl ?_
 refine sp rfl (PE.assign rfl) rfl ?_
 refine sy_seq ?_
 refine sy_tx' [0, 1, 2, 3, 4, 5, 6, 7, 8, 9, 10, 11, 12, 13, 14, 15, 16, 17, 18, 19, 20, 21, 22, 23, 24, 25, 26, 27, 28, 29, 30, 31, 32, 33, 34, 35, 36, 37, 38, 39, 40, 41, 42, 43, 44, 45, 46, 47, 48, 49, 50, 51, 52, 53, 54, 55, 56, 57, 58, 59, 60, 61, 62, 63, 64, 65, 66, 67, 68] rfl ?_
 refine sp rfl (PE.move rfl) rfl ?_
 refine sp rfl (PE.eql rfl rfl) rfl ?_
 refine sp rfl (PE.move rfl) rfl ?_
 refine sy_case (t := 70) rfl (fun g70 => ?_) (fun g70 => ?_)
 refine spG rfl rfl rfl rfl (PE.move rfl) rfl ?_
 refine spG rfl rfl rfl rfl (PE.eql rfl rfl) rfl ?_
 refine sp rfl (PE.pick rfl rfl rfl) rfl ?_
 refine sp rfl (PE.move rfl) rfl ?_
 refine sy_case (t := 74) rfl (fun g74 => ?_) (fun g74 => ?_)
 refine spG rfl rfl rfl rfl (PE.move rfl) rfl ?_
 refine spG rfl rfl rfl rfl (PE.eql rfl rfl) rfl ?_
 refine sp rfl (PE.pick rfl rfl rfl) rfl ?_
 refine sp rfl (PE.move rfl) rfl ?_
 refine sy_case (t := 78) rfl (fun g78 => ?_) (fun g78 => ?_)
 refine spG rfl rfl rfl rfl (PE.move rfl) rfl ?_
 refine spG rfl rfl rfl rfl (PE.eql rfl rfl) rfl ?_
 refine sp rfl (PE.pick rfl rfl rfl) rfl ?_
 refine sp rfl (PE.move rfl) rfl ?_
 refine sy_case (t := 82) rfl (fun g82 => ?_) (fun g82 => ?_)
 refine spG rfl rfl rfl rfl (PE.move rfl) rfl ?_
 refine spG rfl rfl rfl rfl (PE.eql rfl rfl) rfl ?_
 refine sp rfl (PE.pick rfl rfl rfl) rfl ?_
 refine sp rfl (PE.move rfl) rfl ?_
 refine sy_case (t := 86) rfl (fun g86 => ?_) (fun g86 => ?_)
 refine spG rfl rfl rfl rfl (PE.move rfl) rfl ?_
 refine spG rfl rfl rfl rfl (PE.eql rfl rfl) rfl ?_
 refine sp rfl (PE.pick rfl rfl rfl) rfl ?_
 refine sp rfl (PE.move rfl) rfl ?_
 refine sy_case (t := 90) rfl (fun g90 => ?_) (fun g90 => ?_)
 refine spG rfl rfl rfl rfl (PE.move rfl) rfl ?_
 refine spG rfl rfl rfl rfl (PE.eql rfl rfl) rfl ?_
 refine sp rfl (PE.pick rfl rfl rfl) rfl ?_
 refine sp rfl (PE.move rfl) rfl ?_
 refine sy_case (t := 94) rfl (fun g94 => ?_) (fun g94 => ?_)
 refine spG rfl rfl rfl rfl (PE.move rfl) rfl ?_
 refine spG rfl rfl rfl rfl (PE.eql rfl rfl) rfl ?_
 refine sp rfl (PE.pick rfl rfl rfl) rfl ?_
 refine sp rfl (PE.move rfl) rfl ?_
 refine sy_case (t := 98) rfl (fun g98 => ?_) (fun g98 => ?_)
 refine spG rfl rfl rfl rfl (PE.move rfl) rfl ?_
 refine spG rfl rfl rfl rfl (PE.build (out := [_, _]) pl43 zl43 rfl rfl) rfl ?_
 refine spG rfl rfl rfl rfl (PE.build (out := [_, _]) pl43 zl43 rfl rfl) rfl ?_
 refine spG rfl rfl rfl rfl (PE.build (out := [_, _]) pl43 zl43 rfl rfl) rfl ?_
 refine bslG (out := [_, _, _, _, _, _]) rfl rfl rfl rfl sl39 zl43 rfl rfl rfl rfl rfl rfl (fun b103 => ?_)
 refine Sy.heap (fun w h => St.rows (sz := 2) (rows := sprows [(28, 30), (36, 40), (44, 50)]) (rest := []) (h.pull b103) (by simp [sprows, sprow])) ?_
 refine clVG rfl rfl rfl rfl cal30 rfl rfl (c_Eq_span [(28, 30), (36, 40), (44, 50)] [(28, 30), (36, 40), (44, 50)] aw (some ⟨b103, 0, none⟩) cw 3 (by decide) (by decide) _ _) ?_
 refine sp rfl (PE.pick rfl rfl rfl) rfl ?_
 refine sp rfl (PE.move rfl) rfl ?_
 refine sy_case (t := 106) rfl (fun g106 => ?_) (fun g106 => ?_)
 refine spG rfl rfl rfl rfl (PE.move rfl) rfl ?_
 refine spG rfl rfl rfl rfl (PE.eql rfl rfl) rfl ?_
 refine sp rfl (PE.pick rfl rfl rfl) rfl ?_
 refine sp rfl (PE.move rfl) rfl ?_
 refine sy_case (t := 110) rfl (fun g110 => ?_) (fun g110 => ?_)
 refine spG rfl rfl rfl rfl (PE.move rfl) rfl ?_
 refine spG rfl rfl rfl rfl (PE.eql rfl rfl) rfl ?_
 refine sp rfl (PE.pick rfl rfl rfl) rfl ?_
 refine sp rfl (PE.move rfl) rfl ?_
 refine sy_case (t := 114) rfl (fun g114 => ?_) (fun g114 => ?_)
 refine spG rfl rfl rfl rfl (PE.move rfl) rfl ?_
 refine sp rfl (PE.pick rfl rfl rfl) rfl ?_
 refine sp rfl (PE.move rfl) rfl ?_
 refine sy_case (t := 117) rfl (fun g117 => ?_) (fun g117 => ?_)
 refine spG rfl rfl rfl rfl (PE.move rfl) rfl ?_
 refine spG rfl rfl rfl rfl (PE.eql rfl rfl) rfl ?_
 refine sp rfl (PE.pick rfl rfl rfl) rfl ?_
 refine sp rfl (PE.move rfl) rfl ?_
 refine sy_case (t := 121) rfl (fun g121 => ?_) (fun g121 => ?_)
 refine spG rfl rfl rfl rfl (PE.move rfl) rfl ?_
 refine spG rfl rfl rfl rfl (PE.eql rfl rfl) rfl ?_
 refine sp rfl (PE.pick rfl rfl rfl) rfl ?_
 refine sp rfl (PE.move rfl) rfl ?_
 refine sy_case (t := 125) rfl (fun g125 => ?_) (fun g125 => ?_)
 refine spG rfl rfl rfl rfl (PE.move rfl) rfl ?_
 refine spG rfl rfl rfl rfl (PE.eql rfl rfl) rfl ?_
 refine sp rfl (PE.pick rfl rfl rfl) rfl ?_
 refine sp rfl (PE.move rfl) rfl ?_
 refine sy_case (t := 129) rfl (fun g129 => ?_) (fun g129 => ?_)
 refine spG rfl rfl rfl rfl (PE.move rfl) rfl ?_
 refine spG rfl rfl rfl rfl (PE.eql rfl rfl) rfl ?_
 refine sp rfl (PE.pick rfl rfl rfl) rfl ?_
 refine sp rfl (PE.move rfl) rfl ?_
 refine sy_case (t := 133) rfl (fun g133 => ?_) (fun g133 => ?_)
 refine spG rfl rfl rfl rfl (PE.move rfl) rfl ?_
 refine sp rfl (PE.pick rfl rfl rfl) rfl ?_
 refine sp rfl (PE.assign rfl) rfl ?_
 refine sy_ret ?_
 exact sy_return (vs := [_]) rfl (.cons (RV.tmp rfl) .nil) rfl ⟨rfl, rfl, rfl⟩ (fun w h => St.sub h)
 exact absurd g133 (by simp)
 exact absurd g129 (by simp)
 exact absurd g125 (by simp)
 exact absurd g121 (by simp)
 exact absurd g117 (by simp)
 exact absurd g114 (by simp)
 exact absurd g110 (by simp)
 exact absurd g106 (by simp)
 exact absurd g98 (by simp)
 exact absurd g94 (by simp)
 exact absurd g90 (by simp)
 exact absurd g86 (by simp)
 exact absurd g82 (by simp)
 exact absurd g78 (by simp)
 exact absurd g74 (by simp)
 exact absurd g70 (by simp)
end Go.Proofs.Ytelegnmfhjfbaaa
namespace Go.Proofs.Ytelegnmfhjfbaaa
set_option linter.unusedSimpArgs false
set_option linter.unusedVariables false
open Go
theorem ag22 : aggN Try.prog 22 = some 6 := by kernel_rfl
theorem ag33 : aggN Try.prog 33 = some 9 := by kernel_rfl
theorem ap31 : apT Try.prog 31 = some (113, 4, 32) := by kernel_rfl
theorem cal71 : cal Try.prog 71 = true := by kernel_rfl
theorem cal81 : cal Try.prog 81 = true := by kernel_rfl
theorem cn31 : cellN Try.prog 31 = some 1 := by kernel_rfl
theorem cn33 : cellN Try.prog 33 = some 9 := by kernel_rfl
theorem eqf22 : eqB Try.prog 10000 22 = some (true, 6) := by kernel_rfl
theorem eqg22 : Try.prog.eqGuardType Try.prog.depth 22 = false := by kernel_rfl
theorem fo33_3 : fOff Try.prog 33 3 = some 8 := by kernel_rfl
theorem pl33 : placeL Try.prog 33 = some [(0, 1), (1, 1), (2, 6), (8, 1)] := by kernel_rfl
theorem sc31 : scal Try.prog 31 = true := by kernel_rfl
theorem sl31 : slE Try.prog 31 = some (113, 4) := by kernel_rfl
theorem zl113 : zeroL Try.prog 113 = some ([.int .i64 0, .int .i64 0, .int .i64 0, .int .i64 0]) := by kernel_rfl
theorem zl33 : zeroL Try.prog 33 = some ([.int .i64 0, .int .i64 0, .int .i64 0, .int .i64 0, .int .i64 0, .int .i64 0, .int .i64 0, .int .i64 0, .slice none 0 0]) := by kernel_rfl
theorem badI_at {l : List Int} {i : Nat} {x y : Int} (hx : l[i]? = some x) (hy : l[i + 1]? = some y) : badI l i = decide (y < x) := by unfold badI; rw [hx, hy]
def sameB (a b : Barn) : Bool := decide (a.cool = b.cool) && decide (a.gangs = b.gangs) && decide (a.rise = b.rise) && decide (a.bins = b.bins)
theorem sameB_iff {a b : Barn} : sameB a b = true ↔ a = b := by
  unfold sameB
  simp only [Bool.and_eq_true, decide_eq_true_eq]
  constructor
  · rintro ⟨⟨⟨h1, h2⟩, h3⟩, h4⟩
    cases a; cases b; simp_all
  · rintro rfl; exact ⟨⟨⟨rfl, rfl⟩, rfl⟩, rfl⟩
theorem rise_eq {a b : Barn} (ha : a.rise.length = 6) (hb : b.rise.length = 6) : decide (([na a.rise 0, na a.rise 1, na a.rise 2, na a.rise 3, na a.rise 4, na a.rise 5] : List Int) = [na b.rise 0, na b.rise 1, na b.rise 2, na b.rise 3, na b.rise 4, na b.rise 5]) = decide (a.rise = b.rise) := by
  rw [← list6 ha, ← list6 hb]
def nin (n lo hi : Int) : Bool := decide (n < lo) || decide (hi < n)
theorem nin_in (n lo hi : Int) : nin n lo hi = !(inB n lo hi) := by
  unfold nin inB
  rw [Bool.not_and]
  congr 1
  · rw [← decide_not]; exact decide_eq_decide.2 (by omega)
  · rw [← decide_not]; exact decide_eq_decide.2 (by omega)
theorem daysB_step {r m w : Int} {n : Nat} (hr : 0 < r) (h : w + (n : Int) * r ≤ m) (h2 : m < w + ((n : Int) + 1) * r) (hw : w ≤ m) : daysB r m w = n := by
  unfold daysB
  rw [decide_eq_false (by omega), cond_false, decide_eq_false (by omega), cond_false]
  have e1 : m - w = (m - w - (n : Int) * r) + (n : Int) * r := by omega
  rw [e1, Int.add_mul_ediv_right _ _ (by omega), Int.ediv_eq_zero_of_lt (by omega) (by rw [Int.add_mul] at h2; omega)]
  omega
theorem c_great (b : Barn) (ab : Option Addr) (cb : Nat) (hl : b.bins.length ≤ 9223372036854775807) (H : Heap) (R : Facts) :
    FnV Try.prog 16 [b.v (b.sl ab cb)] H R (.bool (decide (8 < b.bins.length))) := by
 refine fn_of Try.func16 rfl Try.ntmps16 rfl ?_
 refine sy_seq ?_
 refine sy_tx' [0, 1] rfl ?_
 refine bx rfl rfl rfl (fun b1 => ?_)
 refine sp rfl (PE.assign rfl) rfl ?_
 refine sy_seq ?_
 refine sy_tx' [0, 1, 2, 3, 4] rfl ?_
 refine sp rfl (PE.fieldAddr fo25_3 rfl) rfl ?_
 refine spL rfl rfl (lh sc23 rfl rfl) rfl ?_
 refine sp rfl (PE.lenSl isl23 rfl) rfl ?_
 refine sp rfl (PE.gtr rfl rfl) rfl ?_
 refine sp rfl (PE.assign rfl) rfl ?_
 refine sy_ret ?_
 exact sy_return (vs := [_]) rfl (.cons (RV.tmp rfl) .nil) rfl ⟨by simp only [retV]; congr 1; exact decide_eq_decide.2 (by omega), rfl, rfl⟩ drp
theorem c_dup_bin (xs : List HBin) (a : Option Addr) (c : Nat) (hl : xs.length ≤ 1000000) (H : Heap) (R : Facts) [hR : MemRows a 4 (brows xs) R] :
    Fn Try.prog 71 [.slice a xs.length c] H R (fun v H' R' => ∃ o : OSl 45 4 (brows xs), v = o.fs ∧ o.here ∧ H' = o.G ++ H ∧ R' = R) := by
 refine fn_of Try.func71 rfl Try.ntmps71 rfl ?_
 refine sy_seq ?_
 refine sy_tx' [0] rfl ?_
 refine sp rfl (PE.assign rfl) rfl ?_
 refine sy_seq ?_
 refine sy_tx' [0, 1, 2, 3, 4, 5] rfl ?_
 refine sp rfl (PE.move rfl) rfl ?_
 refine sp rfl (PE.lenSl isl23 rfl) rfl ?_
 refine mkO rfl ap23 zl45 rfl rfl ⟨by omega, by omega⟩ rfl (fun o ho => ?_)
 refine sp rfl (PE.move rfl) rfl ?_
 refine apOh (news := brows xs) o rfl ap23 rfl rfl (rowsF) (by simp [brows]) (by simp [onecells, brows, brow, Value.oneCell']) ⟨by simp [brows]; omega, by simp [brows]; omega⟩ rfl ho (fun o2 ho2 => ?_)
 refine sp rfl (PE.assign rfl) rfl ?_
 refine sy_ret ?_
 exact sy_return (vs := [_]) rfl (.cons (RV.tmp rfl) .nil) rfl ⟨o2.cast (by simp), rfl, ho2, rfl, rfl⟩ (fun _ h => h)
theorem c_Own (b : Barn) (ab : Option Addr) (cb : Nat) (hl : b.bins.length ≤ 1000000) (H : Heap) (R : Facts) [hB : MemRows ab 4 (brows b.bins) R] :
    Fn Try.prog 19 [b.v (b.sl ab cb)] H R (fun v H' R' => ∃ (bo cap : Nat) (junk : List Value), v = b.v (b.sl (some ⟨bo, 0, none⟩) cap) ∧ H' = (bo, cel 45 ((brows b.bins).flatten ++ junk)) :: H ∧ R' = R) := by
 refine fn_of Try.func19 rfl Try.ntmps19 rfl ?_
 refine sy_seq ?_
 refine sy_tx' [0, 1] rfl ?_
 refine bx rfl rfl rfl (fun b1 => ?_)
 refine alc rfl zl25 rfl (fun b2 => ?_)
 refine sy_seq ?_
 refine sy_tx' [0, 1, 2, 3, 4] rfl ?_
 refine sp rfl (PE.fieldAddr fo25_3 rfl) rfl ?_
 refine spL rfl rfl (lh sc23 rfl rfl) rfl ?_
 refine cl rfl cal71 rfl rfl (c_dup_bin b.bins ab cb hl _ _) ?_
 rintro _ _ _ ⟨o, rfl, ho, rfl, rfl⟩
 obtain ⟨bo, cap, junk, hfs, hG⟩ := o.own ho
 rw [hfs, hG, brows_len]
 refine Sy.heap (H' := (bo, cel 45 ((brows b.bins).flatten ++ junk)) :: (b2, cel 25 (btl zbarn (.slice none 0 0))) :: (b1, cel 25 (btl b (b.sl ab cb))) :: H) (fun w h => h) ?_
 refine sp rfl (PE.fieldAddr fo25_3 rfl) rfl ?_
 refine sto rfl rfl rfl cn23 rfl rfl rfl rfl ?_
 refine sy_seq ?_
 refine sy_tx' [0, 1] rfl ?_
 refine spL rfl rfl (lhA (btl b (b.sl (some ⟨bo, 0, none⟩) cap)) ag25 rfl rfl rfl) rfl ?_
 refine sto rfl rfl rfl cn25 rfl rfl rfl rfl ?_
 refine sy_ret ?_
 exact sy_return (vs := [_]) rfl (.cons (RV.cell rfl (lhA (btl b (b.sl (some ⟨bo, 0, none⟩) cap)) ag25 rfl rfl rfl)) .nil) rfl ⟨bo, cap, junk, rfl, rfl, rfl⟩ (fun w h => (h.del b2).del b1)
theorem c_theirs (b : Barn) (ab : Option Addr) (cb : Nat) (hl : b.bins.length ≤ 4398046511104) (H : Heap) (R : Facts) [hB : MemRows ab 4 (brows b.bins) R] :
    Fn Try.prog 20 [b.v (b.sl ab cb)] H R (fun v H' R' => ∃ ax cx, v = b.v (b.sl ax cx) ∧ H' = H ∧ R' = RowsA ax 4 (brows b.bins) :: R) := by
 refine fn_of Try.func20 rfl Try.ntmps20 rfl ?_
 refine sy_seq ?_
 refine sy_tx' [0, 1] rfl ?_
 refine bx rfl rfl rfl (fun b1 => ?_)
 refine alc rfl zl33 rfl (fun b2 => ?_)
 refine sy_seq ?_
 refine sy_tx' [0, 1, 2, 3, 4, 5, 6, 7, 8] rfl ?_
 refine sp rfl (PE.fieldAddr fo25_0 rfl) rfl ?_
 refine spL rfl rfl (lh sc3 rfl rfl) rfl ?_
 refine sp rfl (PE.fieldAddr fo25_1 rfl) rfl ?_
 refine spL rfl rfl (lh sc3 rfl rfl) rfl ?_
 refine sp rfl (PE.fieldAddr fo25_2 rfl) rfl ?_
 refine spL rfl rfl (lhA [_, _, _, _, _, _] ag22 rfl rfl rfl) rfl ?_
 refine sp rfl (PE.build (out := btl b (.slice none 0 0)) pl33 zl33 rfl rfl) rfl ?_
 refine alc rfl zl33 rfl (fun b3 => ?_)
 refine sto rfl rfl rfl cn33 rfl rfl rfl rfl ?_
 refine sy_seq ?_
 refine sy_seq ?_
 refine sy_tx' [0, 1, 2, 3] rfl ?_
 refine sp rfl (PE.fieldAddr fo25_3 rfl) rfl ?_
 refine spL rfl rfl (lh sc23 rfl rfl) rfl ?_
 refine sp rfl (PE.lenSl isl23 rfl) rfl ?_
 refine sp rfl (PE.move rfl) rfl ?_
 refine sy_block ?_
 refine sy_loop (ι := (k : {k : Nat // k ≤ b.bins.length}) × OSl 113 4 (brows (b.bins.take k.1))) (fun x => ⟨[(1, .pointer (some ⟨b1, 0, none⟩)), (2, .pointer (some ⟨b2, 0, none⟩)), (3, .pointer (some ⟨b3, 0, none⟩)), (14, b.sl ab cb), (15, .int .i64 b.bins.length), (16, .int .i64 x.1.1)], x.2.G ++ (b3, cel 33 (btl b x.2.fs)) :: (b2, cel 33 (btl zbarn (.slice none 0 0))) :: (b1, cel 25 (btl b (b.sl ab cb))) :: H, R⟩) (fun x => b.bins.length - x.1.1) ⟨⟨0, by omega⟩, OSl.nil _ _⟩ ?_ (fun x => ?_)
 exact sy_at (by repeat' first | exact Sub.nil | apply Sub.cons | rfl | (simp [lk]; omega)) (fun _ h => h)
 obtain ⟨⟨k, hk⟩, o⟩ := x
 dsimp only at hk o ⊢
 refine sy_seq ?_
 refine sy_tx' [0] rfl ?_
 refine sp rfl (PE.lss rfl rfl) rfl ?_
 refine sy_seq ?_
 refine sy_cond rfl (fun hc0 => ?_) (fun hc0 => ?_)
 try simp only [decide_eq_true_eq, decide_eq_false_iff_not, Bool.and_eq_true, Bool.or_eq_true, Bool.not_eq_true', Int.not_le, Int.not_lt] at hc0
 obtain ⟨x, hx⟩ : ∃ x, b.bins[k]? = some x := ⟨_, List.getElem?_eq_getElem (by omega)⟩
 refine sy_addr (a := ab) (sz := 4) (rows := brows b.bins) (by intro h0; simp [brows] at h0; simp [h0] at hx) (fun ba oa he => ?_)
 subst he
 refine sy_skip ?_
 refine sy_seq ?_
 refine sy_block ?_
 refine sy_seq ?_
 refine sy_tx' [0, 1, 2, 3] rfl ?_
 refine sp rfl (PE.indexAddr el23 rfl rfl (by omega) (by omega)) rfl ?_
 refine spL rfl rfl (lfA ag45 (row := brow x) (br_get hx) rfl) rfl ?_
 refine alc rfl zl45 rfl (fun b5 => ?_)
 refine sto rfl rfl rfl cn45 rfl rfl rfl rfl ?_
 refine sy_tx' [0, 1, 2, 3, 4, 5, 6] rfl ?_
 refine sp rfl (PE.fieldAddr fo33_3 rfl) rfl ?_
 refine spL rfl rfl (lh sc31 rfl rfl) rfl ?_
 refine spL rfl rfl (lhA (brow x) ag45 rfl rfl rfl) rfl ?_
 refine bsl (out := [_, _, _, _]) rfl sl31 zl113 rfl rfl rfl rfl rfl rfl (fun b23 => ?_)
 refine apO (o) rfl ap31 rfl rfl (rowsH (row := brow x) rfl) rfl rfl ((by rw [brows_len, List.length_take]; simp only [List.length_singleton]; omega)) rfl (fun o24 => ?_)
 refine sp rfl (PE.fieldAddr fo33_3 rfl) rfl ?_
 refine stoE (l' := btl b o24.fs) rfl rfl rfl cn31 rfl (by rw [o24.cells.1]; first | done | rfl) (by rw [o24.cells.1]; simp [o24.cells.2]) (by rw [o24.cells.1]; first | done | rfl) (by rw [o24.cells.1]; first | done | exact Nat.le_of_ble_eq_true rfl) ?_
 refine sy_tx' [0, 1] rfl ?_
 refine sp rfl (PE.add rfl rfl (by omega)) rfl ?_
 refine sp rfl (PE.move rfl) rfl ?_
 exact sy_next ⟨⟨k + 1, by omega⟩, o24.cast (by rw [take_snoc hx, brows_app]; rfl)⟩ (by dsimp only; omega) (by repeat' first | exact Sub.nil | apply Sub.cons | rfl | (simp [lk]; omega)) (fun w h => (h.del b23).del b5)
 try simp only [decide_eq_true_eq, decide_eq_false_iff_not, Bool.and_eq_true, Bool.or_eq_true, Bool.not_eq_true', Int.not_le, Int.not_lt] at hc0
 obtain rfl : k = b.bins.length := by omega
 obtain ⟨p, hpf, hpg⟩ : ∃ p : OSl 113 4 (brows b.bins), p.fs = o.fs ∧ p.G = o.G := ⟨o.cast (by rw [List.take_length]), rfl, rfl⟩
 rw [← hpf]
 refine Sy.heap (fun w h => by rw [← hpg] at h; exact h) ?_
 obtain ⟨ax, cx, he, hf⟩ := p.freeze
 rw [he, brows_len]
 refine Sy.heap (fun w h => hf h) ?_
 clear he hf hpf hpg
 refine sy_exit ?_
 repeat refine sy_tx ?_
 refine sy_bx ?_
 refine sy_seq ?_
 refine sy_tx' [0, 1] rfl ?_
 refine spL rfl rfl (lhA (btl b (b.sl ax cx)) ag33 rfl rfl rfl) rfl ?_
 refine sto rfl rfl rfl cn33 rfl rfl rfl rfl ?_
 refine sy_ret ?_
 exact sy_return (vs := [_]) rfl (.cons (RV.cell rfl (lhA (btl b (b.sl ax cx)) ag33 rfl rfl rfl)) .nil) rfl ⟨ax, cx, rfl, rfl, rfl⟩ (fun w h => ((h.del b3).del b2).del b1)
theorem c_same (a : Barn) (aa : Option Addr) (ca : Nat) (b : Barn) (ab : Option Addr) (cb : Nat) (hla : a.bins.length ≤ 9223372036854775807) (hlb : b.bins.length ≤ 9223372036854775807) (hra : a.rise.length = 6) (hrb : b.rise.length = 6) (H : Heap) (R : Facts) [hA : MemRows aa 4 (brows a.bins) R] [hB : MemRows ab 4 (brows b.bins) R] :
    FnV Try.prog 31 [a.v (a.sl aa ca), b.v (b.sl ab cb)] H R (.bool (sameB a b)) := by
 refine fn_of Try.func31 rfl Try.ntmps31 rfl ?_
 refine sy_seq ?_
 refine sy_tx' [0, 1, 2] rfl ?_
 refine bx rfl rfl rfl (fun b2 => ?_)
 refine bx rfl rfl rfl (fun b3 => ?_)
 refine sp rfl (PE.assign rfl) rfl ?_
 refine sy_seq ?_
 refine sy_tx' [0, 1, 2, 3, 4, 5, 6, 7, 8, 9, 10, 11, 12, 13, 14, 15, 16, 17, 18, 19, 20, 21, 22, 23, 24, 25, 26] rfl ?_
 refine sp rfl (PE.fieldAddr fo25_0 rfl) rfl ?_
 refine spL rfl rfl (lh sc3 rfl rfl) rfl ?_
 refine sp rfl (PE.fieldAddr fo25_0 rfl) rfl ?_
 refine spL rfl rfl (lh sc3 rfl rfl) rfl ?_
 refine sp rfl (PE.eql rfl rfl) rfl ?_
 refine sp rfl (PE.move rfl) rfl ?_
 refine sy_case (t := 10) rfl (fun g10 => ?_) (fun g10 => ?_)
 refine spG rfl rfl rfl rfl (PE.fieldAddr fo25_1 rfl) rfl ?_
 refine spLG rfl rfl rfl rfl rfl (lh sc3 rfl rfl) rfl ?_
 refine spG rfl rfl rfl rfl (PE.fieldAddr fo25_1 rfl) rfl ?_
 refine spLG rfl rfl rfl rfl rfl (lh sc3 rfl rfl) rfl ?_
 refine spG rfl rfl rfl rfl (PE.eql rfl rfl) rfl ?_
 refine sp rfl (PE.pick rfl rfl rfl) rfl ?_
 refine sp rfl (PE.move rfl) rfl ?_
 refine sy_case (t := 17) rfl (fun g17 => ?_) (fun g17 => ?_)
 refine spG rfl rfl rfl rfl (PE.fieldAddr fo25_2 rfl) rfl ?_
 refine spLG rfl rfl rfl rfl rfl (lhA [_, _, _, _, _, _] ag22 rfl rfl rfl) rfl ?_
 refine spG rfl rfl rfl rfl (PE.fieldAddr fo25_2 rfl) rfl ?_
 refine spLG rfl rfl rfl rfl rfl (lhA [_, _, _, _, _, _] ag22 rfl rfl rfl) rfl ?_
 refine spG rfl rfl rfl rfl (PE.eqlAgg [na a.rise 0, na a.rise 1, na a.rise 2, na a.rise 3, na a.rise 4, na a.rise 5] [na b.rise 0, na b.rise 1, na b.rise 2, na b.rise 3, na b.rise 4, na b.rise 5] (eqB_ok 10000 22 true 6 eqf22) eqg22 rfl rfl rfl rfl) rfl ?_
 refine sp rfl (PE.pick rfl rfl rfl) rfl ?_
 refine sp rfl (PE.move rfl) rfl ?_
 refine sy_case (t := 24) rfl (fun g24 => ?_) (fun g24 => ?_)
 refine spG rfl rfl rfl rfl (PE.fieldAddr fo25_3 rfl) rfl ?_
 refine spLG rfl rfl rfl rfl rfl (lh sc23 rfl rfl) rfl ?_
 refine spG rfl rfl rfl rfl (PE.fieldAddr fo25_3 rfl) rfl ?_
 refine spLG rfl rfl rfl rfl rfl (lh sc23 rfl rfl) rfl ?_
 refine clVG rfl rfl rfl rfl cal81 rfl rfl (c_Eq_bin a.bins b.bins aa ab ca cb hla hlb _ _) ?_
 refine sp rfl (PE.pick rfl rfl rfl) rfl ?_
 refine sp rfl (PE.assign rfl) rfl ?_
 refine sy_ret ?_
 exact sy_return (vs := [_]) rfl (.cons (RV.tmp rfl) .nil) rfl ⟨by simp only [retV, sameB, ← rise_eq hra hrb]; first | (rw [g10, g17, g24]; rfl) | (rw [g10, g17]; rfl) | (rw [g10]; rfl), rfl, rfl⟩ drp
 repeat refine spN rfl rfl rfl rfl rfl rfl rfl rfl ?_
 refine sp rfl (PE.pick rfl rfl rfl) rfl ?_
 refine sp rfl (PE.assign rfl) rfl ?_
 refine sy_ret ?_
 exact sy_return (vs := [_]) rfl (.cons (RV.tmp rfl) .nil) rfl ⟨by simp only [retV, sameB, ← rise_eq hra hrb]; first | (rw [g10, g17, g24]; rfl) | (rw [g10, g17]; rfl) | (rw [g10]; rfl), rfl, rfl⟩ drp
 repeat refine spN rfl rfl rfl rfl rfl rfl rfl rfl ?_
 refine sp rfl (PE.pick rfl rfl rfl) rfl ?_
 refine sp rfl (PE.move rfl) rfl ?_
 repeat refine spN rfl rfl rfl rfl rfl rfl rfl rfl ?_
 refine sp rfl (PE.pick rfl rfl rfl) rfl ?_
 refine sp rfl (PE.assign rfl) rfl ?_
 refine sy_ret ?_
 exact sy_return (vs := [_]) rfl (.cons (RV.tmp rfl) .nil) rfl ⟨by simp only [retV, sameB, ← rise_eq hra hrb]; first | (rw [g10, g17, g24]; rfl) | (rw [g10, g17]; rfl) | (rw [g10]; rfl), rfl, rfl⟩ drp
 repeat refine spN rfl rfl rfl rfl rfl rfl rfl rfl ?_
 refine sp rfl (PE.pick rfl rfl rfl) rfl ?_
 refine sp rfl (PE.move rfl) rfl ?_
 repeat refine spN rfl rfl rfl rfl rfl rfl rfl rfl ?_
 refine sp rfl (PE.pick rfl rfl rfl) rfl ?_
 refine sp rfl (PE.move rfl) rfl ?_
 repeat refine spN rfl rfl rfl rfl rfl rfl rfl rfl ?_
 refine sp rfl (PE.pick rfl rfl rfl) rfl ?_
 refine sp rfl (PE.assign rfl) rfl ?_
 refine sy_ret ?_
 exact sy_return (vs := [_]) rfl (.cons (RV.tmp rfl) .nil) rfl ⟨by simp only [retV, sameB, ← rise_eq hra hrb]; first | (rw [g10, g17, g24]; rfl) | (rw [g10, g17]; rfl) | (rw [g10]; rfl), rfl, rfl⟩ drp
theorem c_off (n lo hi : Int) (H : Heap) (R : Facts) :
    FnV Try.prog 72 [.int .i64 n, .int .i64 lo, .int .i64 hi] H R (.bool (nin n lo hi)) := by
 refine fn_of Try.func72 rfl Try.ntmps72 rfl ?_
 refine sy_seq ?_
 refine sy_tx' [0] rfl ?_
 refine sp rfl (PE.assign rfl) rfl ?_
 refine sy_seq ?_
 refine sy_tx' [0, 1, 2, 3, 4, 5, 6, 7, 8] rfl ?_
 refine sp rfl (PE.move rfl) rfl ?_
 refine sp rfl (PE.move rfl) rfl ?_
 refine sp rfl (PE.lss rfl rfl) rfl ?_
 refine sp rfl (PE.move rfl) rfl ?_
 refine sy_case (t := 10) rfl (fun g10 => ?_) (fun g10 => ?_)
 repeat refine spN rfl rfl rfl rfl rfl rfl rfl rfl ?_
 refine sp rfl (PE.pick rfl rfl rfl) rfl ?_
 refine sp rfl (PE.assign rfl) rfl ?_
 refine sy_ret ?_
 exact sy_return (vs := [_]) rfl (.cons (RV.tmp rfl) .nil) rfl ⟨by simp only [retV, nin]; first | (rw [g10]; rfl) | rfl, rfl, rfl⟩ drp
 refine spG rfl rfl rfl rfl (PE.move rfl) rfl ?_
 refine spG rfl rfl rfl rfl (PE.move rfl) rfl ?_
 refine spG rfl rfl rfl rfl (PE.gtr rfl rfl) rfl ?_
 refine sp rfl (PE.pick rfl rfl rfl) rfl ?_
 refine sp rfl (PE.assign rfl) rfl ?_
 refine sy_ret ?_
 exact sy_return (vs := [_]) rfl (.cons (RV.tmp rfl) .nil) rfl ⟨by simp only [retV, nin]; first | (rw [g10]; rfl) | rfl, rfl, rfl⟩ drp
end Go.Proofs.Ytelegnmfhjfbaaa
namespace Go.Proofs.Ytelegnmfhjfbaaa
set_option linter.unusedSimpArgs false
set_option linter.unusedVariables false
open Go
theorem ag113 : aggN Try.prog 113 = some 4 := by kernel_rfl
theorem cal48 : cal Try.prog 48 = true := by kernel_rfl
theorem cal72 : cal Try.prog 72 = true := by kernel_rfl
theorem cn113 : cellN Try.prog 113 = some 4 := by kernel_rfl
theorem el31 : elN Try.prog 31 = some 4 := by kernel_rfl
theorem fo113_0 : fOff Try.prog 113 0 = some 0 := by kernel_rfl
theorem fo113_1 : fOff Try.prog 113 1 = some 1 := by kernel_rfl
theorem fo113_2 : fOff Try.prog 113 2 = some 2 := by kernel_rfl
theorem fo33_0 : fOff Try.prog 33 0 = some 0 := by kernel_rfl
theorem fo33_1 : fOff Try.prog 33 1 = some 1 := by kernel_rfl
theorem fo33_2 : fOff Try.prog 33 2 = some 2 := by kernel_rfl
theorem isl31 : isSl Try.prog 31 = true := by kernel_rfl
theorem daysB_end {r m w v : Int} {n : Nat} (hr : 0 < r) (hv : v = w + (n : Int) * r) (h : n = 0 ∨ v ≤ m) (h2 : m < v + r) : daysB r m w = n := by
  have hn : 0 ≤ (n : Int) * r := Int.mul_nonneg (by omega) (by omega)
  by_cases hw : w ≤ m
  · exact daysB_step hr (by rcases h with rfl | h <;> simp_all) (by rw [Int.add_mul]; omega) hw
  · obtain rfl : n = 0 := by rcases h with h | h <;> omega
    unfold daysB
    rw [decide_eq_false (by omega), cond_false, decide_eq_true (by omega), cond_true]; rfl
theorem ck2 {b : Barn} (h : nin (b.bins.length : Int) 1 4 = true) : b.check = 2 := by
  unfold Barn.check; rw [nin_in] at h; rw [h]; rfl
theorem ck3 {b : Barn} (h : nin (b.bins.length : Int) 1 4 = false) (h1 : nin b.cool 0 60 = true ∨ nin b.gangs 0 3 = true) : b.check = 3 := by
  unfold Barn.check; rw [nin_in] at h h1; rw [nin_in] at h1; rw [h]
  rcases h1 with h1 | h1 <;> rw [h1] <;> simp
theorem ck3r {b : Barn} (h : nin (b.bins.length : Int) 1 4 = false) (h1 : nin b.cool 0 60 = false) (h2 : nin b.gangs 0 3 = false) {k : Nat} (hk : k < b.rise.length) (h3 : na b.rise k ≠ 0) (h4 : nin (na b.rise k) 6 20 = true) : b.check = 3 := by
  have e : b.rise.all riseOk = false := by
    rw [List.all_eq_false]
    refine ⟨_, na_mem hk, ?_⟩
    rw [nin_in] at h4
    unfold riseOk
    rw [decide_eq_false h3, Bool.false_or]
    rw [Bool.not_eq_true'] at h4
    rw [h4]; decide
  unfold Barn.check; rw [nin_in] at h h1 h2; rw [h, h1, h2, e]; rfl
theorem riseOk_of {n : Int} (h : n = 0 ∨ nin n 6 20 = false) : riseOk n = true := by
  unfold riseOk
  rcases h with h | h
  · rw [decide_eq_true h, Bool.true_or]
  · rw [nin_in, Bool.not_eq_false'] at h; rw [h, Bool.or_true]
theorem bin_bad {x : HBin} (h : nin x.mark 0 60 = true ∨ nin x.warm 0 x.mark = true ∨ nin x.lo 0 5 = true ∨ nin x.hi 0 5 = true) : x.ok = false := by
  simp only [nin_in, Bool.not_eq_true'] at h
  unfold HBin.ok
  rcases h with h | h | h | h <;> rw [h] <;> simp
theorem bin_good {x : HBin} (h1 : nin x.mark 0 60 = false) (h2 : nin x.warm 0 x.mark = false) (h3 : nin x.lo 0 5 = false) (h4 : nin x.hi 0 5 = false) : x.ok = true := by
  simp only [nin_in, Bool.not_eq_false'] at h1 h2 h3 h4
  unfold HBin.ok; rw [h1, h2, h3, h4]; rfl
structure CkA (b : Barn) : Prop where
  many : nin (b.bins.length : Int) 1 4 = false
  cool : nin b.cool 0 60 = false
  gangs : nin b.gangs 0 3 = false
theorem CkA.at_bin {b : Barn} (h : CkA b) (hr : b.rise.all riseOk = true) {x : HBin} (hx : x ∈ b.bins) (hb : x.ok = false) : b.check = 3 := by
  have e : b.bins.all HBin.ok = false := by rw [List.all_eq_false]; exact ⟨x, hx, by rw [hb]; decide⟩
  have h1 := h.many; have h2 := h.cool; have h3 := h.gangs
  unfold Barn.check; rw [nin_in] at h1 h2 h3; rw [h1, h2, h3, hr, e]; rfl
theorem CkA.rest {b : Barn} (h : CkA b) (hr : b.rise.all riseOk = true) (hb : b.bins.all HBin.ok = true) : b.check = bif !(srt b.rise) || !(b.bins.all fun x => decide (x.lo ≤ x.hi)) then 4 else 0 := by
  have h1 := h.many; have h2 := h.cool; have h3 := h.gangs
  unfold Barn.check; rw [nin_in] at h1 h2 h3; rw [h1, h2, h3, hr, hb]; rfl
theorem na_get' {l : List Int} {k : Nat} {y : Int} (h : l[k]? = some y) : na l k = y := by unfold na; rw [List.getD_eq_getElem?_getD, h]; rfl
theorem all_nat {l : List Int} {p : Int → Bool} (h : ∀ k, k < l.length → p (na l k) = true) : l.all p = true := by
  rw [List.all_eq_true]
  intro x hx
  obtain ⟨k, hk, rfl⟩ := List.mem_iff_getElem.1 hx
  have := h k hk
  rwa [na_get' (List.getElem?_eq_getElem hk)] at this
theorem all_bins {l : List HBin} {p : HBin → Bool} (h : ∀ (k : Nat) (x : HBin), l[k]? = some x → p x = true) : l.all p = true := by
  rw [List.all_eq_true]
  intro x hx
  obtain ⟨k, hk, rfl⟩ := List.mem_iff_getElem.1 hx
  exact h k _ (List.getElem?_eq_getElem hk)
theorem c_rLeft (b : Barn) (ab : Option Addr) (cb : Nat) (hok : b.ok) (k : Nat) (x : HBin) (hx : b.bins[k]? = some x) (w : Int) (hw : 0 ≤ w ∧ w ≤ 60) (H : Heap) (R : Facts) [hB : MemRows ab 4 (brows b.bins) R] :
    FnV Try.prog 48 [b.v (b.sl ab cb), .int .i64 k, .int .i64 w] H R (.int .i64 (b.days x w)) := by
 have hk := (List.getElem?_eq_some_iff.1 hx).1
 have hm := List.mem_of_getElem? hx
 have hh := (hok.bins x hm).2.2.2
 have hmk := (hok.bins x hm).1
 have hwr : na b.rise x.hi.toNat = 0 ∨ (6 ≤ na b.rise x.hi.toNat ∧ na b.rise x.hi.toNat ≤ 20) := b.worst_range hok hm
 refine fn_of Try.func48 rfl Try.ntmps48 rfl ?_
 refine sy_seq ?_
 refine sy_tx' [0, 1] rfl ?_
 refine bx rfl rfl rfl (fun b3 => ?_)
 refine sp rfl (PE.assign rfl) rfl ?_
 refine sy_seq ?_
 refine sy_tx' [0, 1, 2, 3, 4, 5, 6, 7, 8, 9, 10, 11] rfl ?_
 refine sp rfl (PE.fieldAddr fo33_3 rfl) rfl ?_
 refine spL rfl rfl (lh sc31 rfl rfl) rfl ?_
 refine sp rfl (PE.move rfl) rfl ?_
 refine sy_addr (a := ab) (sz := 4) (rows := brows b.bins) (by intro h0; simp [brows] at h0; simp [h0] at hx) (fun ba oa he => ?_)
 subst he
 refine sp rfl (PE.indexAddr el31 rfl rfl (by omega) (by omega)) rfl ?_
 refine sp rfl (PE.fieldAddr fo113_2 rfl) rfl ?_
 refine sp rfl (PE.fieldAddr fo43_1 rfl) rfl ?_
 refine spL rfl rfl (lf (j := 3) sc3 (br_get hx) rfl) rfl ?_
 refine sp rfl (PE.fieldAddr fo33_2 rfl) rfl ?_
 refine sp rfl (PE.indexArr ar22 rfl rfl (by omega) (by omega)) rfl ?_
 refine spL rfl rfl (lh sc3 rfl (by rw [show 0 + 2 + x.hi.toNat * 1 = 2 + x.hi.toNat by omega]; exact btl_rise (by omega))) rfl ?_
 refine sp rfl (PE.assign rfl) rfl ?_
 refine sp rfl (PE.assign rfl) rfl ?_
 refine sy_seq ?_
 refine sy_seq ?_
 refine sy_tx' [0, 1] rfl ?_
 refine sp rfl (PE.move rfl) rfl ?_
 refine sp rfl (PE.eql rfl rfl) rfl ?_
 refine sy_cond rfl (fun hc0 => ?_) (fun hc0 => ?_)
 try simp only [decide_eq_true_eq, decide_eq_false_iff_not, Bool.and_eq_true, Bool.or_eq_true, Bool.not_eq_true', Int.not_le, Int.not_lt] at hc0
 refine sy_seq ?_
 refine sy_tx' [0] rfl ?_
 refine sp rfl (PE.assign rfl) rfl ?_
 refine sy_ret ?_
 exact sy_return (vs := [_]) rfl (.cons (RV.tmp rfl) .nil) rfl ⟨by simp only [retV]; first | (unfold Barn.days daysB Barn.worst; rw [decide_eq_true hc0]; rfl) | rw [hde], rfl, rfl⟩ drp
 try simp only [decide_eq_true_eq, decide_eq_false_iff_not, Bool.and_eq_true, Bool.or_eq_true, Bool.not_eq_true', Int.not_le, Int.not_lt] at hc0
 refine sy_skip ?_
 refine sy_seq ?_
 refine sy_block ?_
 refine sy_loop (ι := {v : Int × Nat // v.1 = w + (v.2 : Int) * na b.rise x.hi.toNat ∧ (v.2 = 0 ∨ v.1 ≤ x.mark) ∧ (v.2 : Int) ≤ v.1 ∧ v.1 ≤ 60}) (fun v => ⟨[(1, .int .i64 k), (2, .int .i64 v.1.1), (3, .pointer (some ⟨b3, 0, none⟩)), (7, .int .i64 (na b.rise x.hi.toNat)), (8, .int .i64 v.1.2)], (b3, cel 33 (btl b (b.sl (some ⟨ba, oa, none⟩) cb))) :: H, R⟩) (fun v => (x.mark - v.1.1).toNat) ⟨(w, 0), by simp, .inl rfl, by omega, by omega⟩ ?_ (fun v => ?_)
 exact sy_at (by repeat' first | exact Sub.nil | apply Sub.cons | rfl | (simp [lk]; omega)) (fun _ h => h)
 obtain ⟨⟨v, n⟩, hv, hv2, hv3, hv4⟩ := v
 dsimp only at hv hv2 hv3 hv4 ⊢
 refine sy_seq ?_
 refine sy_seq ?_
 refine sy_tx' [0, 1, 2, 3, 4, 5, 6, 7, 8, 9] rfl ?_
 refine sp rfl (PE.move rfl) rfl ?_
 refine sp rfl (PE.move rfl) rfl ?_
 refine sp rfl (PE.add rfl rfl (by omega)) rfl ?_
 refine sp rfl (PE.fieldAddr fo33_3 rfl) rfl ?_
 refine spL rfl rfl (lh sc31 rfl rfl) rfl ?_
 refine sp rfl (PE.move rfl) rfl ?_
 refine sp rfl (PE.indexAddr el31 rfl rfl (by omega) (by omega)) rfl ?_
 refine sp rfl (PE.fieldAddr fo113_1 rfl) rfl ?_
 refine spL rfl rfl (lf (j := 1) sc3 (br_get hx) rfl) rfl ?_
 refine sp rfl (PE.leq rfl rfl) rfl ?_
 refine sy_cond rfl (fun hc1 => ?_) (fun hc1 => ?_)
 try simp only [decide_eq_true_eq, decide_eq_false_iff_not, Bool.and_eq_true, Bool.or_eq_true, Bool.not_eq_true', Int.not_le, Int.not_lt] at hc1
 refine sy_skip ?_
 refine sy_block ?_
 refine sy_seq ?_
 refine sy_tx' [0, 1, 2, 3] rfl ?_
 refine sp rfl (PE.move rfl) rfl ?_
 refine sp rfl (PE.move rfl) rfl ?_
 refine sp rfl (PE.add rfl rfl (by omega)) rfl ?_
 refine sp rfl (PE.assign rfl) rfl ?_
 refine sy_tx' [0, 1, 2] rfl ?_
 refine sp rfl (PE.move rfl) rfl ?_
 refine sp rfl (PE.add rfl rfl (by omega)) rfl ?_
 refine sp rfl (PE.assign rfl) rfl ?_
 exact sy_next ⟨(v + na b.rise x.hi.toNat, n + 1), by show v + _ = w + ((n : Int) + 1) * _; rw [Int.add_mul, Int.one_mul, hv]; omega, .inr (by dsimp only; omega), by dsimp only; omega, by dsimp only; omega⟩ (by dsimp only; omega) (by repeat' first | exact Sub.nil | apply Sub.cons | rfl | (simp [lk]; omega)) (fun _ h => h)
 try simp only [decide_eq_true_eq, decide_eq_false_iff_not, Bool.and_eq_true, Bool.or_eq_true, Bool.not_eq_true', Int.not_le, Int.not_lt] at hc1
 have hde : b.days x w = n := (daysB_end (r := na b.rise x.hi.toNat) (by omega) hv hv2 (by omega) : daysB (na b.rise x.hi.toNat) x.mark w = n)
 refine sy_exit ?_
 repeat refine sy_tx ?_
 refine sy_bx ?_
 refine sy_seq ?_
 refine sy_tx' [0, 1] rfl ?_
 refine sp rfl (PE.move rfl) rfl ?_
 refine sp rfl (PE.assign rfl) rfl ?_
 refine sy_ret ?_
 exact sy_return (vs := [_]) rfl (.cons (RV.tmp rfl) .nil) rfl ⟨by simp only [retV]; first | (unfold Barn.days daysB Barn.worst; rw [decide_eq_true hc0]; rfl) | rw [hde], rfl, rfl⟩ drp
theorem c_rLasts (b : Barn) (ab : Option Addr) (cb : Nat) (hok : b.ok) (k : Nat) (x : HBin) (hx : b.bins[k]? = some x) (H : Heap) (R : Facts) [hB : MemRows ab 4 (brows b.bins) R] :
    FnV Try.prog 49 [b.v (b.sl ab cb), .int .i64 k] H R (.int .i64 (b.days x b.cool)) := by
 refine fn_of Try.func49 rfl Try.ntmps49 rfl ?_
 refine sy_seq ?_
 refine sy_tx' [0, 1] rfl ?_
 refine bx rfl rfl rfl (fun b2 => ?_)
 refine sp rfl (PE.assign rfl) rfl ?_
 refine sy_seq ?_
 refine sy_tx' [0, 1, 2, 3, 4, 5] rfl ?_
 refine spL rfl rfl (lhA (btl b (b.sl ab cb)) ag33 rfl rfl rfl) rfl ?_
 refine sp rfl (PE.move rfl) rfl ?_
 refine sp rfl (PE.fieldAddr fo33_0 rfl) rfl ?_
 refine spL rfl rfl (lh sc3 rfl rfl) rfl ?_
 refine clV rfl cal48 rfl rfl (c_rLeft b ab cb hok k x hx b.cool hok.cool _ _) ?_
 refine sp rfl (PE.assign rfl) rfl ?_
 refine sy_ret ?_
 exact sy_return (vs := [_]) rfl (.cons (RV.tmp rfl) .nil) rfl ⟨rfl, rfl, rfl⟩ drp
theorem c_rCheck (b : Barn) (ab : Option Addr) (cb : Nat) (hl : b.bins.length ≤ 9223372036854775807) (hr : b.rise.length = 6) (H : Heap) (R : Facts) [hB : MemRows ab 4 (brows b.bins) R] :
    FnV Try.prog 22 [b.v (b.sl ab cb)] H R (.int .i64 b.check) := by
 refine fn_of Try.func22 rfl Try.ntmps22 rfl ?_
 refine sy_seq ?_
 refine sy_tx' [0, 1] rfl ?_
 refine bx rfl rfl rfl (fun b1 => ?_)
 refine sp rfl (PE.assign rfl) rfl ?_
 refine sy_seq ?_
 refine sy_seq ?_
 refine sy_tx' [0, 1, 2, 3] rfl ?_
 refine sp rfl (PE.fieldAddr fo33_3 rfl) rfl ?_
 refine spL rfl rfl (lh sc31 rfl rfl) rfl ?_
 refine sp rfl (PE.lenSl isl31 rfl) rfl ?_
 refine clV rfl cal72 rfl rfl (c_off _ _ _ _ _) ?_
 refine sy_cond rfl (fun hc0 => ?_) (fun hc0 => ?_)
 refine sy_seq ?_
 refine sy_tx' [0] rfl ?_
 refine sp rfl (PE.assign rfl) rfl ?_
 refine sy_ret ?_
 exact sy_return (vs := [_]) rfl (.cons (RV.tmp rfl) .nil) rfl ⟨by simp only [retV]; rw [ck2 hc0], rfl, rfl⟩ drp
 refine sy_skip ?_
 refine sy_seq ?_
 refine sy_seq ?_
 refine sy_tx' [0, 1, 2, 3, 4, 5, 6, 7] rfl ?_
 refine sp rfl (PE.fieldAddr fo33_0 rfl) rfl ?_
 refine spL rfl rfl (lh sc3 rfl rfl) rfl ?_
 refine clV rfl cal72 rfl rfl (c_off _ _ _ _ _) ?_
 refine sp rfl (PE.move rfl) rfl ?_
 refine sy_case (t := 15) rfl (fun g15 => ?_) (fun g15 => ?_)
 repeat refine spN rfl rfl rfl rfl rfl rfl rfl rfl ?_
 refine sp rfl (PE.pick rfl rfl rfl) rfl ?_
 refine sy_condT rfl ?_
 refine sy_seq ?_
 refine sy_tx' [0] rfl ?_
 refine sp rfl (PE.assign rfl) rfl ?_
 refine sy_ret ?_
 exact sy_return (vs := [_]) rfl (.cons (RV.tmp rfl) .nil) rfl ⟨by simp only [retV]; rw [ck3 hc0 (.inl g15)], rfl, rfl⟩ drp
 refine spG rfl rfl rfl rfl (PE.fieldAddr fo33_1 rfl) rfl ?_
 refine spLG rfl rfl rfl rfl rfl (lh sc3 rfl rfl) rfl ?_
 refine clVG rfl rfl rfl rfl cal72 rfl rfl (c_off _ _ _ _ _) ?_
 refine sp rfl (PE.pick rfl rfl rfl) rfl ?_
 refine sy_cond rfl (fun hc1 => ?_) (fun hc1 => ?_)
 refine sy_seq ?_
 refine sy_tx' [0] rfl ?_
 refine sp rfl (PE.assign rfl) rfl ?_
 refine sy_ret ?_
 exact sy_return (vs := [_]) rfl (.cons (RV.tmp rfl) .nil) rfl ⟨by simp only [retV]; rw [ck3 hc0 (.inr hc1)], rfl, rfl⟩ drp
 have hA : CkA b := ⟨hc0, g15, hc1⟩
 refine sy_skip ?_
 refine sy_seq ?_
 refine sy_seq ?_
 refine sy_tx' [0] rfl ?_
 refine sp rfl (PE.assign rfl) rfl ?_
 refine sy_block ?_
 refine sy_loop (ι := {k : Nat // k ≤ 6 ∧ ∀ i, i < k → riseOk (na b.rise i) = true}) (fun k => ⟨[(1, .pointer (some ⟨b1, 0, none⟩)), (3, .int .i64 k.1)], (b1, cel 33 (btl b (b.sl ab cb))) :: H, R⟩) (fun k => 6 - k.1) ⟨0, by omega, fun i hi => by omega⟩ ?_ (fun k => ?_)
 exact sy_at (by repeat' first | exact Sub.nil | apply Sub.cons | rfl | (simp [lk]; omega)) (fun _ h => h)
 obtain ⟨k, hk, hin⟩ := k
 dsimp only at hk hin ⊢
 refine sy_seq ?_
 refine sy_seq ?_
 refine sy_tx' [0, 1] rfl ?_
 refine sp rfl (PE.move rfl) rfl ?_
 refine sp rfl (PE.lss rfl rfl) rfl ?_
 refine sy_cond rfl (fun hc2 => ?_) (fun hc2 => ?_)
 try simp only [decide_eq_true_eq, decide_eq_false_iff_not, Bool.and_eq_true, Bool.or_eq_true, Bool.not_eq_true', Int.not_le, Int.not_lt] at hc2
 refine sy_skip ?_
 refine sy_seq ?_
 refine sy_block ?_
 refine sy_seq ?_
 refine sy_tx' [0, 1, 2, 3, 4, 5, 6, 7, 8, 9, 10, 11] rfl ?_
 refine sp rfl (PE.move rfl) rfl ?_
 refine sp rfl (PE.fieldAddr fo33_2 rfl) rfl ?_
 refine sp rfl (PE.indexArr ar22 rfl rfl (by omega) (by omega)) rfl ?_
 refine spL rfl rfl (lh sc3 rfl (by rw [show 0 + 2 + ((k : Nat) : Int).toNat * 1 = 2 + k by omega]; exact btl_rise (by omega))) rfl ?_
 refine sp rfl (PE.neq rfl rfl) rfl ?_
 refine sp rfl (PE.move rfl) rfl ?_
 refine sy_case (t := 29) rfl (fun g29 => ?_) (fun g29 => ?_)
 try simp only [decide_eq_true_eq, decide_eq_false_iff_not, Bool.and_eq_true, Bool.or_eq_true, Bool.not_eq_true', Int.not_le, Int.not_lt] at g29
 refine spG rfl rfl rfl rfl (PE.move rfl) rfl ?_
 refine spG rfl rfl rfl rfl (PE.fieldAddr fo33_2 rfl) rfl ?_
 refine spG rfl rfl rfl rfl (PE.indexArr ar22 rfl rfl (by omega) (by omega)) rfl ?_
 refine spLG rfl rfl rfl rfl rfl (lh sc3 rfl (by rw [show 0 + 2 + ((k : Nat) : Int).toNat * 1 = 2 + k by omega]; exact btl_rise (by omega))) rfl ?_
 refine clVG rfl rfl rfl rfl cal72 rfl rfl (c_off _ _ _ _ _) ?_
 refine sp rfl (PE.pick rfl rfl rfl) rfl ?_
 refine sy_cond rfl (fun hc3 => ?_) (fun hc3 => ?_)
 refine sy_seq ?_
 refine sy_tx' [0] rfl ?_
 refine sp rfl (PE.assign rfl) rfl ?_
 refine sy_ret ?_
 exact sy_return (vs := [_]) rfl (.cons (RV.tmp rfl) .nil) rfl ⟨by simp only [retV]; rw [ck3r hA.many hA.cool hA.gangs (k := k) (by omega) g29 hc3], rfl, rfl⟩ drp
 have hro : riseOk (na b.rise k) = true := riseOk_of (.inr hc3)
 refine sy_skip ?_
 refine sy_tx' [0, 1, 2] rfl ?_
 refine sp rfl (PE.move rfl) rfl ?_
 refine sp rfl (PE.add rfl rfl (by omega)) rfl ?_
 refine sp rfl (PE.assign rfl) rfl ?_
 refine sy_next ⟨k + 1, by omega, fun i hi => ?_⟩ (by dsimp only; omega) (by repeat' first | exact Sub.nil | apply Sub.cons | rfl | (simp [lk]; omega)) (fun _ h => h)
 rcases Nat.lt_or_ge i k with h3 | h3
 · exact hin i h3
 · obtain rfl : i = k := by omega
   exact hro
 try simp only [decide_eq_true_eq, decide_eq_false_iff_not, Bool.and_eq_true, Bool.or_eq_true, Bool.not_eq_true', Int.not_le, Int.not_lt] at g29
 have hro : riseOk (na b.rise k) = true := riseOk_of (.inl (by omega))
 repeat refine spN rfl rfl rfl rfl rfl rfl rfl rfl ?_
 refine sp rfl (PE.pick rfl rfl rfl) rfl ?_
 refine sy_condF rfl ?_
 refine sy_skip ?_
 refine sy_tx' [0, 1, 2] rfl ?_
 refine sp rfl (PE.move rfl) rfl ?_
 refine sp rfl (PE.add rfl rfl (by omega)) rfl ?_
 refine sp rfl (PE.assign rfl) rfl ?_
 refine sy_next ⟨k + 1, by omega, fun i hi => ?_⟩ (by dsimp only; omega) (by repeat' first | exact Sub.nil | apply Sub.cons | rfl | (simp [lk]; omega)) (fun _ h => h)
 rcases Nat.lt_or_ge i k with h3 | h3
 · exact hin i h3
 · obtain rfl : i = k := by omega
   exact hro
 try simp only [decide_eq_true_eq, decide_eq_false_iff_not, Bool.and_eq_true, Bool.or_eq_true, Bool.not_eq_true', Int.not_le, Int.not_lt] at hc2
 obtain rfl : k = 6 := by omega
 have hra : b.rise.all riseOk = true := all_nat (fun i hi => hin i (by omega))
 refine sy_exit ?_
 repeat refine sy_tx ?_
 refine sy_bx ?_
 refine sy_seq ?_
 refine sy_seq ?_
 refine sy_tx' [0] rfl ?_
 refine sp rfl (PE.assign rfl) rfl ?_
 refine sy_block ?_
 refine sy_loop (ι := {k : Nat // k ≤ b.bins.length ∧ ∀ i, i < k → ∀ x, b.bins[i]? = some x → x.ok = true}) (fun k => ⟨[(1, .pointer (some ⟨b1, 0, none⟩)), (4, .int .i64 k.1)], (b1, cel 33 (btl b (b.sl ab cb))) :: H, R⟩) (fun k => b.bins.length - k.1) ⟨0, by omega, fun i hi => by omega⟩ ?_ (fun k => ?_)
 exact sy_at (by repeat' first | exact Sub.nil | apply Sub.cons | rfl | (simp [lk]; omega)) (fun _ h => h)
 obtain ⟨k, hk, hin⟩ := k
 dsimp only at hk hin ⊢
 refine sy_seq ?_
 refine sy_seq ?_
 refine sy_tx' [0, 1, 2, 3, 4] rfl ?_
 refine sp rfl (PE.move rfl) rfl ?_
 refine sp rfl (PE.fieldAddr fo33_3 rfl) rfl ?_
 refine spL rfl rfl (lh sc31 rfl rfl) rfl ?_
 refine sp rfl (PE.lenSl isl31 rfl) rfl ?_
 refine sp rfl (PE.lss rfl rfl) rfl ?_
 refine sy_cond rfl (fun hc4 => ?_) (fun hc4 => ?_)
 try simp only [decide_eq_true_eq, decide_eq_false_iff_not, Bool.and_eq_true, Bool.or_eq_true, Bool.not_eq_true', Int.not_le, Int.not_lt] at hc4
 obtain ⟨x, hx⟩ : ∃ x, b.bins[k]? = some x := ⟨_, List.getElem?_eq_getElem (by omega)⟩
 have hxm := List.mem_of_getElem? hx
 refine sy_addr (a := ab) (sz := 4) (rows := brows b.bins) (by intro h0; simp [brows] at h0; simp [h0] at hx) (fun ba oa he => ?_)
 subst he
 refine sy_skip ?_
 refine sy_seq ?_
 refine sy_block ?_
 refine sy_seq ?_
 refine sy_tx' [0, 1, 2, 3, 4, 5, 6] rfl ?_
 refine sp rfl (PE.fieldAddr fo33_3 rfl) rfl ?_
 refine spL rfl rfl (lh sc31 rfl rfl) rfl ?_
 refine sp rfl (PE.move rfl) rfl ?_
 refine sp rfl (PE.indexAddr el31 rfl rfl (by omega) (by omega)) rfl ?_
 refine spL rfl rfl (lfA ag113 (row := brow x) (br_get hx) rfl) rfl ?_
 refine alc rfl zl113 rfl (fun b5 => ?_)
 refine sto rfl rfl rfl cn113 rfl rfl rfl rfl ?_
 refine sy_seq ?_
 refine sy_tx' [0, 1, 2, 3, 4, 5, 6, 7, 8, 9, 10, 11, 12, 13, 14, 15, 16, 17, 18, 19, 20, 21] rfl ?_
 refine sp rfl (PE.fieldAddr fo113_1 rfl) rfl ?_
 refine spL rfl rfl (lh sc3 rfl rfl) rfl ?_
 refine clV rfl cal72 rfl rfl (c_off _ _ _ _ _) ?_
 refine sp rfl (PE.move rfl) rfl ?_
 refine sy_case (t := 51) rfl (fun g51 => ?_) (fun g51 => ?_)
 repeat refine spN rfl rfl rfl rfl rfl rfl rfl rfl ?_
 refine sp rfl (PE.pick rfl rfl rfl) rfl ?_
 refine sp rfl (PE.move rfl) rfl ?_
 repeat refine spN rfl rfl rfl rfl rfl rfl rfl rfl ?_
 refine sp rfl (PE.pick rfl rfl rfl) rfl ?_
 refine sp rfl (PE.move rfl) rfl ?_
 repeat refine spN rfl rfl rfl rfl rfl rfl rfl rfl ?_
 refine sp rfl (PE.pick rfl rfl rfl) rfl ?_
 refine sy_condT rfl ?_
 refine sy_seq ?_
 refine sy_tx' [0] rfl ?_
 refine sp rfl (PE.assign rfl) rfl ?_
 refine sy_ret ?_
 exact sy_return (vs := [_]) rfl (.cons (RV.tmp rfl) .nil) rfl ⟨by simp only [retV]; rw [hA.at_bin hra hxm (bin_bad (.inl g51))], rfl, rfl⟩ drp
 refine spG rfl rfl rfl rfl (PE.fieldAddr fo113_0 rfl) rfl ?_
 refine spLG rfl rfl rfl rfl rfl (lh sc3 rfl rfl) rfl ?_
 refine spG rfl rfl rfl rfl (PE.fieldAddr fo113_1 rfl) rfl ?_
 refine spLG rfl rfl rfl rfl rfl (lh sc3 rfl rfl) rfl ?_
 refine clVG rfl rfl rfl rfl cal72 rfl rfl (c_off _ _ _ _ _) ?_
 refine sp rfl (PE.pick rfl rfl rfl) rfl ?_
 refine sp rfl (PE.move rfl) rfl ?_
 refine sy_case (t := 58) rfl (fun g58 => ?_) (fun g58 => ?_)
 repeat refine spN rfl rfl rfl rfl rfl rfl rfl rfl ?_
 refine sp rfl (PE.pick rfl rfl rfl) rfl ?_
 refine sp rfl (PE.move rfl) rfl ?_
 repeat refine spN rfl rfl rfl rfl rfl rfl rfl rfl ?_
 refine sp rfl (PE.pick rfl rfl rfl) rfl ?_
 refine sy_condT rfl ?_
 refine sy_seq ?_
 refine sy_tx' [0] rfl ?_
 refine sp rfl (PE.assign rfl) rfl ?_
 refine sy_ret ?_
 exact sy_return (vs := [_]) rfl (.cons (RV.tmp rfl) .nil) rfl ⟨by simp only [retV]; rw [hA.at_bin hra hxm (bin_bad (.inr (.inl g58)))], rfl, rfl⟩ drp
 refine spG rfl rfl rfl rfl (PE.fieldAddr fo113_2 rfl) rfl ?_
 refine spG rfl rfl rfl rfl (PE.fieldAddr fo43_0 rfl) rfl ?_
 refine spLG rfl rfl rfl rfl rfl (lh sc3 rfl rfl) rfl ?_
 refine clVG rfl rfl rfl rfl cal72 rfl rfl (c_off _ _ _ _ _) ?_
 refine sp rfl (PE.pick rfl rfl rfl) rfl ?_
 refine sp rfl (PE.move rfl) rfl ?_
 refine sy_case (t := 64) rfl (fun g64 => ?_) (fun g64 => ?_)
 repeat refine spN rfl rfl rfl rfl rfl rfl rfl rfl ?_
 refine sp rfl (PE.pick rfl rfl rfl) rfl ?_
 refine sy_condT rfl ?_
 refine sy_seq ?_
 refine sy_tx' [0] rfl ?_
 refine sp rfl (PE.assign rfl) rfl ?_
 refine sy_ret ?_
 exact sy_return (vs := [_]) rfl (.cons (RV.tmp rfl) .nil) rfl ⟨by simp only [retV]; rw [hA.at_bin hra hxm (bin_bad (.inr (.inr (.inl g64))))], rfl, rfl⟩ drp
 refine spG rfl rfl rfl rfl (PE.fieldAddr fo113_2 rfl) rfl ?_
 refine spG rfl rfl rfl rfl (PE.fieldAddr fo43_1 rfl) rfl ?_
 refine spLG rfl rfl rfl rfl rfl (lh sc3 rfl rfl) rfl ?_
 refine clVG rfl rfl rfl rfl cal72 rfl rfl (c_off _ _ _ _ _) ?_
 refine sp rfl (PE.pick rfl rfl rfl) rfl ?_
 refine sy_cond rfl (fun hc5 => ?_) (fun hc5 => ?_)
 refine sy_seq ?_
 refine sy_tx' [0] rfl ?_
 refine sp rfl (PE.assign rfl) rfl ?_
 refine sy_ret ?_
 exact sy_return (vs := [_]) rfl (.cons (RV.tmp rfl) .nil) rfl ⟨by simp only [retV]; rw [hA.at_bin hra hxm (bin_bad (.inr (.inr (.inr hc5))))], rfl, rfl⟩ drp
 have hxo := bin_good g51 g58 g64 hc5
 refine sy_skip ?_
 refine sy_tx' [0, 1, 2] rfl ?_
 refine sp rfl (PE.move rfl) rfl ?_
 refine sp rfl (PE.add rfl rfl (by omega)) rfl ?_
 refine sp rfl (PE.assign rfl) rfl ?_
 refine sy_next ⟨k + 1, by omega, fun i hi => ?_⟩ (by dsimp only; omega) (by repeat' first | exact Sub.nil | apply Sub.cons | rfl | (simp [lk]; omega)) (fun w h => h.del b5)
 rcases Nat.lt_or_ge i k with h3 | h3
 · exact hin i h3
 · obtain rfl : i = k := by omega
   exact fun y hy => by rw [hx] at hy; cases hy; exact hxo
 try simp only [decide_eq_true_eq, decide_eq_false_iff_not, Bool.and_eq_true, Bool.or_eq_true, Bool.not_eq_true', Int.not_le, Int.not_lt] at hc4
 obtain rfl : k = b.bins.length := by omega
 have hba : b.bins.all HBin.ok = true := all_bins (fun i y hy => hin i (List.getElem?_eq_some_iff.1 hy).1 y hy)
 have hrest := hA.rest hra hba
 refine sy_exit ?_
 repeat refine sy_tx ?_
 refine sy_bx ?_
 refine sy_seq ?_
 refine sy_seq ?_
 refine sy_tx' [0] rfl ?_
 refine sp rfl (PE.assign rfl) rfl ?_
 refine sy_block ?_
 refine sy_loop (ι := {k : Nat // k ≤ 5 ∧ ∀ i, i < k → badI b.rise i = false}) (fun k => ⟨[(1, .pointer (some ⟨b1, 0, none⟩)), (6, .int .i64 ((k.1 + 1 : Nat) : Int))], (b1, cel 33 (btl b (b.sl ab cb))) :: H, R⟩) (fun k => 5 - k.1) ⟨0, by omega, fun i hi => by omega⟩ ?_ (fun k => ?_)
 exact sy_at (by repeat' first | exact Sub.nil | apply Sub.cons | rfl | (simp [lk]; omega)) (fun _ h => h)
 obtain ⟨k, hk, hin⟩ := k
 dsimp only at hk hin ⊢
 refine sy_seq ?_
 refine sy_seq ?_
 refine sy_tx' [0, 1] rfl ?_
 refine sp rfl (PE.move rfl) rfl ?_
 refine sp rfl (PE.lss rfl rfl) rfl ?_
 refine sy_cond rfl (fun hc6 => ?_) (fun hc6 => ?_)
 try simp only [decide_eq_true_eq, decide_eq_false_iff_not, Bool.and_eq_true, Bool.or_eq_true, Bool.not_eq_true', Int.not_le, Int.not_lt] at hc6
 refine sy_skip ?_
 refine sy_seq ?_
 refine sy_block ?_
 refine sy_seq ?_
 refine sy_draw [0, 0, 3, 7, 0, 16, 0, 112, 240, 511] (.tk 0 (.tk 1 (.tk 2 (.ld 3 (.tk 4 (.tk 5 (.tk 6 (.tk 7 (.ld 8 (.tk 9 .done)))))))))) mixed (by kernel_rfl) ?_
 refine tk rfl (PE.move rfl) rfl ?_
 refine tk rfl (PE.fieldAddr fo33_2 rfl) rfl ?_
 refine tk rfl (PE.indexArr ar22 rfl rfl (by omega) (by omega)) rfl ?_
 refine ld rfl rfl (lh sc3 rfl (by rw [show 0 + 2 + (((k + 1 : Nat) : Int)).toNat * 1 = 2 + (k + 1) by omega]; exact btl_rise (by omega))) rfl ?_
 refine tk rfl (PE.move rfl) rfl ?_
 refine tk rfl (PE.sub rfl rfl (by omega)) rfl ?_
 refine tk rfl (PE.fieldAddr fo33_2 rfl) rfl ?_
 refine tk rfl (PE.indexArr ar22 rfl rfl (by omega) (by omega)) rfl ?_
 refine ld rfl rfl (lh sc3 rfl (by rw [show 0 + 2 + (((k + 1 : Nat) : Int) - 1).toNat * 1 = 2 + k by omega]; exact btl_rise (by omega))) rfl ?_
 refine tk rfl (PE.lss rfl rfl) rfl ?_
 refine sy_cond rfl (fun hc7 => ?_) (fun hc7 => ?_)
 try simp only [decide_eq_true_eq, decide_eq_false_iff_not, Bool.and_eq_true, Bool.or_eq_true, Bool.not_eq_true', Int.not_le, Int.not_lt] at hc7
 have hbd := not_srt (na_get (by omega)) (na_get (by omega)) hc7
 rw [hbd] at hrest
 refine sy_seq ?_
 refine sy_tx' [0] rfl ?_
 refine sp rfl (PE.assign rfl) rfl ?_
 refine sy_ret ?_
 exact sy_return (vs := [_]) rfl (.cons (RV.tmp rfl) .nil) rfl ⟨by simp only [retV]; rw [hrest]; rfl, rfl, rfl⟩ drp
 try simp only [decide_eq_true_eq, decide_eq_false_iff_not, Bool.and_eq_true, Bool.or_eq_true, Bool.not_eq_true', Int.not_le, Int.not_lt] at hc7
 have hnb : badI b.rise k = false := by rw [badI_at (na_get (by omega)) (na_get (by omega))]; exact decide_eq_false (by omega)
 refine sy_skip ?_
 refine sy_tx' [0, 1, 2] rfl ?_
 refine sp rfl (PE.move rfl) rfl ?_
 refine sp rfl (PE.add rfl rfl (by omega)) rfl ?_
 refine sp rfl (PE.assign rfl) rfl ?_
 refine sy_next ⟨k + 1, by omega, fun i hi => ?_⟩ (by dsimp only; omega) (by repeat' first | exact Sub.nil | apply Sub.cons | rfl | (simp [lk]; omega)) (fun _ h => h)
 rcases Nat.lt_or_ge i k with h3 | h3
 · exact hin i h3
 · obtain rfl : i = k := by omega
   exact hnb
 try simp only [decide_eq_true_eq, decide_eq_false_iff_not, Bool.and_eq_true, Bool.or_eq_true, Bool.not_eq_true', Int.not_le, Int.not_lt] at hc6
 obtain rfl : k = 5 := by omega
 have hsr : srt b.rise = true := is_srt (fun i hi => hin i (by omega))
 rw [hsr] at hrest
 refine sy_exit ?_
 repeat refine sy_tx ?_
 refine sy_bx ?_
 refine sy_seq ?_
 refine sy_seq ?_
 refine sy_tx' [0] rfl ?_
 refine sp rfl (PE.assign rfl) rfl ?_
 refine sy_block ?_
 refine sy_loop (ι := {k : Nat // k ≤ b.bins.length ∧ ∀ i, i < k → ∀ x, b.bins[i]? = some x → x.lo ≤ x.hi}) (fun k => ⟨[(1, .pointer (some ⟨b1, 0, none⟩)), (7, .int .i64 k.1)], (b1, cel 33 (btl b (b.sl ab cb))) :: H, R⟩) (fun k => b.bins.length - k.1) ⟨0, by omega, fun i hi => by omega⟩ ?_ (fun k => ?_)
 exact sy_at (by repeat' first | exact Sub.nil | apply Sub.cons | rfl | (simp [lk]; omega)) (fun _ h => h)
 obtain ⟨k, hk, hin⟩ := k
 dsimp only at hk hin ⊢
 refine sy_seq ?_
 refine sy_seq ?_
 refine sy_tx' [0, 1, 2, 3, 4] rfl ?_
 refine sp rfl (PE.move rfl) rfl ?_
 refine sp rfl (PE.fieldAddr fo33_3 rfl) rfl ?_
 refine spL rfl rfl (lh sc31 rfl rfl) rfl ?_
 refine sp rfl (PE.lenSl isl31 rfl) rfl ?_
 refine sp rfl (PE.lss rfl rfl) rfl ?_
 refine sy_cond rfl (fun hc8 => ?_) (fun hc8 => ?_)
 try simp only [decide_eq_true_eq, decide_eq_false_iff_not, Bool.and_eq_true, Bool.or_eq_true, Bool.not_eq_true', Int.not_le, Int.not_lt] at hc8
 obtain ⟨x, hx⟩ : ∃ x, b.bins[k]? = some x := ⟨_, List.getElem?_eq_getElem (by omega)⟩
 have hxm := List.mem_of_getElem? hx
 refine sy_addr (a := ab) (sz := 4) (rows := brows b.bins) (by intro h0; simp [brows] at h0; simp [h0] at hx) (fun ba oa he => ?_)
 subst he
 refine sy_skip ?_
 refine sy_seq ?_
 refine sy_block ?_
 refine sy_seq ?_
 refine sy_draw [0, 1, 0, 7, 15, 31, 63, 0, 128, 0, 896, 1920, 3968, 8064, 16383] (.tk 0 (.ld 1 (.tk 2 (.tk 3 (.tk 4 (.tk 5 (.ld 6 (.tk 7 (.ld 8 (.tk 9 (.tk 10 (.tk 11 (.tk 12 (.ld 13 (.tk 14 .done))))))))))))))) mixed (by kernel_rfl) ?_
 refine tk rfl (PE.fieldAddr fo33_3 rfl) rfl ?_
 refine ld rfl rfl (lh sc31 rfl rfl) rfl ?_
 refine tk rfl (PE.move rfl) rfl ?_
 refine tk rfl (PE.indexAddr el31 rfl rfl (by omega) (by omega)) rfl ?_
 refine tk rfl (PE.fieldAddr fo113_2 rfl) rfl ?_
 refine tk rfl (PE.fieldAddr fo43_0 rfl) rfl ?_
 refine ld rfl rfl (lf (j := 2) sc3 (br_get hx) rfl) rfl ?_
 refine tk rfl (PE.fieldAddr fo33_3 rfl) rfl ?_
 refine ld rfl rfl (lh sc31 rfl rfl) rfl ?_
 refine tk rfl (PE.move rfl) rfl ?_
 refine tk rfl (PE.indexAddr el31 rfl rfl (by omega) (by omega)) rfl ?_
 refine tk rfl (PE.fieldAddr fo113_2 rfl) rfl ?_
 refine tk rfl (PE.fieldAddr fo43_1 rfl) rfl ?_
 refine ld rfl rfl (lf (j := 3) sc3 (br_get hx) rfl) rfl ?_
 refine tk rfl (PE.gtr rfl rfl) rfl ?_
 refine sy_cond rfl (fun hc9 => ?_) (fun hc9 => ?_)
 try simp only [decide_eq_true_eq, decide_eq_false_iff_not, Bool.and_eq_true, Bool.or_eq_true, Bool.not_eq_true', Int.not_le, Int.not_lt] at hc9
 have hbd : (b.bins.all fun x => decide (x.lo ≤ x.hi)) = false := by rw [List.all_eq_false]; exact ⟨x, hxm, by simp; omega⟩
 rw [hbd] at hrest
 refine sy_seq ?_
 refine sy_tx' [0] rfl ?_
 refine sp rfl (PE.assign rfl) rfl ?_
 refine sy_ret ?_
 exact sy_return (vs := [_]) rfl (.cons (RV.tmp rfl) .nil) rfl ⟨by simp only [retV]; rw [hrest]; rfl, rfl, rfl⟩ drp
 try simp only [decide_eq_true_eq, decide_eq_false_iff_not, Bool.and_eq_true, Bool.or_eq_true, Bool.not_eq_true', Int.not_le, Int.not_lt] at hc9
 refine sy_skip ?_
 refine sy_tx' [0, 1, 2] rfl ?_
 refine sp rfl (PE.move rfl) rfl ?_
 refine sp rfl (PE.add rfl rfl (by omega)) rfl ?_
 refine sp rfl (PE.assign rfl) rfl ?_
 refine sy_next ⟨k + 1, by omega, fun i hi => ?_⟩ (by dsimp only; omega) (by repeat' first | exact Sub.nil | apply Sub.cons | rfl | (simp [lk]; omega)) (fun _ h => h)
 rcases Nat.lt_or_ge i k with h3 | h3
 · exact hin i h3
 · obtain rfl : i = k := by omega
   exact fun y hy => by rw [hx] at hy; cases hy; omega
 try simp only [decide_eq_true_eq, decide_eq_false_iff_not, Bool.and_eq_true, Bool.or_eq_true, Bool.not_eq_true', Int.not_le, Int.not_lt] at hc8
 obtain rfl : k = b.bins.length := by omega
 have hgd : (b.bins.all fun x => decide (x.lo ≤ x.hi)) = true := all_bins (fun i y hy => decide_eq_true (hin i (List.getElem?_eq_some_iff.1 hy).1 y hy))
 rw [hgd] at hrest
 refine sy_exit ?_
 repeat refine sy_tx ?_
 refine sy_bx ?_
 refine sy_seq ?_
 refine sy_tx' [0] rfl ?_
 refine sp rfl (PE.assign rfl) rfl ?_
 refine sy_ret ?_
 exact sy_return (vs := [_]) rfl (.cons (RV.tmp rfl) .nil) rfl ⟨by simp only [retV]; rw [hrest]; rfl, rfl, rfl⟩ drp
end Go.Proofs.Ytelegnmfhjfbaaa
namespace Go.Proofs.Ytelegnmfhjfbaaa
set_option linter.unusedSimpArgs false
set_option linter.unusedVariables false
open Go
section pe
variable {P : Program} {L : Slots} {d : Option Tmp} {ty : TypeId} {pos : String} {af : Array Edge} {g : Option (Nat × Bool)}
theorem PE.slLoA {T e s : Nat} {x z : Operand} {a : Option Addr} {len cap l : Nat} {k2 : IntKind} (hT : slE P T = some (e, s)) (hx : ev L x = some (.slice a len cap)) (hz : ev L z = some (.int k2 l)) (hl : l ≤ len) :
    PE P L ⟨d, .slice T x (some z) none none, ty, pos, af, g⟩ (.slice (if cap = l then a else a.map (·.add (l * s))) (len - l) (cap - l)) := fun ρ hρ w => by
  obtain ⟨i, hu, hi, rfl⟩ := slE_und hT
  have hb2 : ∀ c w, (Instr.sliceBound (.int k2 (l : Int)) len c).run P w = .ok l w := fun c w => by rw [run_bound (by omega)]; simp
  simp only [execOp, hρ _ _ hx, hρ _ _ hz, Option.map_none, Option.map_some, Instr.sliceAt, Instr.slice, Sem.run_bind, run_underlying hu, Result.andThen, Sem.run_pure, Instr.sliceBounds, hb2, sizeOf, typeInfo, program, hi, Sem.run]
end pe
theorem run_storeA {P : Program} {b e od : Nat} {l vs : List Value} (h1 : vs.all (·.oneCell') = true) (hb : od + vs.length ≤ l.length) {w : World} (h : w.heap[b]? = some (cel e l)) :
    (storeCells ⟨b, od, none⟩ vs).run P w = .ok () { w with heap := w.heap.setIfInBounds b (cel e (spl l od vs)) } := by
  have := run_storeCells_at (P := P) b od e vs 0 l.toArray w h (by simpa using hb) (fun x hx => List.all_eq_true.1 h1 x hx)
  rw [setRow_cells h] at this
  simpa [spl] using this
section steps
variable {P : Program} {r : Option Nat} {ops : Array Oper} {n : Nat} {L : Slots} {D : List Deferred} {H : Heap} {R : Facts} {K : Act → World → Prop}
  {i d : Nat} {ty : TypeId} {pos : String} {af : Array Edge}
end steps
section dag
variable {P : Program} {r : Option Nat} {ops : Array Oper} {bm : List Nat} {X : Act → World → Prop} {n : Nat} {L : Slots} {D : List Deferred} {H : Heap} {R : Facts} {p : Plan} {pend : Pend}
end dag
end Go.Proofs.Ytelegnmfhjfbaaa
namespace Go.Proofs.Ytelegnmfhjfbaaa
set_option linter.unusedSimpArgs false
set_option linter.unusedVariables false
open Go
section pe
variable {P : Program} {L : Slots} {d : Option Tmp} {ty : TypeId} {pos : String} {af : Array Edge} {g : Option (Nat × Bool)}
end pe
section steps
variable {P : Program} {r : Option Nat} {ops : Array Oper} {n : Nat} {L : Slots} {D : List Deferred} {H : Heap} {R : Facts} {K : Act → World → Prop}
  {i d : Nat} {ty : TypeId} {pos : String} {af : Array Edge}
end steps
def AllS : List Nat → (Nat → Prop) → Prop
  | [], _ => True
  | i :: l, p => p i ∧ AllS l p
theorem AllS.all {p : Nat → Prop} : ∀ {l : List Nat}, AllS l p → ∀ i ∈ l, p i
  | [], _, i, h => by cases h
  | j :: l, h, i, hi => by
    rcases List.mem_cons.1 hi with rfl | hi
    · exact h.1
    · exact AllS.all h.2 i hi
abbrev Invs := (Nat → Bool) → Slots → Heap → Facts → Prop
def FreeStep (P : Program) (r : Option Nat) (ops : Array Oper) (bm : List Nat) (n : Nat) (D : List Deferred) (Inv : Invs) (i : Nat) : Prop :=
  ∀ (s : Nat → Bool) (L : Slots) (H : Heap) (R : Facts), (∀ j k, j < ops.size → pre bm j k = true → s j = true → s k = true) → s i = false → (∀ j, pre bm i j = true → s j = true) → Inv s L H R →
    ∀ K : Act → World → Prop, (∀ L' H' R', Inv (fun j => Nat.beq i j || s j) L' H' R' → Sy n L' D H' R' K) → Sy n L D H R (stp P r ops i K)
theorem count_set_true : ∀ (l : List Bool) (i : Nat) (h : i < l.length), l[i] = false → (l.set i true).count false + 1 = l.count false
  | [], i, h, _ => by simp at h
  | b :: l, 0, _, h => by
    obtain rfl : b = false := h
    simp
  | b :: l, i + 1, h, hb => by
    have ih := count_set_true l i (by simpa using h) (by simpa using hb)
    rw [List.set_cons_succ, List.count_cons, List.count_cons]
    omega
theorem getD_set_same {l : Array Bool} {i : Nat} (h : i < l.size) : (l.setIfInBounds i true).getD i false = true := by simp [h]
section free
variable {P : Program} {r : Option Nat} {ops : Array Oper} {n : Nat} {L : Slots} {D : List Deferred} {H : Heap} {R : Facts}
theorem getD_ft {l : Array Bool} {j : Nat} (h : l.getD j false = true) : l.getD j true = true := by
  rcases Nat.lt_or_ge j l.size with h1 | h1
  · simp [h1] at h ⊢; exact h
  · simp [Array.getElem?_eq_none h1]
theorem getD_tf {l : Array Bool} {j : Nat} (h : l.getD j true = true) (h1 : j < l.size) : l.getD j false = true := by simp [h1] at h ⊢; exact h
theorem down_pre {bm : List Nat} (hbm : bmOk ops bm = true) {listed : Array Bool} (hd : Down ops listed) {j k : Nat} (hj : j < ops.size) (hp : pre bm j k = true) (hl : listed.getD j true = true) : listed.getD k true = true :=
  getD_ft (before_listed hbm hd k j ops[j] (by simp) (fun e he hb => hd j ops[j] (by simp) hl e he hb) (by rw [← pre_eq]; exact hp))
theorem none_ready {bm : List Nat} (hbm : bmOk ops bm = true) {listed : Array Bool} (hsz : listed.size = ops.size) (h : Region.ready .any ops listed = []) : ∀ j, j < ops.size → listed.getD j true = true := by
  intro j
  induction j using Nat.strongRecOn with
  | _ j ih =>
    intro hj
    cases hl : listed.getD j true with
    | true => rfl
    | false =>
      exfalso
      have h1 := List.all_eq_true.1 hbm j (List.mem_range.2 hj)
      simp only [show ops[j]? = some ops[j] by simp, Bool.and_eq_true] at h1
      have : j ∈ Region.ready .any ops listed := mem_ready.2 ⟨hl, ops[j], by simp, fun e he hb => by
        have h2 := List.all_eq_true.1 h1.2 e (by simpa using he)
        have hlt : e.on < j := by simpa [hb] using h2
        exact getD_tf (ih e.on hlt (by omega)) (by omega)⟩
      rw [h] at this; cases this
theorem free_any {bm : List Nat} {X : Act → World → Prop} {Inv : Invs} (hbm : bmOk ops bm = true) (step : ∀ i, i < ops.size → FreeStep P r ops bm n D Inv i) (fin : ∀ L H R, Inv (fun _ => true) L H R → Sy n L D H R X) :
    ∀ (fuel : Nat) (listed : Array Bool) (L : Slots) (H : Heap) (R : Facts), listed.size = ops.size → Down ops listed → listed.toList.count false = fuel → Inv (fun j => listed.getD j true) L H R → Sy n L D H R (anyP P r ops bm X fuel listed []) := by
  intro fuel
  induction fuel with
  | zero =>
    intro listed L H R hsz hd hc hI a w ha hD hs
    have hall : ∀ j, listed.getD j true = true := fun j => by
      rcases Nat.lt_or_ge j listed.size with h1 | h1
      · cases hl : listed.getD j true with
        | true => rfl
        | false =>
          have h2 := List.count_eq_zero.1 hc
          exact absurd (by simp [h1] at hl; rw [← hl]; simp) h2
      · simp [Array.getElem?_eq_none h1]
    have he : (fun j => listed.getD j true) = fun _ => true := funext hall
    rw [he] at hI
    refine ⟨?_, fin L H R hI a w ha hD hs⟩
    cases hr : Region.ready .any ops listed with
    | nil => rfl
    | cons i l =>
      have := (mem_ready.1 (show i ∈ Region.ready .any ops listed by rw [hr]; simp)).1
      rw [hall i] at this; cases this
  | succ fuel ih =>
    intro listed L H R hsz hd hc hI a w ha hD hs
    refine ⟨fun hr => ?_, fun i hi => ?_⟩
    · have hall : ∀ j, listed.getD j true = true := fun j => by
        rcases Nat.lt_or_ge j ops.size with h1 | h1
        · exact none_ready hbm hsz hr j h1
        · simp [Array.getElem?_eq_none (show listed.size ≤ j by omega)]
      have he : (fun j => listed.getD j true) = fun _ => true := funext hall
      rw [he] at hI
      exact fin L H R hI a w ha hD hs
    · obtain ⟨hun, o, ho, hall⟩ := mem_ready.1 hi
      have hil : i < ops.size := (Array.getElem?_eq_some_iff.1 ho).1
      refine step i hil (fun j => listed.getD j true) L H R (fun j k hj hp hl => down_pre hbm hd hj hp hl) hun (fun j hp => getD_ft (before_listed hbm hd j i o ho hall (by rw [← pre_eq]; exact hp))) hI _ (fun L' H' R' hI' => ?_) a w ha hD hs
      have he : (fun j => Nat.beq i j || listed.getD j true) = fun j => (listed.setIfInBounds i true).getD j true := funext fun j => by
        by_cases hij : i = j
        · subst hij
          rw [show Nat.beq i i = true from Nat.beq_refl i]
          exact (getD_ft (getD_set_same (by omega))).symm
        · rw [getD_set_ne true hij, show Nat.beq i j = false from by cases hb : Nat.beq i j with | false => rfl | true => exact absurd (Nat.eq_of_beq_eq_true hb) hij]; rfl
      rw [he] at hI'
      intro a' w' ha' hD' hs'
      refine ⟨trivial, ih (listed.setIfInBounds i true) L' H' R' (by simpa using hsz) (hd.set hi) ?_ hI' a' w' ha' hD' hs'⟩
      have hil2 : i < listed.size := by omega
      rw [Array.toList_setIfInBounds]
      have h9 : listed.toList[i]'(by simpa using hil2) = false := by simp [hil2] at hun; simpa using hun
      have h10 := count_set_true listed.toList i (by simpa using hil2) h9
      omega
theorem sy_free {id : Nat} {Q : Exit → Act → World → Prop} (bm : List Nat) (l : List Nat) (hm : P.follows .mixedOrders = true) (hb : bmOk ops bm = true) (hl : List.range ops.size = l) (Inv : Invs)
    (h0 : Inv (fun j => Nat.ble ops.size j) L H R) (step : AllS l (FreeStep P r ops bm n D Inv)) (fin : ∀ L H R, Inv (fun _ => true) L H R → Sy n L D H R (Q .normal)) : Sy n L D H R (wpc P r (.region id ops true) Q) := fun a w ha hD hs => by
  have h1 := free_any (X := Q .normal) hb (fun i hi => step.all i (by rw [← hl]; exact List.mem_range.2 hi)) fin ops.size (Array.replicate ops.size false) L H R (by simp) down_start (by simp) (by
    have he : (fun j => (Array.replicate ops.size false).getD j true) = fun j => Nat.ble ops.size j := funext fun j => by
      rcases Nat.lt_or_ge j ops.size with h1 | h1
      · rw [show Nat.ble ops.size j = false from by cases hb : Nat.ble ops.size j with | false => rfl | true => have := Nat.le_of_ble_eq_true hb; omega]; simp [h1]
      · rw [show Nat.ble ops.size j = true from Nat.ble_eq_true_of_le h1]; simp [h1]
    rw [he]; exact h0) a w.drew ha hD hs.drew
  refine wpIn_mono (wpIn_region_any hm (anyP_wpAny _ _ _ _ _ h1)) fun e a w hq => ?_
  cases e <;> first | exact hq | exact hq.elim
theorem lk_same {d : Nat} {v : Value} : lk ((d, v) :: L) d = some v := by
  unfold lk; rw [show Nat.beq d d = true from Nat.beq_refl d]; rfl
theorem lk_more {d t : Nat} {v u : Value} (hne : Nat.beq d t = false) (h : lk L t = some u) : lk ((d, v) :: L) t = some u := by
  show (bif Nat.beq d t then some v else lk L t) = some u
  rw [hne]; exact h
theorem sub_more {d : Nat} {v : Value} : ∀ {L' : Slots}, (L'.all fun p => !(Nat.beq d p.1)) = true → Sub L' L → Sub L' ((d, v) :: L)
  | [], _, _ => trivial
  | p :: L', hk, h => by
    rw [List.all_cons, Bool.and_eq_true] at hk
    exact ⟨lk_more (by simpa using hk.1) h.1, sub_more hk.2 h.2⟩
theorem fin_cons {f : World → Prop} {A : Facts} (h : f ∈ R) (hA : ∀ g ∈ A, g ∈ R) : ∀ g ∈ f :: A, g ∈ R := fun g hg => by
  rcases List.mem_cons.1 hg with rfl | hg
  · exact h
  · exact hA g hg
theorem fin_more {f : World → Prop} {A : Facts} (hA : ∀ g ∈ A, g ∈ R) : ∀ g ∈ A, g ∈ f :: R := fun g hg => List.mem_cons_of_mem _ (hA g hg)
end free
end Go.Proofs.Ytelegnmfhjfbaaa
namespace Go.Proofs.Ytelegnmfhjfbaaa
set_option linter.unusedSimpArgs false
set_option linter.unusedVariables false
open Go
theorem cal16 : cal Try.prog 16 = true := by kernel_rfl
theorem cal18 : cal Try.prog 18 = true := by kernel_rfl
theorem cal19 : cal Try.prog 19 = true := by kernel_rfl
theorem cal20 : cal Try.prog 20 = true := by kernel_rfl
theorem cal22 : cal Try.prog 22 = true := by kernel_rfl
theorem cal31 : cal Try.prog 31 = true := by kernel_rfl
theorem cal49 : cal Try.prog 49 = true := by kernel_rfl
theorem brow_len {l : List HBin} : ∀ r ∈ brows l, r.length = 4 := by
  intro r hr
  obtain ⟨x, _, rfl⟩ := List.mem_map.1 hr
  rfl
theorem St.binRows {l : List HBin} {bk e : Nat} {junk : List Value} {H : Heap} {R : Facts} {w : World} (hs : St ((bk, cel e ((brows l).flatten ++ junk)) :: H) R w) :
    St H (RowsA (some ⟨bk, 0, none⟩) 4 (brows l) :: R) w := by
  have h1 := (St.freeze hs).also (f := RowsA (some ⟨bk, 0, none⟩) 4 (brows l)) (fun w' hw => by
    have hb := hw (fun w => w.heap[bk]? = some (cel e ((brows l).flatten ++ junk))) (by simp)
    exact rows_block hb brow_len)
  exact h1.facts (fun g hg => by rcases List.mem_cons.1 hg with h3 | h3 <;> simp [h3])
theorem St.noRows {sz : Nat} {H : Heap} {R : Facts} {w : World} (hs : St H R w) : St H (RowsA none sz [] :: R) w :=
  hs.also (fun w' _ i row hi => by simp at hi)
theorem c_OwnF (b : Barn) (ab : Option Addr) (cb : Nat) (hl : b.bins.length ≤ 1000000) (H : Heap) (R : Facts) [hB : MemRows ab 4 (brows b.bins) R] : Fn Try.prog 19 [b.v (b.sl ab cb)] H R (fun v H' R' => ∃ ax cx, v = b.v (b.sl ax cx) ∧ H' = H ∧ R' = RowsA ax 4 (brows b.bins) :: R) := fun w hw => by
  refine CallsIn.mono (c_Own b ab cb hl H R w hw) ?_
  rintro e' w' ⟨u, H', R', ⟨bo, cap, junk, rfl, rfl, rfl⟩, he, hs'⟩
  exact ⟨_, H, _, ⟨_, _, rfl, rfl, rfl⟩, he, hs'.binRows⟩
end Go.Proofs.Ytelegnmfhjfbaaa
