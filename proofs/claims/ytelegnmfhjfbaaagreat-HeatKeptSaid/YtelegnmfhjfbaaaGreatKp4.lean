/- Walks of the functions of the program, and the laws that join them: what the last theorem of this claim needs, in order. -/
import Derived.Test.YtelegnmfhjfbaaaGreatKp3
namespace Go.Proofs.YtelegnmfhjfbaaaGreat
set_option linter.unusedSimpArgs false
set_option linter.unusedVariables false
open Go
theorem cal67 : cal Tryz.prog 67 = true := by kernel_rfl
theorem cal68 : cal Tryz.prog 68 = true := by kernel_rfl
theorem goes_no {b : Barn} {p q : List (List Int)} {i : Nat} {ws : List Int} (h : b.burnsF b.warms (p ++ rep i q) 0 = (none, ws)) (h2 : ∃ x w, b.burnsF ws q 0 = (some x, w)) : ¬ b.goes p q := fun hg => by
  have h3 := hg (i + 1)
  rw [rep_succ, ← List.append_assoc, b.burns_app, h] at h3
  dsimp only at h3
  obtain ⟨x, w, h4⟩ := burns_some (e := 0 + (p ++ rep i q).length) h2
  rw [h4] at h3; cases h3
theorem goes_step {b : Barn} {p q : List (List Int)} {i : Nat} {ws us : List Int} (h : b.burnsF b.warms (p ++ rep i q) 0 = (none, ws)) (h2 : b.burnsF ws q 0 = (none, us)) : b.burnsF b.warms (p ++ rep (i + 1) q) 0 = (none, us) := by
  rw [rep_succ, ← List.append_assoc, b.burns_app, h]
  exact burns_none h2
theorem burns_pre {b : Barn} {ws : List Int} {p q : List (List Int)} {d : Nat} (h : (b.burnsF ws (p ++ q) d).1 = none) : (b.burnsF ws p d).1 = none := by
  rw [b.burns_app] at h
  cases h1 : b.burnsF ws p d with
  | mk x w => cases x with
    | none => rfl
    | some x => rw [h1] at h; cases h
theorem goes_yes {b : Barn} {p q : List (List Int)} {i : Nat} {ws : List Int} (h : b.burnsF b.warms (p ++ rep i q) 0 = (none, ws)) (h2 : b.burnsF ws q 0 = (none, ws)) : b.goes p q := fun n => by
  have key : ∀ j, b.burnsF b.warms (p ++ rep (i + j) q) 0 = (none, ws) := fun j => by
    induction j with
    | zero => exact h
    | succ j ih => exact goes_step ih h2
  have h3 := key n
  have e : rep (i + n) q = rep n q ++ rep i q := by unfold rep; rw [← List.flatten_append, List.replicate_append_replicate, Nat.add_comm]
  rw [e, ← List.append_assoc] at h3
  exact burns_pre (by rw [h3])
theorem grown_next {b : Barn} (hb : b.ok) {ws us : List Int} {q : List (List Int)} (hw : Cool b ws) (h : b.burnsF ws q 0 = (none, us)) : ∀ k < b.bins.length, na us k ≤ wst b.cool (b.worst (b.bins.getD k hb0)) k (na us k) q := fun k hk => by
  rw [b.burns_at q ws us 0 h k hk hw.len]
  obtain ⟨x, hx⟩ : ∃ x, b.bins[k]? = some x := ⟨_, List.getElem?_eq_getElem hk⟩
  have := b.worst_range hb (List.mem_of_getElem? hx)
  rw [bin_getD hx]
  exact wst_grow (by omega) q _
theorem room_less {b : Barn} (hb : b.ok) {ws us : List Int} {q : List (List Int)} (hw : Cool b ws) (hu : Cool b us) (hg : ∀ k < b.bins.length, na ws k ≤ wst b.cool (b.worst (b.bins.getD k hb0)) k (na ws k) q) (h : b.burnsF ws q 0 = (none, us)) (hne : us ≠ ws) : roomW b us < roomW b ws := by
  have hat := fun k hk => b.burns_at q ws us 0 h k hk hw.len
  unfold roomW
  refine sum_lt _ _ _ (fun k hk => ?_) ?_
  · have hk := List.mem_range.1 hk
    have := hg k hk
    rw [← hat k hk] at this
    omega
  · apply Classical.byContradiction
    intro hno
    apply hne
    refine List.ext_getElem? fun k => ?_
    rcases Nat.lt_or_ge k b.bins.length with h1 | h1
    · rw [na_get (l := us) (k := k) (by rw [hu.len]; exact h1), na_get (l := ws) (k := k) (by rw [hw.len]; exact h1)]
      congr 1
      have h2 := hg k h1
      rw [← hat k h1] at h2
      obtain ⟨x, hx⟩ : ∃ x, b.bins[k]? = some x := ⟨_, List.getElem?_eq_getElem h1⟩
      have h3 := hu.at_ k x hx
      have h4 := (hb.bins x (List.mem_of_getElem? hx)).1
      rcases Int.lt_or_le (na ws k) (na us k) with h5 | h5
      · exact absurd ⟨k, List.mem_range.2 h1, by omega⟩ hno
      · omega
    · rw [List.getElem?_eq_none (by rw [hu.len]; exact h1), List.getElem?_eq_none (by rw [hw.len]; exact h1)]
theorem withW_eq {b : Barn} {ws us : List Int} (hl : ws.length = b.bins.length) (hu : us.length = b.bins.length) : (b.withB (wbins b.bins ws)).withB (wbins (b.withB (wbins b.bins ws)).bins us) = b.withB (wbins b.bins us) := by
  show ({ b with bins := wbins (wbins b.bins ws) us } : Barn) = { b with bins := wbins b.bins us }
  rw [withW_twice hl hu]
theorem c_Goes (b : Barn) (ab : Option Addr) (cb : Nat) (hl : b.bins.length ≤ 9223372036854775807) (hr : b.rise.length = 6) (pl : List PL) (ap : Option Addr) (cp : Nat) (hpl : pl.length ≤ 9223372036854775807) (hpi : ∀ x ∈ pl, x.l.length ≤ 9223372036854775807) (ql : List PL) (aq : Option Addr) (cq : Nat) (hql : ql.length ≤ 9223372036854775807) (hqi : ∀ x ∈ ql, x.l.length ≤ 9223372036854775807) (H : Heap) (R : Facts) [hB : MemRows ab 4 (brows b.bins) R] [hP : MemRows ap 1 (plrows pl) R] [hI : MemF (Inn pl) R] [hQ : MemRows aq 1 (plrows ql) R] [hJ : MemF (Inn ql) R] :
    Fn Tryz.prog 18 [b.v (b.sl ab cb), .slice ap pl.length cp, .slice aq ql.length cq] H R (fun v H' R' => GoesQ b (lls pl) (lls ql) v ∧ H' = H ∧ R' = R) := by
 refine fn_of Tryz.func18 rfl Tryz.ntmps18 rfl ?_
 refine sy_seq ?_
 refine sy_tx' [0, 1, 2] rfl ?_
 refine bx rfl rfl rfl (fun b3 => ?_)
 refine sp rfl (PE.assign rfl) rfl ?_
 refine sp rfl (PE.assign rfl) rfl ?_
 refine sy_seq ?_
 refine sy_seq ?_
 refine sy_tx' [0, 1, 2, 3] rfl ?_
 refine spL rfl rfl (lhA (btl b (b.sl ab cb)) ag27 rfl rfl rfl) rfl ?_
 refine sp rfl (PE.move rfl) rfl ?_
 refine clV rfl cal65 rfl rfl (c_planned b ab cb hl hr pl ap cp hpl hpi _ _) ?_
 refine sp rfl (PE.assign rfl) rfl ?_
 refine sy_seq ?_
 refine sy_tx' [0, 1] rfl ?_
 refine sp rfl (PE.move rfl) rfl ?_
 refine sp rfl (PE.neq rfl rfl) rfl ?_
 refine sy_cond rfl (fun hc0 => ?_) (fun hc0 => ?_)
 try simp only [decide_eq_true_eq, decide_eq_false_iff_not, Bool.and_eq_true, Bool.or_eq_true, Bool.not_eq_true', Int.not_le, Int.not_lt] at hc0
 have ese : goesErr b (lls pl) (lls ql) = b.planned (lls pl) := by unfold goesErr; rw [decide_eq_false hc0]; rfl
 refine sy_seq ?_
 refine sy_tx' [0, 1, 2] rfl ?_
 refine sp rfl (PE.move rfl) rfl ?_
 refine sp rfl (PE.assign rfl) rfl ?_
 refine sp rfl (PE.assign rfl) rfl ?_
 refine sy_ret ?_
 exact sy_return (vs := [_, _]) rfl (.cons (RV.tmp rfl) (.cons (RV.tmp rfl) .nil)) rfl ⟨.inl ⟨by rw [ese]; exact hc0, by rw [ese]; rfl⟩, rfl, rfl⟩ drp
 try simp only [decide_eq_true_eq, decide_eq_false_iff_not, Bool.and_eq_true, Bool.or_eq_true, Bool.not_eq_true', Int.not_le, Int.not_lt] at hc0
 have hpz : b.planned (lls pl) = 0 := by omega
 obtain ⟨hck, hok, hpe⟩ := planned_ok hr hpz
 have hmn := hok.many
 refine sy_skip ?_
 refine sy_seq ?_
 refine sy_seq ?_
 refine sy_tx' [0, 1, 2, 3] rfl ?_
 refine spL rfl rfl (lhA (btl b (b.sl ab cb)) ag27 rfl rfl rfl) rfl ?_
 refine sp rfl (PE.move rfl) rfl ?_
 refine clV rfl cal66 rfl rfl (c_plan b ab cb hl ql aq cq hql hqi _ _) ?_
 refine sp rfl (PE.assign rfl) rfl ?_
 refine sy_seq ?_
 refine sy_tx' [0, 1] rfl ?_
 refine sp rfl (PE.move rfl) rfl ?_
 refine sp rfl (PE.neq rfl rfl) rfl ?_
 refine sy_cond rfl (fun hc1 => ?_) (fun hc1 => ?_)
 try simp only [decide_eq_true_eq, decide_eq_false_iff_not, Bool.and_eq_true, Bool.or_eq_true, Bool.not_eq_true', Int.not_le, Int.not_lt] at hc1
 have ese : goesErr b (lls pl) (lls ql) = planErr b.bins.length b.gangs (lls ql) := by unfold goesErr; rw [decide_eq_true hpz, decide_eq_false hc1]; rfl
 refine sy_seq ?_
 refine sy_tx' [0, 1, 2] rfl ?_
 refine sp rfl (PE.move rfl) rfl ?_
 refine sp rfl (PE.assign rfl) rfl ?_
 refine sp rfl (PE.assign rfl) rfl ?_
 refine sy_ret ?_
 exact sy_return (vs := [_, _]) rfl (.cons (RV.tmp rfl) (.cons (RV.tmp rfl) .nil)) rfl ⟨.inl ⟨by rw [ese]; exact hc1, by rw [ese]; rfl⟩, rfl, rfl⟩ drp
 try simp only [decide_eq_true_eq, decide_eq_false_iff_not, Bool.and_eq_true, Bool.or_eq_true, Bool.not_eq_true', Int.not_le, Int.not_lt] at hc1
 have hqz : planErr b.bins.length b.gangs (lls ql) = 0 := by omega
 refine sy_skip ?_
 refine sy_seq ?_
 refine sy_seq ?_
 refine sy_tx' [0, 1, 2] rfl ?_
 refine sp rfl (PE.move rfl) rfl ?_
 refine sp rfl (PE.lenSl isl23 rfl) rfl ?_
 refine sp rfl (PE.eql rfl rfl) rfl ?_
 refine sy_cond rfl (fun hc2 => ?_) (fun hc2 => ?_)
 try simp only [decide_eq_true_eq, decide_eq_false_iff_not, Bool.and_eq_true, Bool.or_eq_true, Bool.not_eq_true', Int.not_le, Int.not_lt] at hc2
 have ese : goesErr b (lls pl) (lls ql) = 6 := by unfold goesErr; rw [decide_eq_true hpz, decide_eq_true hqz, lls_len, decide_eq_true (show ql.length = 0 by omega)]; rfl
 refine sy_seq ?_
 refine sy_tx' [0, 1] rfl ?_
 refine sp rfl (PE.assign rfl) rfl ?_
 refine sp rfl (PE.assign rfl) rfl ?_
 refine sy_ret ?_
 exact sy_return (vs := [_, _]) rfl (.cons (RV.tmp rfl) (.cons (RV.tmp rfl) .nil)) rfl ⟨.inl ⟨by rw [ese]; decide, by rw [ese]; rfl⟩, rfl, rfl⟩ drp
 try simp only [decide_eq_true_eq, decide_eq_false_iff_not, Bool.and_eq_true, Bool.or_eq_true, Bool.not_eq_true', Int.not_le, Int.not_lt] at hc2
 have ese : goesErr b (lls pl) (lls ql) = 0 := by unfold goesErr; rw [decide_eq_true hpz, decide_eq_true hqz, lls_len, decide_eq_false (show ¬ ql.length = 0 by omega)]; rfl
 refine sy_skip ?_
 refine sy_seq ?_
 refine sy_tx' [0, 1, 2, 3, 4, 5, 6, 7, 8] rfl ?_
 refine spL rfl rfl (lhA (btl b (b.sl ab cb)) ag27 rfl rfl rfl) rfl ?_
 refine sp rfl (PE.move rfl) rfl ?_
 refine cl rfl cal67 rfl rfl (c_After b ab cb hl hr pl ap cp hpl hpi _ _) ?_
 rintro _ _ R1 ⟨hR1, hQQ⟩
 obtain rfl := hR1.symm
 rcases hQQ with ⟨hpn, _, _⟩ | ⟨_, hbs, rfl, rfl⟩ | ⟨_, us, bo2, hbn, hcn, rfl, rfl⟩
 exact absurd hpz hpn
 refine sp rfl (PE.move rfl) rfl ?_
 refine sp rfl (PE.extract rfl rfl) rfl ?_
 refine sp rfl (PE.extract rfl rfl) rfl ?_
 refine alc rfl zl27 rfl (fun b10 => ?_)
 refine sto rfl rfl rfl cn27 rfl rfl rfl rfl ?_
 refine sp rfl (PE.assign rfl) rfl ?_
 refine sy_seq ?_
 refine sy_seq ?_
 refine sy_tx' [0, 1] rfl ?_
 refine sp rfl (PE.move rfl) rfl ?_
 refine sp rfl (PE.neq rfl rfl) rfl ?_
 refine sy_condT (rfl) ?_
 refine sy_seq ?_
 refine sy_tx' [0, 1] rfl ?_
 refine sp rfl (PE.assign rfl) rfl ?_
 refine sp rfl (PE.assign rfl) rfl ?_
 refine sy_ret ?_
 exact sy_return (vs := [_, _]) rfl (.cons (RV.tmp rfl) (.cons (RV.tmp rfl) .nil)) rfl ⟨.inr ⟨ese, _, ⟨fun h => (by cases h), fun h => by have h0 := h 0; obtain ⟨x, w, h1⟩ := hbs; rw [show lls pl ++ rep 0 (lls ql) = lls pl from List.append_nil _, h1] at h0; cases h0⟩, rfl⟩, rfl, rfl⟩ (fun w h => (h.del b10).del b3)
 refine sp rfl (PE.move rfl) rfl ?_
 refine sp rfl (PE.extract rfl rfl) rfl ?_
 refine sp rfl (PE.extract rfl rfl) rfl ?_
 refine alc rfl zl27 rfl (fun b10 => ?_)
 refine sto rfl rfl rfl cn27 rfl rfl rfl rfl ?_
 refine sp rfl (PE.assign rfl) rfl ?_
 refine sy_seq ?_
 refine sy_seq ?_
 refine sy_tx' [0, 1] rfl ?_
 refine sp rfl (PE.move rfl) rfl ?_
 refine sp rfl (PE.neq rfl rfl) rfl ?_
 refine sy_condF (rfl) ?_
 refine sy_skip ?_
 refine sy_block ?_
 have h00 : b.burnsF b.warms (lls pl ++ rep 0 (lls ql)) 0 = (none, us) := by rw [show lls pl ++ rep 0 (lls ql) = lls pl from List.append_nil _]; exact hbn
 refine Sy.heap (H' := (b10, cel 27 (btl (b.withB (wbins b.bins us)) ((b.withB (wbins b.bins us)).sl (some ⟨bo2, 0, none⟩) b.bins.length))) :: (b3, cel 27 (btl b (b.sl ab cb))) :: H) (R' := RowsA (some ⟨bo2, 0, none⟩) 4 (brows (wbins b.bins us)) :: R) (fun w h => St.rows (sz := 4) (rows := brows (wbins b.bins us)) (rest := []) (by rw [List.append_nil]; exact h.pull bo2) (br_four _)) ?_
 refine sy_loop (ι := {x : (Nat × List Int) × Nat // Cool b x.1.2 ∧ b.burnsF b.warms (lls pl ++ rep x.1.1 (lls ql)) 0 = (none, x.1.2) ∧ (x.1.1 = 0 ∨ ∀ k < b.bins.length, na x.1.2 k ≤ wst b.cool (b.worst (b.bins.getD k hb0)) k (na x.1.2 k) (lls ql))}) (fun x => ⟨[(2, .slice aq ql.length cq), (3, .pointer (some ⟨b3, 0, none⟩)), (10, .pointer (some ⟨b10, 0, none⟩))], (b10, cel 27 (btl (b.withB (wbins b.bins x.1.1.2)) ((b.withB (wbins b.bins x.1.1.2)).sl (some ⟨x.1.2, 0, none⟩) b.bins.length))) :: (b3, cel 27 (btl b (b.sl ab cb))) :: H, RowsA (some ⟨x.1.2, 0, none⟩) 4 (brows (wbins b.bins x.1.1.2)) :: R⟩) (fun x => if x.1.1.1 = 0 then 1000 else roomW b x.1.1.2) ⟨((0, us), bo2), hcn, h00, .inl rfl⟩ ?_ (fun x => ?_)
 exact sy_at (by repeat' first | exact Sub.nil | apply Sub.cons | rfl | (simp [lk]; omega)) (fun _ h => h)
 obtain ⟨⟨⟨i, ws⟩, bo⟩, hcw, hbw, hgr⟩ := x
 dsimp only at hcw hbw hgr ⊢
 have hwl := hcw.len
 have hpw := withW_planned hok hck hcw hqz
 have hnl : (b.withB (wbins b.bins ws)).bins.length = b.bins.length := wbins_len hwl
 have hwm : (b.withB (wbins b.bins ws)).warms = ws := withW_warms hwl
 have hwb := withW_burns (b := b) hwl (lls ql) ws 0
 haveI : MemRows (some ⟨bo, 0, none⟩) 4 (brows (b.withB (wbins b.bins ws)).bins) (RowsA (some ⟨bo, 0, none⟩) 4 (brows (wbins b.bins ws)) :: R) := inferInstanceAs (MemRows (some ⟨bo, 0, none⟩) 4 (brows (wbins b.bins ws)) (RowsA (some ⟨bo, 0, none⟩) 4 (brows (wbins b.bins ws)) :: R))
 refine sy_block ?_
 refine sy_seq ?_
 refine sy_tx' [0, 1, 2, 3, 4, 5, 6, 7, 8] rfl ?_
 refine spL rfl rfl (lhA (btl (b.withB (wbins b.bins ws)) ((b.withB (wbins b.bins ws)).sl (some ⟨bo, 0, none⟩) b.bins.length)) ag27 rfl rfl rfl) rfl ?_
 refine sp rfl (PE.move rfl) rfl ?_
 refine cl rfl cal67 rfl rfl (c_After (b.withB (wbins b.bins ws)) (some ⟨bo, 0, none⟩) b.bins.length (by omega) hok.len ql aq cq hql hqi _ _) ?_
 rintro _ _ R1 ⟨hR1, hQQ⟩
 obtain rfl := hR1.symm
 rcases hQQ with ⟨hpn, _, _⟩ | ⟨_, hbs, rfl, rfl⟩ | ⟨_, us, bo2, hbn, hcn, rfl, rfl⟩
 exact absurd hpw hpn
 rw [hwm, hwb] at hbs
 refine sp rfl (PE.move rfl) rfl ?_
 refine sp rfl (PE.extract rfl rfl) rfl ?_
 refine sp rfl (PE.extract rfl rfl) rfl ?_
 refine alc rfl zl27 rfl (fun b12 => ?_)
 refine sto rfl rfl rfl cn27 rfl rfl rfl rfl ?_
 refine sp rfl (PE.assign rfl) rfl ?_
 refine sy_seq ?_
 refine sy_seq ?_
 refine sy_tx' [0, 1] rfl ?_
 refine sp rfl (PE.move rfl) rfl ?_
 refine sp rfl (PE.neq rfl rfl) rfl ?_
 refine sy_condT (rfl) ?_
 refine sy_seq ?_
 refine sy_tx' [0, 1] rfl ?_
 refine sp rfl (PE.assign rfl) rfl ?_
 refine sp rfl (PE.assign rfl) rfl ?_
 refine sy_ret ?_
 exact sy_return (vs := [_, _]) rfl (.cons (RV.tmp rfl) (.cons (RV.tmp rfl) .nil)) rfl ⟨.inr ⟨ese, _, ⟨fun h => (by cases h), fun h => absurd h (goes_no hbw hbs)⟩, rfl⟩, rfl, rfl⟩ (fun w h => (((h.del b12).del b10).del b3).ftail)
 rw [hwm, hwb] at hbn
 replace hcn := withW_cool hwl hcn
 have hul := hcn.len
 rw [withW_eq hwl hul, hnl, show wbins (b.withB (wbins b.bins ws)).bins us = wbins b.bins us from withW_twice hwl hul]
 refine Sy.heap (H' := (b10, cel 27 (btl (b.withB (wbins b.bins ws)) ((b.withB (wbins b.bins ws)).sl (some ⟨bo, 0, none⟩) b.bins.length))) :: (b3, cel 27 (btl b (b.sl ab cb))) :: H) (R' := RowsA (some ⟨bo2, 0, none⟩) 4 (brows (wbins b.bins us)) :: RowsA (some ⟨bo, 0, none⟩) 4 (brows (wbins b.bins ws)) :: R) (fun w h => St.rows (sz := 4) (rows := brows (wbins b.bins us)) (rest := []) (by rw [List.append_nil]; exact h.pull bo2) (br_four _)) ?_
 refine sp rfl (PE.move rfl) rfl ?_
 refine sp rfl (PE.extract rfl rfl) rfl ?_
 refine sp rfl (PE.extract rfl rfl) rfl ?_
 refine alc rfl zl27 rfl (fun b12 => ?_)
 refine sto rfl rfl rfl cn27 rfl rfl rfl rfl ?_
 refine sp rfl (PE.assign rfl) rfl ?_
 refine sy_seq ?_
 refine sy_seq ?_
 refine sy_tx' [0, 1] rfl ?_
 refine sp rfl (PE.move rfl) rfl ?_
 refine sp rfl (PE.neq rfl rfl) rfl ?_
 refine sy_condF (rfl) ?_
 refine sy_skip ?_
 refine sy_seq ?_
 refine sy_seq ?_
 refine sy_tx' [0, 1, 2, 3, 4] rfl ?_
 refine sp rfl (PE.fieldAddr fo27_3 rfl) rfl ?_
 refine spL rfl rfl (lh sc25 rfl rfl) rfl ?_
 refine sp rfl (PE.fieldAddr fo27_3 rfl) rfl ?_
 refine spL rfl rfl (lh sc25 rfl rfl) rfl ?_
 refine clV rfl cal68 rfl rfl (c_eq_bin (wbins b.bins us) (wbins b.bins ws) (some ⟨bo2, 0, none⟩) (some ⟨bo, 0, none⟩) b.bins.length b.bins.length (by rw [wbins_len hul]; exact hl) (by rw [wbins_len hwl]; exact hl) _ _) ?_
 refine sy_cond rfl (fun hc5 => ?_) (fun hc5 => ?_)
 try simp only [decide_eq_true_eq, decide_eq_false_iff_not, Bool.and_eq_true, Bool.or_eq_true, Bool.not_eq_true', Int.not_le, Int.not_lt] at hc5
 have hue : us = ws := wbins_inj hwl hul hc5
 subst hue
 refine sy_seq ?_
 refine sy_tx' [0, 1] rfl ?_
 refine sp rfl (PE.assign rfl) rfl ?_
 refine sp rfl (PE.assign rfl) rfl ?_
 refine sy_ret ?_
 exact sy_return (vs := [_, _]) rfl (.cons (RV.tmp rfl) (.cons (RV.tmp rfl) .nil)) rfl ⟨.inr ⟨ese, _, ⟨fun _ => goes_yes hbw hbn, fun _ => rfl⟩, rfl⟩, rfl, rfl⟩ (fun w h => (((h.del b12).del b10).del b3).ftail.ftail)
 try simp only [decide_eq_true_eq, decide_eq_false_iff_not, Bool.and_eq_true, Bool.or_eq_true, Bool.not_eq_true', Int.not_le, Int.not_lt] at hc5
 have hne : us ≠ ws := fun e => hc5 (by rw [e])
 refine sy_skip ?_
 refine sy_tx' [0, 1] rfl ?_
 refine spL rfl rfl (lhA (btl (b.withB (wbins b.bins us)) ((b.withB (wbins b.bins us)).sl (some ⟨bo2, 0, none⟩) b.bins.length)) ag27 rfl rfl rfl) rfl ?_
 refine sto rfl rfl rfl cn27 rfl rfl rfl rfl ?_
 refine sy_next ⟨((i + 1, us), bo2), hcn, goes_step hbw hbn, .inr (grown_next hok hcw hbn)⟩ ?_ (by repeat' first | exact Sub.nil | apply Sub.cons | rfl | (simp [lk]; omega)) (fun w h => St.sub (h.del b12))
 dsimp only
 rw [if_neg (by omega)]
 rcases hgr with h0 | hgr
 · rw [if_pos h0]
   have := roomW_le b (ws := us) (fun k hk => by obtain ⟨y, hy⟩ : ∃ y, b.bins[k]? = some y := ⟨_, List.getElem?_eq_getElem hk⟩; exact (hcn.at_ k y hy).1) hmn.2
   omega
 · have := room_less hok hcw hcn hgr hbn hne
   split
   · have := roomW_le b (ws := us) (fun k hk => by obtain ⟨y, hy⟩ : ∃ y, b.bins[k]? = some y := ⟨_, List.getElem?_eq_getElem hk⟩; exact (hcn.at_ k y hy).1) hmn.2
     omega
   · exact this
end Go.Proofs.YtelegnmfhjfbaaaGreat
namespace Go.Proofs.YtelegnmfhjfbaaaGreat
set_option linter.unusedSimpArgs false
set_option linter.unusedVariables false
open Go
def setN (l : List Nat) : Nat := l.foldl (fun o k => o ||| (1 * 2 ^ k)) 0
theorem setN_snoc (l : List Nat) (k : Nat) : setN (l ++ [k]) = setN l ||| (1 * 2 ^ k) := by unfold setN; rw [List.foldl_append]; rfl
theorem setN_bit : ∀ (l : List Nat) (o j : Nat), (l.foldl (fun o k => o ||| (1 * 2 ^ k)) o).testBit j = (o.testBit j || decide (j ∈ l))
  | [], o, j => by simp
  | k :: l, o, j => by
    rw [List.foldl_cons, setN_bit l, Nat.testBit_or, Nat.one_mul, Nat.testBit_two_pow]
    by_cases h : k = j
    · subst h; simp
    · have h' : ¬ j = k := fun e => h e.symm
      simp [h, h']
theorem setN_mem (l : List Nat) (j : Nat) : (setN l).testBit j = decide (j ∈ l) := by unfold setN; rw [setN_bit]; simp
theorem setN_lt {l : List Nat} {m : Nat} (h : ∀ k ∈ l, k < m) : setN l < 2 ^ m := by
  apply Nat.lt_pow_two_of_testBit
  intro i hi
  rw [setN_mem]
  have : i ∉ l := fun hm => by have := h i hm; omega
  simpa using this
theorem bitl_more {s K : Nat} (h : s < 2 ^ K) : ∀ j, bitl (K + j) s = bitl K s
  | 0 => rfl
  | j + 1 => by
    rw [show K + (j + 1) = (K + j) + 1 from rfl, bitl_succ, bitl_more h j, Nat.testBit_lt_two_pow (Nat.lt_of_lt_of_le h (Nat.pow_le_pow_right (by decide) (by omega)))]
    exact List.append_nil _
theorem bitl_same {s K n : Nat} (h : s < 2 ^ K) (h' : s < 2 ^ n) : bitl K s = bitl n s := by
  rcases Nat.le_total K n with h1 | h1
  · obtain ⟨j, rfl⟩ : ∃ j, n = K + j := ⟨n - K, by omega⟩
    exact (bitl_more h j).symm
  · obtain ⟨j, rfl⟩ : ∃ j, K = n + j := ⟨K - n, by omega⟩
    exact bitl_more h' j
theorem bitl_setN {n i : Nat} : bitl n (setN (bitl n i)) = bitl n i := by
  unfold bitl
  refine List.filter_congr fun k hk => ?_
  rw [setN_mem]
  have hk := List.mem_range.1 hk
  have : (k ∈ (List.range n).filter fun k => i.testBit k) ↔ i.testBit k = true := by rw [List.mem_filter, List.mem_range]; simp [hk]
  by_cases h : i.testBit k = true
  · rw [h]; simpa using this.2 h
  · have h2 : i.testBit k = false := by simpa using h
    rw [h2]; simpa using fun hm => h (this.1 hm)
theorem c_set (l : List Nat) (hl : ∀ k ∈ l, k < 4) (hll : l.length ≤ 1000000) (a : Option Addr) (c : Nat) (H : Heap) (R : Facts) [hL : MemRows a 1 (irows (il l)) R] :
    FnV Tryz.prog 127 [.slice a l.length c] H R (.int .i64 (setN l : Nat)) := by
 refine fn_of Tryz.func127 rfl Tryz.ntmps127 rfl ?_
 refine sy_seq ?_
 refine sy_tx' [0] rfl ?_
 refine sp rfl (PE.assign rfl) rfl ?_
 refine sy_seq ?_
 refine sy_tx' [0] rfl ?_
 refine sp rfl (PE.assign rfl) rfl ?_
 refine sy_seq ?_
 refine sy_seq ?_
 refine sy_tx' [0, 1, 2] rfl ?_
 refine sp rfl (PE.move rfl) rfl ?_
 refine sp rfl (PE.lenSl isl22 rfl) rfl ?_
 refine sp rfl (PE.move rfl) rfl ?_
 refine sy_block ?_
 refine sy_loop (ι := {k : Nat // k ≤ l.length}) (fun k => ⟨[(3, .int .i64 (setN (l.take k.1) : Nat)), (6, .slice a l.length c), (7, .int .i64 l.length), (8, .int .i64 k.1)], H, R⟩) (fun k => l.length - k.1) ⟨0, Nat.zero_le _⟩ ?_ (fun k => ?_)
 exact sy_at (by repeat' first | exact Sub.nil | apply Sub.cons | rfl | (simp [lk]; omega)) (fun _ h => h)
 obtain ⟨k, hk⟩ := k
 dsimp only at hk ⊢
 refine sy_seq ?_
 refine sy_tx' [0] rfl ?_
 refine sp rfl (PE.lss rfl rfl) rfl ?_
 refine sy_seq ?_
 refine sy_cond rfl (fun hc0 => ?_) (fun hc0 => ?_)
 try simp only [decide_eq_true_eq, decide_eq_false_iff_not, Bool.and_eq_true, Bool.or_eq_true, Bool.not_eq_true', Int.not_le, Int.not_lt] at hc0
 obtain ⟨j, hj⟩ : ∃ j, l[k]? = some j := ⟨_, List.getElem?_eq_getElem (by omega)⟩
 have hj4 := hl j (List.mem_of_getElem? hj)
 have hlt : setN (l.take k) < 2 ^ 4 := setN_lt fun i hi => hl i (List.mem_of_mem_take hi)
 have hj16 : 2 ^ j ≤ 8 := Nat.le_trans (Nat.pow_le_pow_right (by decide) (show j ≤ 3 by omega)) (by decide)
 refine sy_addr (a := a) (sz := 1) (rows := irows (il l)) (by intro h0; have := congrArg List.length h0; rw [irows_len, il_len] at this; simp only [List.length_nil] at this; omega) (fun ba oa he => ?_)
 subst he
 refine sy_skip ?_
 refine sy_seq ?_
 refine sy_block ?_
 refine sy_seq ?_
 refine sy_tx' [0, 1, 2] rfl ?_
 refine sp rfl (PE.indexAddr el22 rfl rfl (by omega) (by omega)) rfl ?_
 refine spL rfl rfl (lf0 sc3 (ir_get (x := (j : Int)) (by simp [il, hj])) rfl) rfl ?_
 refine sp rfl (PE.assign rfl) rfl ?_
 refine sy_tx' [0, 1, 2, 3, 4] rfl ?_
 refine sp rfl (PE.move rfl) rfl ?_
 refine sp rfl (PE.move rfl) rfl ?_
 refine sp rfl (PE.shlN (m := 1) (n := j) rfl rfl rfl (by omega) (by omega)) rfl ?_
 refine sp rfl (PE.orN (m := setN (l.take k)) (n := 1 * 2 ^ j) rfl rfl (by omega) (by omega)) rfl ?_
 refine sp rfl (PE.assign rfl) rfl ?_
 refine sy_tx' [0, 1] rfl ?_
 refine sp rfl (PE.add rfl rfl (by omega)) rfl ?_
 refine sp rfl (PE.move rfl) rfl ?_
 exact sy_next ⟨k + 1, by omega⟩ (by dsimp only; omega) (by rw [take_snoc hj, setN_snoc]; exact (by repeat' first | exact Sub.nil | apply Sub.cons | rfl | (simp [lk]; omega))) (fun _ h => h)
 try simp only [decide_eq_true_eq, decide_eq_false_iff_not, Bool.and_eq_true, Bool.or_eq_true, Bool.not_eq_true', Int.not_le, Int.not_lt] at hc0
 obtain rfl : k = l.length := by omega
 rw [List.take_length]
 refine sy_exit ?_
 repeat refine sy_tx ?_
 refine sy_bx ?_
 refine sy_seq ?_
 refine sy_tx' [0, 1] rfl ?_
 refine sp rfl (PE.move rfl) rfl ?_
 refine sp rfl (PE.assign rfl) rfl ?_
 refine sy_ret ?_
 exact sy_return (vs := [_]) rfl (.cons (RV.tmp rfl) .nil) rfl ⟨rfl, rfl, rfl⟩ (fun _ h => h)
theorem c_list (s : Nat) (hs : s < 2 ^ 4) (H : Heap) (R : Facts) :
    Fn Tryz.prog 128 [.int .i64 s] H R (fun v H' R' => ∃ o : OSl 3 1 (irows (il (bitl 4 s))), v = o.fs ∧ H' = o.G ++ H ∧ R' = R) := by
 refine fn_of Tryz.func128 rfl Tryz.ntmps128 rfl ?_
 refine sy_seq ?_
 refine sy_tx' [0] rfl ?_
 refine sp rfl (PE.assign rfl) rfl ?_
 refine sy_seq ?_
 refine sy_tx' [0] rfl ?_
 refine sp rfl (PE.assign rfl) rfl ?_
 refine sy_seq ?_
 refine sy_seq ?_
 refine sy_tx' [0] rfl ?_
 refine sp rfl (PE.assign rfl) rfl ?_
 refine sy_block ?_
 refine sy_loop (ι := (k : {k : Nat // k ≤ 4}) × OSl 3 1 (irows (il (bitl k.1 s)))) (fun x => ⟨[(0, .int .i64 s), (3, x.2.fs), (4, .int .i64 x.1.1)], x.2.G ++ H, R⟩) (fun x => 4 - x.1.1) ⟨⟨0, by omega⟩, OSl.nil _ _⟩ ?_ (fun x => ?_)
 exact sy_at (by repeat' first | exact Sub.nil | apply Sub.cons | rfl | (simp [lk]; omega)) (fun _ h => h)
 obtain ⟨⟨k, hk⟩, o⟩ := x
 dsimp only at hk o ⊢
 have eb := bitl_succ k s
 refine sy_seq ?_
 refine sy_seq ?_
 refine sy_tx' [0, 1, 2, 3] rfl ?_
 refine sp rfl (PE.move rfl) rfl ?_
 refine sp rfl (PE.move rfl) rfl ?_
 refine sp rfl (PE.shrN (m := s) (n := k) rfl rfl (by omega)) rfl ?_
 refine sp rfl (PE.gtr rfl rfl) rfl ?_
 refine sy_cond rfl (fun hc0 => ?_) (fun hc0 => ?_)
 try simp only [decide_eq_true_eq, decide_eq_false_iff_not, Bool.and_eq_true, Bool.or_eq_true, Bool.not_eq_true', Int.not_le, Int.not_lt] at hc0
 have hk4 : k < 4 := by
   rcases Nat.lt_or_ge k 4 with h1 | h1
   · exact h1
   · obtain rfl : k = 4 := by omega
     have : s >>> 4 = 0 := by rw [Nat.shiftRight_eq_div_pow]; exact Nat.div_eq_of_lt hs
     omega
 refine sy_skip ?_
 refine sy_seq ?_
 refine sy_block ?_
 refine sy_seq ?_
 refine sy_tx' [0, 1, 2, 3, 4] rfl ?_
 refine sp rfl (PE.move rfl) rfl ?_
 refine sp rfl (PE.move rfl) rfl ?_
 refine sp rfl (PE.shrN (m := s) (n := k) rfl rfl (by omega)) rfl ?_
 refine sp rfl (PE.andN (m := s >>> k) (n := 1) rfl rfl rfl (Nat.le_trans (Nat.shiftRight_le _ _) (by omega)) (by decide)) rfl ?_
 refine sp rfl (PE.eql rfl rfl) rfl ?_
 refine sy_cond rfl (fun hc1 => ?_) (fun hc1 => ?_)
 rw [bit_one] at hc1
 rw [hc1, cond_true] at eb
 refine sy_tx' [0, 1, 2, 3, 4] rfl ?_
 refine sp rfl (PE.move rfl) rfl ?_
 refine sp rfl (PE.move rfl) rfl ?_
 refine bsl (out := [_]) rfl sl22 zl3 rfl rfl rfl rfl rfl rfl (fun b18 => ?_)
 refine apO (o) rfl ap22 rfl rfl (rowsH (row := [.int .i64 k]) rfl) rfl rfl ((by have := bitl_len k s; simp only [irows, il, List.length_map, List.length_singleton]; omega)) rfl (fun o19 => ?_)
 refine sp rfl (PE.assign rfl) rfl ?_
 refine sy_tx' [0, 1, 2] rfl ?_
 refine sp rfl (PE.move rfl) rfl ?_
 refine sp rfl (PE.add rfl rfl (by omega)) rfl ?_
 refine sp rfl (PE.assign rfl) rfl ?_
 first
   | exact sy_next ⟨⟨k + 1, by omega⟩, o19.cast (by rw [eb]; simp [irows, il])⟩ (by dsimp only; omega) (by repeat' first | exact Sub.nil | apply Sub.cons | rfl | (simp [lk]; omega)) (fun w h => h.del b18)
   | exact sy_next ⟨⟨k + 1, by omega⟩, o.cast (by rw [eb])⟩ (by dsimp only; omega) (by repeat' first | exact Sub.nil | apply Sub.cons | rfl | (simp [lk]; omega)) (fun _ h => h)
 rw [bit_one] at hc1
 rw [hc1, cond_false, List.append_nil] at eb
 refine sy_skip ?_
 refine sy_tx' [0, 1, 2] rfl ?_
 refine sp rfl (PE.move rfl) rfl ?_
 refine sp rfl (PE.add rfl rfl (by omega)) rfl ?_
 refine sp rfl (PE.assign rfl) rfl ?_
 first
   | exact sy_next ⟨⟨k + 1, by omega⟩, o19.cast (by rw [eb]; simp [irows, il])⟩ (by dsimp only; omega) (by repeat' first | exact Sub.nil | apply Sub.cons | rfl | (simp [lk]; omega)) (fun w h => h.del b18)
   | exact sy_next ⟨⟨k + 1, by omega⟩, o.cast (by rw [eb])⟩ (by dsimp only; omega) (by repeat' first | exact Sub.nil | apply Sub.cons | rfl | (simp [lk]; omega)) (fun _ h => h)
 try simp only [decide_eq_true_eq, decide_eq_false_iff_not, Bool.and_eq_true, Bool.or_eq_true, Bool.not_eq_true', Int.not_le, Int.not_lt] at hc0
 have hz : s < 2 ^ k := by
   rcases Nat.lt_or_ge s (2 ^ k) with h1 | h1
   · exact h1
   · have : 1 ≤ s >>> k := by rw [Nat.shiftRight_eq_div_pow]; exact (Nat.one_le_div_iff (Nat.two_pow_pos k)).2 h1
     omega
 refine sy_exit ?_
 repeat refine sy_tx ?_
 refine sy_bx ?_
 refine sy_seq ?_
 refine sy_tx' [0, 1] rfl ?_
 refine sp rfl (PE.move rfl) rfl ?_
 refine sp rfl (PE.assign rfl) rfl ?_
 refine sy_ret ?_
 exact sy_return (vs := [_]) rfl (.cons (RV.tmp rfl) .nil) rfl ⟨o.cast (by rw [bitl_same hz hs]), rfl, rfl, rfl⟩ (fun _ h => h)
end Go.Proofs.YtelegnmfhjfbaaaGreat
namespace Go.Proofs.YtelegnmfhjfbaaaGreat
set_option linter.unusedSimpArgs false
set_option linter.unusedVariables false
open Go
theorem ag175 : aggN Tryz.prog 175 = some 6 := by kernel_rfl
theorem ap177 : apT Tryz.prog 177 = some (176, 1, 8) := by kernel_rfl
theorem ap23 : apT Tryz.prog 23 = some (22, 1, 24) := by kernel_rfl
theorem cal127 : cal Tryz.prog 127 = true := by kernel_rfl
theorem cal128 : cal Tryz.prog 128 = true := by kernel_rfl
theorem cn175 : cellN Tryz.prog 175 = some 6 := by kernel_rfl
theorem cn176 : cellN Tryz.prog 176 = some 1 := by kernel_rfl
theorem cn177 : cellN Tryz.prog 177 = some 1 := by kernel_rfl
theorem cn22 : cellN Tryz.prog 22 = some 1 := by kernel_rfl
theorem el177 : elN Tryz.prog 177 = some 1 := by kernel_rfl
theorem eqf175 : eqB Tryz.prog 10000 175 = some (true, 6) := by kernel_rfl
theorem eqg175 : Tryz.prog.eqGuardType Tryz.prog.depth 175 = false := by kernel_rfl
theorem fo175_0 : fOff Tryz.prog 175 0 = some 0 := by kernel_rfl
theorem fo175_1 : fOff Tryz.prog 175 1 = some 4 := by kernel_rfl
theorem fo175_2 : fOff Tryz.prog 175 2 = some 5 := by kernel_rfl
theorem mke176 : mapKE Tryz.prog 176 = some (69, 175) := by kernel_rfl
theorem pl175 : placeL Tryz.prog 175 = some [(0, 4), (4, 1), (5, 1)] := by kernel_rfl
theorem sc176 : scal Tryz.prog 176 = true := by kernel_rfl
theorem sc177 : scal Tryz.prog 177 = true := by kernel_rfl
theorem sl177 : slE Tryz.prog 177 = some (176, 1) := by kernel_rfl
theorem zl175 : zeroL Tryz.prog 175 = some ([.int .i64 0, .int .i64 0, .int .i64 0, .int .i64 0, .int .i64 0, .int .i64 0]) := by kernel_rfl
theorem zl176 : zeroL Tryz.prog 176 = some ([.map none]) := by kernel_rfl
theorem zl177 : zeroL Tryz.prog 177 = some ([.slice none 0 0]) := by kernel_rfl
theorem zl22 : zeroL Tryz.prog 22 = some ([.slice none 0 0]) := by kernel_rfl
theorem zv175 : zvl Tryz.prog 175 = some (.agg #[.int .i64 0, .int .i64 0, .int .i64 0, .int .i64 0, .int .i64 0, .int .i64 0]) := by kernel_rfl
abbrev MW := List (HSt × List Int)
def zw : List Int := [0, 0, 0, 0, 0, 0]
def wvl (w : List Int) : Value := .agg (ints w).toArray
def mget (m : MW) (s : HSt) : Option (List Int) := (m.find? fun e => decide (e.1 = s)).map (·.2)
def mput : MW → HSt → List Int → MW
  | [], k, v => [(k, v)]
  | (k', v') :: l, k, v => bif decide (k' = k) then (k, v) :: l else (k', v') :: mput l k v
def kvw (m : MW) : KV := m.map fun p => (p.1, wvl p.2)
theorem kvw_get : ∀ (m : MW) (s : HSt), (kvw m).get s = (mget m s).map wvl
  | [], s => rfl
  | (k, v) :: m, s => by
    have ih := kvw_get m s
    unfold KV.get mget at ih ⊢
    show (((k, wvl v) :: kvw m).find? fun e => decide (e.1 = s)).map (·.2) = _
    rw [List.find?_cons, List.find?_cons]
    dsimp only
    cases decide (k = s) with
    | true => rfl
    | false => exact ih
theorem kvw_put : ∀ (m : MW) (k : HSt) (v : List Int), (kvw m).put k (wvl v) = kvw (mput m k v)
  | [], k, v => rfl
  | (k', v') :: m, k, v => by
    have ih := kvw_put m k v
    show KV.put ((k', wvl v') :: kvw m) k (wvl v) = kvw (bif decide (k' = k) then (k, v) :: m else (k', v') :: mput m k v)
    unfold KV.put
    cases decide (k' = k) with
    | true => rfl
    | false =>
      rw [cond_false, cond_false]
      show (k', wvl v') :: (kvw m).put k (wvl v) = _
      rw [ih]; rfl
theorem mget_mput : ∀ (m : MW) (k : HSt) (v : List Int) (s : HSt), mget (mput m k v) s = bif decide (k = s) then some v else mget m s
  | [], k, v, s => by
    unfold mput mget
    rw [List.find?_cons]
    dsimp only
    cases decide (k = s) <;> rfl
  | (k', v') :: m, k, v, s => by
    have ih := mget_mput m k v s
    unfold mput
    by_cases h : k' = k
    · subst h
      rw [decide_eq_true rfl, cond_true]
      unfold mget
      rw [List.find?_cons, List.find?_cons]
      dsimp only
      cases decide (k' = s) <;> rfl
    · rw [decide_eq_false h, cond_false]
      unfold mget at ih ⊢
      rw [List.find?_cons, List.find?_cons]
      dsimp only
      by_cases h2 : k' = s
      · subst h2
        rw [decide_eq_true rfl, decide_eq_false (fun e => h e.symm)]; rfl
      · rw [decide_eq_false h2]; exact ih
structure WOk (B : Int) (e : HSt × List Int) : Prop where
  k : e.1.length = 4
  v : e.2.length = 6
  t : 0 ≤ na e.2 4 ∧ na e.2 4 < 16
  a : 0 ≤ na e.2 5 ∧ na e.2 5 ≤ B
def MwOk (B : Int) (m : MW) : Prop := ∀ e ∈ m, WOk B e
theorem mput_ok {B : Int} : ∀ {m : MW} {k : HSt} {v : List Int}, MwOk B m → WOk B (k, v) → MwOk B (mput m k v)
  | [], k, v, _, h => fun e he => by rw [List.mem_singleton.1 he]; exact h
  | (k', v') :: m, k, v, hm, h => fun e he => by
    unfold mput at he
    cases hd : decide (k' = k) with
    | true =>
      rw [hd, cond_true] at he
      rcases List.mem_cons.1 he with rfl | h1
      · exact h
      · exact hm e (by simp [h1])
    | false =>
      rw [hd, cond_false] at he
      rcases List.mem_cons.1 he with rfl | h1
      · exact hm _ (by simp)
      · exact mput_ok (m := m) (fun e he => hm e (by simp [he])) h e h1
theorem mget_ok {B : Int} {m : MW} (hm : MwOk B m) {s : HSt} {w : List Int} (h : mget m s = some w) : w.length = 6 ∧ (0 ≤ na w 4 ∧ na w 4 < 16) ∧ 0 ≤ na w 5 ∧ na w 5 ≤ B := by
  unfold mget at h
  rw [Option.map_eq_some_iff] at h
  obtain ⟨e, he, rfl⟩ := h
  have := hm e (List.mem_of_find?_eq_some he)
  exact ⟨this.v, this.t, this.a⟩
theorem zw_ok : (0 ≤ na zw 4 ∧ na zw 4 < 16) ∧ 0 ≤ na zw 5 ∧ na zw 5 ≤ 0 := by decide
theorem kvw_len {B : Int} {m : MW} (hm : MwOk B m) : ∀ e ∈ kvw m, e.1.length = 4 := fun e he => by
  obtain ⟨p, hp, rfl⟩ := List.mem_map.1 he
  exact (hm p hp).k
theorem wor {o : Option (List Int)} : (o.map wvl).getD (wvl zw) = wvl (o.getD zw) := by cases o <;> rfl
theorem wor_some {o : Option (List Int)} : (o.map wvl).isSome = o.isSome := by cases o <;> rfl
theorem list6' {l : List Int} (h : l.length = 6) : ∃ a b c d e f, l = [a, b, c, d, e, f] := by
  match l, h with
  | [a, b, c, d, e, f], _ => exact ⟨a, b, c, d, e, f, rfl⟩
def updW (m : MW) (e : HSt × List Int) : MW := bif decide ((mget m e.1).getD zw = zw) || decide (na e.2 5 < na ((mget m e.1).getD zw) 5) then mput m e.1 e.2 else m
theorem updW_ok {B : Int} {m : MW} {e : HSt × List Int} (hm : MwOk B m) (he : WOk B e) : MwOk B (updW m e) := by
  unfold updW
  cases (decide ((mget m e.1).getD zw = zw) || decide (na e.2 5 < na ((mget m e.1).getD zw) 5)) with
  | true => exact mput_ok hm he
  | false => exact hm
def evOf (d : Dsk) (s : HSt) (c : Int) (l : List Nat) : Option (HSt × List Int) := (d.next s l).map fun t => (t, s ++ [(setN l : Int), c + (l.length : Int)])
def evsP (d : Dsk) (m : MW) (s : HSt) (j : Nat) : List (HSt × List Int) := match mget m s with
  | none => []
  | some w => ((d.trs false).take j).filterMap (evOf d s (na w 5))
def evW (d : Dsk) (m : MW) (s : HSt) : List (HSt × List Int) := evsP d m s (d.trs false).length
def nowM (d : Dsk) (m : MW) (k : Nat) : MW := ((d.sts.take k).flatMap (evW d m)).foldl updW []
def mday (d : Dsk) (s0 : HSt) : Nat → MW
  | 0 => [(s0, zw)]
  | i + 1 => nowM d (mday d s0 i) d.nst
theorem nowM_succ {d : Dsk} {m : MW} {k : Nat} {s : HSt} (h : d.sts[k]? = some s) : nowM d m (k + 1) = (evW d m s).foldl updW (nowM d m k) := by
  unfold nowM
  rw [take_snoc h, List.flatMap_append, List.foldl_append, List.flatMap_singleton]
theorem evsP_none {d : Dsk} {m : MW} {s : HSt} (h : mget m s = none) (j : Nat) : evsP d m s j = [] := by unfold evsP; rw [h]
theorem evsP_zero (d : Dsk) (m : MW) (s : HSt) : evsP d m s 0 = [] := by unfold evsP; cases mget m s <;> simp
theorem evsP_succ {d : Dsk} {m : MW} {s : HSt} {w : List Int} (h : mget m s = some w) {j : Nat} {l : List Nat} (hl : (d.trs false)[j]? = some l) : evsP d m s (j + 1) = evsP d m s j ++ (match d.next s l with | none => [] | some t => [(t, s ++ [(setN l : Int), na w 5 + (l.length : Int)])]) := by
  unfold evsP
  rw [h]
  dsimp only
  rw [take_snoc hl, List.filterMap_append]
  congr 1
  unfold evOf
  cases hn : d.next s l with
  | none => simp [hn]
  | some t => simp [hn]
theorem trs_len4 {d : Dsk} (hd : d.ok) {full : Bool} {l : List Nat} (h : l ∈ d.trs full) : l.length ≤ 4 := by
  obtain ⟨i, _, rfl⟩ := List.mem_map.1 (List.mem_filter.1 h).1
  have := bitl_len d.n i
  have := hd.n
  omega
theorem ev_ok {d : Dsk} (hd : d.ok) {s t : HSt} {B c : Int} (hs : d.inS s) (hc : 0 ≤ c ∧ c ≤ B) {l : List Nat} (hl : l ∈ d.trs false) (hn : d.next s l = some t) : WOk (B + 4) (t, s ++ [(setN l : Int), c + (l.length : Int)]) := by
  have h1 := d.trs_lt hl
  have h2 := trs_len4 hd hl
  have h3 := setN_lt (l := l) (m := 4) (fun k hk => by have := h1 k hk; have := hd.n; omega)
  obtain ⟨s0, s1, s2, s3, rfl⟩ := list4 hs.len
  refine ⟨(d.next_inS hd hs h1 hn).len, rfl, ?_, ?_⟩
  · show 0 ≤ (setN l : Int) ∧ (setN l : Int) < 16; omega
  · show 0 ≤ c + (l.length : Int) ∧ c + (l.length : Int) ≤ B + 4; omega
theorem fold_ok {B : Int} : ∀ {es : List (HSt × List Int)} {m : MW}, MwOk B m → (∀ e ∈ es, WOk B e) → MwOk B (es.foldl updW m)
  | [], _, hm, _ => hm
  | e :: es, m, hm, he => fold_ok (m := updW m e) (updW_ok hm (he e (by simp))) (fun f hf => he f (by simp [hf]))
theorem evsP_ok {d : Dsk} (hd : d.ok) {m : MW} {B : Int} (hm : MwOk B m) {s : HSt} (hs : s ∈ d.sts) (j : Nat) : ∀ e ∈ evsP d m s j, WOk (B + 4) e := fun e he => by
  unfold evsP at he
  cases h : mget m s with
  | none => rw [h] at he; cases he
  | some w =>
    rw [h] at he
    obtain ⟨l, hl, hle⟩ := List.mem_filterMap.1 he
    unfold evOf at hle
    rw [Option.map_eq_some_iff] at hle
    obtain ⟨t, ht, rfl⟩ := hle
    exact ev_ok hd ((d.mem_sts hd s).1 hs) (mget_ok hm h).2.2 (List.mem_of_mem_take hl) ht
theorem nowM_ok {d : Dsk} (hd : d.ok) {m : MW} {B : Int} (hm : MwOk B m) (k : Nat) : MwOk (B + 4) (nowM d m k) := by
  refine fold_ok (fun e he => by cases he) fun e he => ?_
  obtain ⟨s, hs, hes⟩ := List.mem_flatMap.1 he
  exact evsP_ok hd hm (List.mem_of_mem_take hs) _ e hes
theorem mday_ok {d : Dsk} (hd : d.ok) {s0 : HSt} (hs : s0.length = 4) : ∀ (i : Nat), MwOk (4 * i) (mday d s0 i)
  | 0 => fun e he => by rw [List.mem_singleton.1 he]; exact ⟨hs, rfl, zw_ok.1, ⟨zw_ok.2.1, zw_ok.2.2⟩⟩
  | i + 1 => by
    have := nowM_ok hd (mday_ok hd hs i) d.nst
    have e : (4 * ((i + 1 : Nat) : Int)) = 4 * (i : Int) + 4 := by push_cast; omega
    rw [e]; exact this
def bestS (m : MW) (acc : Option (HSt × Int)) (s : HSt) : Option (HSt × Int) := match mget m s with
  | none => acc
  | some w => match acc with
    | none => some (s, na w 5)
    | some (t, n) => bif decide (na w 5 < n) then some (s, na w 5) else some (t, n)
def bestT (d : Dsk) (m : MW) (k : Nat) : Option (HSt × Int) := (d.sts.take k).foldl (bestS m) none
theorem bestT_succ {d : Dsk} {m : MW} {k : Nat} {s : HSt} (h : d.sts[k]? = some s) : bestT d m (k + 1) = bestS m (bestT d m k) s := by
  unfold bestT; rw [take_snoc h, List.foldl_append]; rfl
def backP (d : Dsk) (s0 : HSt) : Nat → HSt → List (List Nat)
  | 0, _ => []
  | j + 1, s => backP d s0 j (((mget (mday d s0 (j + 1)) s).getD zw).take 4) ++ [bitl 4 (na ((mget (mday d s0 (j + 1)) s).getD zw) 4).toNat]
def MapsF (ms : List (Nat × MW)) (w : World) : Prop := ∀ p ∈ ms, w.heap[p.1]? = some (mapO true (kvw p.2))
def msrows (ms : List (Nat × MW)) : List (List Value) := ms.map fun p => [.map (some p.1)]
def mcells (ms : List (Nat × MW)) : List Value := ms.map fun p => .map (some p.1)
theorem msrows_len (ms : List (Nat × MW)) : (msrows ms).length = ms.length := List.length_map _
theorem mcells_len (ms : List (Nat × MW)) : (mcells ms).length = ms.length := List.length_map _
theorem msrows_flat : ∀ (ms : List (Nat × MW)), (msrows ms).flatten = mcells ms
  | [] => rfl
  | p :: ms => by show [Value.map (some p.1)] ++ (msrows ms).flatten = _; rw [msrows_flat ms]; rfl
theorem mc_get {ms : List (Nat × MW)} {junk : List Value} {d i : Nat} {p : Nat × MW} (h : ms[d]? = some p) (e : i = d) : (mcells ms ++ junk)[i]? = some (.map (some p.1)) := by
  subst e
  rw [List.getElem?_append_left (by rw [mcells_len]; exact (List.getElem?_eq_some_iff.1 h).1)]
  simp [mcells, h]
theorem maps_now {ms : List (Nat × MW)} {H : Heap} {R : Facts} [m : MemF (MapsF ms) R] {p : Nat × MW} (hp : p ∈ ms) : ∀ w, St H R w → w.heap[p.1]? = some (mapO true (kvw p.2)) := fun w hs => hs.now m.mem p hp
theorem St.maps {ms : List (Nat × MW)} {x : Nat} {m : MW} {H : Heap} {R : Facts} {w : World} [mf : MemF (MapsF ms) R] (h : St ((x, mapO true (kvw m)) :: H) R w) : St H (MapsF (ms ++ [(x, m)]) :: R) w := by
  have h1 := (St.freeze h).also (f := MapsF (ms ++ [(x, m)])) (fun w' hw p hp => by
    rcases List.mem_append.1 hp with h2 | h2
    · exact hw _ (List.mem_cons_of_mem _ mf.mem) p h2
    · rw [List.mem_singleton.1 h2]; exact hw (fun w => w.heap[x]? = some (mapO true (kvw m))) (by simp))
  exact h1.facts (fun g hg => by rcases List.mem_cons.1 hg with h2 | h2 <;> simp [h2])
theorem St.maps1 {x : Nat} {m : MW} {H : Heap} {R : Facts} {w : World} (h : St ((x, mapO true (kvw m)) :: H) R w) : St H (MapsF [(x, m)] :: R) w := by
  have h1 := (St.freeze h).also (f := MapsF [(x, m)]) (fun w' hw p hp => by
    rw [List.mem_singleton.1 hp]; exact hw (fun w => w.heap[x]? = some (mapO true (kvw m))) (by simp))
  exact h1.facts (fun g hg => by rcases List.mem_cons.1 hg with h2 | h2 <;> simp [h2])
def MsOk (d : Dsk) (s0 : HSt) (ms : List (Nat × MW)) (n : Nat) : Prop := ms.length = n ∧ ∀ j < n, ∃ x, ms[j]? = some (x, mday d s0 j)
theorem lk_way {H : Heap} {R : Facts} {m : MW} {B : Int} (hm : MwOk B m) {x : Nat} (hx : ∀ w, St H R w → w.heap[x]? = some (mapO true (kvw m))) (s : HSt) (hs : s.length = 4) :
    ∀ w, St H R w → Lkp Tryz.prog 176 (.map (some x)) (mkv true s) true (.tuple #[wvl ((mget m s).getD zw), .bool (mget m s).isSome]) w := fun w hw => by
  have h := lk_fact (b := true) (kvw m) s mke176 (KeyT.of eqf69 noa69) (run_zv zv175) hs (kvw_len hm) hx true w hw
  rw [kvw_get] at h
  rw [← wor, ← wor_some]
  exact h
theorem lk_way0 {H : Heap} {R : Facts} {m : MW} {B : Int} (hm : MwOk B m) {x : Nat} (hx : ∀ w, St H R w → w.heap[x]? = some (mapO true (kvw m))) (s : HSt) (hs : s.length = 4) :
    ∀ w, St H R w → Lkp Tryz.prog 176 (.map (some x)) (mkv true s) false (wvl ((mget m s).getD zw)) w := fun w hw => by
  have h := lk_fact (b := true) (kvw m) s mke176 (KeyT.of eqf69 noa69) (run_zv zv175) hs (kvw_len hm) hx false w hw
  rw [kvw_get] at h
  rw [← wor]
  exact h
theorem heldM {H : Heap} {R : Facts} {x : Nat} {o : Obj} [mm : Mem1 x o H] : ∀ w, St H R w → w.heap[x]? = some o := fun w hs => hs.held _ mm.mem
theorem wo_len {B : Int} {m : MW} (hm : MwOk B m) (s : HSt) : ((mget m s).getD zw).length = 6 ∧ (0 ≤ na ((mget m s).getD zw) 4 ∧ na ((mget m s).getD zw) 4 < 16) ∧ 0 ≤ na ((mget m s).getD zw) 5 := by
  cases h : mget m s with
  | none => exact ⟨rfl, by decide, by decide⟩
  | some w => have := mget_ok hm h; exact ⟨this.1, this.2.1, this.2.2.1⟩
theorem lk_wayE {H : Heap} {R : Facts} {m : MW} {B : Int} (hm : MwOk B m) {x : Nat} (hx : ∀ w, St H R w → w.heap[x]? = some (mapO true (kvw m))) (s : HSt) (hs : s.length = 4) {wo : Option (List Int)} (hwo : mget m s = wo) :
    ∀ w, St H R w → Lkp Tryz.prog 176 (.map (some x)) (mkv true s) true (.tuple #[wvl (wo.getD zw), .bool wo.isSome]) w := by subst hwo; exact lk_way hm hx s hs
theorem lk_way0E {H : Heap} {R : Facts} {m : MW} {B : Int} (hm : MwOk B m) {x : Nat} (hx : ∀ w, St H R w → w.heap[x]? = some (mapO true (kvw m))) (s : HSt) (hs : s.length = 4) {wo : List Int} (hwo : (mget m s).getD zw = wo) :
    ∀ w, St H R w → Lkp Tryz.prog 176 (.map (some x)) (mkv true s) false (wvl wo) w := by subst hwo; exact lk_way0 hm hx s hs
def bN (a : Option (HSt × Int)) : Int := match a with
  | none => 0
  | some p => p.2
def bS (a : Option (HSt × Int)) : HSt := match a with
  | none => [0, 0, 0, 0]
  | some p => p.1
def FewQ (d : Dsk) (s0 : HSt) (days : Nat) (H : Heap) (R : Facts) : Value → Heap → Facts → Prop := fun v H' R' => H' = H ∧
  ((bestT d (mday d s0 days) d.nst = none ∧ v = .tuple #[.slice none 0 0, .int .i64 0, .bool false] ∧ R' = R) ∨
   (∃ (s : HSt) (n : Int) (pl : List PL) (bp : Nat), bestT d (mday d s0 days) d.nst = some (s, n) ∧ lls pl = (backP d s0 days s).map il ∧ v = .tuple #[.slice (some ⟨bp, 0, none⟩) days days, .int .i64 n, .bool true] ∧ R' = RowsA (some ⟨bp, 0, none⟩) 1 (plrows pl) :: Inn pl :: R))
theorem msrows_snoc (ms : List (Nat × MW)) (x : Nat) (m : MW) : msrows (ms ++ [(x, m)]) = msrows ms ++ [[.map (some x)]] := by simp [msrows]
theorem MsOk.start (d : Dsk) (s0 : HSt) (x : Nat) : MsOk d s0 [(x, [(s0, zw)])] 1 := ⟨rfl, fun j hj => by
  obtain rfl : j = 0 := by omega
  exact ⟨x, rfl⟩⟩
theorem MsOk.snoc {d : Dsk} {s0 : HSt} {ms : List (Nat × MW)} {n : Nat} (h : MsOk d s0 ms (n + 1)) (x : Nat) : MsOk d s0 (ms ++ [(x, nowM d (mday d s0 n) d.nst)]) (n + 1 + 1) := by
  obtain ⟨h1, h2⟩ := h
  refine ⟨by rw [List.length_append, h1]; rfl, fun j hj => ?_⟩
  rcases Nat.lt_or_ge j (n + 1) with h3 | h3
  · obtain ⟨y, hy⟩ := h2 j h3
    exact ⟨y, by rw [List.getElem?_append_left (by omega)]; exact hy⟩
  · obtain rfl : j = n + 1 := by omega
    exact ⟨x, by rw [List.getElem?_append_right (by omega), h1, Nat.sub_self]; rfl⟩
theorem spl_fill {j i : Nat} {v z : Value} {cs : List Value} (e : i = j) : spl (List.replicate (j + 1) z ++ cs) i [v] = List.replicate j z ++ v :: cs := by
  subst e
  rw [List.replicate_succ', List.append_assoc]
  have := spl_at (p := List.replicate i z) (q := [z]) (s := cs) (vs := [v]) rfl
  rw [List.length_replicate] at this
  exact this
theorem St.innCons {a : Option Addr} {c : Nat} {l0 : List Int} {l : List PL} {H : Heap} {R : Facts} {w : World} [m1 : MemF (Inn l) R] [m2 : MemRows a 1 (irows l0) R] (h : St H R w) : St H (Inn (⟨a, c, l0⟩ :: l) :: R) w :=
  h.also fun _ hw y hy => by
    rcases List.mem_cons.1 hy with rfl | hy
    · exact hw _ m2.mem
    · exact hw _ m1.mem y hy
theorem bestT_len {d : Dsk} (hd : d.ok) (m : MW) : ∀ k, (bS (bestT d m k)).length = 4 := by
  have key : ∀ (l : List HSt) (acc : Option (HSt × Int)), (∀ s ∈ l, s.length = 4) → (bS acc).length = 4 → (bS (l.foldl (bestS m) acc)).length = 4 := by
    intro l
    induction l with
    | nil => intro acc _ h; exact h
    | cons s l ih =>
      intro acc hl h
      refine ih _ (fun t ht => hl t (by simp [ht])) ?_
      have hs := hl s (by simp)
      unfold bestS
      cases mget m s with
      | none => exact h
      | some w =>
        cases acc with
        | none => exact hs
        | some p =>
          obtain ⟨t, n⟩ := p
          dsimp only
          cases decide (na w 5 < n) with
          | true => exact hs
          | false => exact h
  exact fun k => key _ none (fun s hs => ((d.mem_sts hd s).1 (List.mem_of_mem_take hs)).len) rfl
set_option maxHeartbeats 4000000 in
theorem c_fewest (b : Barn) (hok : b.ok) (ab : Option Addr) (cb bd m : Nat) (days : Nat) (hdy : days ≤ 20) (H : Heap) (R : Facts) [hD : MemRows (some ⟨bd, 0, none⟩) 18 [dcs b (b.sl ab cb) b.lasts b.most m] R] [hB : MemRows ab 4 (brows b.bins) R] :
    Fn Tryz.prog 96 [.pointer (some ⟨bd, 0, none⟩), .int .i64 days] H R (FewQ b.dsk b.state days H R) := by
 have hdk := b.dsk_ok hok
 have hl4 := hdk.lasts.len
 have hm4 := hdk.most.len
 refine fnM_of Tryz.func96 rfl Tryz.ntmps96 rfl ?_
 refine sy_seq ?_
 refine sy_tx' [0, 1, 2, 3, 4] rfl ?_
 refine bx rfl rfl rfl (fun b2 => ?_)
 refine bx rfl rfl rfl (fun b3 => ?_)
 refine sp rfl (PE.assign rfl) rfl ?_
 refine sp rfl (PE.assign rfl) rfl ?_
 refine sp rfl (PE.assign rfl) rfl ?_
 refine sy_seq ?_
 refine sy_tx' [0, 1, 2, 3, 4, 5, 6, 7, 8, 9, 10, 11] rfl ?_
 refine mkm rfl rfl true (fun m27 => ?_)
 refine spL rfl rfl (lh sc65 rfl rfl) rfl ?_
 refine sp rfl (PE.nilCheck rfl) rfl ?_
 refine sp rfl (PE.fieldAddr fo72_0 rfl) rfl ?_
 refine spL rfl rfl (lfBA (sz := 18) (btl b (b.sl ab cb)) ag27 rfl rfl) rfl ?_
 refine clV rfl cal26 rfl rfl (c_state b ab cb hok _ _) ?_
 refine sp rfl (PE.build (out := [_, _, _, _, _, _]) pl175 zl175 rfl rfl) rfl ?_
 refine mpi [] b.state rfl mke176 (KeyT.of eqf69 noa69) rfl rfl rfl (b.state_sml hok).len (by simp) ?_
 refine sp rfl (PE.move rfl) rfl ?_
 refine bsl (out := [_]) rfl sl177 zl176 rfl rfl rfl rfl rfl rfl (fun b35 => ?_)
 refine alc rfl zl177 rfl (fun b7 => ?_)
 refine sto rfl rfl rfl cn177 rfl rfl rfl rfl ?_
 refine sy_seq ?_
 refine sy_seq ?_
 refine sy_tx' [0, 1] rfl ?_
 refine spL rfl rfl (lh sc3 rfl rfl) rfl ?_
 refine sp rfl (PE.move rfl) rfl ?_
 refine sy_block ?_
 refine Sy.heap (fun w h => St.maps1 (x := m27) (m := [(b.state, zw)]) (h.pull m27)) ?_
 obtain ⟨o0, h0f, h0g⟩ : ∃ o : OSl 176 1 (msrows [(m27, [(b.state, zw)])]), o.fs = .slice (some ⟨b35, 0, none⟩) 1 1 ∧ o.G = [(b35, cel 176 [.map (some m27)])] := ⟨⟨.slice (some ⟨b35, 0, none⟩) 1 1, [(b35, cel 176 [.map (some m27)])], by intro r hr; simp only [msrows, List.map_cons, List.map_nil, List.mem_singleton] at hr; subst hr; rfl, .inr ⟨b35, 1, [], rfl, rfl, rfl, Nat.le_refl _, by decide⟩⟩, rfl, rfl⟩
 refine Sy.heap (H' := (b7, cel 177 [o0.fs]) :: (b3, cel 3 [.int .i64 days]) :: (b2, cel 65 [.pointer (some ⟨bd, 0, none⟩)]) :: (o0.G ++ (mkh [] ++ H))) (fun w h => by rw [h0f, h0g]; exact (((h.pull b35).pull b2).pull b3).pull b7) ?_
 have hs0 : b.state.length = 4 := (b.state_sml hok).len
 refine sy_loopD (ι := (x : {x : Nat × List (Nat × MW) × List Nat // x.1 ≤ days ∧ MsOk b.dsk b.state x.2.1 (x.1 + 1)}) × OSl 176 1 (msrows x.1.2.1)) (fun x => ⟨[(2, .pointer (some ⟨b2, 0, none⟩)), (3, .pointer (some ⟨b3, 0, none⟩)), (7, .pointer (some ⟨b7, 0, none⟩)), (36, .int .i64 days), (37, .int .i64 x.1.1.1)], mks x.1.1.2.2, (b7, cel 177 [x.2.fs]) :: (b3, cel 3 [.int .i64 days]) :: (b2, cel 65 [.pointer (some ⟨bd, 0, none⟩)]) :: (x.2.G ++ (mkh x.1.1.2.2 ++ H)), MapsF x.1.1.2.1 :: R⟩) (fun x => days - x.1.1.1) ⟨⟨(0, [(m27, [(b.state, zw)])], []), Nat.zero_le _, MsOk.start _ _ _⟩, o0⟩ ?_ (fun x => ?_)
 exact sy_atD (by repeat' first | exact Sub.nil | apply Sub.cons | rfl | (simp [lk]; omega)) rfl (fun _ h => h)
 ·
  obtain ⟨⟨⟨d, ms, mk⟩, hd, hms⟩, o⟩ := x
  dsimp only at hd hms o ⊢
  obtain ⟨hml, hmg⟩ := hms
  obtain ⟨br, cr, jr, hrf, hrG, hrj, hrc, hrx⟩ := o.is.resolve_left (fun h => by have := congrArg List.length h.1; rw [msrows_len] at this; simp only [List.length_nil] at this; omega)
  rw [msrows_len] at hrf hrj hrc
  rw [msrows_flat] at hrG
  rw [hrf]
  refine Sy.heap (H' := (b7, cel 177 [.slice (some ⟨br, 0, none⟩) ms.length cr]) :: (b3, cel 3 [.int .i64 days]) :: (b2, cel 65 [.pointer (some ⟨bd, 0, none⟩)]) :: (br, cel 176 (mcells ms ++ jr)) :: (mkh mk ++ H)) (fun w h => by rw [hrG] at h; exact h) ?_
  obtain ⟨mj, hmj⟩ := hmg d (by omega)
  have hmok := mday_ok hdk hs0 d
  refine sy_seq ?_
  refine sy_tx' [0] rfl ?_
  refine sp rfl (PE.lss rfl rfl) rfl ?_
  refine sy_seq ?_
  refine sy_cond rfl (fun hc0 => ?_) (fun hc0 => ?_)
  ·
   try simp only [decide_eq_true_eq, decide_eq_false_iff_not, Bool.and_eq_true, Bool.or_eq_true, Bool.not_eq_true', Int.not_le, Int.not_lt] at hc0
   refine sy_skip ?_
   refine sy_seq ?_
   refine sy_block ?_
   refine sy_seq ?_
   refine sy_tx' [0, 1, 2] rfl ?_
   refine sp rfl (PE.move rfl) rfl ?_
   refine alc rfl zl3 rfl (fun b8 => ?_)
   refine sto rfl rfl rfl cn3 rfl rfl rfl rfl ?_
   refine sy_seq ?_
   refine sy_tx' [0, 1, 2] rfl ?_
   refine mkm rfl rfl true (fun m40 => ?_)
   refine alc rfl zl176 rfl (fun b9 => ?_)
   refine sto rfl rfl rfl cn176 rfl rfl rfl rfl ?_
   refine sy_seq ?_
   refine sy_seq ?_
   refine sy_tx' [0, 1] rfl ?_
   refine spL rfl rfl (lh sc65 rfl rfl) rfl ?_
   refine cl rfl cal78 rfl rfl (c_states bd _ _) ?_
   rintro _ _ _ ⟨xb, rfl, rfl, rfl⟩
   refine sy_block ?_
   refine sy_range rfl cal123 (fun c0 bl0 bd0 hcp0 hca0 hcb0 hck0 => ?_)
   refine ⟨fun st pend T R' => st = .ready ∧ pend = none ∧ T = (bd0, .deferred (some [])) :: (b9, cel 176 [.map (some m40)]) :: (m40, mapO true (kvw (nowM b.dsk (mday b.dsk b.state d) b.dsk.nst))) :: (b8, cel 3 [.int .i64 d]) :: (b7, cel 177 [.slice (some ⟨br, 0, none⟩) ms.length cr]) :: (b3, cel 3 [.int .i64 days]) :: (b2, cel 65 [.pointer (some ⟨bd, 0, none⟩)]) :: (br, cel 176 (mcells ms ++ jr)) :: (mkh mk ++ H) ∧ R' = RowsA (some ⟨xb, 0, none⟩) 1 [[.pointer (some ⟨bd, 0, none⟩)]] :: MapsF ms :: R,
     Fn.mono (c_states1 b hok ab cb bd m xb bl0 (fun k H' R' => H' = (bl0, lob c0 .ready none) :: (bd0, .deferred (some [])) :: (b9, cel 176 [.map (some m40)]) :: (m40, mapO true (kvw (nowM b.dsk (mday b.dsk b.state d) k))) :: (b8, cel 3 [.int .i64 d]) :: (b7, cel 177 [.slice (some ⟨br, 0, none⟩) ms.length cr]) :: (b3, cel 3 [.int .i64 days]) :: (b2, cel 65 [.pointer (some ⟨bd, 0, none⟩)]) :: (br, cel 176 (mcells ms ++ jr)) :: (mkh mk ++ H) ∧ R' = RowsA (some ⟨xb, 0, none⟩) 1 [[.pointer (some ⟨bd, 0, none⟩)]] :: MapsF ms :: R) (fun _ _ => False)
       (fun k H' R' h => by obtain ⟨_, rfl⟩ := h; exact ⟨by simp, List.mem_cons_of_mem _ (List.mem_cons_of_mem _ hD.mem)⟩) (fun k s q oo H' R' hk hI => ?_) _ _ ⟨rfl, rfl⟩) (fun v H' R' h => ?_), ?_⟩
   rotate_left
   · rcases h with ⟨rfl, rfl⟩ | h
     · exact ⟨.ready, none, _, by simp, .refl _, rfl, rfl, rfl, rfl⟩
     · exact h.elim
   rotate_left
   ·
    have hmem := List.mem_of_getElem? hk
    have hsi := (b.dsk.mem_sts hdk s).1 hmem
    obtain ⟨s0, s1, s2, s3, rfl⟩ := list4 hsi.len
    have hnk := nowM_succ (m := (mday b.dsk b.state d)) hk
    obtain ⟨hw6, hw4, hw5⟩ := wo_len hmok [s0, s1, s2, s3]
    obtain ⟨wo, hwo⟩ : ∃ wo, mget (mday b.dsk b.state d) [s0, s1, s2, s3] = wo := ⟨_, rfl⟩
    rw [hwo] at hw6 hw4 hw5
    obtain ⟨rfl, rfl⟩ := hI
    refine yd_of hcp0 hca0 hcb0 hck0 rfl ?_
    refine sy_tx' [0, 1] rfl ?_
    refine alc rfl zl69 rfl (fun b10 => ?_)
    refine sto rfl rfl rfl cn69 rfl rfl rfl rfl ?_
    refine sy_beginRound ?_
    refine sy_block ?_
    refine sy_seq ?_
    refine sy_draw [0, 0, 3, 7, 0, 31, 63, 127, 127, 0, 767, 2047] (.ld 0 (.ld 1 (.tk 2 (.ld 3 (.ld 4 (.ld 5 (.tk 6 (.tk 7 (.tk 8 (.big 9 (.big 10 (.tk 11 .done)))))))))))) mixed (by kernel_rfl) ?_
    refine ld rfl rfl (lh sc177 rfl rfl) rfl ?_
    refine ld rfl rfl (lh sc3 rfl rfl) rfl ?_
    refine tk rfl (PE.indexAddr el177 rfl rfl (by omega) (by omega)) rfl ?_
    refine ld rfl rfl (lh sc176 rfl (mc_get hmj (by show 0 + ((d : Nat) : Int).toNat * 1 = d; omega))) rfl ?_
    refine ld rfl rfl (lhA [_, _, _, _] ag69 rfl rfl rfl) rfl ?_
    refine ldK rfl rfl rfl (lk_wayE hmok (maps_now (List.mem_of_getElem? hmj)) [s0, s1, s2, s3] rfl hwo) rfl ?_
    refine tk rfl (PE.move rfl) rfl ?_
    refine tk rfl (PE.extract rfl rfl) rfl ?_
    refine tk rfl (PE.extract rfl rfl) rfl ?_
    refine alc rfl zl175 rfl (fun b11 => ?_)
    refine bg (fun w hs => ⟨(lk_wayE hmok (maps_now (List.mem_of_getElem? hmj)) [s0, s1, s2, s3] rfl hwo) w hs, (lhA [_, _, _, _] ag69 rfl rfl rfl) w hs, (lh sc176 rfl (mc_get hmj (by show 0 + ((d : Nat) : Int).toNat * 1 = d; omega))) w hs, (lh sc3 rfl rfl) w hs, (lh sc177 rfl rfl) w hs, trivial⟩) ?_
    refine stoA (vs := ints (wo.getD zw)) rfl rfl rfl cn175 rfl (by rw [ints_length]; exact hw6) rfl (ints_one _) ?_
    refine bg (fun w hs => ⟨trivial, trivial, trivial, trivial, trivial, trivial⟩) ?_
    refine tk rfl (PE.assign rfl) rfl ?_
    refine sy_seq ?_
    refine sy_seq ?_
    refine sy_tx' [0, 1] rfl ?_
    refine sp rfl (PE.move rfl) rfl ?_
    refine sp rfl (PE.not rfl) rfl ?_
    refine sy_cond rfl (fun hc1 => ?_) (fun hc1 => ?_)
    have hwn : wo = none := by cases wo with
      | none => rfl
      | some w => cases hc1
    have hev : evW b.dsk (mday b.dsk b.state d) [s0, s1, s2, s3] = [] := evsP_none (hwo.trans hwn) _
    refine sy_exit ?_
    refine sy_tx ?_
    refine sy_bx ?_
    exact sy_roundOn (.inl ⟨rfl, _, rfl, rfl, rfl⟩) (fun w h => by rw [hnk, hev]; exact (h.del b11).del b10)
    ·
     obtain ⟨w, rfl⟩ : ∃ w, wo = some w := by cases wo with
       | none => cases hc1
       | some w => exact ⟨w, rfl⟩
     obtain ⟨w0, w1, w2, w3, w4, w5, rfl⟩ := list6' (show w.length = 6 from hw6)
     have hwb : 0 ≤ w5 ∧ w5 ≤ 4 * (d : Int) := (mget_ok hmok hwo).2.2
     refine sy_skip ?_
     refine sy_seq ?_
     refine sy_tx' [0, 1] rfl ?_
     refine spL rfl rfl (lh sc65 rfl rfl) rfl ?_
     refine cl rfl cal29 rfl rfl (c_turnings bd false _ _) ?_
     rintro _ _ _ ⟨xt, xf, rfl, rfl, rfl⟩
     refine sy_block ?_
     refine sy_rangeN rfl cal81 (fun c1 bl1 hcp1 hca1 hcb1 hck1 => ?_)
     refine ⟨fun st pend T R' => st = .ready ∧ pend = none ∧ T = (b11, cel 175 [.int .i64 w0, .int .i64 w1, .int .i64 w2, .int .i64 w3, .int .i64 w4, .int .i64 w5]) :: (b10, cel 69 [.int .i64 s0, .int .i64 s1, .int .i64 s2, .int .i64 s3]) :: (q, oo) :: (bl0, lob c0 .busy none) :: (bd0, .deferred (some [])) :: (b9, cel 176 [.map (some m40)]) :: (m40, mapO true (kvw ((evsP b.dsk (mday b.dsk b.state d) [s0, s1, s2, s3] (b.dsk.trs false).length).foldl updW (nowM b.dsk (mday b.dsk b.state d) k)))) :: (b8, cel 3 [.int .i64 d]) :: (b7, cel 177 [.slice (some ⟨br, 0, none⟩) ms.length cr]) :: (b3, cel 3 [.int .i64 days]) :: (b2, cel 65 [.pointer (some ⟨bd, 0, none⟩)]) :: (br, cel 176 (mcells ms ++ jr)) :: (mkh mk ++ H) ∧ R' = RowsA (some ⟨xf, 0, none⟩) 1 [[.bool false]] :: RowsA (some ⟨xt, 0, none⟩) 1 [[.pointer (some ⟨bd, 0, none⟩)]] :: RowsA (some ⟨xb, 0, none⟩) 1 [[.pointer (some ⟨bd, 0, none⟩)]] :: MapsF ms :: R,
       Fn.mono (c_turnings1 b hok ab cb bd m false xt xf bl1 (fun j H' R' => H' = (bl1, lob c1 .ready none) :: (b11, cel 175 [.int .i64 w0, .int .i64 w1, .int .i64 w2, .int .i64 w3, .int .i64 w4, .int .i64 w5]) :: (b10, cel 69 [.int .i64 s0, .int .i64 s1, .int .i64 s2, .int .i64 s3]) :: (q, oo) :: (bl0, lob c0 .busy none) :: (bd0, .deferred (some [])) :: (b9, cel 176 [.map (some m40)]) :: (m40, mapO true (kvw ((evsP b.dsk (mday b.dsk b.state d) [s0, s1, s2, s3] j).foldl updW (nowM b.dsk (mday b.dsk b.state d) k)))) :: (b8, cel 3 [.int .i64 d]) :: (b7, cel 177 [.slice (some ⟨br, 0, none⟩) ms.length cr]) :: (b3, cel 3 [.int .i64 days]) :: (b2, cel 65 [.pointer (some ⟨bd, 0, none⟩)]) :: (br, cel 176 (mcells ms ++ jr)) :: (mkh mk ++ H) ∧ R' = RowsA (some ⟨xf, 0, none⟩) 1 [[.bool false]] :: RowsA (some ⟨xt, 0, none⟩) 1 [[.pointer (some ⟨bd, 0, none⟩)]] :: RowsA (some ⟨xb, 0, none⟩) 1 [[.pointer (some ⟨bd, 0, none⟩)]] :: MapsF ms :: R) (fun _ _ => False)
         (fun k H' R' h => by obtain ⟨_, rfl⟩ := h; exact ⟨by simp, by simp, List.mem_cons_of_mem _ (List.mem_cons_of_mem _ (List.mem_cons_of_mem _ (List.mem_cons_of_mem _ hD.mem)))⟩) (fun j l a c H' R' hj hI => ?_) _ _ ⟨by rw [evsP_zero]; rfl, rfl⟩) (fun v H' R' h => ?_), ?_⟩
     rotate_left
     · rcases h with ⟨rfl, rfl⟩ | h
       · exact ⟨.ready, none, _, by simp, .refl _, rfl, rfl, rfl, rfl⟩
       · exact h.elim
     rotate_left
     have hlm := List.mem_of_getElem? hj
     have hlt := b.dsk.trs_lt hlm
     have hl4' := trs_len4 hdk hlm
     have hll : l.length ≤ 1000000 := by omega
     have hcm : MwOk (4 * (d : Int) + 4) ((evsP b.dsk (mday b.dsk b.state d) [s0, s1, s2, s3] j).foldl updW (nowM b.dsk (mday b.dsk b.state d) k)) := fold_ok (nowM_ok hdk hmok k) (evsP_ok hdk hmok hmem j)
     have hes := evsP_succ hwo hj
     obtain ⟨cu, hcu⟩ : ∃ cu, ((evsP b.dsk (mday b.dsk b.state d) [s0, s1, s2, s3] j).foldl updW (nowM b.dsk (mday b.dsk b.state d) k)) = cu := ⟨_, rfl⟩
     have hcs : ((evsP b.dsk (mday b.dsk b.state d) [s0, s1, s2, s3] (j + 1)).foldl updW (nowM b.dsk (mday b.dsk b.state d) k)) = (match b.dsk.next [s0, s1, s2, s3] l with | none => cu | some t => updW cu (t, [s0, s1, s2, s3, (setN l : Int), w5 + (l.length : Int)])) := by
       rw [hes, List.foldl_append, hcu]; cases b.dsk.next [s0, s1, s2, s3] l <;> rfl
     obtain ⟨rfl, rfl⟩ := hI
     rw [hcu] at hcm ⊢
     refine yd_of hcp1 hca1 hcb1 hck1 rfl ?_
     refine sy_tx' [0] rfl ?_
     refine sp rfl (PE.assign rfl) rfl ?_
     refine sy_beginRound ?_
     refine sy_block ?_
     refine sy_seq ?_
     refine sy_tx' [0, 1, 2, 3, 4, 5, 6, 7, 8, 9] rfl ?_
     refine spL rfl rfl (lh sc65 rfl rfl) rfl ?_
     refine spL rfl rfl (lhA [_, _, _, _] ag69 rfl rfl rfl) rfl ?_
     refine sp rfl (PE.move rfl) rfl ?_
     refine cl rfl cal30 rfl rfl (c_next b hok ab cb bd m [s0, s1, s2, s3] (b.dsk.inS_sml hdk hsi) l hlt hll a c _ _) ?_
     rintro _ _ _ ⟨rfl, rfl, rfl⟩
     rcases hnx : b.dsk.next [s0, s1, s2, s3] l with _ | t
     have hcs2 : ((evsP b.dsk (mday b.dsk b.state d) [s0, s1, s2, s3] (j + 1)).foldl updW (nowM b.dsk (mday b.dsk b.state d) k)) = cu := by rw [hcs, hnx]
     refine sp rfl (PE.move rfl) rfl ?_
     refine sp rfl (PE.extract rfl rfl) rfl ?_
     refine sp rfl (PE.extract rfl rfl) rfl ?_
     refine alc rfl zl69 rfl (fun b14 => ?_)
     refine sto rfl rfl rfl cn69 rfl rfl rfl rfl ?_
     refine sp rfl (PE.assign rfl) rfl ?_
     refine sy_seq ?_
     refine sy_seq ?_
     refine sy_tx' [0, 1] rfl ?_
     refine sp rfl (PE.move rfl) rfl ?_
     refine sp rfl (PE.not rfl) rfl ?_
     refine sy_condT rfl ?_
     refine sy_exit ?_
     refine sy_tx ?_
     refine sy_bx ?_
     exact sy_roundOn (.inl ⟨rfl, rfl, rfl⟩) (fun w h => by rw [hcs2]; exact (h.del b14).ftail)
     have hts := b.dsk.next_inS hdk hsi hlt hnx
     obtain ⟨t0, t1, t2, t3, rfl⟩ := list4 hts.len
     have hcs2 : ((evsP b.dsk (mday b.dsk b.state d) [s0, s1, s2, s3] (j + 1)).foldl updW (nowM b.dsk (mday b.dsk b.state d) k)) = updW cu ([t0, t1, t2, t3], [s0, s1, s2, s3, (setN l : Int), w5 + (l.length : Int)]) := by rw [hcs, hnx]
     refine sp rfl (PE.move rfl) rfl ?_
     refine sp rfl (PE.extract rfl rfl) rfl ?_
     refine sp rfl (PE.extract rfl rfl) rfl ?_
     refine alc rfl zl69 rfl (fun b14 => ?_)
     refine sto rfl rfl rfl cn69 rfl rfl rfl rfl ?_
     refine sp rfl (PE.assign rfl) rfl ?_
     refine sy_seq ?_
     refine sy_seq ?_
     refine sy_tx' [0, 1] rfl ?_
     refine sp rfl (PE.move rfl) rfl ?_
     refine sp rfl (PE.not rfl) rfl ?_
     refine sy_condF rfl ?_
     refine sy_skip ?_
     refine sy_seq ?_
     refine sy_draw [0, 0, 2, 0, 8, 0, 32, 120, 255, 0, 1023] (.ld 0 (.tk 1 (.tk 3 (.ld 4 (.tk 5 (.tk 6 (.tk 7 (.any (.alt 2 (.tk 8 (.big 9 (.big 10 .done))) (.alt 9 (.big 2 (.tk 8 (.big 10 .done))) .stop)))))))))) mixed (by kernel_rfl) ?_
     refine ld rfl rfl (lhA [_, _, _, _] ag69 rfl rfl rfl) rfl ?_
     refine tk rfl (PE.move rfl) rfl ?_
     refine tk rfl (PE.fieldAddr fo175_2 rfl) rfl ?_
     refine ld rfl rfl (lh sc3 rfl rfl) rfl ?_
     refine tk rfl (PE.move rfl) rfl ?_
     refine tk rfl (PE.lenSl isl22 rfl) rfl ?_
     refine tk rfl (PE.add rfl rfl (by omega)) rfl ?_
     refine sy_alt ?_ ?_
     refine clV rfl cal127 rfl rfl (c_set l (fun k hk => by have h1 := hlt k hk; have h2 : b.dsk.n ≤ 4 := hdk.n.2; omega) hll a c _ _) ?_
     refine bg (fun w hs => ⟨(lh sc3 rfl rfl) w hs, (lhA [_, _, _, _] ag69 rfl rfl rfl) w hs, trivial⟩) ?_
     refine tk rfl (PE.build (out := [_, _, _, _, _, _]) pl175 zl175 rfl rfl) rfl ?_
     refine alc rfl zl175 rfl (fun b16 => ?_)
     refine bg (fun w hs => ⟨(lh sc3 rfl rfl) w hs, (lhA [_, _, _, _] ag69 rfl rfl rfl) w hs, trivial⟩) ?_
     refine sto rfl rfl rfl cn175 rfl rfl rfl rfl ?_
     refine bg (fun w hs => ⟨trivial, trivial, trivial⟩) ?_
     refine sy_seq ?_
     refine sy_tx' [0, 1, 2, 3, 4] rfl ?_
     refine spL rfl rfl (lh sc176 rfl rfl) rfl ?_
     refine spL rfl rfl (lhA [_, _, _, _] ag69 rfl rfl rfl) rfl ?_
     refine spK rfl rfl rfl (lk_way0 hcm (heldM (x := m40)) [t0, t1, t2, t3] rfl) rfl ?_
     have hl6 := (wo_len hcm [t0, t1, t2, t3]).1
     obtain ⟨ol, hol⟩ : ∃ ol, (mget cu [t0, t1, t2, t3]).getD zw = ol := ⟨_, rfl⟩
     rw [hol] at hl6 ⊢
     obtain ⟨o0, o1, o2, o3, o4, o5, rfl⟩ := list6' hl6
     refine alc rfl zl175 rfl (fun b17 => ?_)
     refine sto rfl rfl rfl cn175 rfl rfl rfl rfl ?_
     refine sy_seq ?_
     refine sy_tx' [0, 1, 2, 3, 4, 5, 6, 7, 8, 9] rfl ?_
     refine spL rfl rfl (lhA [_, _, _, _, _, _] ag175 rfl rfl rfl) rfl ?_
     refine sp rfl (PE.build (out := [_, _, _, _, _, _]) pl175 zl175 rfl rfl) rfl ?_
     refine sp rfl (PE.eqlAgg [o0, o1, o2, o3, o4, o5] [0, 0, 0, 0, 0, 0] (eqB_ok 10000 175 true 6 eqf175) eqg175 rfl rfl rfl rfl) rfl ?_
     refine sp rfl (PE.move rfl) rfl ?_
     refine sy_case (t := 82) rfl (fun g82 => ?_) (fun g82 => ?_)
     have hu : updW cu ([t0, t1, t2, t3], [s0, s1, s2, s3, (setN l : Int), w5 + (l.length : Int)]) = mput cu [t0, t1, t2, t3] [s0, s1, s2, s3, (setN l : Int), w5 + (l.length : Int)] := by unfold updW; dsimp only; rw [hol, show decide ([o0, o1, o2, o3, o4, o5] = zw) = true from g82]; rfl
     repeat refine spN rfl rfl rfl rfl rfl rfl rfl rfl ?_
     refine sp rfl (PE.pick rfl rfl rfl) rfl ?_
     refine sy_condT rfl ?_
     refine sy_tx' [0, 1, 2, 3] rfl ?_
     refine spL rfl rfl (lh sc176 rfl rfl) rfl ?_
     refine spL rfl rfl (lhA [_, _, _, _] ag69 rfl rfl rfl) rfl ?_
     refine spL rfl rfl (lhA [_, _, _, _, _, _] ag175 rfl rfl rfl) rfl ?_
     refine mpu (kvw cu) [t0, t1, t2, t3] (v := wvl [s0, s1, s2, s3, (setN l : Int), w5 + (l.length : Int)]) rfl mke176 (KeyT.of eqf69 noa69) rfl rfl rfl rfl (kvw_len hcm) ?_
     rw [kvw_put]
     exact sy_roundOn (.inl ⟨rfl, rfl, rfl⟩) (fun w h => by rw [hcs2, hu]; exact (((h.del b17).del b16).del b14).ftail)
     refine spG rfl rfl rfl rfl (PE.fieldAddr fo175_2 rfl) rfl ?_
     refine spLG rfl rfl rfl rfl rfl (lh sc3 rfl rfl) rfl ?_
     refine spG rfl rfl rfl rfl (PE.fieldAddr fo175_2 rfl) rfl ?_
     refine spLG rfl rfl rfl rfl rfl (lh sc3 rfl rfl) rfl ?_
     refine spG rfl rfl rfl rfl (PE.lss rfl rfl) rfl ?_
     refine sp rfl (PE.pick rfl rfl rfl) rfl ?_
     refine sy_cond rfl (fun hc3 => ?_) (fun hc3 => ?_)
     have hu : updW cu ([t0, t1, t2, t3], [s0, s1, s2, s3, (setN l : Int), w5 + (l.length : Int)]) = mput cu [t0, t1, t2, t3] [s0, s1, s2, s3, (setN l : Int), w5 + (l.length : Int)] := by unfold updW; dsimp only; rw [hol, show decide ([o0, o1, o2, o3, o4, o5] = zw) = false from g82, show decide (na [s0, s1, s2, s3, (setN l : Int), w5 + (l.length : Int)] 5 < na [o0, o1, o2, o3, o4, o5] 5) = true from hc3]; rfl
     refine sy_tx' [0, 1, 2, 3] rfl ?_
     refine spL rfl rfl (lh sc176 rfl rfl) rfl ?_
     refine spL rfl rfl (lhA [_, _, _, _] ag69 rfl rfl rfl) rfl ?_
     refine spL rfl rfl (lhA [_, _, _, _, _, _] ag175 rfl rfl rfl) rfl ?_
     refine mpu (kvw cu) [t0, t1, t2, t3] (v := wvl [s0, s1, s2, s3, (setN l : Int), w5 + (l.length : Int)]) rfl mke176 (KeyT.of eqf69 noa69) rfl rfl rfl rfl (kvw_len hcm) ?_
     rw [kvw_put]
     exact sy_roundOn (.inl ⟨rfl, rfl, rfl⟩) (fun w h => by rw [hcs2, hu]; exact (((h.del b17).del b16).del b14).ftail)
     have hu : updW cu ([t0, t1, t2, t3], [s0, s1, s2, s3, (setN l : Int), w5 + (l.length : Int)]) = cu := by unfold updW; dsimp only; rw [hol, show decide ([o0, o1, o2, o3, o4, o5] = zw) = false from g82, show decide (na [s0, s1, s2, s3, (setN l : Int), w5 + (l.length : Int)] 5 < na [o0, o1, o2, o3, o4, o5] 5) = false from hc3]; rfl
     refine sy_skip ?_
     exact sy_roundOn (.inl ⟨rfl, rfl, rfl⟩) (fun w h => by rw [hcs2, hu]; exact (((h.del b17).del b16).del b14).ftail)
     refine sy_alt ?_ ?_
     refine alc rfl zl175 rfl (fun b16 => ?_)
     refine bg (fun w hs => ⟨(lh sc3 rfl rfl) w hs, (lhA [_, _, _, _] ag69 rfl rfl rfl) w hs, trivial⟩) ?_
     refine clV rfl cal127 rfl rfl (c_set l (fun k hk => by have h1 := hlt k hk; have h2 : b.dsk.n ≤ 4 := hdk.n.2; omega) hll a c _ _) ?_
     refine bg (fun w hs => ⟨(lh sc3 rfl rfl) w hs, (lhA [_, _, _, _] ag69 rfl rfl rfl) w hs, trivial⟩) ?_
     refine tk rfl (PE.build (out := [_, _, _, _, _, _]) pl175 zl175 rfl rfl) rfl ?_
     refine sto rfl rfl rfl cn175 rfl rfl rfl rfl ?_
     refine bg (fun w hs => ⟨trivial, trivial, trivial⟩) ?_
     refine sy_seq ?_
     refine sy_tx' [0, 1, 2, 3, 4] rfl ?_
     refine spL rfl rfl (lh sc176 rfl rfl) rfl ?_
     refine spL rfl rfl (lhA [_, _, _, _] ag69 rfl rfl rfl) rfl ?_
     refine spK rfl rfl rfl (lk_way0 hcm (heldM (x := m40)) [t0, t1, t2, t3] rfl) rfl ?_
     have hl6 := (wo_len hcm [t0, t1, t2, t3]).1
     obtain ⟨ol, hol⟩ : ∃ ol, (mget cu [t0, t1, t2, t3]).getD zw = ol := ⟨_, rfl⟩
     rw [hol] at hl6 ⊢
     obtain ⟨o0, o1, o2, o3, o4, o5, rfl⟩ := list6' hl6
     refine alc rfl zl175 rfl (fun b17 => ?_)
     refine sto rfl rfl rfl cn175 rfl rfl rfl rfl ?_
     refine sy_seq ?_
     refine sy_tx' [0, 1, 2, 3, 4, 5, 6, 7, 8, 9] rfl ?_
     refine spL rfl rfl (lhA [_, _, _, _, _, _] ag175 rfl rfl rfl) rfl ?_
     refine sp rfl (PE.build (out := [_, _, _, _, _, _]) pl175 zl175 rfl rfl) rfl ?_
     refine sp rfl (PE.eqlAgg [o0, o1, o2, o3, o4, o5] [0, 0, 0, 0, 0, 0] (eqB_ok 10000 175 true 6 eqf175) eqg175 rfl rfl rfl rfl) rfl ?_
     refine sp rfl (PE.move rfl) rfl ?_
     refine sy_case (t := 82) rfl (fun g82 => ?_) (fun g82 => ?_)
     have hu : updW cu ([t0, t1, t2, t3], [s0, s1, s2, s3, (setN l : Int), w5 + (l.length : Int)]) = mput cu [t0, t1, t2, t3] [s0, s1, s2, s3, (setN l : Int), w5 + (l.length : Int)] := by unfold updW; dsimp only; rw [hol, show decide ([o0, o1, o2, o3, o4, o5] = zw) = true from g82]; rfl
     repeat refine spN rfl rfl rfl rfl rfl rfl rfl rfl ?_
     refine sp rfl (PE.pick rfl rfl rfl) rfl ?_
     refine sy_condT rfl ?_
     refine sy_tx' [0, 1, 2, 3] rfl ?_
     refine spL rfl rfl (lh sc176 rfl rfl) rfl ?_
     refine spL rfl rfl (lhA [_, _, _, _] ag69 rfl rfl rfl) rfl ?_
     refine spL rfl rfl (lhA [_, _, _, _, _, _] ag175 rfl rfl rfl) rfl ?_
     refine mpu (kvw cu) [t0, t1, t2, t3] (v := wvl [s0, s1, s2, s3, (setN l : Int), w5 + (l.length : Int)]) rfl mke176 (KeyT.of eqf69 noa69) rfl rfl rfl rfl (kvw_len hcm) ?_
     rw [kvw_put]
     exact sy_roundOn (.inl ⟨rfl, rfl, rfl⟩) (fun w h => by rw [hcs2, hu]; exact (((h.del b17).del b16).del b14).ftail)
     refine spG rfl rfl rfl rfl (PE.fieldAddr fo175_2 rfl) rfl ?_
     refine spLG rfl rfl rfl rfl rfl (lh sc3 rfl rfl) rfl ?_
     refine spG rfl rfl rfl rfl (PE.fieldAddr fo175_2 rfl) rfl ?_
     refine spLG rfl rfl rfl rfl rfl (lh sc3 rfl rfl) rfl ?_
     refine spG rfl rfl rfl rfl (PE.lss rfl rfl) rfl ?_
     refine sp rfl (PE.pick rfl rfl rfl) rfl ?_
     refine sy_cond rfl (fun hc3 => ?_) (fun hc3 => ?_)
     have hu : updW cu ([t0, t1, t2, t3], [s0, s1, s2, s3, (setN l : Int), w5 + (l.length : Int)]) = mput cu [t0, t1, t2, t3] [s0, s1, s2, s3, (setN l : Int), w5 + (l.length : Int)] := by unfold updW; dsimp only; rw [hol, show decide ([o0, o1, o2, o3, o4, o5] = zw) = false from g82, show decide (na [s0, s1, s2, s3, (setN l : Int), w5 + (l.length : Int)] 5 < na [o0, o1, o2, o3, o4, o5] 5) = true from hc3]; rfl
     refine sy_tx' [0, 1, 2, 3] rfl ?_
     refine spL rfl rfl (lh sc176 rfl rfl) rfl ?_
     refine spL rfl rfl (lhA [_, _, _, _] ag69 rfl rfl rfl) rfl ?_
     refine spL rfl rfl (lhA [_, _, _, _, _, _] ag175 rfl rfl rfl) rfl ?_
     refine mpu (kvw cu) [t0, t1, t2, t3] (v := wvl [s0, s1, s2, s3, (setN l : Int), w5 + (l.length : Int)]) rfl mke176 (KeyT.of eqf69 noa69) rfl rfl rfl rfl (kvw_len hcm) ?_
     rw [kvw_put]
     exact sy_roundOn (.inl ⟨rfl, rfl, rfl⟩) (fun w h => by rw [hcs2, hu]; exact (((h.del b17).del b16).del b14).ftail)
     have hu : updW cu ([t0, t1, t2, t3], [s0, s1, s2, s3, (setN l : Int), w5 + (l.length : Int)]) = cu := by unfold updW; dsimp only; rw [hol, show decide ([o0, o1, o2, o3, o4, o5] = zw) = false from g82, show decide (na [s0, s1, s2, s3, (setN l : Int), w5 + (l.length : Int)] 5 < na [o0, o1, o2, o3, o4, o5] 5) = false from hc3]; rfl
     refine sy_skip ?_
     exact sy_roundOn (.inl ⟨rfl, rfl, rfl⟩) (fun w h => by rw [hcs2, hu]; exact (((h.del b17).del b16).del b14).ftail)
     exact sy_stop
     rintro _ _ _ _ ⟨rfl, rfl, rfl, rfl⟩
     refine sy_jn ?_
     exact sy_roundOn (.inl ⟨rfl, _, rfl, rfl, rfl⟩) (fun w h => by rw [hnk]; exact ((h.del b11).del b10).ftail.ftail)
   rintro _ _ _ _ ⟨rfl, rfl, rfl, rfl⟩
   refine sy_jn ?_
   refine sy_tx' [0, 1, 2, 3, 4] rfl ?_
   refine spL rfl rfl (lh sc177 rfl rfl) rfl ?_
   refine spL rfl rfl (lh sc176 rfl rfl) rfl ?_
   refine bsl (out := [_]) rfl sl177 zl176 rfl rfl rfl rfl rfl rfl (fun b94 => ?_)
   rw [← hrf]
   refine Sy.heap (H' := (b94, cel 176 [.map (some m40)]) :: (bd0, .deferred (some [])) :: (b9, cel 176 [.map (some m40)]) :: (m40, mapO true (kvw (nowM b.dsk (mday b.dsk b.state d) b.dsk.nst))) :: (b8, cel 3 [.int .i64 d]) :: (b7, cel 177 [o.fs]) :: (b3, cel 3 [.int .i64 days]) :: (b2, cel 65 [.pointer (some ⟨bd, 0, none⟩)]) :: (o.G ++ (mkh mk ++ H))) (fun w h => by rw [hrG]; exact h) ?_
   refine apO (o) rfl ap177 rfl rfl (rowsH (row := [.map (some m40)]) rfl) rfl rfl ((by rw [msrows_len]; simp only [List.length_singleton]; omega)) rfl (fun o95 => ?_)
   refine stoE (l' := [o95.fs]) rfl rfl rfl cn177 rfl (by rw [o95.cells.1]; first | done | rfl) (by rw [o95.cells.1]; simp [o95.cells.2]) (by rw [o95.cells.1]; first | done | rfl) (by rw [o95.cells.1]; first | done | exact Nat.le_refl _) ?_
   refine sy_tx' [0, 1] rfl ?_
   refine sp rfl (PE.add rfl rfl (by omega)) rfl ?_
   refine sp rfl (PE.move rfl) rfl ?_
   exact sy_nextD ⟨⟨(d + 1, ms ++ [(m40, (nowM b.dsk (mday b.dsk b.state d) b.dsk.nst))], bd0 :: mk), by dsimp only; omega, MsOk.snoc ⟨hml, hmg⟩ m40⟩, o95.cast (msrows_snoc ms m40 _).symm⟩ (by dsimp only; omega) (by repeat' first | exact Sub.nil | apply Sub.cons | rfl | (simp [lk]; omega)) rfl (fun w h => St.sub ((St.maps (ms := ms) ((((h.del b94).del b9).del b8).pull m40)).perm (perm_swap3 [_] ([_, _, _] ++ o95.G) _)))
  ·
   try simp only [decide_eq_true_eq, decide_eq_false_iff_not, Bool.and_eq_true, Bool.or_eq_true, Bool.not_eq_true', Int.not_le, Int.not_lt] at hc0
   obtain rfl : days = d := by omega
   refine sy_exit ?_
   repeat refine sy_tx ?_
   refine sy_bx ?_
   refine sy_seq ?_
   refine sy_tx' [0] rfl ?_
   refine alc rfl zl69 rfl (fun b18 => ?_)
   refine sy_seq ?_
   refine sy_tx' [0, 1, 2, 3] rfl ?_
   refine alc rfl zl3 rfl (fun b19 => ?_)
   refine alc rfl zl4 rfl (fun b20 => ?_)
   refine sto rfl rfl rfl cn3 rfl rfl rfl rfl ?_
   refine sto rfl rfl rfl cn4 rfl rfl rfl rfl ?_
   refine sy_seq ?_
   refine sy_seq ?_
   refine sy_tx' [0, 1] rfl ?_
   refine spL rfl rfl (lh sc65 rfl rfl) rfl ?_
   refine cl rfl cal78 rfl rfl (c_states bd _ _) ?_
   rintro _ _ _ ⟨xb, rfl, rfl, rfl⟩
   refine sy_block ?_
   refine sy_range rfl cal123 (fun c2 bl2 bd2 hcp2 hca2 hcb2 hck2 => ?_)
   refine ⟨fun st pend T R' => st = .ready ∧ pend = none ∧ T = (bd2, .deferred (some [])) :: (b20, cel 4 [.bool (bestT b.dsk (mday b.dsk b.state days) b.dsk.nst).isSome]) :: (b19, cel 3 [.int .i64 (bN (bestT b.dsk (mday b.dsk b.state days) b.dsk.nst))]) :: (b18, cel 69 (ints (bS (bestT b.dsk (mday b.dsk b.state days) b.dsk.nst)))) :: (b7, cel 177 [.slice (some ⟨br, 0, none⟩) ms.length cr]) :: (b3, cel 3 [.int .i64 days]) :: (b2, cel 65 [.pointer (some ⟨bd, 0, none⟩)]) :: (br, cel 176 (mcells ms ++ jr)) :: (mkh mk ++ H) ∧ R' = RowsA (some ⟨xb, 0, none⟩) 1 [[.pointer (some ⟨bd, 0, none⟩)]] :: MapsF ms :: R,
     Fn.mono (c_states1 b hok ab cb bd m xb bl2 (fun k H' R' => H' = (bl2, lob c2 .ready none) :: (bd2, .deferred (some [])) :: (b20, cel 4 [.bool (bestT b.dsk (mday b.dsk b.state days) k).isSome]) :: (b19, cel 3 [.int .i64 (bN (bestT b.dsk (mday b.dsk b.state days) k))]) :: (b18, cel 69 (ints (bS (bestT b.dsk (mday b.dsk b.state days) k)))) :: (b7, cel 177 [.slice (some ⟨br, 0, none⟩) ms.length cr]) :: (b3, cel 3 [.int .i64 days]) :: (b2, cel 65 [.pointer (some ⟨bd, 0, none⟩)]) :: (br, cel 176 (mcells ms ++ jr)) :: (mkh mk ++ H) ∧ R' = RowsA (some ⟨xb, 0, none⟩) 1 [[.pointer (some ⟨bd, 0, none⟩)]] :: MapsF ms :: R) (fun _ _ => False)
       (fun k H' R' h => by obtain ⟨_, rfl⟩ := h; exact ⟨by simp, List.mem_cons_of_mem _ (List.mem_cons_of_mem _ hD.mem)⟩) (fun k s q oo H' R' hk hI => ?_) _ _ ⟨rfl, rfl⟩) (fun v H' R' h => ?_), ?_⟩
   rotate_left
   · rcases h with ⟨rfl, rfl⟩ | h
     · exact ⟨.ready, none, _, by simp, .refl _, rfl, rfl, rfl, rfl⟩
     · exact h.elim
   rotate_left
   have hmem := List.mem_of_getElem? hk
   have hsi := (b.dsk.mem_sts hdk s).1 hmem
   obtain ⟨s0, s1, s2, s3, rfl⟩ := list4 hsi.len
   have hbs := bestT_succ (m := (mday b.dsk b.state days)) hk
   have hbl := bestT_len hdk (mday b.dsk b.state days) k
   obtain ⟨hw6, hw4, hw5⟩ := wo_len hmok [s0, s1, s2, s3]
   obtain ⟨wo, hwo⟩ : ∃ wo, mget (mday b.dsk b.state days) [s0, s1, s2, s3] = wo := ⟨_, rfl⟩
   rw [hwo] at hw6 hw4 hw5
   obtain ⟨rfl, rfl⟩ := hI
   obtain ⟨acc, hacc⟩ : ∃ acc, (bestT b.dsk (mday b.dsk b.state days) k) = acc := ⟨_, rfl⟩
   rw [hacc] at hbs hbl ⊢
   refine yd_of hcp2 hca2 hcb2 hck2 rfl ?_
   refine sy_tx' [0, 1] rfl ?_
   refine alc rfl zl69 rfl (fun b21 => ?_)
   refine sto rfl rfl rfl cn69 rfl rfl rfl rfl ?_
   refine sy_beginRound ?_
   refine sy_block ?_
   refine sy_seq ?_
   refine sy_draw [0, 0, 3, 7, 0, 31, 63, 127, 127, 0, 767, 2047] (.ld 0 (.ld 1 (.tk 2 (.ld 3 (.ld 4 (.ld 5 (.tk 6 (.tk 7 (.tk 8 (.big 9 (.big 10 (.tk 11 .done)))))))))))) mixed (by kernel_rfl) ?_
   refine ld rfl rfl (lh sc177 rfl rfl) rfl ?_
   refine ld rfl rfl (lh sc3 rfl rfl) rfl ?_
   refine tk rfl (PE.indexAddr el177 rfl rfl (by omega) (by omega)) rfl ?_
   refine ld rfl rfl (lh sc176 rfl (mc_get hmj (by show 0 + ((days : Nat) : Int).toNat * 1 = days; omega))) rfl ?_
   refine ld rfl rfl (lhA [_, _, _, _] ag69 rfl rfl rfl) rfl ?_
   refine ldK rfl rfl rfl (lk_wayE hmok (maps_now (List.mem_of_getElem? hmj)) [s0, s1, s2, s3] rfl hwo) rfl ?_
   refine tk rfl (PE.move rfl) rfl ?_
   refine tk rfl (PE.extract rfl rfl) rfl ?_
   refine tk rfl (PE.extract rfl rfl) rfl ?_
   refine alc rfl zl175 rfl (fun b22 => ?_)
   refine bg (fun w hs => ⟨(lk_wayE hmok (maps_now (List.mem_of_getElem? hmj)) [s0, s1, s2, s3] rfl hwo) w hs, (lhA [_, _, _, _] ag69 rfl rfl rfl) w hs, (lh sc176 rfl (mc_get hmj (by show 0 + ((days : Nat) : Int).toNat * 1 = days; omega))) w hs, (lh sc3 rfl rfl) w hs, (lh sc177 rfl rfl) w hs, trivial⟩) ?_
   refine stoA (vs := ints (wo.getD zw)) rfl rfl rfl cn175 rfl (by rw [ints_length]; exact hw6) rfl (ints_one _) ?_
   refine bg (fun w hs => ⟨trivial, trivial, trivial, trivial, trivial, trivial⟩) ?_
   refine tk rfl (PE.assign rfl) rfl ?_
   refine sy_seq ?_
   refine sy_tx' [0, 1, 2, 3, 4, 5, 6, 7, 8, 9, 10] rfl ?_
   refine sp rfl (PE.move rfl) rfl ?_
   refine sp rfl (PE.move rfl) rfl ?_
   refine sy_case (t := 110) rfl (fun g110 => ?_) (fun g110 => ?_)
   obtain ⟨w, rfl⟩ : ∃ w, wo = some w := Option.isSome_iff_exists.1 g110
   obtain ⟨w0, w1, w2, w3, w4, w5, rfl⟩ := list6' (show w.length = 6 from hw6)
   refine spLG rfl rfl rfl rfl rfl (lh sc4 rfl rfl) rfl ?_
   refine spG rfl rfl rfl rfl (PE.not rfl) rfl ?_
   refine spG rfl rfl rfl rfl (PE.move rfl) rfl ?_
   refine sy_case (t := 113) rfl (fun g113 => ?_) (fun g113 => ?_)
   have han : acc = none := by cases acc with
     | none => rfl
     | some w => cases g113
   subst han
   have hb2 : (bestT b.dsk (mday b.dsk b.state days) (k + 1)) = some ([s0, s1, s2, s3], w5) := by rw [hbs]; unfold bestS; rw [hwo]; rfl
   repeat refine spN rfl rfl rfl rfl rfl rfl rfl rfl ?_
   refine spG rfl rfl rfl rfl (PE.pick rfl rfl rfl) rfl ?_
   refine sp rfl (PE.pick rfl rfl rfl) rfl ?_
   refine sy_condT rfl ?_
   refine sy_draw [0, 0, 2, 1, 15, 31] (.ld 0 (.tk 1 (.ld 2 (.big 3 (.big 4 (.big 5 .done)))))) mixed (by kernel_rfl) ?_
   refine ld rfl rfl (lhA [_, _, _, _] ag69 rfl rfl rfl) rfl ?_
   refine tk rfl (PE.fieldAddr fo175_2 rfl) rfl ?_
   refine ld rfl rfl (lh sc3 rfl rfl) rfl ?_
   refine sto rfl rfl rfl cn69 rfl rfl rfl rfl ?_
   refine bg (fun w hs => ⟨(lh sc3 rfl rfl) w hs, trivial, trivial⟩) ?_
   refine sto rfl rfl rfl cn3 rfl rfl rfl rfl ?_
   refine bg (fun w hs => ⟨trivial, trivial⟩) ?_
   refine sto rfl rfl rfl cn4 rfl rfl rfl rfl ?_
   refine bg (fun w hs => trivial) ?_
   exact sy_roundOn (.inl ⟨rfl, _, rfl, rfl, rfl⟩) (fun w h => by rw [hb2]; exact (h.del b22).del b21)
   obtain ⟨⟨ta, nn⟩, rfl⟩ : ∃ p, acc = some p := by cases acc with
     | none => cases g113
     | some p => exact ⟨p, rfl⟩
   obtain ⟨a0, a1, a2, a3, rfl⟩ := list4 (show ta.length = 4 from hbl)
   refine spG rfl rfl rfl rfl (PE.fieldAddr fo175_2 rfl) rfl ?_
   refine spLG rfl rfl rfl rfl rfl (lh sc3 rfl rfl) rfl ?_
   refine spLG rfl rfl rfl rfl rfl (lh sc3 rfl rfl) rfl ?_
   refine spG rfl rfl rfl rfl (PE.lss rfl rfl) rfl ?_
   refine spG rfl rfl rfl rfl (PE.pick rfl rfl rfl) rfl ?_
   refine sp rfl (PE.pick rfl rfl rfl) rfl ?_
   refine sy_cond rfl (fun hc4 => ?_) (fun hc4 => ?_)
   have hb2 : (bestT b.dsk (mday b.dsk b.state days) (k + 1)) = some ([s0, s1, s2, s3], w5) := by rw [hbs]; unfold bestS; rw [hwo]; dsimp only; rw [show decide (na [w0, w1, w2, w3, w4, w5] 5 < nn) = true from hc4]; rfl
   refine sy_draw [0, 0, 2, 1, 15, 31] (.ld 0 (.tk 1 (.ld 2 (.big 3 (.big 4 (.big 5 .done)))))) mixed (by kernel_rfl) ?_
   refine ld rfl rfl (lhA [_, _, _, _] ag69 rfl rfl rfl) rfl ?_
   refine tk rfl (PE.fieldAddr fo175_2 rfl) rfl ?_
   refine ld rfl rfl (lh sc3 rfl rfl) rfl ?_
   refine sto rfl rfl rfl cn69 rfl rfl rfl rfl ?_
   refine bg (fun w hs => ⟨(lh sc3 rfl rfl) w hs, trivial, trivial⟩) ?_
   refine sto rfl rfl rfl cn3 rfl rfl rfl rfl ?_
   refine bg (fun w hs => ⟨trivial, trivial⟩) ?_
   refine sto rfl rfl rfl cn4 rfl rfl rfl rfl ?_
   refine bg (fun w hs => trivial) ?_
   exact sy_roundOn (.inl ⟨rfl, _, rfl, rfl, rfl⟩) (fun w h => by rw [hb2]; exact (h.del b22).del b21)
   have hb2 : (bestT b.dsk (mday b.dsk b.state days) (k + 1)) = some ([a0, a1, a2, a3], nn) := by rw [hbs]; unfold bestS; rw [hwo]; dsimp only; rw [show decide (na [w0, w1, w2, w3, w4, w5] 5 < nn) = false from hc4]; rfl
   refine sy_skip ?_
   exact sy_roundOn (.inl ⟨rfl, _, rfl, rfl, rfl⟩) (fun w h => by rw [hb2]; exact (h.del b22).del b21)
   have hwn : wo = none := by cases wo with
     | none => rfl
     | some w => cases g110
   have hb2 : (bestT b.dsk (mday b.dsk b.state days) (k + 1)) = acc := by rw [hbs]; unfold bestS; rw [hwo.trans hwn]
   repeat refine spN rfl rfl rfl rfl rfl rfl rfl rfl ?_
   repeat refine spU rfl rfl rfl rfl rfl rfl rfl ?_
   refine spN rfl rfl rfl rfl rfl rfl rfl rfl ?_
   refine sp rfl (PE.pick rfl rfl rfl) rfl ?_
   refine sy_condF rfl ?_
   refine sy_skip ?_
   exact sy_roundOn (.inl ⟨rfl, _, rfl, rfl, rfl⟩) (fun w h => by rw [hb2]; exact (h.del b22).del b21)
   rintro _ _ _ _ ⟨rfl, rfl, rfl, rfl⟩
   have hbl := bestT_len hdk (mday b.dsk b.state days) b.dsk.nst
   obtain ⟨acc, hacc⟩ : ∃ acc, (bestT b.dsk (mday b.dsk b.state days) b.dsk.nst) = acc := ⟨_, rfl⟩
   rw [hacc] at hbl ⊢
   refine sy_jn ?_
   refine sy_seq ?_
   refine sy_seq ?_
   refine sy_tx' [0, 1] rfl ?_
   refine spL rfl rfl (lh sc4 rfl rfl) rfl ?_
   refine sp rfl (PE.not rfl) rfl ?_
   refine sy_cond rfl (fun hc5 => ?_) (fun hc5 => ?_)
   have han : acc = none := by cases acc with
     | none => rfl
     | some w => cases hc5
   subst han
   refine sy_seq ?_
   refine sy_tx' [0, 1, 2] rfl ?_
   refine sp rfl (PE.assign rfl) rfl ?_
   refine sp rfl (PE.assign rfl) rfl ?_
   refine sp rfl (PE.assign rfl) rfl ?_
   refine sy_ret ?_
   refine Sy.heap (H' := mkh (bd2 :: mk) ++ H) (R' := R) (fun w h => St.sub (((((((h.del b20).del b19).del b18).del b7).del b3).del b2).del br)) ?_
   exact sy_returnM (bd2 :: mk) (fun _ h => h) rfl (.cons (RV.tmp rfl) (.cons (RV.tmp rfl) (.cons (RV.tmp rfl) .nil))) rfl ⟨rfl, .inl ⟨hacc, rfl, rfl⟩⟩ (fun _ h => h)
   obtain ⟨⟨sb, nb⟩, rfl⟩ : ∃ p, acc = some p := by cases acc with
     | none => cases hc5
     | some p => exact ⟨p, rfl⟩
   have hsb : sb.length = 4 := hbl
   refine sy_skip ?_
   refine sy_seq ?_
   refine sy_tx' [0, 1, 2] rfl ?_
   refine spL rfl rfl (lh sc3 rfl rfl) rfl ?_
   refine mkS rfl ap23 zl22 rfl rfl (Nat.le_refl _) ⟨by omega, by omega⟩ rfl (fun b126 => ?_)
   rw [repl1]
   refine sp rfl (PE.assign rfl) rfl ?_
   refine sy_seq ?_
   refine sy_seq ?_
   refine sy_tx' [0, 1] rfl ?_
   refine spL rfl rfl (lh sc3 rfl rfl) rfl ?_
   refine sp rfl (PE.assign rfl) rfl ?_
   refine sy_block ?_
   refine sy_loop (ι := {x : Nat × HSt × List PL // x.1 ≤ days ∧ x.2.1.length = 4 ∧ x.2.2.length + x.1 = days ∧ (backP b.dsk b.state days sb).map il = (backP b.dsk b.state x.1 x.2.1).map il ++ lls x.2.2}) (fun x => ⟨[(7, .pointer (some ⟨b7, 0, none⟩)), (18, .pointer (some ⟨b18, 0, none⟩)), (19, .pointer (some ⟨b19, 0, none⟩)), (24, .slice (some ⟨b126, 0, none⟩) days days), (25, .int .i64 x.1.1)], (b126, cel 22 (List.replicate x.1.1 (.slice none 0 0) ++ (plrows x.1.2.2).flatten)) :: (bd2, .deferred (some [])) :: (b20, cel 4 [.bool true]) :: (b19, cel 3 [.int .i64 nb]) :: (b18, cel 69 (ints x.1.2.1)) :: (b7, cel 177 [.slice (some ⟨br, 0, none⟩) ms.length cr]) :: (b3, cel 3 [.int .i64 days]) :: (b2, cel 65 [.pointer (some ⟨bd, 0, none⟩)]) :: (br, cel 176 (mcells ms ++ jr)) :: (mkh mk ++ H), Inn x.1.2.2 :: RowsA (some ⟨xb, 0, none⟩) 1 [[.pointer (some ⟨bd, 0, none⟩)]] :: MapsF ms :: R⟩) (fun x => x.1.1) ⟨(days, sb, []), Nat.le_refl _, hsb, by simp, by simp [lls]⟩ ?_ (fun x => ?_)
   exact sy_at (by repeat' first | exact Sub.nil | apply Sub.cons | rfl | (simp [lk]; omega)) (fun w h => by dsimp only; rw [show (plrows []).flatten = [] from rfl, List.append_nil]; exact h.also fun _ _ y hy => by cases hy)
   obtain ⟨⟨j, sj, pl⟩, hj, hjs, hjl, hjb⟩ := x
   dsimp only at hj hjs hjl hjb ⊢
   refine sy_seq ?_
   refine sy_seq ?_
   refine sy_tx' [0, 1] rfl ?_
   refine sp rfl (PE.move rfl) rfl ?_
   refine sp rfl (PE.gtr rfl rfl) rfl ?_
   refine sy_cond rfl (fun hc6 => ?_) (fun hc6 => ?_)
   try simp only [decide_eq_true_eq, decide_eq_false_iff_not, Bool.and_eq_true, Bool.or_eq_true, Bool.not_eq_true', Int.not_le, Int.not_lt] at hc6
   obtain ⟨i, rfl⟩ : ∃ i, j = i + 1 := ⟨j - 1, by omega⟩
   obtain ⟨s0, s1, s2, s3, rfl⟩ := list4 hjs
   obtain ⟨mi, hmi⟩ := hmg (i + 1) (by omega)
   have hmo := mday_ok hdk hs0 (i + 1)
   obtain ⟨hw6, hw4, _⟩ := wo_len hmo [s0, s1, s2, s3]
   obtain ⟨wo, hwo⟩ : ∃ wo, (mget (mday b.dsk b.state (i + 1)) [s0, s1, s2, s3]).getD zw = wo := ⟨_, rfl⟩
   rw [hwo] at hw6 hw4
   obtain ⟨w0, w1, w2, w3, w4, w5, rfl⟩ := list6' hw6
   have hw4' : 0 ≤ w4 ∧ w4 < 16 := hw4
   obtain ⟨n4, rfl⟩ : ∃ n : Nat, w4 = n := ⟨w4.toNat, by omega⟩
   have hback : backP b.dsk b.state (i + 1) [s0, s1, s2, s3] = backP b.dsk b.state i [w0, w1, w2, w3] ++ [bitl 4 n4] := by
     show backP b.dsk b.state i (((mget (mday b.dsk b.state (i + 1)) [s0, s1, s2, s3]).getD zw).take 4) ++ [bitl 4 (na ((mget (mday b.dsk b.state (i + 1)) [s0, s1, s2, s3]).getD zw) 4).toNat] = _
     rw [hwo]; rfl
   refine sy_skip ?_
   refine sy_seq ?_
   refine sy_block ?_
   refine sy_seq ?_
   refine sy_draw [0, 0, 3, 7, 0, 31, 0, 127] (.ld 0 (.tk 1 (.tk 2 (.ld 3 (.ld 4 (.ld 5 (.big 6 (.big 7 .done)))))))) mixed (by kernel_rfl) ?_
   refine ld rfl rfl (lh sc177 rfl rfl) rfl ?_
   refine tk rfl (PE.move rfl) rfl ?_
   refine tk rfl (PE.indexAddr el177 rfl rfl (by omega) (by omega)) rfl ?_
   refine ld rfl rfl (lh sc176 rfl (mc_get hmi (by show 0 + ((i + 1 : Nat) : Int).toNat * 1 = i + 1; omega))) rfl ?_
   refine ld rfl rfl (lhA [_, _, _, _] ag69 rfl rfl rfl) rfl ?_
   refine ldK rfl rfl rfl (lk_way0E hmo (maps_now (List.mem_of_getElem? hmi)) [s0, s1, s2, s3] rfl hwo) rfl ?_
   refine alc rfl zl175 rfl (fun b26 => ?_)
   refine bg (fun w hs => ⟨(lk_way0E hmo (maps_now (List.mem_of_getElem? hmi)) [s0, s1, s2, s3] rfl hwo) w hs, (lhA [_, _, _, _] ag69 rfl rfl rfl) w hs, (lh sc176 rfl (mc_get hmi (by show 0 + ((i + 1 : Nat) : Int).toNat * 1 = i + 1; omega))) w hs, (lh sc177 rfl rfl) w hs, trivial⟩) ?_
   refine sto rfl rfl rfl cn175 rfl rfl rfl rfl ?_
   refine bg (fun w hs => ⟨trivial, trivial, trivial, trivial, trivial⟩) ?_
   refine sy_draw [0, 0, 2, 0, 8, 24, 0, 64, 63, 319, 1023] (.tk 0 (.tk 1 (.tk 2 (.tk 3 (.ld 4 (.tk 6 (.ld 7 (.big 5 (.tk 8 (.big 9 (.big 10 .done))))))))))) mixed (by kernel_rfl) ?_
   refine tk rfl (PE.move rfl) rfl ?_
   refine tk rfl (PE.move rfl) rfl ?_
   refine tk rfl (PE.sub rfl rfl (by omega)) rfl ?_
   refine tk rfl (PE.fieldAddr fo175_1 rfl) rfl ?_
   refine ld rfl rfl (lh sc3 rfl rfl) rfl ?_
   refine tk rfl (PE.fieldAddr fo175_0 rfl) rfl ?_
   refine ld rfl rfl (lhA [_, _, _, _] ag69 rfl rfl rfl) rfl ?_
   refine cl rfl cal128 rfl rfl (c_list n4 (by omega) _ _) ?_
   rintro _ _ _ ⟨ol, rfl, rfl, rfl⟩
   refine bg (fun w hs => ⟨(lhA [_, _, _, _] ag69 rfl rfl rfl) w hs, trivial, trivial⟩) ?_
   refine tk rfl (PE.indexAddr el23 rfl rfl (by omega) (by omega)) rfl ?_
   refine stoE (l' := List.replicate i (.slice none 0 0) ++ (ol.fs :: (plrows pl).flatten)) rfl rfl rfl cn22 rfl (by rw [ol.cells.1]; first | done | rfl) (by rw [ol.cells.1]; simp [ol.cells.2]) (by rw [ol.cells.1]; exact spl_fill (by show 0 + (((i + 1 : Nat) : Int) - 1).toNat * 1 = i; omega)) (by rw [ol.cells.1, List.length_append, List.length_replicate]; show 0 + (((i + 1 : Nat) : Int) - 1).toNat * 1 + 1 ≤ _; omega) ?_
   refine bg (fun w hs => ⟨(lhA [_, _, _, _] ag69 rfl rfl rfl) w hs, trivial⟩) ?_
   refine sto rfl rfl rfl cn69 rfl rfl rfl rfl ?_
   refine bg (fun w hs => ⟨trivial, trivial⟩) ?_
   refine sy_tx' [0, 1, 2] rfl ?_
   obtain ⟨al, cl, he, hf⟩ := ol.freeze
   rw [he, irows_len]
   refine Sy.heap (fun w h => hf h) ?_
   clear he hf
   refine sp rfl (PE.move rfl) rfl ?_
   refine sp rfl (PE.sub rfl rfl (by omega)) rfl ?_
   refine sp rfl (PE.assign rfl) rfl ?_
   rw [show (((i + 1 : Nat) : Int) - 1) = (i : Int) by omega]
   exact sy_next ⟨(i, [w0, w1, w2, w3], ⟨al, cl, il (bitl 4 n4)⟩ :: pl), by dsimp only; omega, rfl, by simp only [List.length_cons]; omega, by rw [hjb, hback]; simp [lls]⟩ (by dsimp only; omega) (by repeat' first | exact Sub.nil | apply Sub.cons | rfl | (simp [lk]; omega)) (fun w h => St.sub (St.innCons (a := al) (c := cl) (l0 := il (bitl 4 n4)) (l := pl) (h.del b26)))
   try simp only [decide_eq_true_eq, decide_eq_false_iff_not, Bool.and_eq_true, Bool.or_eq_true, Bool.not_eq_true', Int.not_le, Int.not_lt] at hc6
   obtain rfl : j = 0 := by omega
   refine sy_exit ?_
   repeat refine sy_tx ?_
   refine sy_bx ?_
   refine sy_seq ?_
   refine sy_draw [0, 0, 1, 7, 15] (.tk 0 (.ld 1 (.tk 2 (.tk 3 (.tk 4 .done))))) mixed (by kernel_rfl) ?_
   refine tk rfl (PE.move rfl) rfl ?_
   refine ld rfl rfl (lh sc3 rfl rfl) rfl ?_
   refine tk rfl (PE.assign rfl) rfl ?_
   refine tk rfl (PE.assign rfl) rfl ?_
   refine tk rfl (PE.assign rfl) rfl ?_
   refine sy_ret ?_
   refine Sy.heap (H' := mkh (bd2 :: mk) ++ H) (R' := RowsA (some ⟨b126, 0, none⟩) 1 (plrows pl) :: Inn pl :: R) (fun w h => St.sub (St.rows (sz := 1) (rows := plrows pl) (rest := []) (by rw [List.append_nil]; exact (((((((h.del b20).del b19).del b18).del b7).del b3).del b2).del br)) (fun r hr => by obtain ⟨x, _, rfl⟩ := List.mem_map.1 hr; rfl))) ?_
   exact sy_returnM (bd2 :: mk) (fun _ h => h) rfl (.cons (RV.tmp rfl) (.cons (RV.tmp rfl) (.cons (RV.tmp rfl) .nil))) rfl ⟨rfl, .inr ⟨sb, nb, pl, b126, hacc, by rw [hjb]; rfl, rfl, rfl⟩⟩ (fun _ h => h)
end Go.Proofs.YtelegnmfhjfbaaaGreat
namespace Go.Proofs.YtelegnmfhjfbaaaGreat
set_option linter.unusedSimpArgs false
set_option linter.unusedVariables false
open Go
theorem cal36 : cal Tryz.prog 36 = true := by kernel_rfl
theorem cal96 : cal Tryz.prog 96 = true := by kernel_rfl
def planE (b : Barn) (days : Int) : Int := bif decide (b.check = 0) then (bif !(inB days 0 20) then 3 else (bif (bestT b.dsk (mday b.dsk b.state days.toNat) b.dsk.nst).isNone then 6 else 0)) else b.check
def turnsV (b : Barn) (days : Int) : Int := bif decide (planE b days = 0) then bN (bestT b.dsk (mday b.dsk b.state days.toNat) b.dsk.nst) else 0
def planLs (b : Barn) (days : Int) : List (List Int) := (backP b.dsk b.state days.toNat (bS (bestT b.dsk (mday b.dsk b.state days.toNat) b.dsk.nst))).map il
def AskQ (b : Barn) (days : Int) (H : Heap) (R : Facts) : Value → Heap → Facts → Prop := fun v H' R' => H' = H ∧
  ((planE b days ≠ 0 ∧ v = .tuple #[.slice none 0 0, .int .i64 0, .int .i64 (planE b days)] ∧ R' = R) ∨
   (planE b days = 0 ∧ ∃ (pl : List PL) (bp : Nat), lls pl = planLs b days ∧ v = .tuple #[.slice (some ⟨bp, 0, none⟩) days.toNat days.toNat, .int .i64 (turnsV b days), .int .i64 0] ∧ R' = RowsA (some ⟨bp, 0, none⟩) 1 (plrows pl) :: Inn pl :: R))
def PlanQ (b : Barn) (days : Int) (H : Heap) (R : Facts) : Value → Heap → Facts → Prop := fun v H' R' => H' = H ∧
  ((planE b days ≠ 0 ∧ v = .tuple #[.slice none 0 0, .int .i64 (planE b days)] ∧ R' = R) ∨
   (planE b days = 0 ∧ ∃ (pl : List PL) (bp : Nat), lls pl = planLs b days ∧ v = .tuple #[.slice (some ⟨bp, 0, none⟩) days.toNat days.toNat, .int .i64 0] ∧ R' = RowsA (some ⟨bp, 0, none⟩) 1 (plrows pl) :: Inn pl :: R))
theorem c_asked (b : Barn) (ab : Option Addr) (cb : Nat) (hl : b.bins.length ≤ 9223372036854775807) (hr : b.rise.length = 6) (days : Int) (H : Heap) (R : Facts) [hB : MemRows ab 4 (brows b.bins) R] :
    Fn Tryz.prog 36 [b.v (b.sl ab cb), .int .i64 days] H R (AskQ b days H R) := by
 refine fn_of Tryz.func36 rfl Tryz.ntmps36 rfl ?_
 refine sy_seq ?_
 refine sy_tx' [0, 1, 2, 3] rfl ?_
 refine bx rfl rfl rfl (fun b2 => ?_)
 refine sp rfl (PE.assign rfl) rfl ?_
 refine sp rfl (PE.assign rfl) rfl ?_
 refine sp rfl (PE.assign rfl) rfl ?_
 refine sy_seq ?_
 refine sy_tx' [0, 1, 2, 3, 4, 5, 6] rfl ?_
 refine spL rfl rfl (lhA (btl b (b.sl ab cb)) ag27 rfl rfl rfl) rfl ?_
 refine cl rfl cal24 rfl rfl (c_opened b ab cb hl hr _ _) ?_
 rintro _ _ _ (⟨hck, rfl, rfl, rfl⟩ | ⟨hck, bd, m, rfl, rfl, rfl⟩)
 refine sp rfl (PE.move rfl) rfl ?_
 refine sp rfl (PE.extract rfl rfl) rfl ?_
 refine sp rfl (PE.extract rfl rfl) rfl ?_
 refine sp rfl (PE.assign rfl) rfl ?_
 refine sp rfl (PE.assign rfl) rfl ?_
 refine sy_seq ?_
 refine sy_block ?_
 refine sy_seq ?_
 refine sy_tx' [0, 1, 2] rfl ?_
 refine sp rfl (PE.move rfl) rfl ?_
 refine sp rfl (PE.neq rfl rfl) rfl ?_
 refine sp rfl (PE.assign rfl) rfl ?_
 refine sy_condT (congrArg (fun b => some (Value.bool b)) (decide_eq_true hck)) ?_
 refine sy_seq ?_
 refine sy_tx' [0, 1, 2, 3] rfl ?_
 have ese : planE b days = b.check := by unfold planE; rw [decide_eq_false hck]; rfl
 refine sp rfl (PE.move rfl) rfl ?_
 refine sp rfl (PE.assign rfl) rfl ?_
 refine sp rfl (PE.assign rfl) rfl ?_
 refine sp rfl (PE.assign rfl) rfl ?_
 refine sy_ret ?_
 exact sy_return (vs := [_, _, _]) rfl (.cons (RV.tmp rfl) (.cons (RV.tmp rfl) (.cons (RV.tmp rfl) .nil))) rfl ⟨rfl, .inl ⟨by rw [ese]; exact hck, by rw [ese]; rfl, rfl⟩⟩ drp
 have hok := Barn.ok_of hr hck
 have hdk := b.dsk_ok hok
 have hl4 := hdk.lasts.len
 have hm4 := hdk.most.len
 refine sp rfl (PE.move rfl) rfl ?_
 refine sp rfl (PE.extract rfl rfl) rfl ?_
 refine sp rfl (PE.extract rfl rfl) rfl ?_
 refine sp rfl (PE.assign rfl) rfl ?_
 refine sp rfl (PE.assign rfl) rfl ?_
 refine sy_seq ?_
 refine sy_block ?_
 refine sy_seq ?_
 refine sy_tx' [0, 1, 2] rfl ?_
 refine sp rfl (PE.move rfl) rfl ?_
 refine sp rfl (PE.neq rfl rfl) rfl ?_
 refine sp rfl (PE.assign rfl) rfl ?_
 refine sy_condF (rfl) ?_
 refine sy_seq ?_
 refine sy_tx' [0, 1, 2, 3] rfl ?_
 refine sp rfl (PE.move rfl) rfl ?_
 refine clV rfl cal49 rfl rfl (c_in _ _ _ _ _) ?_
 refine sp rfl (PE.not rfl) rfl ?_
 refine sp rfl (PE.assign rfl) rfl ?_
 refine sy_cond rfl (fun hc1 => ?_) (fun hc1 => ?_)
 have ese : planE b days = 3 := by unfold planE; rw [decide_eq_true hck, hc1]; rfl
 refine sy_seq ?_
 refine sy_tx' [0, 1, 2] rfl ?_
 refine sp rfl (PE.assign rfl) rfl ?_
 refine sp rfl (PE.assign rfl) rfl ?_
 refine sp rfl (PE.assign rfl) rfl ?_
 refine sy_ret ?_
 exact sy_return (vs := [_, _, _]) rfl (.cons (RV.tmp rfl) (.cons (RV.tmp rfl) (.cons (RV.tmp rfl) .nil))) rfl ⟨rfl, .inl ⟨by rw [ese]; decide, by rw [ese]; rfl, rfl⟩⟩ (fun w h => ((h.del b2).del m).ftail)
 have hin := hc1
 rw [Bool.not_eq_false'] at hin
 simp only [inB, Bool.and_eq_true, decide_eq_true_eq] at hin
 obtain ⟨n, rfl⟩ : ∃ n : Nat, days = n := ⟨days.toNat, by omega⟩
 refine sy_skip ?_
 refine sy_seq ?_
 refine sy_tx' [0, 1, 2, 3, 4, 5, 6, 7, 8, 9] rfl ?_
 refine sp rfl (PE.move rfl) rfl ?_
 refine sp rfl (PE.move rfl) rfl ?_
 refine cl rfl cal96 rfl rfl (c_fewest b hok ab cb bd m n (by omega) _ _) ?_
 rintro _ _ R1 ⟨rfl, hQ⟩
 rcases hQ with ⟨hbn, rfl, hR1⟩ | ⟨sb, nb, pl, bp, hbn, hpl, rfl, hR1⟩ <;> obtain rfl := hR1.symm
 refine sp rfl (PE.move rfl) rfl ?_
 refine sp rfl (PE.extract rfl rfl) rfl ?_
 refine sp rfl (PE.extract rfl rfl) rfl ?_
 refine sp rfl (PE.extract rfl rfl) rfl ?_
 refine sp rfl (PE.assign rfl) rfl ?_
 refine sp rfl (PE.assign rfl) rfl ?_
 refine sp rfl (PE.assign rfl) rfl ?_
 refine sy_seq ?_
 refine sy_seq ?_
 refine sy_tx' [0, 1] rfl ?_
 have ese : planE b (n : Int) = 6 := by unfold planE; rw [decide_eq_true hck, hc1, Int.toNat_natCast, hbn]; rfl
 refine sp rfl (PE.move rfl) rfl ?_
 refine sp rfl (PE.not rfl) rfl ?_
 refine sy_condT rfl ?_
 refine sy_seq ?_
 refine sy_tx' [0, 1, 2] rfl ?_
 refine sp rfl (PE.assign rfl) rfl ?_
 refine sp rfl (PE.assign rfl) rfl ?_
 refine sp rfl (PE.assign rfl) rfl ?_
 refine sy_ret ?_
 exact sy_return (vs := [_, _, _]) rfl (.cons (RV.tmp rfl) (.cons (RV.tmp rfl) (.cons (RV.tmp rfl) .nil))) rfl ⟨rfl, .inl ⟨by rw [ese]; decide, by rw [ese]; rfl, rfl⟩⟩ (fun w h => ((h.del b2).del m).ftail)
 refine sp rfl (PE.move rfl) rfl ?_
 refine sp rfl (PE.extract rfl rfl) rfl ?_
 refine sp rfl (PE.extract rfl rfl) rfl ?_
 refine sp rfl (PE.extract rfl rfl) rfl ?_
 refine sp rfl (PE.assign rfl) rfl ?_
 refine sp rfl (PE.assign rfl) rfl ?_
 refine sp rfl (PE.assign rfl) rfl ?_
 refine sy_seq ?_
 refine sy_seq ?_
 refine sy_tx' [0, 1] rfl ?_
 have ese : planE b (n : Int) = 0 := by unfold planE; rw [decide_eq_true hck, hc1, Int.toNat_natCast, hbn]; rfl
 have etv : turnsV b (n : Int) = nb := by unfold turnsV; rw [decide_eq_true ese, Int.toNat_natCast, hbn]; rfl
 refine sp rfl (PE.move rfl) rfl ?_
 refine sp rfl (PE.not rfl) rfl ?_
 refine sy_condF rfl ?_
 refine sy_skip ?_
 refine sy_seq ?_
 refine sy_tx' [0, 1, 2, 3, 4] rfl ?_
 refine sp rfl (PE.move rfl) rfl ?_
 refine sp rfl (PE.move rfl) rfl ?_
 refine sp rfl (PE.assign rfl) rfl ?_
 refine sp rfl (PE.assign rfl) rfl ?_
 refine sp rfl (PE.assign rfl) rfl ?_
 refine sy_ret ?_
 exact sy_return (vs := [_, _, _]) rfl (.cons (RV.tmp rfl) (.cons (RV.tmp rfl) (.cons (RV.tmp rfl) .nil))) rfl ⟨rfl, .inr ⟨ese, pl, bp, by unfold planLs; rw [Int.toNat_natCast, hbn]; exact hpl, by rw [etv]; rfl, rfl⟩⟩ (fun w h => St.sub ((h.del b2).del m))
theorem c_Plan (b : Barn) (ab : Option Addr) (cb : Nat) (hl : b.bins.length ≤ 9223372036854775807) (hr : b.rise.length = 6) (days : Int) (H : Heap) (R : Facts) [hB : MemRows ab 4 (brows b.bins) R] :
    Fn Tryz.prog 8 [b.v (b.sl ab cb), .int .i64 days] H R (PlanQ b days H R) := by
 refine fn_of Tryz.func8 rfl Tryz.ntmps8 rfl ?_
 refine sy_seq ?_
 refine sy_tx' [0, 1, 2] rfl ?_
 refine bx rfl rfl rfl (fun b2 => ?_)
 refine sp rfl (PE.assign rfl) rfl ?_
 refine sp rfl (PE.assign rfl) rfl ?_
 refine sy_seq ?_
 refine sy_tx' [0, 1, 2, 3, 4, 5, 6, 7, 8, 9] rfl ?_
 refine spL rfl rfl (lhA (btl b (b.sl ab cb)) ag27 rfl rfl rfl) rfl ?_
 refine sp rfl (PE.move rfl) rfl ?_
 refine cl rfl cal36 rfl rfl (c_asked b ab cb hl hr days _ _) ?_
 rintro _ _ R1 ⟨rfl, hQ⟩
 rcases hQ with ⟨hpe, rfl, hR1⟩ | ⟨hpe, pl, bp, hpl, rfl, hR1⟩ <;> obtain rfl := hR1.symm
 refine sp rfl (PE.move rfl) rfl ?_
 refine sp rfl (PE.extract rfl rfl) rfl ?_
 refine sp rfl (PE.extract rfl rfl) rfl ?_
 refine sp rfl (PE.extract rfl rfl) rfl ?_
 refine sp rfl (PE.assign rfl) rfl ?_
 refine sp rfl (PE.assign rfl) rfl ?_
 refine sp rfl (PE.assign rfl) rfl ?_
 refine sy_seq ?_
 refine sy_tx' [0, 1, 2, 3] rfl ?_
 refine sp rfl (PE.move rfl) rfl ?_
 refine sp rfl (PE.move rfl) rfl ?_
 refine sp rfl (PE.assign rfl) rfl ?_
 refine sp rfl (PE.assign rfl) rfl ?_
 refine sy_ret ?_
 exact sy_return (vs := [_, _]) rfl (.cons (RV.tmp rfl) (.cons (RV.tmp rfl) .nil)) rfl ⟨rfl, .inl ⟨hpe, rfl, rfl⟩⟩ drp
 refine sp rfl (PE.move rfl) rfl ?_
 refine sp rfl (PE.extract rfl rfl) rfl ?_
 refine sp rfl (PE.extract rfl rfl) rfl ?_
 refine sp rfl (PE.extract rfl rfl) rfl ?_
 refine sp rfl (PE.assign rfl) rfl ?_
 refine sp rfl (PE.assign rfl) rfl ?_
 refine sp rfl (PE.assign rfl) rfl ?_
 refine sy_seq ?_
 refine sy_tx' [0, 1, 2, 3] rfl ?_
 refine sp rfl (PE.move rfl) rfl ?_
 refine sp rfl (PE.move rfl) rfl ?_
 refine sp rfl (PE.assign rfl) rfl ?_
 refine sp rfl (PE.assign rfl) rfl ?_
 refine sy_ret ?_
 exact sy_return (vs := [_, _]) rfl (.cons (RV.tmp rfl) (.cons (RV.tmp rfl) .nil)) rfl ⟨rfl, .inr ⟨hpe, pl, bp, hpl, rfl, rfl⟩⟩ drp
theorem c_Turnings (b : Barn) (ab : Option Addr) (cb : Nat) (hl : b.bins.length ≤ 9223372036854775807) (hr : b.rise.length = 6) (days : Int) (H : Heap) (R : Facts) [hB : MemRows ab 4 (brows b.bins) R] :
    FnV Tryz.prog 60 [b.v (b.sl ab cb), .int .i64 days] H R (.tuple #[.int .i64 (turnsV b days), .int .i64 (planE b days)]) := by
 refine fn_of Tryz.func60 rfl Tryz.ntmps60 rfl ?_
 refine sy_seq ?_
 refine sy_tx' [0, 1, 2] rfl ?_
 refine bx rfl rfl rfl (fun b2 => ?_)
 refine sp rfl (PE.assign rfl) rfl ?_
 refine sp rfl (PE.assign rfl) rfl ?_
 refine sy_seq ?_
 refine sy_tx' [0, 1, 2, 3, 4, 5, 6, 7, 8, 9] rfl ?_
 refine spL rfl rfl (lhA (btl b (b.sl ab cb)) ag27 rfl rfl rfl) rfl ?_
 refine sp rfl (PE.move rfl) rfl ?_
 refine cl rfl cal36 rfl rfl (c_asked b ab cb hl hr days _ _) ?_
 rintro _ _ R1 ⟨rfl, hQ⟩
 rcases hQ with ⟨hpe, rfl, hR1⟩ | ⟨hpe, pl, bp, hpl, rfl, hR1⟩ <;> obtain rfl := hR1.symm
 refine sp rfl (PE.move rfl) rfl ?_
 refine sp rfl (PE.extract rfl rfl) rfl ?_
 refine sp rfl (PE.extract rfl rfl) rfl ?_
 refine sp rfl (PE.extract rfl rfl) rfl ?_
 refine sp rfl (PE.assign rfl) rfl ?_
 refine sp rfl (PE.assign rfl) rfl ?_
 refine sp rfl (PE.assign rfl) rfl ?_
 refine sy_seq ?_
 refine sy_tx' [0, 1, 2, 3] rfl ?_
 refine sp rfl (PE.move rfl) rfl ?_
 refine sp rfl (PE.move rfl) rfl ?_
 refine sp rfl (PE.assign rfl) rfl ?_
 refine sp rfl (PE.assign rfl) rfl ?_
 refine sy_ret ?_
 exact sy_return (vs := [_, _]) rfl (.cons (RV.tmp rfl) (.cons (RV.tmp rfl) .nil)) rfl ⟨by unfold turnsV; rw [decide_eq_false hpe]; rfl, rfl, rfl⟩ drp
 refine sp rfl (PE.move rfl) rfl ?_
 refine sp rfl (PE.extract rfl rfl) rfl ?_
 refine sp rfl (PE.extract rfl rfl) rfl ?_
 refine sp rfl (PE.extract rfl rfl) rfl ?_
 refine sp rfl (PE.assign rfl) rfl ?_
 refine sp rfl (PE.assign rfl) rfl ?_
 refine sp rfl (PE.assign rfl) rfl ?_
 refine sy_seq ?_
 refine sy_tx' [0, 1, 2, 3] rfl ?_
 refine sp rfl (PE.move rfl) rfl ?_
 refine sp rfl (PE.move rfl) rfl ?_
 refine sp rfl (PE.assign rfl) rfl ?_
 refine sp rfl (PE.assign rfl) rfl ?_
 refine sy_ret ?_
 exact sy_return (vs := [_, _]) rfl (.cons (RV.tmp rfl) (.cons (RV.tmp rfl) .nil)) rfl ⟨by rw [hpe]; rfl, rfl, rfl⟩ drp
end Go.Proofs.YtelegnmfhjfbaaaGreat
namespace Go.Proofs.YtelegnmfhjfbaaaGreat
set_option linter.unusedSimpArgs false
set_option linter.unusedVariables false
open Go
theorem cal116 : cal Tryz.prog 116 = true := by kernel_rfl
theorem cal16 : cal Tryz.prog 16 = true := by kernel_rfl
theorem cal18 : cal Tryz.prog 18 = true := by kernel_rfl
theorem cal5 : cal Tryz.prog 5 = true := by kernel_rfl
theorem cal57 : cal Tryz.prog 57 = true := by kernel_rfl
theorem cal58 : cal Tryz.prog 58 = true := by kernel_rfl
theorem cal59 : cal Tryz.prog 59 = true := by kernel_rfl
theorem cal60 : cal Tryz.prog 60 = true := by kernel_rfl
theorem cal61 : cal Tryz.prog 61 = true := by kernel_rfl
theorem cal62 : cal Tryz.prog 62 = true := by kernel_rfl
theorem el113 : elN Tryz.prog 113 = some 2 := by kernel_rfl
theorem eqf31 : eqB Tryz.prog 10000 31 = some (true, 2) := by kernel_rfl
theorem eqg31 : Tryz.prog.eqGuardType Tryz.prog.depth 31 = false := by kernel_rfl
theorem isl113 : isSl Tryz.prog 113 = true := by kernel_rfl
theorem pl40 : placeL Tryz.prog 40 = some [(0, 1), (1, 1), (2, 2)] := by kernel_rfl
theorem sl23 : slE Tryz.prog 23 = some (22, 1) := by kernel_rfl
theorem zl24 : zeroL Tryz.prog 24 = some ([.int .i64 0, .int .i64 0, .int .i64 0, .int .i64 0, .int .i64 0, .int .i64 0]) := by kernel_rfl
def thr (n : Nat) : Barn := ⟨20, 1, [0, 0, 6, 8, 10, 20], [⟨20, 40, 3, 4⟩, ⟨30, 50, 2, 3⟩, ⟨30, 40, 4, 4⟩].take n⟩
theorem thr_len {n : Nat} (h : n ≤ 3) : (thr n).bins.length = n := by simp [thr]; omega
theorem St.inn0 {H : Heap} {R : Facts} {w : World} (h : St H R w) : St H (Inn [] :: R) w := h.also fun _ _ y hy => by cases hy
theorem St.innN {l : List PL} {H : Heap} {R : Facts} {w : World} [m1 : MemF (Inn l) R] (h : St H R w) : St H (Inn (⟨none, 0, []⟩ :: l) :: R) w :=
  h.also fun _ hw y hy => by
    rcases List.mem_cons.1 hy with rfl | hy
    · exact fun i row hi => by simp at hi
    · exact hw _ m1.mem y hy
theorem ex_w : warmErr (thr 2) [[], [], []] 0 = 0 ∧ warmL (thr 2) [[], [], []] 0 = [(28, 30), (36, 40), (44, 50)] := by decide +kernel
theorem ex_b : (thr 2).planned [[], [], [0]] = 0 ∧ ((thr 2).burnsF (thr 2).warms [[], [], [0]] 0).1 = some (2, 1) := by decide +kernel
theorem ex_k : (thr 2).planned [[], [0], [1]] = 0 ∧ ((thr 2).burnsF (thr 2).warms [[], [0], [1]] 0).1 = none := by decide +kernel
theorem ex_c : (thr 2).check = 0 ∧ (thr 3).check = 0 := by decide +kernel
theorem kpt_ever {d : Dsk} {s : HSt} {n : Nat} (hf : d.alive (n + 1) = d.alive n) (hs : s ∈ d.alive n) : Kpt d s 1000000 := .inl ⟨rfl, fun m => by
  rcases Nat.lt_or_ge m n with h | h
  · exact d.alive_le (by omega) hs
  · obtain ⟨k, rfl⟩ : ∃ k, m = n + k := ⟨m - n, by omega⟩
    rw [d.alive_fix hf]; exact hs⟩
theorem ex_l : (thr 2).dsk.alive 4 = (thr 2).dsk.alive 3 ∧ (thr 2).state ∈ (thr 2).dsk.alive 3 := by decide +kernel
theorem ex_t : planE (thr 2) 3 = 0 ∧ turnsV (thr 2) 3 = 2 := by decide +kernel
theorem ex_f : (thr 3).state ∈ (thr 3).dsk.alive 3 ∧ (thr 3).state ∉ (thr 3).dsk.alive 4 := by decide +kernel
theorem ex_s0 : (thr 3).state ∈ ((thr 3).withG 0).dsk.alive 1 ∧ (thr 3).state ∉ ((thr 3).withG 0).dsk.alive 2 := by decide +kernel
theorem ex_s2 : ((thr 3).withG 2).dsk.alive 4 = ((thr 3).withG 2).dsk.alive 3 ∧ (thr 3).state ∈ ((thr 3).withG 2).dsk.alive 3 := by decide +kernel
theorem ex_g : goesErr (thr 2) [] [[0], [1]] = 0 ∧ (thr 2).burnsF (thr 2).warms ([] ++ rep 1 [[0], [1]]) 0 = (none, [40, 28]) ∧ (thr 2).burnsF [40, 28] [[0], [1]] 0 = (none, [40, 28]) := by decide +kernel
theorem c_eq_span (xs ys : List (Int × Int)) (a a2 : Option Addr) (c c2 : Nat) (hl : xs.length ≤ 9223372036854775807) (hl2 : ys.length ≤ 9223372036854775807) (H : Heap) (R : Facts) [hR : MemRows a 2 (sprows xs) R] [hR2 : MemRows a2 2 (sprows ys) R] :
    FnV Tryz.prog 116 [.slice a xs.length c, .slice a2 ys.length c2] H R (.bool (decide (xs = ys))) := by
 refine fn_of Tryz.func116 rfl Tryz.ntmps116 rfl ?_
 refine sy_seq ?_
 refine sy_tx' [0] rfl ?_
 refine sp rfl (PE.assign rfl) rfl ?_
 refine sy_seq ?_
 refine sy_seq ?_
 refine sy_tx' [0, 1, 2, 3, 4] rfl ?_
 refine sp rfl (PE.move rfl) rfl ?_
 refine sp rfl (PE.lenSl isl113 rfl) rfl ?_
 refine sp rfl (PE.move rfl) rfl ?_
 refine sp rfl (PE.lenSl isl113 rfl) rfl ?_
 refine sp rfl (PE.neq rfl rfl) rfl ?_
 refine sy_cond rfl (fun hc0 => ?_) (fun hc0 => ?_)
 have hne : xs ≠ ys := fun e => by subst e; simp at hc0
 refine sy_seq ?_
 refine sy_tx' [0] rfl ?_
 refine sp rfl (PE.assign rfl) rfl ?_
 refine sy_ret ?_
 exact sy_return (vs := [_]) rfl (.cons (RV.tmp rfl) .nil) rfl ⟨by first | (simp only [retV]; rw [decide_eq_true heq]; done) | (simp only [retV]; rw [decide_eq_false hne]), rfl, rfl⟩ (fun _ h => h)
 have hle : xs.length = ys.length := by simp only [decide_eq_true_eq, decide_eq_false_iff_not, Bool.and_eq_true, Bool.or_eq_true, Bool.not_eq_true', Int.not_le, Int.not_lt] at hc0; omega
 refine sy_skip ?_
 refine sy_seq ?_
 refine sy_seq ?_
 refine sy_tx' [0, 1, 2] rfl ?_
 refine sp rfl (PE.move rfl) rfl ?_
 refine sp rfl (PE.lenSl isl113 rfl) rfl ?_
 refine sp rfl (PE.move rfl) rfl ?_
 refine sy_block ?_
 refine sy_loop (ι := {k : Nat // k ≤ xs.length ∧ xs.take k = ys.take k}) (fun k => ⟨[(0, .slice a xs.length c), (1, .slice a2 ys.length c2), (12, .int .i64 xs.length), (13, .int .i64 k.1)], H, R⟩) (fun k => xs.length - k.1) ⟨0, by simp⟩ ?_ (fun k => ?_)
 exact sy_at (by repeat' first | exact Sub.nil | apply Sub.cons | rfl | (simp [lk]; omega)) (fun _ h => h)
 obtain ⟨k, hk, hn⟩ := k
 dsimp only
 refine sy_seq ?_
 refine sy_tx' [0] rfl ?_
 refine sp rfl (PE.lss rfl rfl) rfl ?_
 refine sy_seq ?_
 refine sy_cond rfl (fun hc1 => ?_) (fun hc1 => ?_)
 simp only [decide_eq_true_eq, decide_eq_false_iff_not, Bool.and_eq_true, Bool.or_eq_true, Bool.not_eq_true', Int.not_le, Int.not_lt] at hc1
 obtain ⟨x, hx⟩ : ∃ x, xs[k]? = some x := ⟨_, List.getElem?_eq_getElem (by omega)⟩
 obtain ⟨z, hz⟩ : ∃ z, ys[k]? = some z := ⟨_, List.getElem?_eq_getElem (by omega)⟩
 refine sy_addr (a := a) (sz := 2) (rows := sprows xs) (by intro h0; simp [sprows] at h0; simp [h0] at hx) (fun b off he => ?_)
 subst he
 refine sy_addr (a := a2) (sz := 2) (rows := sprows ys) (by intro h0; simp [sprows] at h0; simp [h0] at hz) (fun b2 off2 he => ?_)
 subst he
 refine sy_skip ?_
 refine sy_seq ?_
 refine sy_block ?_
 refine sy_seq ?_
 refine sy_tx' [0, 1] rfl ?_
 refine sp rfl (PE.move rfl) rfl ?_
 refine sp rfl (PE.assign rfl) rfl ?_
 refine sy_seq ?_
 refine sy_draw [0, 0, 3, 7, 0, 0, 48, 112, 255] (.tk 0 (.tk 1 (.tk 2 (.ld 3 (.tk 4 (.tk 5 (.tk 6 (.ld 7 (.tk 8 .done))))))))) mixed (by kernel_rfl) ?_
 refine tk rfl (PE.move rfl) rfl ?_
 refine tk rfl (PE.move rfl) rfl ?_
 refine tk rfl (PE.indexAddr el113 rfl rfl (by omega) (by omega)) rfl ?_
 refine ld rfl rfl (lfA ag31 (row := sprow x) (by simp [sprows, hx]) rfl) rfl ?_
 refine tk rfl (PE.move rfl) rfl ?_
 refine tk rfl (PE.move rfl) rfl ?_
 refine tk rfl (PE.indexAddr el113 rfl rfl (by omega) (by omega)) rfl ?_
 refine ld rfl rfl (lfA ag31 (row := sprow z) (by simp [sprows, hz]) rfl) rfl ?_
 refine tk rfl (PE.neqAgg [x.1, x.2] [z.1, z.2] (eqB_ok 10000 31 true 2 eqf31) eqg31 rfl rfl rfl rfl) rfl ?_
 refine sy_cond rfl (fun hc2 => ?_) (fun hc2 => ?_)
 have hne : xs ≠ ys := fun e => by subst e; rw [hx] at hz; cases hz; simp at hc2
 refine sy_seq ?_
 refine sy_tx' [0] rfl ?_
 refine sp rfl (PE.assign rfl) rfl ?_
 refine sy_ret ?_
 exact sy_return (vs := [_]) rfl (.cons (RV.tmp rfl) .nil) rfl ⟨by first | (simp only [retV]; rw [decide_eq_true heq]; done) | (simp only [retV]; rw [decide_eq_false hne]), rfl, rfl⟩ (fun _ h => h)
 have hxz : x = z := by cases x; cases z; simpa using hc2
 refine sy_skip ?_
 refine sy_tx' [0, 1] rfl ?_
 refine sp rfl (PE.add rfl rfl (by omega)) rfl ?_
 refine sp rfl (PE.move rfl) rfl ?_
 exact sy_next ⟨k + 1, by omega, by rw [List.take_add_one, List.take_add_one, hn, hx, hz, hxz]⟩ (by dsimp only; omega) (by repeat' first | exact Sub.nil | apply Sub.cons | rfl | (simp [lk]; omega)) (fun _ h => h)
 simp only [decide_eq_true_eq, decide_eq_false_iff_not, Bool.and_eq_true, Bool.or_eq_true, Bool.not_eq_true', Int.not_le, Int.not_lt] at hc1
 obtain rfl : k = xs.length := by omega
 have heq : xs = ys := by
   rw [List.take_length] at hn
   exact hn.trans (by rw [hle]; exact List.take_length)
 refine sy_exit ?_
 repeat refine sy_tx ?_
 refine sy_bx ?_
 refine sy_seq ?_
 refine sy_tx' [0] rfl ?_
 refine sp rfl (PE.assign rfl) rfl ?_
 refine sy_ret ?_
 exact sy_return (vs := [_]) rfl (.cons (RV.tmp rfl) .nil) rfl ⟨by first | (simp only [retV]; rw [decide_eq_true heq]; done) | (simp only [retV]; rw [decide_eq_false hne]), rfl, rfl⟩ (fun _ h => h)
theorem c_Eq_span (xs ys : List (Int × Int)) (a a2 : Option Addr) (c c2 : Nat) (hl : xs.length ≤ 9223372036854775807) (hl2 : ys.length ≤ 9223372036854775807) (H : Heap) (R : Facts) [hR : MemRows a 2 (sprows xs) R] [hR2 : MemRows a2 2 (sprows ys) R] :
    FnV Tryz.prog 62 [.slice a xs.length c, .slice a2 ys.length c2] H R (.bool (decide (xs = ys))) := by
 refine fn_of Tryz.func62 rfl Tryz.ntmps62 rfl ?_
 refine sy_seq ?_
 refine sy_tx' [0] rfl ?_
 refine sp rfl (PE.assign rfl) rfl ?_
 refine sy_seq ?_
 refine sy_tx' [0, 1, 2, 3] rfl ?_
 refine sp rfl (PE.move rfl) rfl ?_
 refine sp rfl (PE.move rfl) rfl ?_
 refine clV rfl cal116 rfl rfl (c_eq_span xs ys a a2 c c2 hl hl2 _ _) ?_
 refine sp rfl (PE.assign rfl) rfl ?_
 refine sy_ret ?_
 exact sy_return (vs := [_]) rfl (.cons (RV.tmp rfl) .nil) rfl ⟨rfl, rfl, rfl⟩ drp
theorem c_Three (n : Nat) (hn : n ≤ 3) (H : Heap) (R : Facts) :
    Fn Tryz.prog 5 [.int .i64 n] H R (fun v H' R' => ∃ ba, v = (thr n).v ((thr n).sl (some ⟨ba, 0, none⟩) 3) ∧ H' = H ∧ R' = RowsA (some ⟨ba, 0, none⟩) 4 (brows (thr n).bins) :: R) := by
 refine fn_of Tryz.func5 rfl Tryz.ntmps5 rfl ?_
 refine sy_seq ?_
 refine sy_tx' [0] rfl ?_
 refine alc rfl zl27 rfl (fun b2 => ?_)
 refine sy_seq ?_
 refine sy_tx' [0, 1, 2, 3, 4, 5, 6, 7] rfl ?_
 refine sp rfl (PE.build (out := [_, _]) pl31 zl31 rfl rfl) rfl ?_
 refine sp rfl (PE.build (out := [_, _, _, _]) pl40 zl40 rfl rfl) rfl ?_
 refine sp rfl (PE.build (out := [_, _]) pl31 zl31 rfl rfl) rfl ?_
 refine sp rfl (PE.build (out := [_, _, _, _]) pl40 zl40 rfl rfl) rfl ?_
 refine sp rfl (PE.build (out := [_, _]) pl31 zl31 rfl rfl) rfl ?_
 refine sp rfl (PE.build (out := [_, _, _, _]) pl40 zl40 rfl rfl) rfl ?_
 refine bsl (out := [_, _, _, _, _, _, _, _, _, _, _, _]) rfl sl25 zl40 rfl rfl rfl rfl rfl rfl (fun b10 => ?_)
 refine sp rfl (PE.assign rfl) rfl ?_
 refine sy_seq ?_
 refine sy_tx' [0, 1, 2, 3, 4, 5, 6, 7, 8, 9] rfl ?_
 refine sp rfl (PE.buildArr (out := [_, _, _, _, _, _]) ar24 zl24 rfl rfl) rfl ?_
 refine sp rfl (PE.move rfl) rfl ?_
 refine sp rfl (PE.move rfl) rfl ?_
 refine sp rfl (PE.move rfl) rfl ?_
 refine sp rfl (PE.lenSl isl25 rfl) rfl ?_
 refine sp rfl (PE.min rfl rfl) rfl ?_
 refine sp rfl (PE.max rfl rfl) rfl ?_
 refine sp rfl (PE.slHi (h := n) sl25 rfl (by rw [show (max (0 : Int) (min (n : Int) ((3 : Nat) : Int))) = (n : Int) by omega]; rfl) (by omega)) rfl ?_
 refine sp rfl (PE.build (out := [_, _, _, _, _, _, _, _, _]) pl27 zl27 rfl rfl) rfl ?_
 refine sto rfl rfl rfl cn27 rfl rfl rfl rfl ?_
 refine sy_ret ?_
 refine Sy.heap (fun w h => St.rows (sz := 4) (rows := brows (thr 3).bins) (rest := []) (h.pull b10) (br_four _)) ?_
 refine Sy.heap (R' := RowsA (some ⟨b10, 0, none⟩) 4 (brows (thr n).bins) :: R) (fun w h => (h.rowsTake (a := some ⟨b10, 0, none⟩) (rows := brows (thr 3).bins) n).facts (fun f hf => by
   rcases List.mem_cons.1 hf with h1 | h1
   · rw [h1, show brows (thr n).bins = (brows (thr 3).bins).take n from by simp [brows, thr, List.map_take]]; exact List.mem_cons_self
   · simp [h1])) ?_
 have hln := thr_len hn
 exact sy_return (vs := [_]) rfl (.cons (RV.cell rfl (lhA [_, _, _, _, _, _, _, _, _] ag27 rfl rfl rfl)) .nil) rfl ⟨b10, by unfold Barn.sl; rw [hln]; rfl, rfl, rfl⟩ (fun w h => h.del b2)
set_option maxHeartbeats 2000000 in
theorem c_awake (H : Heap) (R : Facts) :
    FnV Tryz.prog 12 [] H R (.bool true) := by
 refine fn_of Tryz.func12 rfl Tryz.ntmps12 rfl ?_
 refine sy_seq ?_
 refine sy_tx' [0] rfl ?_
 refine sp rfl (PE.assign rfl) rfl ?_
 refine sy_seq ?_
 refine sy_tx' [0, 1, 2, 3, 4, 5, 6, 7] rfl ?_
 refine cl rfl cal5 rfl rfl (c_Three 2 (by decide) _ _) ?_
 rintro _ _ _ ⟨ba19, rfl, rfl, rfl⟩
 refine bsl (out := [_, _, _]) rfl sl23 zl22 rfl rfl rfl rfl rfl rfl (fun b20 => ?_)
 refine Sy.heap (fun w h => St.inn0 h) ?_
 refine Sy.heap (fun w h => St.innN (l := []) h) ?_
 refine Sy.heap (fun w h => St.innN (l := [⟨none, 0, []⟩]) h) ?_
 refine Sy.heap (fun w h => St.innN (l := [⟨none, 0, []⟩, ⟨none, 0, []⟩]) h) ?_
 refine Sy.heap (fun w h => St.rows (sz := 1) (rows := plrows [⟨none, 0, []⟩, ⟨none, 0, []⟩, ⟨none, 0, []⟩]) (rest := []) (h.pull b20) (by simp [plrows, plrow])) ?_
 refine cl rfl cal57 rfl rfl (c_Warmth (thr 2) (some ⟨ba19, 0, none⟩) 3 (by decide) rfl [⟨none, 0, []⟩, ⟨none, 0, []⟩, ⟨none, 0, []⟩] (some ⟨b20, 0, none⟩) 3 (by simp) (fun x hx => by simp only [List.mem_cons, List.not_mem_nil, or_false] at hx; rcases hx with rfl | rfl | rfl <;> simp) 0 _ _) ?_
 rintro _ _ R1 ⟨hQ, hR1⟩
 obtain rfl := hR1.symm
 rcases hQ with ⟨hne, _, _⟩ | ⟨_, ow, rfl, rfl⟩
 exact absurd ex_w.1 hne
 obtain ⟨aw, cw, he, hf⟩ := (ow.cast (congrArg sprows ex_w.2) : OSl 31 2 (sprows [(28, 30), (36, 40), (44, 50)])).freeze
 rw [show ow.fs = _ from he]
 refine Sy.heap (fun w h => hf h) ?_
 clear he hf
 refine sp rfl (PE.move rfl) rfl ?_
 refine sp rfl (PE.extract rfl rfl) rfl ?_
 refine sp rfl (PE.extract rfl rfl) rfl ?_
 refine sp rfl (PE.assign rfl) rfl ?_
 refine sp rfl (PE.assign rfl) rfl ?_
 refine sy_seq ?_
 refine sy_tx' [0, 1, 2, 3, 4, 5, 6, 7, 8, 9, 10] rfl ?_
 refine cl rfl cal5 rfl rfl (c_Three 2 (by decide) _ _) ?_
 rintro _ _ _ ⟨ba25, rfl, rfl, rfl⟩
 refine bsl (out := [_]) rfl sl22 zl3 rfl rfl rfl rfl rfl rfl (fun b26 => ?_)
 refine bsl (out := [_, _, _]) rfl sl23 zl22 rfl rfl rfl rfl rfl rfl (fun b27 => ?_)
 refine Sy.heap (fun w h => St.intRows (l := [0]) (h.pull b26)) ?_
 refine Sy.heap (fun w h => St.inn0 h) ?_
 refine Sy.heap (fun w h => St.innCons (a := some ⟨b26, 0, none⟩) (c := 1) (l0 := [0]) (l := []) h) ?_
 refine Sy.heap (fun w h => St.innN (l := [⟨some ⟨b26, 0, none⟩, 1, [0]⟩]) h) ?_
 refine Sy.heap (fun w h => St.innN (l := [⟨none, 0, []⟩, ⟨some ⟨b26, 0, none⟩, 1, [0]⟩]) h) ?_
 refine Sy.heap (fun w h => St.rows (sz := 1) (rows := plrows [⟨none, 0, []⟩, ⟨none, 0, []⟩, ⟨some ⟨b26, 0, none⟩, 1, [0]⟩]) (rest := []) (h.pull b27) (by simp [plrows, plrow])) ?_
 refine cl rfl cal58 rfl rfl (c_Burns (thr 2) (some ⟨ba25, 0, none⟩) 3 (by decide) rfl [⟨none, 0, []⟩, ⟨none, 0, []⟩, ⟨some ⟨b26, 0, none⟩, 1, [0]⟩] (some ⟨b27, 0, none⟩) 3 (by simp) (fun x hx => by simp only [List.mem_cons, List.not_mem_nil, or_false] at hx; rcases hx with rfl | rfl | rfl <;> simp) _ _) ?_
 rintro _ _ _ ⟨rfl, rfl, rfl⟩
 rw [show (thr 2).burnsV (lls [⟨none, 0, []⟩, ⟨none, 0, []⟩, ⟨some ⟨b26, 0, none⟩, 1, [0]⟩]) = .tuple #[.int .i64 2, .int .i64 1, .int .i64 0] from by unfold Barn.burnsV; rw [show lls [⟨none, 0, []⟩, ⟨none, 0, []⟩, ⟨some ⟨b26, 0, none⟩, 1, [0]⟩] = [[], [], [0]] from rfl, ex_b.1, ex_b.2]; rfl]
 refine sp rfl (PE.move rfl) rfl ?_
 refine sp rfl (PE.extract rfl rfl) rfl ?_
 refine sp rfl (PE.extract rfl rfl) rfl ?_
 refine sp rfl (PE.extract rfl rfl) rfl ?_
 refine sp rfl (PE.assign rfl) rfl ?_
 refine sp rfl (PE.assign rfl) rfl ?_
 refine sp rfl (PE.assign rfl) rfl ?_
 refine sy_seq ?_
 refine sy_tx' [0, 1, 2, 3, 4, 5, 6, 7, 8, 9] rfl ?_
 refine cl rfl cal5 rfl rfl (c_Three 2 (by decide) _ _) ?_
 rintro _ _ _ ⟨ba33, rfl, rfl, rfl⟩
 refine bsl (out := [_]) rfl sl22 zl3 rfl rfl rfl rfl rfl rfl (fun b34 => ?_)
 refine bsl (out := [_]) rfl sl22 zl3 rfl rfl rfl rfl rfl rfl (fun b35 => ?_)
 refine bsl (out := [_, _, _]) rfl sl23 zl22 rfl rfl rfl rfl rfl rfl (fun b36 => ?_)
 refine Sy.heap (fun w h => St.intRows (l := [0]) (h.pull b34)) ?_
 refine Sy.heap (fun w h => St.intRows (l := [1]) (h.pull b35)) ?_
 refine Sy.heap (fun w h => St.inn0 h) ?_
 refine Sy.heap (fun w h => St.innCons (a := some ⟨b35, 0, none⟩) (c := 1) (l0 := [1]) (l := []) h) ?_
 refine Sy.heap (fun w h => St.innCons (a := some ⟨b34, 0, none⟩) (c := 1) (l0 := [0]) (l := [⟨some ⟨b35, 0, none⟩, 1, [1]⟩]) h) ?_
 refine Sy.heap (fun w h => St.innN (l := [⟨some ⟨b34, 0, none⟩, 1, [0]⟩, ⟨some ⟨b35, 0, none⟩, 1, [1]⟩]) h) ?_
 refine Sy.heap (fun w h => St.rows (sz := 1) (rows := plrows [⟨none, 0, []⟩, ⟨some ⟨b34, 0, none⟩, 1, [0]⟩, ⟨some ⟨b35, 0, none⟩, 1, [1]⟩]) (rest := []) (h.pull b36) (by simp [plrows, plrow])) ?_
 refine cl rfl cal59 rfl rfl (c_Keeps (thr 2) (some ⟨ba33, 0, none⟩) 3 (by decide) rfl [⟨none, 0, []⟩, ⟨some ⟨b34, 0, none⟩, 1, [0]⟩, ⟨some ⟨b35, 0, none⟩, 1, [1]⟩] (some ⟨b36, 0, none⟩) 3 (by simp) (fun x hx => by simp only [List.mem_cons, List.not_mem_nil, or_false] at hx; rcases hx with rfl | rfl | rfl <;> simp) _ _) ?_
 rintro _ _ _ ⟨rfl, rfl, rfl⟩
 rw [show (thr 2).keepsV (lls [⟨none, 0, []⟩, ⟨some ⟨b34, 0, none⟩, 1, [0]⟩, ⟨some ⟨b35, 0, none⟩, 1, [1]⟩]) = .tuple #[.bool true, .int .i64 0] from by unfold Barn.keepsV; rw [show lls [⟨none, 0, []⟩, ⟨some ⟨b34, 0, none⟩, 1, [0]⟩, ⟨some ⟨b35, 0, none⟩, 1, [1]⟩] = [[], [0], [1]] from rfl, ex_k.1, ex_k.2]; rfl]
 refine sp rfl (PE.move rfl) rfl ?_
 refine sp rfl (PE.extract rfl rfl) rfl ?_
 refine sp rfl (PE.extract rfl rfl) rfl ?_
 refine sp rfl (PE.assign rfl) rfl ?_
 refine sp rfl (PE.assign rfl) rfl ?_
 refine sy_seq ?_
 refine sy_tx' [0, 1, 2, 3, 4, 5, 6] rfl ?_
 refine cl rfl cal5 rfl rfl (c_Three 2 (by decide) _ _) ?_
 rintro _ _ _ ⟨ba41, rfl, rfl, rfl⟩
 refine cl rfl cal15 rfl rfl (c_Longest (thr 2) (some ⟨ba41, 0, none⟩) 3 (by decide) rfl _ _) ?_
 rintro _ _ R1 ⟨hQ, rfl, hR1⟩
 obtain rfl := hR1.symm
 rcases hQ with ⟨hne, _⟩ | ⟨_, w, hw, rfl⟩
 exact absurd ex_c.1 hne
 obtain rfl := kpt_unique hw (kpt_ever ex_l.1 ex_l.2)
 refine sp rfl (PE.move rfl) rfl ?_
 refine sp rfl (PE.extract rfl rfl) rfl ?_
 refine sp rfl (PE.extract rfl rfl) rfl ?_
 refine sp rfl (PE.assign rfl) rfl ?_
 refine sp rfl (PE.assign rfl) rfl ?_
 refine sy_seq ?_
 refine sy_tx' [0, 1, 2, 3, 4, 5, 6] rfl ?_
 refine cl rfl cal5 rfl rfl (c_Three 2 (by decide) _ _) ?_
 rintro _ _ _ ⟨ba46, rfl, rfl, rfl⟩
 refine cl rfl cal60 rfl rfl (c_Turnings (thr 2) (some ⟨ba46, 0, none⟩) 3 (by decide) rfl 3 _ _) ?_
 rintro _ _ _ ⟨rfl, rfl, rfl⟩
 rw [ex_t.1, ex_t.2]
 refine sp rfl (PE.move rfl) rfl ?_
 refine sp rfl (PE.extract rfl rfl) rfl ?_
 refine sp rfl (PE.extract rfl rfl) rfl ?_
 refine sp rfl (PE.assign rfl) rfl ?_
 refine sp rfl (PE.assign rfl) rfl ?_
 refine sy_seq ?_
 refine sy_tx' [0, 1, 2, 3, 4, 5, 6] rfl ?_
 refine cl rfl cal5 rfl rfl (c_Three 3 (by decide) _ _) ?_
 rintro _ _ _ ⟨ba51, rfl, rfl, rfl⟩
 refine cl rfl cal16 rfl rfl (c_First (thr 3) (some ⟨ba51, 0, none⟩) 3 (by decide) rfl _ _) ?_
 rintro _ _ R1 ⟨hQ, rfl, hR1⟩
 obtain rfl := hR1.symm
 rcases hQ with ⟨hne, _⟩ | ⟨_, w, hw, rfl⟩
 exact absurd ex_c.2 hne
 obtain rfl := kpt_unique hw (.inr ⟨3, by decide, rfl, ex_f.1, ex_f.2⟩)
 refine sp rfl (PE.move rfl) rfl ?_
 refine sp rfl (PE.extract rfl rfl) rfl ?_
 refine sp rfl (PE.extract rfl rfl) rfl ?_
 refine sp rfl (PE.assign rfl) rfl ?_
 refine sp rfl (PE.assign rfl) rfl ?_
 refine sy_seq ?_
 refine sy_tx' [0, 1, 2, 3, 4, 5, 6] rfl ?_
 refine cl rfl cal5 rfl rfl (c_Three 3 (by decide) _ _) ?_
 rintro _ _ _ ⟨ba56, rfl, rfl, rfl⟩
 refine cl rfl cal61 rfl rfl (c_Spare (thr 3) (some ⟨ba56, 0, none⟩) 3 (by decide) rfl _ _) ?_
 rintro v _ R1 ⟨hQ, rfl, hR1⟩
 obtain rfl := hR1.symm
 have e0 : (thr 3).ends 0 := ⟨1, by decide, .inr ⟨1, by decide, rfl, ex_s0.1, ex_s0.2⟩⟩
 have e1 : (thr 3).ends 1 := ⟨3, by decide, .inr ⟨3, by decide, rfl, ex_f.1, ex_f.2⟩⟩
 have k2 : Kpt ((thr 3).withG 2).dsk (thr 3).state 1000000 := kpt_ever ex_s2.1 ex_s2.2
 have k20 : ∀ g : Nat, g = 2 → Kpt ((thr 3).withG g).dsk (thr 3).state 1000000 := fun g hg => by subst hg; exact k2
 replace hQ : ∃ g : Nat, g = 2 ∧ v = .tuple #[.int .i64 g, .int .i64 0] := by
   rcases hQ with ⟨hne, _⟩ | ⟨_, ⟨g, hg, hge, hgk, rfl⟩ | ⟨hall, _⟩⟩
   · exact absurd ex_c.2 hne
   · refine ⟨g, ?_, rfl⟩
     have hg3 : g ≤ 3 := hg
     rcases Nat.lt_or_ge 2 g with h1 | h1
     · obtain ⟨w, hw, hk⟩ := hge 2 h1; exact absurd (kpt_unique hk k2) hw
     · rcases Nat.lt_or_ge g 2 with h2 | h2
       · exfalso
         rcases (by omega : g = 0 ∨ g = 1) with rfl | rfl
         · obtain ⟨w, hw, hk⟩ := e0; exact hw (kpt_unique hk hgk)
         · obtain ⟨w, hw, hk⟩ := e1; exact hw (kpt_unique hk hgk)
       · omega
   · obtain ⟨w, hw, hk⟩ := hall 2 (by decide); exact absurd (kpt_unique hk k2) hw
 obtain ⟨g, rfl, rfl⟩ := hQ
 refine sp rfl (PE.move rfl) rfl ?_
 refine sp rfl (PE.extract rfl rfl) rfl ?_
 refine sp rfl (PE.extract rfl rfl) rfl ?_
 refine sp rfl (PE.assign rfl) rfl ?_
 refine sp rfl (PE.assign rfl) rfl ?_
 refine sy_seq ?_
 refine sy_tx' [0, 1, 2, 3, 4, 5, 6, 7, 8, 9] rfl ?_
 refine cl rfl cal5 rfl rfl (c_Three 2 (by decide) _ _) ?_
 rintro _ _ _ ⟨ba61, rfl, rfl, rfl⟩
 refine bsl (out := [_]) rfl sl22 zl3 rfl rfl rfl rfl rfl rfl (fun b62 => ?_)
 refine bsl (out := [_]) rfl sl22 zl3 rfl rfl rfl rfl rfl rfl (fun b63 => ?_)
 refine bsl (out := [_, _]) rfl sl23 zl22 rfl rfl rfl rfl rfl rfl (fun b64 => ?_)
 refine Sy.heap (fun w h => h.also (f := RowsA none 1 (plrows [])) (fun _ _ i row hi => by simp [plrows] at hi)) ?_
 refine Sy.heap (fun w h => St.intRows (l := [0]) (h.pull b62)) ?_
 refine Sy.heap (fun w h => St.intRows (l := [1]) (h.pull b63)) ?_
 refine Sy.heap (fun w h => St.inn0 h) ?_
 refine Sy.heap (fun w h => St.innCons (a := some ⟨b63, 0, none⟩) (c := 1) (l0 := [1]) (l := []) h) ?_
 refine Sy.heap (fun w h => St.innCons (a := some ⟨b62, 0, none⟩) (c := 1) (l0 := [0]) (l := [⟨some ⟨b63, 0, none⟩, 1, [1]⟩]) h) ?_
 refine Sy.heap (fun w h => St.rows (sz := 1) (rows := plrows [⟨some ⟨b62, 0, none⟩, 1, [0]⟩, ⟨some ⟨b63, 0, none⟩, 1, [1]⟩]) (rest := []) (h.pull b64) (by simp [plrows, plrow])) ?_
 refine cl rfl cal18 rfl rfl (c_Goes (thr 2) (some ⟨ba61, 0, none⟩) 3 (by decide) rfl [] none 0 (by decide) (fun x hx => by cases hx) [⟨some ⟨b62, 0, none⟩, 1, [0]⟩, ⟨some ⟨b63, 0, none⟩, 1, [1]⟩] (some ⟨b64, 0, none⟩) 2 (by simp) (fun x hx => by simp only [List.mem_cons, List.not_mem_nil, or_false] at hx; rcases hx with rfl | rfl <;> simp) _ _) ?_
 rintro _ _ R1 ⟨hQ, rfl, hR1⟩
 obtain rfl := hR1.symm
 rcases hQ with ⟨hne, _⟩ | ⟨_, is, his, rfl⟩
 exact absurd ex_g.1 hne
 obtain rfl : is = true := his.2 (goes_yes (i := 1) ex_g.2.1 ex_g.2.2)
 refine sp rfl (PE.move rfl) rfl ?_
 refine sp rfl (PE.extract rfl rfl) rfl ?_
 refine sp rfl (PE.extract rfl rfl) rfl ?_
 refine sp rfl (PE.assign rfl) rfl ?_
 refine sp rfl (PE.assign rfl) rfl ?_
 refine sy_seq ?_
 refine sy_tx' [0, 1, 2, 3, 4, 5, 6, 7, 8, 9, 10, 11, 12, 13, 14, 15, 16, 17, 18, 19, 20, 21, 22, 23, 24, 25, 26, 27, 28, 29, 30, 31, 32, 33, 34, 35, 36, 37, 38, 39, 40, 41, 42, 43, 44, 45, 46, 47, 48, 49, 50, 51, 52, 53, 54, 55, 56, 57, 58, 59, 60, 61, 62, 63, 64, 65, 66, 67, 68] rfl ?_
 refine sp rfl (PE.move rfl) rfl ?_
 refine sp rfl (PE.eql rfl rfl) rfl ?_
 refine sp rfl (PE.move rfl) rfl ?_
 refine sy_case (t := 70) rfl (fun g70 => ?_) (fun g70 => ?_)
 refine spG rfl rfl rfl rfl (PE.move rfl) rfl ?_
 refine spG rfl rfl rfl rfl (PE.eql rfl rfl) rfl ?_
 refine sp rfl (PE.pick rfl rfl rfl) rfl ?_
 refine sp rfl (PE.move rfl) rfl ?_
 refine sy_case (t := 74) rfl (fun g74 => ?_) (fun g74 => ?_)
 refine spG rfl rfl rfl rfl (PE.move rfl) rfl ?_
 refine spG rfl rfl rfl rfl (PE.eql rfl rfl) rfl ?_
 refine sp rfl (PE.pick rfl rfl rfl) rfl ?_
 refine sp rfl (PE.move rfl) rfl ?_
 refine sy_case (t := 78) rfl (fun g78 => ?_) (fun g78 => ?_)
 refine spG rfl rfl rfl rfl (PE.move rfl) rfl ?_
 refine spG rfl rfl rfl rfl (PE.eql rfl rfl) rfl ?_
 refine sp rfl (PE.pick rfl rfl rfl) rfl ?_
 refine sp rfl (PE.move rfl) rfl ?_
 refine sy_case (t := 82) rfl (fun g82 => ?_) (fun g82 => ?_)
 refine spG rfl rfl rfl rfl (PE.move rfl) rfl ?_
 refine spG rfl rfl rfl rfl (PE.eql rfl rfl) rfl ?_
 refine sp rfl (PE.pick rfl rfl rfl) rfl ?_
 refine sp rfl (PE.move rfl) rfl ?_
 refine sy_case (t := 86) rfl (fun g86 => ?_) (fun g86 => ?_)
 refine spG rfl rfl rfl rfl (PE.move rfl) rfl ?_
 refine spG rfl rfl rfl rfl (PE.eql rfl rfl) rfl ?_
 refine sp rfl (PE.pick rfl rfl rfl) rfl ?_
 refine sp rfl (PE.move rfl) rfl ?_
 refine sy_case (t := 90) rfl (fun g90 => ?_) (fun g90 => ?_)
 refine spG rfl rfl rfl rfl (PE.move rfl) rfl ?_
 refine spG rfl rfl rfl rfl (PE.eql rfl rfl) rfl ?_
 refine sp rfl (PE.pick rfl rfl rfl) rfl ?_
 refine sp rfl (PE.move rfl) rfl ?_
 refine sy_case (t := 94) rfl (fun g94 => ?_) (fun g94 => ?_)
 refine spG rfl rfl rfl rfl (PE.move rfl) rfl ?_
 refine spG rfl rfl rfl rfl (PE.eql rfl rfl) rfl ?_
 refine sp rfl (PE.pick rfl rfl rfl) rfl ?_
 refine sp rfl (PE.move rfl) rfl ?_
 refine sy_case (t := 98) rfl (fun g98 => ?_) (fun g98 => ?_)
 refine spG rfl rfl rfl rfl (PE.move rfl) rfl ?_
 refine spG rfl rfl rfl rfl (PE.build (out := [_, _]) pl31 zl31 rfl rfl) rfl ?_
 refine spG rfl rfl rfl rfl (PE.build (out := [_, _]) pl31 zl31 rfl rfl) rfl ?_
 refine spG rfl rfl rfl rfl (PE.build (out := [_, _]) pl31 zl31 rfl rfl) rfl ?_
 refine bslG (out := [_, _, _, _, _, _]) rfl rfl rfl rfl sl113 zl31 rfl rfl rfl rfl rfl rfl (fun b103 => ?_)
 refine Sy.heap (fun w h => St.rows (sz := 2) (rows := sprows [(28, 30), (36, 40), (44, 50)]) (rest := []) (h.pull b103) (by simp [sprows, sprow])) ?_
 refine clVG rfl rfl rfl rfl cal62 rfl rfl (c_Eq_span [(28, 30), (36, 40), (44, 50)] [(28, 30), (36, 40), (44, 50)] aw (some ⟨b103, 0, none⟩) cw 3 (by decide) (by decide) _ _) ?_
 refine sp rfl (PE.pick rfl rfl rfl) rfl ?_
 refine sp rfl (PE.move rfl) rfl ?_
 refine sy_case (t := 106) rfl (fun g106 => ?_) (fun g106 => ?_)
 refine spG rfl rfl rfl rfl (PE.move rfl) rfl ?_
 refine spG rfl rfl rfl rfl (PE.eql rfl rfl) rfl ?_
 refine sp rfl (PE.pick rfl rfl rfl) rfl ?_
 refine sp rfl (PE.move rfl) rfl ?_
 refine sy_case (t := 110) rfl (fun g110 => ?_) (fun g110 => ?_)
 refine spG rfl rfl rfl rfl (PE.move rfl) rfl ?_
 refine spG rfl rfl rfl rfl (PE.eql rfl rfl) rfl ?_
 refine sp rfl (PE.pick rfl rfl rfl) rfl ?_
 refine sp rfl (PE.move rfl) rfl ?_
 refine sy_case (t := 114) rfl (fun g114 => ?_) (fun g114 => ?_)
 refine spG rfl rfl rfl rfl (PE.move rfl) rfl ?_
 refine sp rfl (PE.pick rfl rfl rfl) rfl ?_
 refine sp rfl (PE.move rfl) rfl ?_
 refine sy_case (t := 117) rfl (fun g117 => ?_) (fun g117 => ?_)
 refine spG rfl rfl rfl rfl (PE.move rfl) rfl ?_
 refine spG rfl rfl rfl rfl (PE.eql rfl rfl) rfl ?_
 refine sp rfl (PE.pick rfl rfl rfl) rfl ?_
 refine sp rfl (PE.move rfl) rfl ?_
 refine sy_case (t := 121) rfl (fun g121 => ?_) (fun g121 => ?_)
 refine spG rfl rfl rfl rfl (PE.move rfl) rfl ?_
 refine spG rfl rfl rfl rfl (PE.eql rfl rfl) rfl ?_
 refine sp rfl (PE.pick rfl rfl rfl) rfl ?_
 refine sp rfl (PE.move rfl) rfl ?_
 refine sy_case (t := 125) rfl (fun g125 => ?_) (fun g125 => ?_)
 refine spG rfl rfl rfl rfl (PE.move rfl) rfl ?_
 refine spG rfl rfl rfl rfl (PE.eql rfl rfl) rfl ?_
 refine sp rfl (PE.pick rfl rfl rfl) rfl ?_
 refine sp rfl (PE.move rfl) rfl ?_
 refine sy_case (t := 129) rfl (fun g129 => ?_) (fun g129 => ?_)
 refine spG rfl rfl rfl rfl (PE.move rfl) rfl ?_
 refine spG rfl rfl rfl rfl (PE.eql rfl rfl) rfl ?_
 refine sp rfl (PE.pick rfl rfl rfl) rfl ?_
 refine sp rfl (PE.move rfl) rfl ?_
 refine sy_case (t := 133) rfl (fun g133 => ?_) (fun g133 => ?_)
 refine spG rfl rfl rfl rfl (PE.move rfl) rfl ?_
 refine sp rfl (PE.pick rfl rfl rfl) rfl ?_
 refine sp rfl (PE.assign rfl) rfl ?_
 refine sy_ret ?_
 exact sy_return (vs := [_]) rfl (.cons (RV.tmp rfl) .nil) rfl ⟨rfl, rfl, rfl⟩ (fun w h => St.sub h)
 exact absurd g133 (by simp)
 exact absurd g129 (by simp)
 exact absurd g125 (by simp)
 exact absurd g121 (by simp)
 exact absurd g117 (by simp)
 exact absurd g114 (by simp)
 exact absurd g110 (by simp)
 exact absurd g106 (by simp)
 exact absurd g98 (by simp)
 exact absurd g94 (by simp)
 exact absurd g90 (by simp)
 exact absurd g86 (by simp)
 exact absurd g82 (by simp)
 exact absurd g78 (by simp)
 exact absurd g74 (by simp)
 exact absurd g70 (by simp)
end Go.Proofs.YtelegnmfhjfbaaaGreat
namespace Go.Proofs.YtelegnmfhjfbaaaGreat
set_option linter.unusedSimpArgs false
set_option linter.unusedVariables false
open Go
def nin (n lo hi : Int) : Bool := decide (n < lo) || decide (hi < n)
theorem nin_in (n lo hi : Int) : nin n lo hi = !(inB n lo hi) := by
  unfold nin inB
  rw [Bool.not_and]
  congr 1
  · rw [← decide_not]; exact decide_eq_decide.2 (by omega)
  · rw [← decide_not]; exact decide_eq_decide.2 (by omega)
end Go.Proofs.YtelegnmfhjfbaaaGreat
namespace Go.Proofs.YtelegnmfhjfbaaaGreat
set_option linter.unusedSimpArgs false
set_option linter.unusedVariables false
open Go
structure CkA (b : Barn) : Prop where
  many : nin (b.bins.length : Int) 1 4 = false
  cool : nin b.cool 0 60 = false
  gangs : nin b.gangs 0 3 = false
theorem CkA.rest {b : Barn} (h : CkA b) (hr : b.rise.all riseOk = true) (hb : b.bins.all HBin.ok = true) : b.check = bif !(srt b.rise) || !(b.bins.all fun x => decide (x.lo ≤ x.hi)) then 4 else 0 := by
  have h1 := h.many; have h2 := h.cool; have h3 := h.gangs
  unfold Barn.check; rw [nin_in] at h1 h2 h3; rw [h1, h2, h3, hr, hb]; rfl
end Go.Proofs.YtelegnmfhjfbaaaGreat
namespace Go.Proofs.YtelegnmfhjfbaaaGreat
set_option linter.unusedSimpArgs false
set_option linter.unusedVariables false
open Go
def isStr (P : Program) (T : Nat) : Bool := match P.underlying T with | some .string => true | _ => false
def U8 (v : Value) : Prop := ∃ x : Int, v = .int .u8 x ∧ 0 ≤ x ∧ x ≤ 255
theorem wrap_u8_id {n : Int} (h0 : 0 ≤ n) (h1 : n ≤ 255) : IntKind.u8.wrap n = n := by
  have e : IntKind.u8.wrap n = n % 256 := rfl
  rw [e]; omega
theorem wrap_u64_id {n : Int} (h0 : 0 ≤ n) (h1 : n ≤ 18446744073709551615) : IntKind.u64.wrap n = n := by
  have e : IntKind.u64.wrap n = n % 18446744073709551616 := rfl
  rw [e]; omega
section pe
variable {P : Program} {L : Slots} {d : Option Tmp} {ty : TypeId} {pos : String} {af : Array Edge} {g : Option (Nat × Bool)}
theorem PE.slLoA {T e s : Nat} {x z : Operand} {a : Option Addr} {len cap l : Nat} {k2 : IntKind} (hT : slE P T = some (e, s)) (hx : ev L x = some (.slice a len cap)) (hz : ev L z = some (.int k2 l)) (hl : l ≤ len) :
    PE P L ⟨d, .slice T x (some z) none none, ty, pos, af, g⟩ (.slice (if cap = l then a else a.map (·.add (l * s))) (len - l) (cap - l)) := fun ρ hρ w => by
  obtain ⟨i, hu, hi, rfl⟩ := slE_und hT
  have hb2 : ∀ c w, (Instr.sliceBound (.int k2 (l : Int)) len c).run P w = .ok l w := fun c w => by rw [run_bound (by omega)]; simp
  simp only [execOp, hρ _ _ hx, hρ _ _ hz, Option.map_none, Option.map_some, Instr.sliceAt, Instr.slice, Sem.run_bind, run_underlying hu, Result.andThen, Sem.run_pure, Instr.sliceBounds, hb2, sizeOf, typeInfo, program, hi, Sem.run]
theorem PE.indexS {T : TypeId} {x y : Operand} {k : IntKind} {s : ByteArray} {i m : Nat} (hT : isStr P T = true) (hx : ev L x = some (.string s)) (hy : ev L y = some (.int k i)) (hz : s.size = m) (hi : i < m) :
    ∃ v, PE P L ⟨d, .index T x y, ty, pos, af, g⟩ v ∧ U8 v := by
  have hu : P.underlying T = some .string := by
    unfold isStr at hT
    split at hT
    · assumption
    · cases hT
  refine ⟨.int .u8 (s[i]'(by omega)).toNat, fun ρ hρ w => ?_, _, rfl, by omega, ?_⟩
  · have e1 : s[i]? = some (s[i]'(by omega)) := getElem?_pos s i (by omega)
    simp only [execOp, hρ _ _ hx, hρ _ _ hy, Instr.index, asIntOf, Sem.run_bind, Sem.run_pure, run_underlying hu, Result.andThen]
    rw [if_pos (by omega), Int.toNat_natCast, e1]
    rfl
  · have := UInt8.toNat_lt (s[i]'(by omega)); omega
end pe
theorem run_storeA {P : Program} {b e od : Nat} {l vs : List Value} (h1 : vs.all (·.oneCell') = true) (hb : od + vs.length ≤ l.length) {w : World} (h : w.heap[b]? = some (cel e l)) :
    (storeCells ⟨b, od, none⟩ vs).run P w = .ok () { w with heap := w.heap.setIfInBounds b (cel e (spl l od vs)) } := by
  have := run_storeCells_at (P := P) b od e vs 0 l.toArray w h (by simpa using hb) (fun x hx => List.all_eq_true.1 h1 x hx)
  rw [setRow_cells h] at this
  simpa [spl] using this
section steps
variable {P : Program} {r : Option Nat} {ops : Array Oper} {n : Nat} {L : Slots} {D : List Deferred} {H : Heap} {R : Facts} {K : Act → World → Prop}
  {i d : Nat} {ty : TypeId} {pos : String} {af : Array Edge}
theorem cpyA {T T2 e s : Nat} {x y : Operand} {b od bs os dl dc sl sc e2 : Nat} {l : List Value} (cs : List Value) {H' : Heap}
    (ho : ops[i]? = some ⟨some d, .call { callee := .builtin .copy, args := #[x, y], argTypes := #[T, T2] }, ty, pos, af, none⟩) (hT : slE P T = some (e, s))
    (hx : ev L x = some (.slice (some ⟨b, od, none⟩) dl dc)) (hy : ev L y = some (.slice (some ⟨bs, os, none⟩) sl sc)) (hn : cs.length = Nat.min sl dl * s)
    (hsrc : ∀ w, St H R w → ∀ j v, cs[j]? = some v → w.cell? ⟨bs, os + j, none⟩ = some v) (h1 : cs.all (·.oneCell') = true) (hb : od + cs.length ≤ l.length) (hd : Nat.blt d n = true)
    [m : Mem1 b (cel e2 l) H] [rp : Rep [(b, cel e2 l)] [(b, cel e2 (spl l od cs))] H H']
    (h : Sy n ((d, .int .i64 (Nat.min sl dl : Nat)) :: L) D H' R K) : Sy n L D H R (stp P r ops i K) := fun a w ha hD hs => by
  obtain ⟨ie, hu, hi, rfl⟩ := slE_und hT
  have hl := run_loadCells_list (P := P) w ⟨bs, os, none⟩ cs (fun j v hj => by rw [addr_add]; exact hsrc w hs j v hj)
  have hst := run_storeA (P := P) (e := e2) h1 hb (hs.held _ m.mem)
  refine stp_value ho (wanted_none _ rfl _) (v := .int .i64 (Nat.min sl dl : Nat)) (w' := { w with heap := w.heap.setIfInBounds b (cel e2 (spl l od cs)) }) ?_
    (h _ _ (ha.put (by simpa using hd) _) hD (hs.rep (F := [(b, cel e2 l)]) (F' := [(b, cel e2 (spl l od cs))]) fun T hT => St.set hT))
  simp only [execOp, resolve, invoke, builtin, Sem.run_bind, Sem.run_pure, Result.andThen, List.map_toArray, List.map_cons, List.map_nil, ha.reads _ _ hx, ha.reads _ _ hy]
  have e1 : (Builtin.copy_ #[T, T2] ty #[.slice (some ⟨b, od, none⟩) dl dc, .slice (some ⟨bs, os, none⟩) sl sc]).run P w = .ok (goInt (Nat.min sl dl : Nat)) { w with heap := w.heap.setIfInBounds b (cel e2 (spl l od cs)) } := by
    simp [Builtin.copy_, run_underlying hu, Builtin.lenOf, Builtin.firstCells, sizeOf, typeInfo, hi, ← hn, hl, hst]
  rw [e1]
  rfl
theorem heldAt {b e2 os : Nat} {l cs : List Value} [m : Mem1 b (cel e2 l) H] (hc : ∀ j v, cs[j]? = some v → l[os + j]? = some v) : ∀ w, St H R w → ∀ j v, cs[j]? = some v → w.cell? ⟨b, os + j, none⟩ = some v := fun w hs j v hj => by
  rw [cell_of (hs.held _ m.mem)]
  simpa using hc j v hj
theorem apZ {t tn e sz by_ b i' cap k e2 : Nat} {kq kn : IntKind} {s x : Operand} {l zl : List Value} (ho : ops[i]? = some ⟨some d, .call { callee := .builtin .append, args := #[s, x], argTypes := #[t, tn] }, ty, pos, af, none⟩)
    (ht : apT P t = some (e, sz, by_)) (htn : intK P tn = some kn) (hz : zeroL P e = some zl) (hs : ev L s = some (.slice (some ⟨b, 0, none⟩) i' cap)) (hx : ev L x = some (.int kq k))
    (hk : 0 < k) (hs0 : 0 < sz) (hg : cap < i' + k) (hb : (i' + k) * by_ ≤ 140737488355328 ∧ i' + k ≤ 9223372036854775807) (hl : i' * sz ≤ l.length) (hd : Nat.blt d n = true) [m : Mem1 b (cel e2 l) H]
    (h : ∀ (b' cap' : Nat) (junk : List Value), i' + k ≤ cap' → cap' ≤ 9223372036854775807 → (i' + k) * sz + junk.length = cap' * sz → Sy n ((d, .slice (some ⟨b', 0, none⟩) (i' + k) cap') :: L) D ((b', cel e (l.take (i' * sz) ++ (repl k zl ++ junk))) :: H) R K) : Sy n L D H R (stp P r ops i K) := fun a w ha hD hw => by
  unfold apT at ht
  split at ht
  case h_2 => cases ht
  rename_i e' hu
  split at ht
  case h_2 => cases ht
  rename_i ie hi
  split at ht
  case h_2 => cases ht
  rename_i z hzz
  cases hzs : Nat.beq z.cells.size ie.size with
  | false => rw [hzs] at ht; cases ht
  | true =>
  rw [hzs, cond_true] at ht
  cases ht
  have hzs := Nat.eq_of_beq_eq_true hzs
  have hzl : z.cells.toList = zl := by
    have : zeroL P e = some z.cells.toList := by simp [zeroL, hi, hzz]
    rw [this] at hz; exact Option.some.inj hz
  have hun : P.underlying tn = some (.int kn) := by
    unfold intK at htn
    split at htn
    · rename_i q hq; cases htn; exact hq
    · cases htn
  have hcs : (l.take (i' * ie.size)).length = i' * ie.size := by rw [List.length_take]; omega
  have hold : (Builtin.firstCells ie.size i' (.slice (some ⟨b, 0, none⟩) i' cap)).run P w.drew = .ok (l.take (i' * ie.size)).toArray w.drew := by
    have h1 := run_loadCells_list (P := P) w.drew ⟨b, 0, none⟩ (l.take (i' * ie.size)) (fun j v hj => by
      rw [addr_add, cell_of (hw.drew.held _ m.mem)]
      rw [List.getElem?_take] at hj
      split at hj
      · simpa using hj
      · cases hj)
    rw [hcs] at h1
    exact h1
  have hq : k * ie.bytes ≤ (i' + k) * ie.bytes := Nat.mul_le_mul_right _ (by omega)
  have h2 := Lib.run_append_grow_zeros (P := P) w t tn ty e ie z kq kn hu hun hi hzz (some ⟨b, 0, none⟩) i' cap (l.take (i' * ie.size)) hold k hk hs0 hg (by omega) (by omega) (growslice_fits hg hb.1)
  have hge := grownCap_ge w (i' + k) cap e
  have hcm : grownCap w (i' + k) cap e ≤ maxLen := grownCap_le_maxLen w _ cap e (by simp only [maxLen]; omega)
  have hrep : ∀ q, (Builtin.zeroCells z.cells q).toList = repl q zl := fun q => by rw [← hzl]; simp [Builtin.zeroCells, repl]
  have e1 : (.cells ((l.take (i' * ie.size)).toArray ++ Builtin.zeroCells z.cells k ++ Builtin.zeroCells z.cells (grownCap w (i' + k) cap e - (i' + k))) e : Obj) = cel e (l.take (i' * ie.size) ++ (repl k zl ++ (Builtin.zeroCells z.cells (grownCap w (i' + k) cap e - (i' + k))).toList)) := by
    unfold cel; congr 1; apply Array.toList_inj.1; simp [hrep]
  refine stp_value ho (wanted_none _ rfl _) (v := .slice (some ⟨w.heap.size, 0, none⟩) (i' + k) (grownCap w (i' + k) cap e)) (w' := w.drew.alloc (cel e (l.take (i' * ie.size) ++ (repl k zl ++ (Builtin.zeroCells z.cells (grownCap w (i' + k) cap e - (i' + k))).toList)))) ?_
    (h w.heap.size (grownCap w (i' + k) cap e) (Builtin.zeroCells z.cells (grownCap w (i' + k) cap e - (i' + k))).toList hge (by simp only [maxLen] at hcm; omega) ?_ _ _ (ha.put (by simpa using hd) _) hD (hw.drew.alloc _))
  · simp only [execOp, resolve, invoke, builtin, Sem.run_bind, Sem.run_pure, Result.andThen, List.map_toArray, List.map_cons, List.map_nil, ha.reads _ _ hs, ha.reads _ _ hx]
    rw [e1] at h2
    rw [h2]
  · simp only [Array.length_toList, size_zeroCells, hzs, ← Nat.add_mul]
    congr 1; omega
theorem clX {f : FuncId} {xs : List Operand} {vs : List Value} {ts : Array TypeId} {v : Value}
    (ho : ops[i]? = some ⟨some d, .call { callee := .value (.func f), args := xs.toArray, argTypes := ts }, ty, pos, af, none⟩) (hd : Nat.blt d n = true) (hx : evs L xs = some vs)
    (hc : ∀ w, St H R w → (callFunc f vs.toArray).run P w = .ok (.value v) w) (h : Sy n ((d, v) :: L) D H R K) : Sy n L D H R (stp P r ops i K) := fun a w ha hD hs => by
  refine stp_value ho (wanted_none _ rfl _) (v := v) (w' := w) ?_ (h _ _ (ha.put (by simpa using hd) _) hD hs)
  have e : xs.toArray.map a.eval = vs.toArray := by rw [List.map_toArray, evs_map ha.reads _ _ hx]
  have e2 : a.eval (.func f) = .func (.func f) #[] #[] := ha.reads (.func f) _ rfl
  simp only [execOp, resolve, e2, Deferred.ofValue, e, Sem.run_bind, Sem.run_pure, Result.andThen, invoke]
  simpa using hc w hs
end steps
section dag
variable {P : Program} {r : Option Nat} {ops : Array Oper} {bm : List Nat} {X : Act → World → Prop} {n : Nat} {L : Slots} {D : List Deferred} {H : Heap} {R : Facts} {p : Plan} {pend : Pend}
end dag
theorem run_ovl {P : Program} {tS tR e f : Nat} {fn : Func} (hf : P.funcs[f]? = some fn) (h1 : (fn.name == "runtime.NumGoroutine") = false) (h2 : fn.body.isNone = true) (h3 : Extern.findNext fn = none) (h4 : Extern.find fn = some (Extern.SlicesOverlaps.overlaps #[tS, tS] #[tR]))
    {s : Nat} (hT : slE P tS = some (e, s)) {a b oa ob la ca lb cb eA eB : Nat} {xa xb : List Value} (hne : a ≠ b) (hb0 : xb ≠ []) {w : World} (hA : w.heap[a]? = some (cel eA xa)) (hB : w.heap[b]? = some (cel eB xb)) :
    (callFunc f #[.slice (some ⟨a, oa, none⟩) la ca, .slice (some ⟨b, ob, none⟩) lb cb]).run P w = .ok (.value (.bool false)) w := by
  obtain ⟨i, hu, hi, hs⟩ := slE_und hT
  rw [run_callFunc_extern hf h1 h2 h3 (e := Extern.SlicesOverlaps.overlaps #[tS, tS] #[tR]) h4,
    Lib.run_overlaps_apart w tS tR e hu s (fun w => by rw [← hs]; exact run_size (by rw [hi]; rfl) w) ⟨a, oa, none⟩ ⟨b, ob, none⟩ la ca lb cb hne eA eB xa.length xb.length
      (by simp [World.shape?, hA, cel]) (by simp [World.shape?, hB, cel]) (by simpa using hb0) (by simp [World.frozen?, hA, cel]) (by simp [World.frozen?, hA, cel])]
  rfl
end Go.Proofs.YtelegnmfhjfbaaaGreat
namespace Go.Proofs.YtelegnmfhjfbaaaGreat
set_option linter.unusedSimpArgs false
set_option linter.unusedVariables false
open Go
section pe
variable {P : Program} {L : Slots} {d : Option Tmp} {ty : TypeId} {pos : String} {af : Array Edge} {g : Option (Nat × Bool)}
end pe
section steps
variable {P : Program} {r : Option Nat} {ops : Array Oper} {n : Nat} {L : Slots} {D : List Deferred} {H : Heap} {R : Facts} {K : Act → World → Prop}
  {i d : Nat} {ty : TypeId} {pos : String} {af : Array Edge}
end steps
def AllS : List Nat → (Nat → Prop) → Prop
  | [], _ => True
  | i :: l, p => p i ∧ AllS l p
theorem AllS.all {p : Nat → Prop} : ∀ {l : List Nat}, AllS l p → ∀ i ∈ l, p i
  | [], _, i, h => by cases h
  | j :: l, h, i, hi => by
    rcases List.mem_cons.1 hi with rfl | hi
    · exact h.1
    · exact AllS.all h.2 i hi
section free
variable {P : Program} {r : Option Nat} {ops : Array Oper} {n : Nat} {L : Slots} {D : List Deferred} {H : Heap} {R : Facts}
end free
end Go.Proofs.YtelegnmfhjfbaaaGreat
namespace Go.Proofs.YtelegnmfhjfbaaaGreat
set_option linter.unusedSimpArgs false
set_option linter.unusedVariables false
open Go
theorem cal12 : cal Tryz.prog 12 = true := by kernel_rfl
theorem St.noRows {sz : Nat} {H : Heap} {R : Facts} {w : World} (hs : St H R w) : St H (RowsA none sz [] :: R) w :=
  hs.also (fun w' _ i row hi => by simp at hi)
end Go.Proofs.YtelegnmfhjfbaaaGreat
namespace Go.Proofs.YtelegnmfhjfbaaaGreat
set_option linter.unusedSimpArgs false
set_option linter.unusedVariables false
open Go
def longP (p : List (List Int)) : Bool := decide (24 < p.length) || p.any fun l => decide (8 < l.length)
end Go.Proofs.YtelegnmfhjfbaaaGreat
namespace Go.Proofs.YtelegnmfhjfbaaaGreat
set_option linter.unusedSimpArgs false
set_option linter.unusedVariables false
open Go
theorem cal69 : cal Tryz.prog 69 = true := by kernel_rfl
theorem srt_le {l : List Int} (h : srt l = true) {i : Nat} : ∀ {j : Nat}, i ≤ j → j < l.length → na l i ≤ na l j
  | 0, hij, hj => by obtain rfl : i = 0 := by omega
                     exact Int.le_refl _
  | j + 1, hij, hj => by
    rcases Nat.lt_or_ge j i with h1 | h1
    · obtain rfl : i = j + 1 := by omega
      exact Int.le_refl _
    · have ih := srt_le h (j := j) h1 (by omega)
      have : ¬ (na l (j + 1) < na l j) := fun hlt => by
        have := not_srt (na_get (by omega)) (na_get hj) hlt
        rw [h] at this; cases this
      omega
def Barn.binD (b : Barn) (k : Nat) : HBin := b.bins.getD k hb0
def hotc (b : Barn) (p : List (List Int)) (k : Nat) (c : Int) (d : Nat) : Prop := (b.binD k).mark < wst b.cool (na b.rise c.toNat) k (b.binD k).warm (p.take (d + 1))
structure Bst (S : Nat → Nat → Prop) (q : Nat × Nat × Bool) : Prop where
  no : q.2.2 = false → q.1 = 0 ∧ q.2.1 = 0 ∧ ∀ k d, ¬ S k d
  yes : q.2.2 = true → S q.2.1 q.1 ∧ ∀ k d, S k d → q.1 < d ∨ (q.1 = d ∧ q.2.1 ≤ k)
theorem Bst.iff {S S' : Nat → Nat → Prop} {q : Nat × Nat × Bool} (h : Bst S q) (e : ∀ k d, S' k d ↔ S k d) : Bst S' q := by
  have : S' = S := by funext k d; exact propext (e k d)
  exact this ▸ h
theorem Bst.add {S S' : Nat → Nat → Prop} {q : Nat × Nat × Bool} {k e : Nat} (h : Bst S q) (hS : ∀ j d, S' j d ↔ S j d ∨ (j = k ∧ d = e)) (hq : q.2.2 = false ∨ e < q.1) : Bst S' (e, k, true) where
  no h := by cases h
  yes _ := ⟨(hS _ _).2 (.inr ⟨rfl, rfl⟩), fun j d hj => by
    rcases (hS j d).1 hj with h1 | ⟨rfl, rfl⟩
    · cases hb : q.2.2 with
      | false => exact absurd h1 ((h.no hb).2.2 j d)
      | true =>
        have := (h.yes hb).2 j d h1
        rcases hq with hq | hq
        · rw [hb] at hq; cases hq
        · exact .inl (by show e < d; omega)
    · exact .inr ⟨rfl, Nat.le_refl _⟩⟩
theorem Bst.keep {S S' : Nat → Nat → Prop} {q : Nat × Nat × Bool} {k e : Nat} (h : Bst S q) (hle : ∀ j d, S j d → j ≤ k) (hS : ∀ j d, S' j d ↔ S j d ∨ (j = k ∧ d = e)) (hq : q.2.2 = true) (hq2 : ¬ e < q.1) : Bst S' q where
  no h := by rw [hq] at h; cases h
  yes _ := by
    obtain ⟨h1, h2⟩ := h.yes hq
    refine ⟨(hS _ _).2 (.inl h1), fun j d hj => ?_⟩
    rcases (hS j d).1 hj with h3 | ⟨rfl, rfl⟩
    · exact h2 j d h3
    · have := hle _ _ h1
      omega
def hotW (b : Barn) (ws : List Int) (p : List (List Int)) (k d : Nat) : Prop := (b.binD k).mark < wst b.cool (b.worst (b.binD k)) k (na ws k) (p.take (d + 1))
theorem Barn.burns_spec {b : Barn} : ∀ (p : List (List Int)) (ws : List Int) (d0 : Nat), ((b.burnsF ws p d0).1 = none ∧ ∀ k < b.bins.length, ∀ d < p.length, ¬ hotW b ws p k d) ∨
    ∃ k e : Nat, (b.burnsF ws p d0).1 = some (d0 + e, k) ∧ k < b.bins.length ∧ e < p.length ∧ hotW b ws p k e ∧ ∀ j < b.bins.length, ∀ d < p.length, hotW b ws p j d → e < d ∨ (e = d ∧ k ≤ j)
  | [], ws, d0 => .inl ⟨rfl, fun k _ d hd => absurd hd (Nat.not_lt_zero _)⟩
  | l :: p, ws, d0 => by
    have h0 : ∀ k, hotW b ws (l :: p) k 0 ↔ b.hotAt ws l k = true := fun k => by
      unfold hotW Barn.hotAt
      rw [decide_eq_true_eq]; exact Iff.rfl
    have h1 : ∀ k d, k < b.bins.length → (hotW b ws (l :: p) k (d + 1) ↔ hotW b (b.dayW ws l) p k d) := fun k d hk => by
      unfold hotW
      rw [na_at (b.dayW_at (ws := ws) (l := l) hk), List.take_succ_cons]
      exact Iff.rfl
    rw [b.burns_cons]
    cases hf : (List.range b.bins.length).find? (b.hotAt ws l) with
    | some k =>
      rw [List.find?_range_eq_some] at hf
      obtain ⟨f1, f2, f3⟩ := hf
      have f2 := List.mem_range.1 f2
      refine .inr ⟨k, 0, rfl, f2, by simp, (h0 k).2 f1, fun j hj d hd hh => ?_⟩
      cases d with
      | succ d => exact .inl (by omega)
      | zero =>
        refine .inr ⟨rfl, ?_⟩
        rcases Nat.lt_or_ge j k with h4 | h4
        · have := f3 j h4
          rw [(h0 j).1 hh] at this; cases this
        · exact h4
    | none =>
      dsimp only
      have hn : ∀ k < b.bins.length, ¬ hotW b ws (l :: p) k 0 := fun k hk hh => by
        have := List.find?_eq_none.1 hf k (List.mem_range.2 hk)
        exact this ((h0 k).1 hh)
      rcases burns_spec p (b.dayW ws l) (d0 + 1) with ⟨i1, i2⟩ | ⟨k, e, i1, i2, i3, i4, i5⟩
      · refine .inl ⟨i1, fun k hk d hd hh => ?_⟩
        cases d with
        | zero => exact hn k hk hh
        | succ d => exact i2 k hk d (by simpa using hd) ((h1 k d hk).1 hh)
      · refine .inr ⟨k, e + 1, by rw [i1]; congr 2; omega, i2, by simpa using i3, (h1 k e i2).2 i4, fun j hj d hd hh => ?_⟩
        cases d with
        | zero => exact absurd hh (hn j hj)
        | succ d =>
          have := i5 j hj d (by simpa using hd) ((h1 j d hj).1 hh)
          omega
def brnQ (b : Barn) (p : List (List Int)) : Nat × Nat × Bool := match (b.burnsF b.warms p 0).1 with
  | none => (0, 0, false)
  | some (d, k) => (d, k, true)
def SA (b : Barn) (p : List (List Int)) (k : Nat) : Nat → Nat → Prop := fun j d => j < k ∧ d < p.length ∧ ∃ c, (b.binD j).lo ≤ c ∧ c ≤ (b.binD j).hi ∧ hotc b p j c d
def SB (b : Barn) (p : List (List Int)) (k : Nat) (c : Int) : Nat → Nat → Prop := fun j d => SA b p k j d ∨ (j = k ∧ d < p.length ∧ ∃ c', (b.binD k).lo ≤ c' ∧ c' < c ∧ hotc b p k c' d)
def SC (b : Barn) (p : List (List Int)) (k : Nat) (c : Int) (e : Nat) : Nat → Nat → Prop := fun j d => SB b p k c j d ∨ (j = k ∧ d < e ∧ hotc b p k c d)
theorem SA.start {b : Barn} {p : List (List Int)} : Bst (SA b p 0) (0, 0, false) := ⟨fun _ => ⟨rfl, rfl, fun k d h => by have := h.1; omega⟩, fun h => by cases h⟩
theorem SB.start {b : Barn} {p : List (List Int)} {k : Nat} {c : Int} (hc : c = (b.binD k).lo) {q : Nat × Nat × Bool} (h : Bst (SA b p k) q) : Bst (SB b p k c) q := h.iff fun j d => by
  constructor
  · rintro (h1 | ⟨_, _, c', h1, h2, _⟩)
    · exact h1
    · omega
  · exact .inl
theorem SC.start {b : Barn} {p : List (List Int)} {k : Nat} {c : Int} {q : Nat × Nat × Bool} (h : Bst (SB b p k c) q) : Bst (SC b p k c 0) q := h.iff fun j d => by
  constructor
  · rintro (h1 | ⟨_, h1, _⟩)
    · exact h1
    · omega
  · exact .inl
theorem SC.le {b : Barn} {p : List (List Int)} {k : Nat} {c : Int} {e j d : Nat} (h : SC b p k c e j d) : j ≤ k := by
  rcases h with (h | h) | h
  · exact Nat.le_of_lt h.1
  · exact Nat.le_of_eq h.1
  · exact Nat.le_of_eq h.1
theorem SC.cold {b : Barn} {p : List (List Int)} {k : Nat} {c : Int} {e : Nat} {q : Nat × Nat × Bool} (h : Bst (SC b p k c e) q) (hn : ¬ hotc b p k c e) : Bst (SC b p k c (e + 1)) q := h.iff fun j d => by
  constructor
  · rintro (h1 | ⟨h1, h2, h3⟩)
    · exact .inl h1
    · refine .inr ⟨h1, ?_, h3⟩
      rcases Nat.lt_or_ge d e with h4 | h4
      · exact h4
      · obtain rfl : d = e := by omega
        exact absurd h3 hn
  · rintro (h1 | ⟨h1, h2, h3⟩)
    · exact .inl h1
    · exact .inr ⟨h1, by omega, h3⟩
theorem SC.done {b : Barn} {p : List (List Int)} {k : Nat} {c : Int} (hc : (b.binD k).lo ≤ c) {q : Nat × Nat × Bool} (h : Bst (SC b p k c p.length) q) : Bst (SB b p k (c + 1)) q := h.iff fun j d => by
  constructor
  · rintro (h1 | ⟨h1, h2, c', h3, h4, h5⟩)
    · exact .inl (.inl h1)
    · rcases Int.lt_or_le c' c with h6 | h6
      · exact .inl (.inr ⟨h1, h2, c', h3, h6, h5⟩)
      · obtain rfl : c' = c := by omega
        exact .inr ⟨h1, h2, h5⟩
  · rintro ((h1 | ⟨h1, h2, c', h3, h4, h5⟩) | ⟨h1, h2, h3⟩)
    · exact .inl h1
    · exact .inr ⟨h1, h2, c', h3, by omega, h5⟩
    · exact .inr ⟨h1, h2, c, hc, by omega, h3⟩
theorem SB.done {b : Barn} {p : List (List Int)} {k : Nat} {c : Int} (hc : c = (b.binD k).hi + 1) {q : Nat × Nat × Bool} (h : Bst (SB b p k c) q) : Bst (SA b p (k + 1)) q := h.iff fun j d => by
  constructor
  · rintro ⟨h1, h2, c', h3, h4, h5⟩
    rcases Nat.lt_or_ge j k with h6 | h6
    · exact .inl ⟨h6, h2, c', h3, h4, h5⟩
    · obtain rfl : j = k := by omega
      exact .inr ⟨rfl, h2, c', h3, by omega, h5⟩
  · rintro (⟨h1, h2, h3⟩ | ⟨rfl, h2, c', h3, h4, h5⟩)
    · exact ⟨by omega, h2, h3⟩
    · exact ⟨by omega, h2, c', h3, by omega, h5⟩
theorem Bst.bd {b : Barn} {p : List (List Int)} {k : Nat} {c : Int} {e : Nat} {q : Nat × Nat × Bool} (h : Bst (SC b p k c e) q) (he : e ≤ p.length) : q.1 ≤ p.length ∧ q.2.1 ≤ k := by
  cases hb : q.2.2 with
  | false => obtain ⟨h1, h2, _⟩ := h.no hb; omega
  | true =>
    have h1 := (h.yes hb).1
    refine ⟨?_, SC.le h1⟩
    rcases h1 with (h1 | h1) | h1
    · exact Nat.le_of_lt h1.2.1
    · exact Nat.le_of_lt h1.2.1
    · omega
theorem St.blkRows {rows : List (List Value)} {sz bk e : Nat} {junk : List Value} {H : Heap} {R : Facts} {w : World} (hz : ∀ r ∈ rows, r.length = sz) (hs : St ((bk, cel e (rows.flatten ++ junk)) :: H) R w) :
    St H (RowsA (some ⟨bk, 0, none⟩) sz rows :: R) w := by
  have h1 := (St.freeze hs).also (f := RowsA (some ⟨bk, 0, none⟩) sz rows) (fun w' hw => by
    have hb := hw (fun w => w.heap[bk]? = some (cel e (rows.flatten ++ junk))) (by simp)
    exact rows_block hb hz)
  exact h1.facts (fun g hg => by rcases List.mem_cons.1 hg with h3 | h3 <;> simp [h3])
theorem plr_one (l : List PL) : ∀ r ∈ plrows l, r.length = 1 := fun r hr => by obtain ⟨x, _, rfl⟩ := List.mem_map.1 hr; rfl
theorem plrows_app (A B : List PL) : plrows (A ++ B) = plrows A ++ plrows B := by simp [plrows]
theorem plr_flat (l : List PL) : (plrows l).flatten.length = l.length := by rw [flat_len (plr_one l), plrows_len]; omega
def pgap (ql : List PL) (n : Nat) : List Value := (plrows ql).flatten ++ (List.replicate n [Value.slice none 0 0]).flatten
theorem pgap_len (ql : List PL) (n : Nat) : (pgap ql n).length = ql.length + n := by
  unfold pgap
  rw [List.length_append, plr_flat, flat_len (sz := 1) (fun q hq => by rw [(List.mem_replicate.1 hq).2]; rfl), List.length_replicate]; omega
theorem pgap_put (ql : List PL) (n : Nat) (x : PL) {i : Nat} (e : i = ql.length) : spl (pgap ql (n + 1)) i [.slice x.a x.l.length x.c] = pgap (ql ++ [x]) n := by
  subst e
  unfold pgap
  rw [List.replicate_succ, List.flatten_cons, plrows_app, List.flatten_append, List.append_assoc]
  have := spl_at (p := (plrows ql).flatten) (q := [Value.slice none 0 0]) (s := (List.replicate n [Value.slice none 0 0]).flatten) (vs := [.slice x.a x.l.length x.c]) rfl
  rw [plr_flat] at this
  exact this
theorem St.innSnoc {a : Option Addr} {c : Nat} {l0 : List Int} {l : List PL} {H : Heap} {R : Facts} {w : World} [m1 : MemF (Inn l) R] [m2 : MemRows a 1 (irows l0) R] (h : St H R w) : St H (Inn (l ++ [⟨a, c, l0⟩]) :: R) w :=
  h.also fun w' hw x hx => by
    rcases List.mem_append.1 hx with hx | hx
    · exact hw _ m1.mem x hx
    · obtain rfl : x = ⟨a, c, l0⟩ := by simpa using hx
      exact hw _ m2.mem
theorem c_dup_int (xs : List Int) (a : Option Addr) (c : Nat) (hl : xs.length ≤ 1000000) (H : Heap) (R : Facts) [hR : MemRows a 1 (irows xs) R] :
    Fn Tryz.prog 69 [.slice a xs.length c] H R (fun v H' R' => ∃ o : OSl 3 1 (irows xs), v = o.fs ∧ o.here ∧ H' = o.G ++ H ∧ R' = R) := by
 refine fn_of Tryz.func69 rfl Tryz.ntmps69 rfl ?_
 refine sy_seq ?_
 refine sy_tx' [0] rfl ?_
 refine sp rfl (PE.assign rfl) rfl ?_
 refine sy_seq ?_
 refine sy_tx' [0, 1, 2, 3, 4, 5] rfl ?_
 refine sp rfl (PE.move rfl) rfl ?_
 refine sp rfl (PE.lenSl isl22 rfl) rfl ?_
 refine mkO rfl ap22 zl3 rfl rfl ⟨by omega, by omega⟩ rfl (fun o ho => ?_)
 refine sp rfl (PE.move rfl) rfl ?_
 refine apOh (news := irows xs) o rfl ap22 rfl rfl (rowsF) (by simp [irows]) (by simp [onecells, irows, Value.oneCell']) ⟨by simp [irows]; omega, by simp [irows]; omega⟩ rfl ho (fun o2 ho2 => ?_)
 refine sp rfl (PE.assign rfl) rfl ?_
 refine sy_ret ?_
 exact sy_return (vs := [_]) rfl (.cons (RV.tmp rfl) .nil) rfl ⟨o2.cast (by simp), rfl, ho2, rfl, rfl⟩ (fun _ h => h)
end Go.Proofs.YtelegnmfhjfbaaaGreat
namespace Go.Proofs.YtelegnmfhjfbaaaGreat
set_option linter.unusedSimpArgs false
set_option linter.unusedVariables false
open Go
theorem cal20 : cal Tryz.prog 20 = true := by kernel_rfl
theorem ub4 : Tryz.prog.underlying 4 = some .bool := by kernel_rfl
theorem brn_none {b : Barn} {p : List (List Int)} (h : (b.burnsF b.warms p 0).1 = none) : brnQ b p = (0, 0, false) := by unfold brnQ; rw [h]
theorem brn_some {b : Barn} {p : List (List Int)} {q : Nat × Nat} (h : (b.burnsF b.warms p 0).1 = some q) : brnQ b p = (q.1, q.2, true) := by unfold brnQ; rw [h]
theorem brn_cases (b : Barn) (p : List (List Int)) : (∃ ws, b.burnsF b.warms p 0 = (none, ws) ∧ brnQ b p = (0, 0, false)) ∨ ∃ d k ws, b.burnsF b.warms p 0 = (some (d, k), ws) ∧ brnQ b p = (d, k, true) := by
  cases h : b.burnsF b.warms p 0 with
  | mk o ws => cases o with
    | none => exact .inl ⟨ws, rfl, brn_none (by rw [h])⟩
    | some q => exact .inr ⟨q.1, q.2, ws, rfl, brn_some (by rw [h])⟩
end Go.Proofs.YtelegnmfhjfbaaaGreat
namespace Go.Proofs.YtelegnmfhjfbaaaGreat
set_option linter.unusedSimpArgs false
set_option linter.unusedVariables false
theorem Dsk.next_mono {d : Dsk} (hd : d.ok) {s s' : HSt} (h : d.inS s) (h' : d.inS s') (hle : ∀ k < d.n, na s k ≤ na s' k) {l l' : List Nat} (hl : ∀ k ∈ l, k < d.n) (hl' : ∀ k ∈ l', k < d.n)
    (hsub : ∀ k ∈ l, k ∈ l') {t : HSt} (e : d.next s l = some t) : ∃ t', d.next s' l' = some t' ∧ ∀ k < d.n, na t k ≤ na t' k := by
  obtain ⟨_, h2⟩ := d.next_at hd.n.2 h.len hl e
  have hm : ∀ k < d.n, d.mid s l k ≤ d.mid s' l' k := fun k hk => by
    have := hle k hk
    unfold Dsk.mid
    by_cases h3 : k ∈ l
    · rw [if_pos h3, if_pos (hsub k h3)]; omega
    · rw [if_neg h3]; split <;> omega
  obtain ⟨t', ht'⟩ := d.next_some hd.n.2 h'.len hl' (fun k hk => by have := hm k hk; have := (h2 k).1 hk; have := d.inS_mid hd h l hk; have := d.inS_mid hd h' l' hk; have := (hd.ever k hk).2.1; omega)
  refine ⟨t', ht', fun k hk => ?_⟩
  obtain ⟨_, h3⟩ := d.next_at hd.n.2 h'.len hl' ht'
  have a1 := (h2 k).2; have a2 := (h3 k).2
  have := hm k hk
  have b1 := d.inS_mid hd h l hk; have b2 := d.inS_mid hd h' l' hk
  have := (hd.ever k hk).2.1
  rw [a1, a2]
  split <;> split <;> omega
theorem full_dec : ((List.range 5).all fun n => (List.range (2 ^ n)).all fun u => (List.range (n + 1)).all fun g => !decide ((bitl n u).length ≤ g) || (List.range (2 ^ n)).any fun v => decide ((bitl n v).length = g) && (bitl n u).all fun k => (bitl n v).contains k) = true := by decide +kernel
theorem full_ext {n u g : Nat} (hn : n ≤ 4) (hu : u < 2 ^ n) (hg : g ≤ n) (h : (bitl n u).length ≤ g) : ∃ v, v < 2 ^ n ∧ (bitl n v).length = g ∧ ∀ k ∈ bitl n u, k ∈ bitl n v := by
  have h0 := full_dec
  rw [List.all_eq_true] at h0
  have h1 := h0 n (List.mem_range.2 (by omega))
  rw [List.all_eq_true] at h1
  have h2 := h1 u (List.mem_range.2 hu)
  rw [List.all_eq_true] at h2
  have h3 := h2 g (List.mem_range.2 (by omega))
  rw [decide_eq_true h, Bool.not_true, Bool.false_or, List.any_eq_true] at h3
  obtain ⟨v, hv, h4⟩ := h3
  rw [Bool.and_eq_true, decide_eq_true_eq, List.all_eq_true] at h4
  exact ⟨v, List.mem_range.1 hv, h4.1, fun k hk => by simpa using h4.2 k hk⟩
theorem Dsk.mem_trs {d : Dsk} {full : Bool} {l : List Nat} : l ∈ d.trs full ↔ ∃ u, u < 2 ^ d.n ∧ l = bitl d.n u ∧ (l.length : Int) ≤ d.g ∧ (full = true → d.g ≤ (l.length : Int)) := by
  unfold Dsk.trs
  rw [List.mem_filter, List.mem_map]
  have hm : d.may full l = true ↔ (l.length : Int) ≤ d.g ∧ (full = true → d.g ≤ (l.length : Int)) := by
    unfold Dsk.may
    cases full <;> simp <;> omega
  constructor
  · rintro ⟨⟨u, hu, rfl⟩, h⟩; exact ⟨u, List.mem_range.1 hu, rfl, hm.1 h⟩
  · rintro ⟨u, hu, rfl, h⟩; exact ⟨⟨u, List.mem_range.2 hu, rfl⟩, hm.2 h⟩
theorem Dsk.full_of {d : Dsk} (hd : d.ok) {l : List Nat} (h : l ∈ d.trs false) : ∃ l' ∈ d.trs true, ∀ k ∈ l, k ∈ l' := by
  obtain ⟨u, hu, rfl, h1, _⟩ := d.mem_trs.1 h
  have hn := hd.n; have hg := hd.gangs
  have e : (d.g.toNat : Int) = d.g := by unfold Dsk.g at *; omega
  obtain ⟨v, hv, h2, h3⟩ := full_ext (g := d.g.toNat) hn.2 hu (by unfold Dsk.g at *; omega) (by omega)
  exact ⟨_, d.mem_trs.2 ⟨v, hv, rfl, by omega, fun _ => by omega⟩, h3⟩
def Dsk.pth (d : Dsk) : Nat → HSt → HSt → Nat → Prop
  | 0, s, t, c => t = s ∧ c = 0
  | n + 1, s, t, c => ∃ u a l, d.pth n s u a ∧ l ∈ d.trs false ∧ d.next u l = some t ∧ c = a + l.length
theorem Dsk.pth_cons {d : Dsk} {s u : HSt} {l : List Nat} (hl : l ∈ d.trs false) (e : d.next s l = some u) : ∀ {n : Nat} {t : HSt} {c : Nat}, d.pth n u t c → d.pth (n + 1) s t (l.length + c)
  | 0, t, c, h => by obtain ⟨rfl, rfl⟩ := h; exact ⟨s, 0, l, ⟨rfl, rfl⟩, hl, e, by omega⟩
  | n + 1, t, c, h => by
    obtain ⟨v, a, l', h1, h2, h3, rfl⟩ := h
    exact ⟨v, l.length + a, l', pth_cons hl e h1, h2, h3, by omega⟩
theorem Dsk.pth_uncons {d : Dsk} {s : HSt} : ∀ {n : Nat} {t : HSt} {c : Nat}, d.pth (n + 1) s t c → ∃ l u a, l ∈ d.trs false ∧ d.next s l = some u ∧ d.pth n u t a ∧ c = l.length + a
  | 0, t, c, h => by
    obtain ⟨v, a, l, ⟨rfl, rfl⟩, h2, h3, rfl⟩ := h
    exact ⟨l, t, 0, h2, h3, ⟨rfl, rfl⟩, by omega⟩
  | n + 1, t, c, h => by
    obtain ⟨v, a, l, h1, h2, h3, rfl⟩ := h
    obtain ⟨l', u, a', i1, i2, i3, rfl⟩ := pth_uncons h1
    exact ⟨l', u, a' + l.length, i1, i2, ⟨v, a', l, i3, h2, h3, rfl⟩, by omega⟩
theorem Dsk.trs_sub {d : Dsk} {l : List Nat} (h : l ∈ d.trs true) : l ∈ d.trs false := by
  obtain ⟨u, hu, rfl, h1, _⟩ := d.mem_trs.1 h
  exact d.mem_trs.2 ⟨u, hu, rfl, h1, fun h => by cases h⟩
theorem Dsk.pth_inS {d : Dsk} (hd : d.ok) {s : HSt} (hs : d.inS s) : ∀ {n : Nat} {t : HSt} {c : Nat}, d.pth n s t c → d.inS t
  | 0, t, c, h => by obtain ⟨rfl, rfl⟩ := h; exact hs
  | n + 1, t, c, h => by
    obtain ⟨v, a, l, h1, h2, h3, rfl⟩ := h
    exact d.next_inS hd (pth_inS hd hs h1) (d.trs_lt h2) h3
theorem Dsk.pth_alive {d : Dsk} (hd : d.ok) : ∀ {n : Nat} {s s' t : HSt} {c : Nat}, d.inS s → d.inS s' → (∀ k < d.n, na s k ≤ na s' k) → d.pth n s t c → s' ∈ d.alive n
  | 0, s, s', t, c, _, h', _, _ => (d.mem_sts hd s').2 h'
  | n + 1, s, s', t, c, h, h', hle, hp => by
    obtain ⟨v, a, _, h1, _⟩ := id hp
    obtain ⟨l, u, a', i1, i2, i3, _⟩ := d.pth_uncons hp
    obtain ⟨l', j1, j2⟩ := d.full_of hd i1
    obtain ⟨u', k1, k2⟩ := d.next_mono hd h h' hle (d.trs_lt i1) (d.trs_lt j1) j2 i2
    exact d.alive_succ.2 ⟨pth_alive hd h h' hle h1, d.helped_iff.2 ⟨l', j1, u', k1, pth_alive hd (d.next_inS hd h (d.trs_lt i1) i2) (d.next_inS hd h' (d.trs_lt j1) k1) k2 i3⟩⟩
theorem Dsk.alive_pth {d : Dsk} : ∀ {n : Nat} {s : HSt}, s ∈ d.alive n → ∃ t c, d.pth n s t c
  | 0, s, _ => ⟨s, 0, rfl, rfl⟩
  | n + 1, s, h => by
    obtain ⟨l, hl, t, ht, hta⟩ := d.helped_iff.1 (d.alive_succ.1 h).2
    obtain ⟨t', c, hp⟩ := alive_pth hta
    exact ⟨t', _, d.pth_cons (d.trs_sub hl) ht hp⟩
theorem Dsk.alive_iff {d : Dsk} (hd : d.ok) {n : Nat} {s : HSt} (hs : d.inS s) : s ∈ d.alive n ↔ ∃ t c, d.pth n s t c :=
  ⟨d.alive_pth, fun ⟨_, _, h⟩ => d.pth_alive hd hs hs (fun _ _ => Int.le_refl _) h⟩
theorem Dsk.alive_stop (d : Dsk) : ∃ n, n ≤ d.nst ∧ d.alive (n + 1) = d.alive n := by
  by_cases h : ∃ n, n ≤ d.nst ∧ d.alive (n + 1) = d.alive n
  · exact h
  · have h1 : ∀ m, m ≤ d.nst + 1 → (d.alive m).length + m ≤ d.nst := by
      intro m
      induction m with
      | zero => intro _; show d.sts.length + 0 ≤ _; rw [d.sts_len]; omega
      | succ m ih =>
        intro hm
        have := ih (by omega)
        have h2 : ((d.alive m).filter fun s => !d.helped (d.alive m) s).length ≠ 0 := fun e => h ⟨m, by omega, d.alive_same e⟩
        have := d.alive_less h2
        omega
    have := h1 (d.nst + 1) (Nat.le_refl _)
    omega
theorem Dsk.alive_ever {d : Dsk} {s : HSt} {m : Nat} (hm : d.nst ≤ m) (h : s ∈ d.alive m) : ∀ k, s ∈ d.alive k := fun k => by
  obtain ⟨n, hn, e⟩ := d.alive_stop
  rcases Nat.lt_or_ge k n with h1 | h1
  · exact d.alive_le (by omega) h
  · obtain ⟨j, rfl⟩ : ∃ j, k = n + j := ⟨k - n, by omega⟩
    rw [d.alive_fix e]; exact d.alive_le (by omega) h
theorem kpt_ref {d : Dsk} (hd : d.ok) {s : HSt} (hs : d.inS s) {j : Nat} (hj : j ≤ d.nst) (h1 : ∃ t c, d.pth j s t c) (h2 : ¬ ∃ t c, d.pth (j + 1) s t c) : Kpt d s j :=
  .inr ⟨j, Nat.le_trans hj (d.nst_le hd).2, rfl, (d.alive_iff hd hs).2 h1, fun h => h2 ((d.alive_iff hd hs).1 h)⟩
theorem kpt_ref_ever {d : Dsk} (hd : d.ok) {s : HSt} (hs : d.inS s) {m : Nat} (hm : d.nst ≤ m) (h1 : ∃ t c, d.pth m s t c) : Kpt d s 1000000 :=
  .inl ⟨rfl, d.alive_ever hm ((d.alive_iff hd hs).2 h1)⟩
def rmid (la s : List Int) (u k : Nat) : Int := bif u.testBit k then max (na s k) (na la k) else na s k
def rnum (v : Int) : Int := bif decide (v = 1000000) then v else v - 1
def rNx (la s : List Int) (u : Nat) : Nat → Option (List Int)
  | 0 => some []
  | k + 1 => match rNx la s u k with
    | none => none
    | some t => bif decide (rnum (rmid la s u k) < 0) then none else some (t ++ [rnum (rmid la s u k)])
theorem rNx_len {la s : List Int} {u : Nat} : ∀ {k : Nat} {t : List Int}, rNx la s u k = some t → t.length = k
  | 0, t, h => by cases h; rfl
  | k + 1, t, h => by
    unfold rNx at h
    split at h
    · cases h
    · rename_i v hv
      cases h1 : decide (rnum (rmid la s u k) < 0) with
      | true => rw [h1] at h; cases h
      | false => rw [h1] at h; cases h; simp [rNx_len hv]
theorem na_snoc {l : List Int} {v : Int} {k : Nat} : na (l ++ [v]) k = if k < l.length then na l k else if k = l.length then v else 0 := by
  unfold na
  rw [List.getD_eq_getElem?_getD, List.getD_eq_getElem?_getD]
  by_cases h : k < l.length
  · rw [if_pos h, List.getElem?_append_left h]
  · rw [if_neg h, List.getElem?_append_right (by omega)]
    by_cases h1 : k = l.length
    · rw [if_pos h1, h1]; simp
    · rw [if_neg h1, List.getElem?_eq_none (by simp; omega)]; rfl
theorem rNx_iff {la s : List Int} {u : Nat} : ∀ {n : Nat} {t : List Int}, rNx la s u n = some t ↔ t.length = n ∧ ∀ k < n, 0 ≤ rnum (rmid la s u k) ∧ na t k = rnum (rmid la s u k)
  | 0, t => by
    constructor
    · intro h; cases h; exact ⟨rfl, fun k hk => absurd hk (Nat.not_lt_zero _)⟩
    · rintro ⟨h, _⟩; rw [List.length_eq_zero_iff.1 h]; rfl
  | n + 1, t => by
    constructor
    · intro h
      refine ⟨rNx_len h, ?_⟩
      unfold rNx at h
      split at h
      · cases h
      · rename_i v hv
        obtain ⟨h1, h2⟩ := rNx_iff.1 hv
        by_cases h3 : rnum (rmid la s u n) < 0
        · rw [decide_eq_true h3] at h; cases h
        · rw [decide_eq_false h3, cond_false] at h; cases h
          intro k hk
          rw [na_snoc, h1]
          by_cases h4 : k < n
          · rw [if_pos h4]; exact h2 k h4
          · obtain rfl : k = n := by omega
            rw [if_neg h4, if_pos rfl]; exact ⟨by omega, rfl⟩
    · rintro ⟨h1, h2⟩
      have e : t = t.take n ++ [na t n] := by
        have := List.take_append_drop n t
        rw [List.drop_eq_getElem_cons (by omega), List.drop_eq_nil_of_le (by omega)] at this
        have h3 : na t n = t[n] := by unfold na; rw [List.getD_eq_getElem?_getD, List.getElem?_eq_getElem (by omega)]; rfl
        rw [h3]; exact this.symm
      have hv : rNx la s u n = some (t.take n) := rNx_iff.2 ⟨by rw [List.length_take]; omega, fun k hk => by
        have := h2 k (by omega)
        have e2 : na (t.take n) k = na t k := by unfold na; rw [List.getD_eq_getElem?_getD, List.getD_eq_getElem?_getD, List.getElem?_take, if_pos hk]
        rw [e2]; exact this⟩
      have h4 := h2 n (by omega)
      unfold rNx
      rw [hv]
      simp only
      rw [decide_eq_false (by omega), cond_false, ← h4.2, ← e]
theorem pad_na {l : List Int} {k : Nat} : na (pad l) k = na l k := by
  unfold na pad
  rw [List.getD_eq_getElem?_getD, List.getD_eq_getElem?_getD]
  rcases Nat.lt_or_ge k l.length with h | h
  · rw [List.getElem?_append_left h]
  · rw [List.getElem?_append_right h, List.getElem?_eq_none h, List.getElem?_replicate]
    split <;> rfl
theorem pad_inj {s t : List Int} (hs : s.length = t.length) (h : pad s = pad t) : s = t := by
  refine List.ext_getElem? fun k => ?_
  rcases Nat.lt_or_ge k s.length with h1 | h1
  · have : na (pad s) k = na (pad t) k := by rw [h]
    rw [pad_na, pad_na] at this
    unfold na at this
    rw [List.getD_eq_getElem?_getD, List.getD_eq_getElem?_getD, List.getElem?_eq_getElem h1, List.getElem?_eq_getElem (by omega)] at this
    rw [List.getElem?_eq_getElem h1, List.getElem?_eq_getElem (by omega)]
    simpa using this
  · rw [List.getElem?_eq_none h1, List.getElem?_eq_none (by omega)]
theorem mem_bitl {n u k : Nat} : k ∈ bitl n u ↔ k < n ∧ u.testBit k = true := by
  unfold bitl; rw [List.mem_filter, List.mem_range]
theorem rmid_eq {d : Dsk} {la s : List Int} (hla : ∀ k < d.n, na la k = na d.lasts k) (u : Nat) {k : Nat} (hk : k < d.n) : rmid la s u k = d.mid (pad s) (bitl d.n u) k := by
  unfold rmid Dsk.mid
  rw [pad_na, hla k hk]
  cases h : u.testBit k with
  | true => rw [if_pos (mem_bitl.2 ⟨hk, h⟩)]; rfl
  | false => rw [if_neg (fun h1 => by have := (mem_bitl.1 h1).2; rw [h] at this; cases this)]; rfl
theorem rNx_next {d : Dsk} (hn : d.n ≤ 4) {la s t : List Int} (hla : ∀ k < d.n, na la k = na d.lasts k) (hs : s.length = d.n) (ht : t.length = d.n) (u : Nat) : rNx la s u d.n = some t ↔ d.next (pad s) (bitl d.n u) = some (pad t) := by
  have hl : ∀ k ∈ bitl d.n u, k < d.n := fun k hk => bitl_lt hk
  have hps : (pad s).length = 4 := pad_len' (by omega)
  rw [rNx_iff]
  constructor
  · rintro ⟨_, h⟩
    obtain ⟨t', ht'⟩ := d.next_some hn hps hl (fun k hk => by
      have := (h k hk).1
      rw [rmid_eq hla u hk] at this
      unfold rnum at this
      by_cases h1 : d.mid (pad s) (bitl d.n u) k = 1000000
      · exact .inl h1
      · rw [decide_eq_false h1, cond_false] at this; exact .inr (by omega))
    rw [ht']
    congr 1
    obtain ⟨h2, h3⟩ := d.next_at hn hps hl ht'
    refine ext4 h2 (pad_len' (by omega)) fun k hk => ?_
    rw [(h3 k).2, pad_na]
    by_cases hkn : k < d.n
    · rw [(h k hkn).2, rmid_eq hla u hkn]
      unfold rnum
      by_cases h1 : d.mid (pad s) (bitl d.n u) k = 1000000
      · rw [if_neg (by omega), decide_eq_true h1]; rfl
      · rw [if_pos ⟨hkn, h1⟩, decide_eq_false h1]; rfl
    · rw [if_neg (by omega)]
      unfold Dsk.mid
      rw [if_neg (fun h1 => hkn (hl k h1)), pad_na]
      unfold na
      rw [List.getD_eq_getElem?_getD, List.getD_eq_getElem?_getD, List.getElem?_eq_none (by omega), List.getElem?_eq_none (by omega)]
  · intro h
    obtain ⟨h2, h3⟩ := d.next_at hn hps hl h
    refine ⟨ht, fun k hk => ?_⟩
    obtain ⟨h4, h5⟩ := h3 k
    have h4 := h4 hk
    rw [pad_na] at h5
    rw [rmid_eq hla u hk, h5]
    unfold rnum
    by_cases h1 : d.mid (pad s) (bitl d.n u) k = 1000000
    · rw [if_neg (by omega), decide_eq_true h1, cond_true]; exact ⟨by omega, rfl⟩
    · rw [if_pos ⟨hk, h1⟩, decide_eq_false h1, cond_false]; exact ⟨by omega, rfl⟩
theorem ones_dec : ((List.range 5).all fun n => (List.range (2 ^ n)).all fun u => decide ((bitl n u).length = (bitl 4 u).length)) = true := by decide +kernel
theorem ones_eq {n u : Nat} (hn : n ≤ 4) (hu : u < 2 ^ n) : (bitl 4 u).length = (bitl n u).length := by
  have h0 := ones_dec
  rw [List.all_eq_true] at h0
  have h1 := h0 n (List.mem_range.2 (by omega))
  rw [List.all_eq_true] at h1
  exact (of_decide_eq_true (h1 u (List.mem_range.2 hu))).symm
theorem ones_le (u : Nat) : (bitl 4 u).length ≤ 4 := bitl_len 4 u
def rS (n : Nat) (g : Int) (la s : List Int) (u : Nat) : Option (List Int) := bif decide (((bitl 4 u).length : Int) ≤ g) then rNx la s u n else none
theorem rS_len {n : Nat} {g : Int} {la s t : List Int} {u : Nat} (h : rS n g la s u = some t) : t.length = n := by
  unfold rS at h
  cases h1 : decide (((bitl 4 u).length : Int) ≤ g) with
  | true => rw [h1] at h; exact rNx_len h
  | false => rw [h1] at h; cases h
def Sx (n : Nat) (g : Int) (la : List Int) (now : List (List Int)) (i u : Nat) (t : List Int) : Prop := ∃ j s v, now[j]? = some s ∧ (j < i ∨ (j = i ∧ v < u)) ∧ v < 2 ^ n ∧ rS n g la s v = some t
theorem Sx.step {n : Nat} {g : Int} {la s t : List Int} {now : List (List Int)} {i u : Nat} (hs : now[i]? = some s) (hu : u < 2 ^ n) : Sx n g la now i (u + 1) t ↔ Sx n g la now i u t ∨ rS n g la s u = some t := by
  constructor
  · rintro ⟨j, s', v, h1, h2, h3, h4⟩
    rcases h2 with h2 | ⟨rfl, h2⟩
    · exact .inl ⟨j, s', v, h1, .inl h2, h3, h4⟩
    · rcases Nat.lt_or_ge v u with h5 | h5
      · exact .inl ⟨j, s', v, h1, .inr ⟨rfl, h5⟩, h3, h4⟩
      · obtain rfl : v = u := by omega
        rw [hs] at h1; cases h1; exact .inr h4
  · rintro (⟨j, s', v, h1, h2, h3, h4⟩ | h)
    · exact ⟨j, s', v, h1, by omega, h3, h4⟩
    · exact ⟨i, s, u, hs, by omega, hu, h⟩
theorem Sx.next {n : Nat} {g : Int} {la t : List Int} {now : List (List Int)} {i : Nat} : Sx n g la now (i + 1) 0 t ↔ Sx n g la now i (2 ^ n) t := by
  constructor
  · rintro ⟨j, s', v, h1, h2, h3, h4⟩
    exact ⟨j, s', v, h1, by omega, h3, h4⟩
  · rintro ⟨j, s', v, h1, h2, h3, h4⟩
    exact ⟨j, s', v, h1, by omega, h3, h4⟩
structure Bf (n : Nat) (g : Int) (la : List Int) (now : List (List Int)) (i u : Nat) (L : List (List Int)) : Prop where
  len : ∀ t ∈ L, t.length = n
  nd : L.Nodup
  mem : ∀ t, t ∈ L ↔ Sx n g la now i u t
theorem Bf.start {n : Nat} {g : Int} {la : List Int} {now : List (List Int)} : Bf n g la now 0 0 [] := ⟨by simp, List.nodup_nil, fun t => by
  constructor
  · intro h; cases h
  · rintro ⟨j, s, v, _, h, _⟩; omega⟩
theorem Bf.next {n : Nat} {g : Int} {la : List Int} {now : List (List Int)} {i : Nat} {L : List (List Int)} (h : Bf n g la now i (2 ^ n) L) : Bf n g la now (i + 1) 0 L := ⟨h.len, h.nd, fun t => (h.mem t).trans Sx.next.symm⟩
theorem Bf.skip {n : Nat} {g : Int} {la s : List Int} {now : List (List Int)} {i u : Nat} {L : List (List Int)} (h : Bf n g la now i u L) (hs : now[i]? = some s) (hu : u < 2 ^ n) (hn : ∀ t, rS n g la s u = some t → t ∈ L) : Bf n g la now i (u + 1) L := ⟨h.len, h.nd, fun t => by
  rw [Sx.step hs hu, ← h.mem]
  exact ⟨.inl, fun h1 => h1.elim id (hn t)⟩⟩
theorem Bf.add {n : Nat} {g : Int} {la s t : List Int} {now : List (List Int)} {i u : Nat} {L : List (List Int)} (h : Bf n g la now i u L) (hs : now[i]? = some s) (hu : u < 2 ^ n) (ht : rS n g la s u = some t) (hn : t ∉ L) : Bf n g la now i (u + 1) (L ++ [t]) where
  len x hx := by
    rcases List.mem_append.1 hx with hx | hx
    · exact h.len x hx
    · rw [List.mem_singleton.1 hx]; exact rS_len ht
  nd := List.nodup_append.2 ⟨h.nd, by simp, fun x hx y hy e => hn (by rw [← List.mem_singleton.1 hy, ← e]; exact hx)⟩
  mem x := by
    rw [Sx.step hs hu, ← h.mem, List.mem_append, List.mem_singleton, ht]
    exact or_congr_right ⟨fun e => by rw [e], fun e => (Option.some.inj e).symm⟩
theorem nodup_len {α : Type} [DecidableEq α] : ∀ {l m : List α}, l.Nodup → (∀ x ∈ l, x ∈ m) → l.length ≤ m.length
  | [], _, _, _ => Nat.zero_le _
  | x :: l, m, hn, h => by
    rw [List.nodup_cons] at hn
    have hx := h x (by simp)
    have h1 := nodup_len (m := m.erase x) hn.2 fun y hy => (List.mem_erase_of_ne (show y ≠ x from fun e => hn.1 (by rw [← e]; exact hy))).2 (h y (by simp [hy]))
    rw [List.length_erase_of_mem hx] at h1
    have := List.length_pos_of_mem hx
    rw [List.length_cons]; omega
theorem nodup_map {α β : Type} {f : α → β} : ∀ {l : List α}, (∀ x ∈ l, ∀ y ∈ l, f x = f y → x = y) → l.Nodup → (l.map f).Nodup
  | [], _, _ => List.nodup_nil
  | x :: l, hf, hn => by
    rw [List.nodup_cons] at hn
    rw [List.map_cons, List.nodup_cons]
    refine ⟨fun h => ?_, nodup_map (fun a ha b hb => hf a (by simp [ha]) b (by simp [hb])) hn.2⟩
    obtain ⟨y, hy, e⟩ := List.mem_map.1 h
    have e2 := hf y (by simp [hy]) x (by simp) e
    exact hn.1 (e2 ▸ hy)
structure Lv (d : Dsk) (s0 : HSt) (day : Nat) (L : List (List Int)) : Prop where
  len : ∀ t ∈ L, t.length = d.n
  mem : ∀ t, t.length = d.n → (t ∈ L ↔ ∃ c, d.pth day s0 (pad t) c)
theorem inS_pad {d : Dsk} (hd : d.ok) {u : HSt} (h : d.inS u) : pad (u.take d.n) = u := by
  have hn := hd.n
  refine ext4 (pad_len' (by rw [List.length_take]; omega)) h.len fun k hk => ?_
  rw [pad_na]
  unfold na
  rw [List.getD_eq_getElem?_getD, List.getD_eq_getElem?_getD, List.getElem?_take]
  by_cases h1 : k < d.n
  · rw [if_pos h1]
  · rw [if_neg h1]
    have := h.out k hk (by omega)
    unfold na at this
    rw [List.getD_eq_getElem?_getD] at this
    rw [this]; rfl
theorem Lv.start {d : Dsk} {s : List Int} (hs : s.length = d.n) : Lv d (pad s) 0 [s] := ⟨fun t ht => by rw [List.mem_singleton.1 ht]; exact hs, fun t ht => by
  rw [List.mem_singleton]
  constructor
  · rintro rfl; exact ⟨0, rfl, rfl⟩
  · rintro ⟨c, h, _⟩; exact pad_inj (by omega) h⟩
theorem Lv.inS {d : Dsk} (hd : d.ok) {s0 : HSt} (h0 : d.inS s0) {day : Nat} {L : List (List Int)} (h : Lv d s0 day L) {t : List Int} (ht : t ∈ L) : d.inS (pad t) := by
  obtain ⟨c, hc⟩ := (h.mem t (h.len t ht)).1 ht
  exact d.pth_inS hd h0 hc
theorem rS_iff {d : Dsk} (hd : d.ok) {la s t : List Int} (hla : ∀ k < d.n, na la k = na d.lasts k) (hs : s.length = d.n) (ht : t.length = d.n) {v : Nat} (hv : v < 2 ^ d.n) : rS d.n d.gangs la s v = some t ↔ bitl d.n v ∈ d.trs false ∧ d.next (pad s) (bitl d.n v) = some (pad t) := by
  have hn := hd.n
  have e := ones_eq hn.2 hv
  have hle := bitl_len d.n v
  have hm : bitl d.n v ∈ d.trs false ↔ ((bitl d.n v).length : Int) ≤ d.gangs := by
    rw [d.mem_trs]
    unfold Dsk.g
    constructor
    · rintro ⟨_, _, _, h, _⟩; omega
    · intro h; exact ⟨v, hv, rfl, by omega, fun h => by cases h⟩
  unfold rS
  rw [e]
  by_cases h : ((bitl d.n v).length : Int) ≤ d.gangs
  · rw [decide_eq_true h, cond_true, rNx_next hn.2 hla hs ht]
    exact ⟨fun h1 => ⟨hm.2 h, h1⟩, fun h1 => h1.2⟩
  · rw [decide_eq_false h, cond_false]
    exact ⟨fun h1 => (by cases h1), fun h1 => absurd (hm.1 h1.1) h⟩
theorem Lv.next {d : Dsk} (hd : d.ok) {s0 : HSt} (h0 : d.inS s0) {la : List Int} (hla : ∀ k < d.n, na la k = na d.lasts k) {day : Nat} {now L : List (List Int)} (h : Lv d s0 day now) (hb : Bf d.n d.gangs la now now.length 0 L) : Lv d s0 (day + 1) L where
  len := hb.len
  mem t ht := by
    rw [hb.mem]
    constructor
    · rintro ⟨j, s, v, h1, _, h3, h4⟩
      have hm := List.mem_of_getElem? h1
      obtain ⟨c, hc⟩ := (h.mem s (h.len s hm)).1 hm
      obtain ⟨h5, h6⟩ := (rS_iff hd hla (h.len s hm) ht h3).1 h4
      exact ⟨_, _, _, _, hc, h5, h6, rfl⟩
    · rintro ⟨c, u, a, l, h1, h2, h3, _⟩
      obtain ⟨v, hv, rfl, _⟩ := d.mem_trs.1 h2
      have hu := d.pth_inS hd h0 h1
      have hlen : (u.take d.n).length = d.n := by rw [List.length_take, hu.len]; have := hd.n; omega
      have e := inS_pad hd hu
      have hm : u.take d.n ∈ now := (h.mem _ hlen).2 ⟨a, by rw [e]; exact h1⟩
      obtain ⟨j, hj⟩ := List.getElem?_of_mem hm
      exact ⟨j, _, v, hj, .inl (List.getElem?_eq_some_iff.1 hj).1, hv, (rS_iff hd hla hlen ht hv).2 ⟨h2, by rw [e]; exact h3⟩⟩
theorem Bf.few {d : Dsk} (hd : d.ok) {s0 : HSt} (h0 : d.inS s0) {la : List Int} (hla : ∀ k < d.n, na la k = na d.lasts k) {day i u : Nat} {now L : List (List Int)} (h : Lv d s0 day now) (hb : Bf d.n d.gangs la now i u L) : L.length ≤ 14641 := by
  have h1 : (L.map pad).length ≤ d.sts.length := nodup_len (nodup_map (fun x hx y hy e => pad_inj (by rw [hb.len x hx, hb.len y hy]) e) hb.nd) fun p hp => by
    obtain ⟨t, ht, rfl⟩ := List.mem_map.1 hp
    obtain ⟨j, s, v, h1, _, h3, h4⟩ := (hb.mem t).1 ht
    have hm := List.mem_of_getElem? h1
    obtain ⟨h5, h6⟩ := (rS_iff hd hla (h.len s hm) (hb.len t ht) h3).1 h4
    exact (d.mem_sts hd _).2 (d.next_inS hd (h.inS hd h0 hm) (d.trs_lt h5) h6)
  rw [List.length_map, d.sts_len] at h1
  have := (d.nst_le hd).2
  omega
theorem Lv.ends {d : Dsk} (hd : d.ok) {s0 : HSt} (h0 : d.inS s0) {day : Nat} (hday : day ≤ d.nst) {now : List (List Int)} (h : Lv d s0 day now) (hne : now ≠ []) (h' : Lv d s0 (day + 1) []) : Kpt d s0 day := by
  refine kpt_ref hd h0 hday ?_ ?_
  · obtain ⟨t, ht⟩ := List.exists_mem_of_ne_nil now hne
    obtain ⟨c, hc⟩ := (h.mem t (h.len t ht)).1 ht
    exact ⟨_, c, hc⟩
  · rintro ⟨t, c, hc⟩
    have hi := d.pth_inS hd h0 hc
    have hlen : (t.take d.n).length = d.n := by rw [List.length_take, hi.len]; have := hd.n; omega
    have := (h'.mem _ hlen).2 ⟨c, by rw [inS_pad hd hi]; exact hc⟩
    cases this
theorem Lv.ever {d : Dsk} (hd : d.ok) {s0 : HSt} (h0 : d.inS s0) {day : Nat} (hday : d.nst ≤ day) {now : List (List Int)} (h : Lv d s0 day now) (hne : now ≠ []) : Kpt d s0 1000000 := by
  obtain ⟨t, ht⟩ := List.exists_mem_of_ne_nil now hne
  obtain ⟨c, hc⟩ := (h.mem t (h.len t ht)).1 ht
  exact kpt_ref_ever hd h0 hday ⟨_, c, hc⟩
end Go.Proofs.YtelegnmfhjfbaaaGreat
namespace Go.Proofs.YtelegnmfhjfbaaaGreat
set_option linter.unusedSimpArgs false
set_option linter.unusedVariables false
open Go
theorem irows_one (l : List Int) : ∀ r ∈ irows l, r.length = 1 := fun r hr => by obtain ⟨x, _, rfl⟩ := List.mem_map.1 hr; rfl
end Go.Proofs.YtelegnmfhjfbaaaGreat
namespace Go.Proofs.YtelegnmfhjfbaaaGreat
set_option linter.unusedSimpArgs false
set_option linter.unusedVariables false
open Go
theorem FnV.lendO {P : Program} {f : FuncId} {v : Value} {e sz : Nat} {rows : List (List Value)} (o : OSl e sz rows) (mk : Value → List Value) {T : Heap} {R : Facts}
    (h : ∀ (a : Option Addr) (c : Nat) (B : World → Prop), FnV P f (mk (.slice a rows.length c)) T (RowsA a sz rows :: B :: R) v) : FnV P f (mk o.fs) (o.G ++ T) R v := fun w hw => by
  obtain ⟨fs, G, hl, his⟩ := o
  rcases his with ⟨rfl, rfl, rfl⟩ | ⟨b, cap, junk, rfl, rfl, h1, h2, h3⟩
  · have h3 : St T (RowsA none sz [] :: (fun _ => True) :: R) w := St.also (St.also hw (f := fun _ => True) (fun _ _ => trivial)) (fun w' _ i row hi => by simp at hi)
    refine CallsIn.mono (h none 0 _ w h3) ?_
    rintro e' w' ⟨u, H', R', ⟨rfl, rfl, rfl⟩, he, hs'⟩
    exact ⟨_, _, R, ⟨rfl, rfl, rfl⟩, he, hs'.ftail.ftail⟩
  · exact FnV.lend (H := (b, cel e (rows.flatten ++ junk)) :: T) (b := b) (e := e) (sz := sz) (rows := rows) (junk := junk) hl (fun B => h _ cap B) w hw
theorem lls_snoc (l : List PL) (x : PL) : lls (l ++ [x]) = lls l ++ [x.l] := by simp [lls]
end Go.Proofs.YtelegnmfhjfbaaaGreat
namespace Go.Proofs.YtelegnmfhjfbaaaGreat
set_option linter.unusedSimpArgs false
set_option linter.unusedVariables false
open Go
def SpI (b : Barn) (m : Nat) (s e : Int) : Prop := (e = 6 ∧ s = 0 ∧ ∀ g : Nat, m ≤ g → g ≤ b.bins.length → b.ends g) ∨
  (e = 0 ∧ ∃ g : Nat, s = g ∧ m ≤ g ∧ g ≤ b.bins.length ∧ Kpt (b.withG g).dsk b.state 1000000 ∧ ∀ j : Nat, m ≤ j → j < g → b.ends j)
theorem SpI.start (b : Barn) : SpI b (b.bins.length + 1) 0 6 := .inl ⟨rfl, rfl, fun g h1 h2 => by omega⟩
theorem SpI.yes {b : Barn} {k : Nat} (hk : k ≤ b.bins.length) (h : Kpt (b.withG k).dsk b.state 1000000) : SpI b k k 0 := .inr ⟨rfl, k, rfl, Nat.le_refl _, hk, h, fun j h1 h2 => by omega⟩
theorem SpI.no {b : Barn} {k : Nat} {s e : Int} (h : SpI b (k + 1) s e) (hn : b.ends k) : SpI b k s e := by
  rcases h with ⟨h1, h2, h3⟩ | ⟨h1, g, h2, h3, h4, h5, h6⟩
  · refine .inl ⟨h1, h2, fun g hg hg2 => ?_⟩
    rcases Nat.lt_or_ge k g with h | h
    · exact h3 g h hg2
    · obtain rfl : g = k := by omega
      exact hn
  · refine .inr ⟨h1, g, h2, by omega, h4, h5, fun j hj hj2 => ?_⟩
    rcases Nat.lt_or_ge k j with h | h
    · exact h6 j h hj2
    · obtain rfl : j = k := by omega
      exact hn
theorem ends_not {b : Barn} {g : Nat} (h : b.ends g) : ¬ Kpt (b.withG g).dsk b.state 1000000 := fun h2 => by
  obtain ⟨w, hw, h3⟩ := h
  exact hw (kpt_unique h3 h2)
theorem SpI.eq {b : Barn} {s e : Int} (h : SpI b 0 s e) (hc : b.check = 0) {v : Value} (hq : SpareQ b v) : v = .tuple #[.int .i64 s, .int .i64 e] := by
  rcases hq with ⟨h1, _⟩ | ⟨_, ⟨g, hg, hn, hk, rfl⟩ | ⟨hn, rfl⟩⟩
  · exact absurd hc h1
  · rcases h with ⟨rfl, rfl, h3⟩ | ⟨rfl, g2, rfl, _, h4, h5, h6⟩
    · exact absurd hk (ends_not (h3 g (Nat.zero_le _) hg))
    · rcases Nat.lt_trichotomy g g2 with h7 | h7 | h7
      · exact absurd hk (ends_not (h6 g (Nat.zero_le _) h7))
      · rw [h7]
      · exact absurd h5 (ends_not (hn g2 h7))
  · rcases h with ⟨rfl, rfl, h3⟩ | ⟨rfl, g2, rfl, _, h4, h5, h6⟩
    · rfl
    · exact absurd h5 (ends_not (hn g2 h4))
theorem Fn.toV {P : Program} {f : FuncId} {args : List Value} {v : Value} {H : Heap} {R : Facts} {Q : Value → Prop} (h : Fn P f args H R (fun u H' R' => Q u ∧ H' = H ∧ R' = R)) (hq : ∀ u, Q u → u = v) : FnV P f args H R v := fun w hw => by
  refine CallsIn.mono (h w hw) ?_
  rintro e' w' ⟨u, H', R', ⟨h1, h2, h3⟩, he, hs'⟩
  exact ⟨u, H', R', ⟨hq u h1, h2, h3⟩, he, hs'⟩
theorem c_FirstK (b : Barn) (ab : Option Addr) (cb : Nat) (hl : b.bins.length ≤ 9223372036854775807) (hr : b.rise.length = 6) (hc : b.check = 0) {m : Int} (hm : Kpt b.dsk b.state m) (H : Heap) (R : Facts) [hB : MemRows ab 4 (brows b.bins) R] : FnV Tryz.prog 16 [b.v (b.sl ab cb)] H R (.tuple #[.int .i64 (bif decide (m = 1000000) then 0 else m), .int .i64 (bif decide (m = 1000000) then 6 else 0)]) := (c_First b ab cb hl hr H R).toV (by rintro u (⟨h, _⟩ | ⟨_, w, hw, rfl⟩); exact absurd hc h; rw [kpt_unique hw hm])
end Go.Proofs.YtelegnmfhjfbaaaGreat
