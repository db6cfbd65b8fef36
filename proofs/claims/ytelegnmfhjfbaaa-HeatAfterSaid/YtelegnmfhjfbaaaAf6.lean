/- Walks of the functions of the program, and the laws that join them: what the last theorem of this claim needs, in order. -/
import Derived.Test.YtelegnmfhjfbaaaAf5
namespace Go.Proofs.Ytelegnmfhjfbaaa
set_option linter.unusedSimpArgs false
set_option linter.unusedVariables false
open Go
theorem Dsk.pth_app {d : Dsk} {s u : HSt} {n a : Nat} (h : d.pth n s u a) : ∀ {m : Nat} {t : HSt} {c : Nat}, d.pth m u t c → d.pth (n + m) s t (a + c)
  | 0, t, c, h2 => by obtain ⟨rfl, rfl⟩ := h2; exact h
  | m + 1, t, c, h2 => by
    obtain ⟨v, e, l, h3, h4, h5, rfl⟩ := h2
    exact ⟨v, a + e, l, pth_app h h3, h4, h5, by omega⟩
theorem withW_stw {b : Barn} {ws : List Int} (hl : ws.length = b.bins.length) (us : List Int) : (b.withB (wbins b.bins ws)).stw us = b.stw us := by
  unfold Barn.stw
  have e1 : (b.withB (wbins b.bins ws)).bins.length = b.bins.length := wbins_len hl
  rw [e1]
  congr 1
  refine List.map_congr_left fun k _ => ?_
  have h := withW_bin (b := b) hl k
  show daysB (na b.rise ((wbins b.bins ws).getD k hb0).hi.toNat) ((wbins b.bins ws).getD k hb0).mark (na us k) = daysB (na b.rise (b.bins.getD k hb0).hi.toNat) (b.bins.getD k hb0).mark (na us k)
  rw [h.1, h.2]
theorem after_les {b : Barn} (hb : b.ok) {ws : List Int} (hc : Cool b ws) (hs : b.dsk.inS (b.stw ws)) : (b.withB (wbins b.bins ws)).state = b.stw ws ∧ ∀ m, (∃ t c, (b.withB (wbins b.bins ws)).dsk.pth m (b.withB (wbins b.bins ws)).state t c) ↔ ∃ t c, b.dsk.pth m (b.stw ws) t c := by
  have hb' := withW_ok hb hc
  have e0 : (b.withB (wbins b.bins ws)).state = b.stw ws := by
    rw [← Barn.stw_warms hb', withW_warms hc.len, withW_stw hc.len]
  have en : (b.withB (wbins b.bins ws)).dsk.n = b.dsk.n := wbins_len hc.len
  have el : ∀ k < b.dsk.n, na (b.withB (wbins b.bins ws)).dsk.lasts k = na b.dsk.lasts k := fun k hk => by
    have a1 := Barn.lasts_at hb (k := k) hk
    have a2 := Barn.lasts_at hb' (k := k) (by rw [show (b.withB (wbins b.bins ws)).bins.length = b.bins.length from wbins_len hc.len]; exact hk)
    have h := withW_bin (b := b) hc.len k
    show na (b.withB (wbins b.bins ws)).lasts k = na b.lasts k
    rw [a1, a2]
    show daysB (na b.rise ((wbins b.bins ws).getD k hb0).hi.toNat) ((wbins b.bins ws).getD k hb0).mark b.cool = daysB (na b.rise (b.bins.getD k hb0).hi.toNat) (b.bins.getD k hb0).mark b.cool
    rw [h.1, h.2]
  have L1 : Les (b.withB (wbins b.bins ws)).dsk b.dsk := ⟨en, Int.le_refl _, fun k hk => by rw [el k (by omega)]; exact Int.le_refl _⟩
  have L2 : Les b.dsk (b.withB (wbins b.bins ws)).dsk := ⟨en.symm, Int.le_refl _, fun k hk => by rw [el k hk]; exact Int.le_refl _⟩
  have hs' := (b.withB (wbins b.bins ws)).state_inS hb'
  refine ⟨e0, fun m => ⟨fun ⟨t, c, q⟩ => ?_, fun ⟨t, c, q⟩ => ?_⟩⟩
  · obtain ⟨t', i, _⟩ := L1.pth ((b.withB (wbins b.bins ws)).dsk_ok hb') (b.dsk_ok hb) hs' hs (fun k _ => by rw [e0]; exact Int.le_refl _) q
    exact ⟨t', c, i⟩
  · obtain ⟨t', i, _⟩ := L2.pth (b.dsk_ok hb) ((b.withB (wbins b.bins ws)).dsk_ok hb') hs hs' (fun k _ => by rw [e0]; exact Int.le_refl _) q
    exact ⟨t', c, i⟩
theorem after_kpt {b : Barn} (hb : b.ok) {p : List (List Nat)} (hp : ∀ l ∈ p, l ∈ b.dsk.trs false) {ws : List Int} (hbn : b.burnsF b.warms (p.map il) 0 = (none, ws)) (hc : Cool b ws) {n m : Int} (hn : Kpt b.dsk b.state n) (hm : Kpt (b.withB (wbins b.bins ws)).dsk (b.withB (wbins b.bins ws)).state m) (h6 : n ≠ 1000000) :
    0 ≤ m ∧ m ≤ n - (p.length : Int) := by
  have hd := b.dsk_ok hb
  have hb' := withW_ok hb hc
  have hr : b.dsk.run b.state p = some (b.stw ws) := by
    rcases Barn.run_burns hb p b.warms 0 (Cool.start hb) (fun l hl => b.dsk.trs_lt (hp l hl)) with ⟨ws', h3, h4, _⟩ | ⟨x, ws', h3, _⟩
    · rw [hbn] at h3; cases h3
      rw [Barn.stw_warms hb] at h4; exact h4
    · rw [hbn] at h3; cases h3
  have hpth := b.dsk.run_pth hp hr
  have hs := b.dsk.pth_inS hd (b.state_inS hb) hpth
  obtain ⟨_, h2⟩ := after_les hb hc hs
  have key : ∀ j : Nat, (m = 1000000 ∨ (j : Int) ≤ m) → ((p.length + j : Nat) : Int) ≤ n := fun j hj => by
    obtain ⟨t, c, q⟩ := (h2 j).1 ((kpt_pth ((b.withB (wbins b.bins ws)).dsk_ok hb') ((b.withB (wbins b.bins ws)).state_inS hb') hm j).2 hj)
    rcases (kpt_pth hd (b.state_inS hb) hn (p.length + j)).1 ⟨_, _, b.dsk.pth_app hpth q⟩ with h | h
    · exact absurd h h6
    · exact h
  have h3 := kpt_nn hm; have h4 := kpt_nn hn
  refine ⟨h3.1, ?_⟩
  by_cases h7 : m = 1000000
  · have := key 20000 (.inl h7); omega
  · have := key m.toNat (.inr (by omega)); omega
theorem plB_cold {b : Barn} (hok : b.ok) {p : List (List Int)} (hpo : b.planned p = 0) (h : (brnQ b p).2.2 = false) : ∃ ws, b.burnsF b.warms p 0 = (none, ws) ∧ Cool b ws ∧ plB b p = b.withB (wbins b.bins ws) := by
  obtain ⟨ws, h1, _, _, _, h2⟩ := plCold hpo h
  exact ⟨ws, h1, burns_cool hok _ _ _ _ (Cool.start hok) h1, h2⟩
theorem plV_ok {b : Barn} {p : List (List Int)} (hpo : b.planned p = 0) : plV b p = bif (brnQ b p).2.2 then 8 else 0 := by unfold plV; rw [decide_eq_true hpo]; rfl
theorem brn_b {b : Barn} {p : List (List Int)} : (brnQ b p).2.2 = decide ((b.burnsF b.warms p 0).1 ≠ none) := by
  rcases brn_cases b p with ⟨ws, h1, h2⟩ | ⟨d, k, ws, h1, h2⟩ <;> rw [h1, h2] <;> simp
theorem after_brn {b : Barn} (hok : b.ok) {p q : List (List Int)} {ws : List Int} (h : b.burnsF b.warms p 0 = (none, ws)) (hc : Cool b ws) : (brnQ b (p ++ q)).2.2 = (brnQ (b.withB (wbins b.bins ws)) q).2.2 := by
  rw [brn_b, brn_b, b.burns_app, h, withW_warms hc.len, withW_burns hc.len]
  dsimp only
  exact decide_eq_decide.2 (not_congr (b.burns_day q ws _ _).2)
theorem PlnOk.cold {b : Barn} (hok : b.ok) {n c : Nat} {p : List (List Nat)} (h : PlnOk b n c p) : (brnQ b (p.map il)).2.2 = false := by
  obtain ⟨t, ht⟩ := h.run
  rw [brn_iff]
  rcases Barn.run_burns hok p b.warms 0 (Cool.start hok) (fun l hl => b.dsk.trs_lt (h.trs l hl)) with ⟨ws, h3, _⟩ | ⟨x, ws, _, h4⟩
  · rw [h3]
  · rw [Barn.stw_warms hok, ht] at h4; cases h4
theorem c_DupRowsO (pl : List PL) (ap : Option Addr) (cp : Nat) (hpl : pl.length ≤ 1000000) (hpi : ∀ x ∈ pl, x.l.length ≤ 1000000) (H : Heap) (R : Facts) [hP : MemRows ap 1 (plrows pl) R] [hI : MemF (Inn pl) R] :
    Fn Try.prog 21 [.slice ap pl.length cp] H R (fun v H' R' => ∃ (ql : List PL) (o : OSl 40 1 (plrows ql)), lls ql = lls pl ∧ v = o.fs ∧ H' = o.G ++ H ∧ R' = Inn ql :: R) := by
 refine fn_of Try.func21 rfl Try.ntmps21 rfl ?_
 refine sy_seq ?_
 refine sy_tx' [0] rfl ?_
 refine sp rfl (PE.assign rfl) rfl ?_
 refine sy_seq ?_
 refine sy_tx' [0, 1, 2, 3] rfl ?_
 refine sp rfl (PE.move rfl) rfl ?_
 refine sp rfl (PE.lenSl isl26 rfl) rfl ?_
 refine mkS rfl ap26 zl40 rfl rfl (Nat.le_refl _) ⟨by omega, by omega⟩ rfl (fun b8 => ?_)
 refine Sy.heap (H' := (b8, cel 40 (pgap [] pl.length)) :: H) (R' := Inn [] :: R) (fun w h => St.inn0 (by rw [← flat_repl] at h; exact h)) ?_
 refine sp rfl (PE.assign rfl) rfl ?_
 refine sy_seq ?_
 refine sy_seq ?_
 refine sy_tx' [0, 1, 2] rfl ?_
 refine sp rfl (PE.move rfl) rfl ?_
 refine sp rfl (PE.lenSl isl26 rfl) rfl ?_
 refine sp rfl (PE.move rfl) rfl ?_
 refine sy_block ?_
 refine sy_loop (ι := {q : List PL // q.length ≤ pl.length ∧ lls q = (lls pl).take q.length}) (fun q => ⟨[(3, .slice (some ⟨b8, 0, none⟩) pl.length pl.length), (9, .slice ap pl.length cp), (10, .int .i64 pl.length), (11, .int .i64 q.1.length)], (b8, cel 40 (pgap q.1 (pl.length - q.1.length))) :: H, Inn q.1 :: R⟩) (fun q => pl.length - q.1.length) ⟨[], Nat.zero_le _, rfl⟩ ?_ (fun q => ?_)
 exact sy_at (by repeat' first | exact Sub.nil | apply Sub.cons | rfl | (simp [lk]; omega)) (fun _ h => h)
 obtain ⟨q, hq, hqe⟩ := q
 dsimp only at hq hqe ⊢
 refine sy_seq ?_
 refine sy_tx' [0] rfl ?_
 refine sp rfl (PE.lss rfl rfl) rfl ?_
 refine sy_seq ?_
 refine sy_cond rfl (fun hc0 => ?_) (fun hc0 => ?_)
 try simp only [decide_eq_true_eq, decide_eq_false_iff_not, Bool.and_eq_true, Bool.or_eq_true, Bool.not_eq_true', Int.not_le, Int.not_lt] at hc0
 obtain ⟨x, hx⟩ : ∃ x, pl[q.length]? = some x := ⟨_, List.getElem?_eq_getElem (by omega)⟩
 have hxm := List.mem_of_getElem? hx
 have hxl := hpi x hxm
 refine sy_addr (a := ap) (sz := 1) (rows := plrows pl) (by intro h0; have := congrArg List.length h0; rw [plrows_len] at this; simp only [List.length_nil] at this; omega) (fun ba oa he => ?_)
 subst he
 refine Sy.heap (fun w h => St.inn (x := x) h hxm) ?_
 refine sy_skip ?_
 refine sy_seq ?_
 refine sy_block ?_
 refine sy_seq ?_
 refine sy_tx' [0, 1, 2, 3, 4] rfl ?_
 refine sp rfl (PE.move rfl) rfl ?_
 refine sp rfl (PE.indexAddr el26 rfl rfl (by omega) (by omega)) rfl ?_
 refine spL rfl rfl (lf0 sc40 (pl_get hx) rfl) rfl ?_
 refine sp rfl (PE.assign rfl) rfl ?_
 refine sp rfl (PE.assign rfl) rfl ?_
 refine sy_tx' [0, 1, 2, 3, 4, 5] rfl ?_
 refine sp rfl (PE.move rfl) rfl ?_
 refine sp rfl (PE.move rfl) rfl ?_
 refine sp rfl (PE.move rfl) rfl ?_
 refine cl rfl cal57 rfl rfl (c_dup_int x.l x.a x.c hxl _ _) ?_
 rintro _ _ _ ⟨o, rfl, ho, rfl, rfl⟩
 obtain ⟨ax, cx, he, hf⟩ := o.freeze
 rw [he, irows_len]
 refine Sy.heap (fun w h => hf h) ?_
 clear he hf
 refine sp rfl (PE.indexAddr el26 rfl rfl (by omega) (by omega)) rfl ?_
 refine stoE (l' := pgap (q ++ [⟨ax, cx, x.l⟩]) (pl.length - (q.length + 1))) rfl rfl rfl cn40 rfl rfl rfl (by rw [show pl.length - q.length = (pl.length - (q.length + 1)) + 1 by omega]; exact pgap_put q _ ⟨ax, cx, x.l⟩ (by show 0 + ((q.length : Nat) : Int).toNat * 1 = _; omega)) (by rw [pgap_len]; show 0 + ((q.length : Nat) : Int).toNat * 1 + 1 ≤ _; omega) ?_
 refine sy_tx' [0, 1] rfl ?_
 refine sp rfl (PE.add rfl rfl (by omega)) rfl ?_
 refine sp rfl (PE.move rfl) rfl ?_
 exact sy_next ⟨q ++ [⟨ax, cx, x.l⟩], by rw [List.length_append, List.length_singleton]; omega, by rw [List.length_append, List.length_singleton, take_snoc (lls_get hx), ← hqe]; simp [lls]⟩ (by dsimp only; rw [List.length_append, List.length_singleton]; omega) (by dsimp only; rw [List.length_append, List.length_singleton]; exact (by repeat' first | exact Sub.nil | apply Sub.cons | rfl | (simp [lk]; omega))) (fun w h => by dsimp only; rw [List.length_append, List.length_singleton]; exact (St.innSnoc (a := ax) (c := cx) (l0 := x.l) (l := q) h).facts (fun g hg => by rcases List.mem_cons.1 hg with h3 | h3 <;> simp [h3]))
 try simp only [decide_eq_true_eq, decide_eq_false_iff_not, Bool.and_eq_true, Bool.or_eq_true, Bool.not_eq_true', Int.not_le, Int.not_lt] at hc0
 have hql : q.length = pl.length := by omega
 rw [hql, List.take_of_length_le (by rw [lls_len]; exact Nat.le_refl _)] at hqe
 refine Sy.heap (H' := (b8, cel 40 ((plrows q).flatten ++ [])) :: H) (fun w h => by rw [hql, Nat.sub_self] at h; exact h) ?_
 obtain ⟨o, ho, hG⟩ : ∃ o : OSl 40 1 (plrows q), o.fs = .slice (some ⟨b8, 0, none⟩) pl.length pl.length ∧ o.G = [(b8, cel 40 ((plrows q).flatten ++ []))] := ⟨⟨_, _, plr_one q, .inr ⟨b8, pl.length, [], by rw [plrows_len, hql], rfl, by rw [plrows_len, hql]; rfl, by rw [plrows_len, hql]; exact Nat.le_refl _, by omega⟩⟩, rfl, rfl⟩
 rw [← ho]
 refine Sy.heap (fun w h => by rw [show (b8, cel 40 ((plrows q).flatten ++ [])) :: H = o.G ++ H by rw [hG]; rfl] at h; exact h) ?_
 refine sy_exit ?_
 repeat refine sy_tx ?_
 refine sy_bx ?_
 refine sy_seq ?_
 refine sy_tx' [0, 1] rfl ?_
 refine sp rfl (PE.move rfl) rfl ?_
 refine sp rfl (PE.assign rfl) rfl ?_
 refine sy_ret ?_
 exact sy_return (vs := [_]) rfl (.cons (RV.tmp rfl) .nil) rfl ⟨q, o, hqe, rfl, rfl, rfl⟩ (fun _ h => h)
theorem c_AfterX (b : Barn) (ab : Option Addr) (cb : Nat) (hl : b.bins.length ≤ 9223372036854775807) (hr : b.rise.length = 6) (pl : List PL) (ap : Option Addr) (cp : Nat) (hpl : pl.length ≤ 9223372036854775807) (hpi : ∀ x ∈ pl, x.l.length ≤ 9223372036854775807) (hpo : b.planned (lls pl) = 0) (H : Heap) (R : Facts) [hB : MemRows ab 4 (brows b.bins) R] [hP : MemRows ap 1 (plrows pl) R] [hI : MemF (Inn pl) R] : Fn Try.prog 29 [b.v (b.sl ab cb), .slice ap pl.length cp] H R (fun v H' R' => ∃ (a : Option Addr) (c : Nat), v = .tuple #[(plB b (lls pl)).v ((plB b (lls pl)).sl a c), .int .i64 (bif (brnQ b (lls pl)).2.2 then 8 else 0)] ∧ H' = H ∧ R' = RowsA a 4 (brows (plB b (lls pl)).bins) :: R) := fun w hw => by
  refine CallsIn.mono (c_AfterF b ab cb hl hr pl ap cp hpl hpi H R w hw) ?_
  rintro e' w' ⟨u, H', R', ⟨rfl, hq⟩, he, hs'⟩
  rw [plV_ok hpo] at hq
  rcases hq with ⟨h1, rfl, rfl⟩ | ⟨ws, bo, hwl, h1, rfl, rfl⟩
  · exact ⟨_, _, _, ⟨none, 0, by rw [h1]; rfl, rfl, rfl⟩, he, by rw [h1]; exact St.noRows hs'⟩
  · rw [h1]
    exact ⟨_, _, _, ⟨some ⟨bo, 0, none⟩, b.bins.length, by show _ = Value.tuple #[(b.withB (wbins b.bins ws)).v (.slice _ (wbins b.bins ws).length _), _]; rw [wbins_len hwl]; show Value.tuple #[(b.withB (wbins b.bins ws)).v (.slice _ (wbins b.bins ws).length _), _] = _; rw [wbins_len hwl], rfl, rfl⟩, he, St.binRows (junk := []) (by rw [List.append_nil]; exact hs')⟩
theorem c_PlanX (b : Barn) (ab : Option Addr) (cb : Nat) (hl : b.bins.length ≤ 9223372036854775807) (hr : b.rise.length = 6) (hok : b.ok) (hck : b.check = 0) {n : Nat} (hn : n ≤ 20) (hx : ∃ t c, b.dsk.pth n b.state t c) (H : Heap) (R : Facts) [hB : MemRows ab 4 (brows b.bins) R] : Fn Try.prog 39 [b.v (b.sl ab cb), .int .i64 n] H R (fun v H' R' => ∃ (c : Nat) (p : List (List Nat)) (pl : List PL) (ap : Option Addr) (cp : Nat), PlnOk b n c p ∧ lls pl = p.map il ∧ v = .tuple #[.slice ap pl.length cp, .int .i64 0] ∧ H' = H ∧ R' = RowsA ap 1 (plrows pl) :: Inn pl :: R) := fun w hw => by
  refine CallsIn.mono (c_Plan b ab cb hl hr n H R w hw) ?_
  rintro e' w' ⟨u, H', R', ⟨rfl, hq⟩, he, hs'⟩
  refine ⟨u, _, R', ?_, he, hs'⟩
  rcases plan_facts hok hck hn with ⟨_, _, h⟩ | ⟨c, p, h1, h2, h3, h4⟩
  · exact absurd hx h
  · rcases hq with ⟨h5, _⟩ | ⟨_, pl, bp, h5, rfl, rfl⟩
    · exact absurd h1 h5
    · rw [h3] at h5
      have hpl : pl.length = n := by have := congrArg List.length h5; rw [lls_len, List.length_map, h4.len] at this; exact this
      exact ⟨c, p, pl, some ⟨bp, 0, none⟩, n, h4, h5, by rw [Int.toNat_natCast, hpl], rfl, rfl⟩
theorem c_HeatAfter (l1 : List Int) (a1 : Option Addr) (c1 : Nat) (hl1 : l1.length ≤ 9223372036854775807) (l2 : List Int) (a2 : Option Addr) (c2 : Nat) (hl2 : l2.length ≤ 9223372036854775807) (H : Heap) (R : Facts) [hG1 : MemRows a1 1 (urows l1) R] [hG2 : MemRows a2 1 (urows l2) R] :
    Fn Try.prog 14 [.slice a1 l1.length c1, .slice a2 l2.length c2] H R (fun v H' R' => v = .bool true ∧ H' = H ∧ R' = R) := by
 refine fn_of Try.func14 rfl Try.ntmps14 rfl ?_
 refine sy_seq ?_
 refine sy_tx' [0] rfl ?_
 refine sp rfl (PE.assign rfl) rfl ?_
 refine sy_seq ?_
 refine sy_tx' [0, 1, 2, 3, 4, 5, 6, 7] rfl ?_
 refine sp rfl (PE.move rfl) rfl ?_
 refine cl rfl cal45 rfl rfl (c_Fill l1 a1 c1 hl1 _ _) ?_
 rintro _ _ R1 ⟨bs, ms, hms, rfl, rfl, hR1⟩
 obtain rfl := hR1.symm
 clear hR1
 refine cl rfl cal44 rfl rfl (c_Made l1 a1 c1 bs hl1 0 ms (by omega) hms 3 2 (by omega) (by omega) _ _) ?_
 rintro _ _ R1 ⟨b, ab, cb, tqb, mxb, hmd, rfl, htqb, hmxb, rfl, hR1⟩
 obtain rfl := hR1.symm
 clear hR1
 have hok := hmd.ok
 have hck := hmd.check
 have hr := hok.len
 have hmn := hok.many
 have hnb := hmd.nb
 have hgn := hok.gangs
 have hng := hmd.ng
 have hl : b.bins.length ≤ 9223372036854775807 := by omega
 refine sp rfl (PE.move rfl) rfl ?_
 refine cl rfl cal45 rfl rfl (c_Fill l2 a2 c2 hl2 _ _) ?_
 rintro _ _ R1 ⟨bt, mt, hmt, rfl, rfl, hR1⟩
 obtain rfl := hR1.symm
 clear hR1
 refine alc rfl zl25 rfl (fun b5 => ?_)
 refine stoE (l' := btl b (b.sl ab cb)) rfl rfl rfl cn25 rfl rfl rfl rfl (Nat.le_of_ble_eq_true rfl) ?_
 refine sp rfl (PE.assign rfl) rfl ?_
 refine sy_seq ?_
 refine sy_tx' [0, 1, 2, 3, 4, 5, 6] rfl ?_
 obtain ⟨x0, hx⟩ : ∃ x, b.bins[0]? = some x := ⟨_, List.getElem?_eq_getElem (by omega)⟩
 refine sy_addr (a := ab) (sz := 4) (rows := brows b.bins) (by intro h0; simp [brows] at h0; simp [h0] at hx) (fun ba oa he => ?_)
 subst he
 clear hx
 refine spL rfl rfl (lhA (btl b (b.sl (some ⟨ba, oa, none⟩) cb)) ag25 rfl rfl rfl) rfl ?_
 refine cl rfl cal35 rfl rfl (c_LongestX b (some ⟨ba, oa, none⟩) cb hl hr hck _ _) ?_
 rintro _ _ _ ⟨⟨m, hm, rfl⟩, rfl, rfl⟩
 have hmr := kpt_nn hm
 refine sp rfl (PE.move rfl) rfl ?_
 refine sp rfl (PE.extract rfl rfl) rfl ?_
 refine sp rfl (PE.extract rfl rfl) rfl ?_
 refine sp rfl (PE.assign rfl) rfl ?_
 refine sp rfl (PE.assign rfl) rfl ?_
 refine sy_seq ?_
 refine sy_seq ?_
 refine sy_tx' [0, 1] rfl ?_
 refine sp rfl (PE.move rfl) rfl ?_
 refine sp rfl (PE.neq rfl rfl) rfl ?_
 refine sy_cond rfl (fun hc0 => ?_) (fun hc0 => ?_)
 exact absurd hc0 (by simp)
 refine sy_skip ?_
 refine sy_seq ?_
 refine sy_draw [0, 0, 0, 4, 15, 31] (.tk 0 (.ld 1 (.tk 2 (.big 3 (.big 4 (.tk 5 .done)))))) mixed (by kernel_rfl) ?_
 refine tk rfl (PE.move rfl) rfl ?_
 refine ld rfl rfl (lhA (btl b (b.sl (some ⟨ba, oa, none⟩) cb)) ag25 rfl rfl rfl) rfl ?_
 refine tk rfl (PE.move rfl) rfl ?_
 refine sy_pull bt ?_
 refine cl rfl cal63 rfl rfl (c_Below l2 a2 c2 bt hl2 _ _ (by omega) (by assumption) (4) _ _) ?_
 rintro _ _ R1 ⟨x41, m41, hx41, rfl, hm41, rfl, hR1⟩
 obtain rfl := hR1.symm
 clear hR1
 obtain ⟨days1, rfl⟩ : ∃ n : Nat, x41 = n := ⟨x41.toNat, by omega⟩
 refine bg (fun w hs => ⟨(lhA (btl b (b.sl (some ⟨ba, oa, none⟩) cb)) ag25 rfl rfl rfl) w hs, trivial⟩) ?_
 refine cl rfl cal67 rfl rfl (c_tried l2 a2 c2 bt hl2 _ _ (by omega) (by assumption) b (some ⟨ba, oa, none⟩) cb hok days1 (by omega) _ _) ?_
 rintro _ _ R1 ⟨p1, pl1, ap1, cp1, tqt1, mxt1, hlp1, hpn1, hpt1, rfl, htqt1, hmxt1, rfl, hR1⟩
 obtain rfl := hR1.symm
 clear hR1
 have hpll1 : pl1.length = p1.length := by have := congrArg List.length hlp1; rwa [lls_len, List.length_map] at this
 have hpi1 : ∀ x ∈ pl1, x.l.length ≤ 9223372036854775807 := fun x hx => by have := lls_four hok hlp1 hpt1 x hx; omega
 refine bg (fun w hs => ⟨trivial, trivial⟩) ?_
 refine tk rfl (PE.assign rfl) rfl ?_
 refine sy_seq ?_
 refine sy_draw [0, 0, 0, 4, 15, 31] (.tk 0 (.ld 1 (.tk 2 (.big 3 (.big 4 (.tk 5 .done)))))) mixed (by kernel_rfl) ?_
 refine tk rfl (PE.move rfl) rfl ?_
 refine ld rfl rfl (lhA (btl b (b.sl (some ⟨ba, oa, none⟩) cb)) ag25 rfl rfl rfl) rfl ?_
 refine tk rfl (PE.move rfl) rfl ?_
 refine sy_pull bt ?_
 refine cl rfl cal63 rfl rfl (c_Below l2 a2 c2 bt hl2 _ _ (by omega) (by assumption) (4) _ _) ?_
 rintro _ _ R1 ⟨x46, m46, hx46, rfl, hm46, rfl, hR1⟩
 obtain rfl := hR1.symm
 clear hR1
 obtain ⟨days2, rfl⟩ : ∃ n : Nat, x46 = n := ⟨x46.toNat, by omega⟩
 refine bg (fun w hs => ⟨(lhA (btl b (b.sl (some ⟨ba, oa, none⟩) cb)) ag25 rfl rfl rfl) w hs, trivial⟩) ?_
 refine cl rfl cal67 rfl rfl (c_tried l2 a2 c2 bt hl2 _ _ (by omega) (by assumption) b (some ⟨ba, oa, none⟩) cb hok days2 (by omega) _ _) ?_
 rintro _ _ R1 ⟨p2, pl2, ap2, cp2, tqt2, mxt2, hlp2, hpn2, hpt2, rfl, htqt2, hmxt2, rfl, hR1⟩
 obtain rfl := hR1.symm
 clear hR1
 have hpll2 : pl2.length = p2.length := by have := congrArg List.length hlp2; rwa [lls_len, List.length_map] at this
 have hpi2 : ∀ x ∈ pl2, x.l.length ≤ 9223372036854775807 := fun x hx => by have := lls_four hok hlp2 hpt2 x hx; omega
 refine bg (fun w hs => ⟨trivial, trivial⟩) ?_
 refine tk rfl (PE.assign rfl) rfl ?_
 refine sy_seq ?_
 refine sy_tx' [0, 1, 2, 3, 4, 5, 6, 7] rfl ?_
 have hpo1 : b.planned (lls pl1) = 0 := by rw [hlp1]; exact planned_of hck (by omega) hpt1
 refine spL rfl rfl (lhA (btl b (b.sl (some ⟨ba, oa, none⟩) cb)) ag25 rfl rfl rfl) rfl ?_
 refine sp rfl (PE.move rfl) rfl ?_
 refine clV rfl cal27 rfl rfl (c_KeepsK b (some ⟨ba, oa, none⟩) cb hl hr pl1 ap1 cp1 (by omega) hpi1 hpo1 _ _) ?_
 refine sp rfl (PE.move rfl) rfl ?_
 refine sp rfl (PE.extract rfl rfl) rfl ?_
 refine sp rfl (PE.extract rfl rfl) rfl ?_
 refine sp rfl (PE.assign rfl) rfl ?_
 refine sp rfl (PE.assign rfl) rfl ?_
 refine sy_seq ?_
 refine sy_tx' [0, 1, 2, 3, 4, 5, 6, 7, 8] rfl ?_
 refine spL rfl rfl (lhA (btl b (b.sl (some ⟨ba, oa, none⟩) cb)) ag25 rfl rfl rfl) rfl ?_
 refine sp rfl (PE.move rfl) rfl ?_
 refine cl rfl cal29 rfl rfl (c_AfterX b (some ⟨ba, oa, none⟩) cb hl hr pl1 ap1 cp1 (by omega) hpi1 hpo1 _ _) ?_
 rintro _ _ R1 ⟨aB, cB, rfl, rfl, hR1⟩
 obtain rfl := hR1.symm
 clear hR1
 obtain ⟨B, hB⟩ : ∃ B, plB b (lls pl1) = B := ⟨_, rfl⟩
 rw [hB]
 refine sp rfl (PE.move rfl) rfl ?_
 refine sp rfl (PE.extract rfl rfl) rfl ?_
 refine sp rfl (PE.extract rfl rfl) rfl ?_
 refine alc rfl zl25 rfl (fun b12 => ?_)
 refine stoE (l' := btl B (B.sl aB cB)) rfl rfl rfl cn25 rfl rfl rfl rfl (Nat.le_of_ble_eq_true rfl) ?_
 refine sp rfl (PE.assign rfl) rfl ?_
 refine sy_seq ?_
 refine sy_seq ?_
 refine sy_tx' [0, 1, 2, 3, 4, 5, 6, 7, 8, 9, 10, 11, 12, 13, 14, 15] rfl ?_
 obtain ⟨⟨d, k, hot⟩, hQ⟩ : ∃ q, brnQ b (lls pl1) = q := ⟨_, rfl⟩
 rw [hQ]
 dsimp only
 refine sp rfl (PE.move rfl) rfl ?_
 refine sp rfl (PE.neq rfl rfl) rfl ?_
 refine sp rfl (PE.move rfl) rfl ?_
 refine sy_case (t := 62) rfl (fun g62 => ?_) (fun g62 => ?_)
 exact absurd g62 (by simp)
 refine spG rfl rfl rfl rfl (PE.move rfl) rfl ?_
 refine spG rfl rfl rfl rfl (PE.move rfl) rfl ?_
 refine spG rfl rfl rfl rfl (PE.eql rfl rfl) rfl ?_
 refine spG rfl rfl rfl rfl (PE.neqBool ub4 rfl rfl) rfl ?_
 refine sp rfl (PE.pick rfl rfl rfl) rfl ?_
 refine sp rfl (PE.move rfl) rfl ?_
 refine sy_case (t := 68) rfl (fun g68 => ?_) (fun g68 => ?_)
 cases hot <;> simp at g68
 refine spG rfl rfl rfl rfl (PE.move rfl) rfl ?_
 refine spG rfl rfl rfl rfl (PE.not rfl) rfl ?_
 refine spG rfl rfl rfl rfl (PE.move rfl) rfl ?_
 refine sy_case (t := 71) rfl (fun g71 => ?_) (fun g71 => ?_)
 refine spG rfl rfl rfl rfl (PE.move rfl) rfl ?_
 refine spG rfl rfl rfl rfl (PE.neq rfl rfl) rfl ?_
 refine spG rfl rfl rfl rfl (PE.pick rfl rfl rfl) rfl ?_
 refine sp rfl (PE.pick rfl rfl rfl) rfl ?_
 refine sy_cond rfl (fun hc1 => ?_) (fun hc1 => ?_)
 cases hot
 exact absurd g71 (by simp)
 exact absurd hc1 (by simp)
 refine sy_skip ?_
 refine sy_seq ?_
 refine sy_seq ?_
 refine sy_tx' [0] rfl ?_
 refine sp rfl (PE.move rfl) rfl ?_
 refine sy_join (ι := Unit) (fun _ => ⟨[(5, .pointer (some ⟨b5, 0, none⟩)), (7, .int .i64 m)], (bt, cel 144 [.slice a2 l2.length c2, .int .i64 (tqt2), .int .u32 (mxt2)]) :: (b5, cel 25 (btl b (b.sl (some ⟨ba, oa, none⟩) cb))) :: (bs, cel 144 [.slice a1 l1.length c1, .int .i64 (tqb), .int .u32 (mxb)]) :: H, RowsA (some ⟨ba, oa, none⟩) 4 (brows b.bins) :: R⟩) ?_ ?_
 refine sy_cond rfl (fun hc2 => ?_) (fun hc2 => ?_)
 try simp only [decide_eq_true_eq, decide_eq_false_iff_not, Bool.and_eq_true, Bool.or_eq_true, Bool.not_eq_true', Int.not_le, Int.not_lt] at hc2
 obtain rfl : hot = false := by cases hot; rfl; exact absurd hc2 (by simp)
 obtain ⟨ws, hbn, hcw, hBw⟩ := plB_cold hok hpo1 (by rw [hQ])
 obtain rfl := hB.symm.trans hBw
 have hokB := withW_ok hok hcw
 have hckB : (b.withB (wbins b.bins ws)).check = 0 := check_of hokB (check_gangs (b := b) hck)
 have hlB : (b.withB (wbins b.bins ws)).bins.length ≤ 9223372036854775807 := by have := hokB.many; omega
 have hpo12 : b.planned (lls pl1 ++ lls pl2) = 0 := by rw [hlp1, hlp2, ← List.map_append]; exact planned_of hck (by rw [List.length_append]; omega) (fun l hl => by rcases List.mem_append.1 hl with hl | hl; exact hpt1 l hl; exact hpt2 l hl)
 have hpoB : (b.withB (wbins b.bins ws)).planned (lls pl2) = 0 := withW_planned hok hck hcw (by rw [hlp2]; exact plan_of_trs (d := b.dsk) (by omega) hpt2)
 refine sy_seq ?_
 refine sy_draw [0, 0, 2, 0, 14, 31, 63, 127, 127, 255, 1023] (.ld 0 (.tk 1 (.tk 3 (.big 2 (.big 4 (.big 5 (.tk 6 (.tk 7 (.tk 8 (.tk 9 (.tk 10 .done))))))))))) mixed (by kernel_rfl) ?_
 refine ld rfl rfl (lhA (btl b (b.sl (some ⟨ba, oa, none⟩) cb)) ag25 rfl rfl rfl) rfl ?_
 refine tk rfl (PE.move rfl) rfl ?_
 refine tk rfl (PE.move rfl) rfl ?_
 refine cl rfl cal21 rfl rfl (c_DupRowsO pl1 ap1 cp1 (by omega) (fun x hx => by have := lls_four hok hlp1 hpt1 x hx; omega) _ _) ?_
 rintro _ _ R1 ⟨q1, oq, hq1, rfl, rfl, hR1⟩
 obtain rfl := hR1.symm
 clear hR1
 have hq1l : q1.length = pl1.length := by have := congrArg List.length hq1; rwa [lls_len, lls_len] at this
 refine bg (fun w hs => ⟨(lhA (btl b (b.sl (some ⟨ba, oa, none⟩) cb)) ag25 rfl rfl rfl) w hs, trivial⟩) ?_
 refine apO oq rfl ap26 rfl rfl (rowsF (a := ap2) (sz := 1) (rows := plrows pl2)) (plrows_len pl2) (pl_onec pl2) (by rw [plrows_len, plrows_len]; omega) rfl (fun o82' => ?_)
 obtain ⟨o82, e82, g82⟩ : ∃ o82 : OSl 40 1 (plrows (q1 ++ pl2)), o82.fs = o82'.fs ∧ o82.G = o82'.G := ⟨o82'.cast (plrows_app q1 pl2).symm, rfl, rfl⟩
 rw [← e82]
 refine Sy.heap (fun w h => by rw [← g82] at h; exact h) ?_
 clear e82 g82
 refine Sy.heap (fun w h => St.innApp (l := q1) (k := pl2) h) ?_
 have hpi12 : ∀ x ∈ q1 ++ pl2, x.l.length ≤ 9223372036854775807 := fun x hx => by
   rcases List.mem_append.1 hx with hx | hx
   · have h1 : x.l ∈ lls pl1 := hq1 ▸ List.mem_map.2 ⟨x, hx, rfl⟩
     obtain ⟨y, hy, e⟩ := List.mem_map.1 h1
     rw [← e]; exact hpi1 y hy
   · exact hpi2 x hx
 have hpoq : b.planned (lls (q1 ++ pl2)) = 0 := by rw [lls_app, hq1]; exact hpo12
 refine bg (fun w hs => ⟨(lhA (btl b (b.sl (some ⟨ba, oa, none⟩) cb)) ag25 rfl rfl rfl) w hs, trivial⟩) ?_
 refine clV rfl cal27 rfl rfl (FnV.lendO o82 (fun v => [b.v (b.sl (some ⟨ba, oa, none⟩) cb), v]) (fun a5 c5 B9 => by rw [plrows_len]; exact c_KeepsK b (some ⟨ba, oa, none⟩) cb hl hr (q1 ++ pl2) a5 c5 (by rw [List.length_append]; omega) hpi12 hpoq _ _)) ?_
 refine bg (fun w hs => ⟨trivial, trivial⟩) ?_
 refine tk rfl (PE.move rfl) rfl ?_
 refine tk rfl (PE.extract rfl rfl) rfl ?_
 refine tk rfl (PE.extract rfl rfl) rfl ?_
 refine tk rfl (PE.assign rfl) rfl ?_
 refine tk rfl (PE.assign rfl) rfl ?_
 refine sy_seq ?_
 refine sy_tx' [0, 1, 2, 3, 4, 5, 6, 7] rfl ?_
 refine spL rfl rfl (lhA (btl (b.withB (wbins b.bins ws)) ((b.withB (wbins b.bins ws)).sl aB cB)) ag25 rfl rfl rfl) rfl ?_
 refine sp rfl (PE.move rfl) rfl ?_
 refine clV rfl cal27 rfl rfl (c_KeepsK (b.withB (wbins b.bins ws)) aB cB hlB hr pl2 ap2 cp2 (by omega) hpi2 hpoB _ _) ?_
 refine sp rfl (PE.move rfl) rfl ?_
 refine sp rfl (PE.extract rfl rfl) rfl ?_
 refine sp rfl (PE.extract rfl rfl) rfl ?_
 refine sp rfl (PE.assign rfl) rfl ?_
 refine sp rfl (PE.assign rfl) rfl ?_
 refine sy_seq ?_
 refine sy_tx' [0, 1, 2, 3, 4, 5, 6] rfl ?_
 refine spL rfl rfl (lhA (btl (b.withB (wbins b.bins ws)) ((b.withB (wbins b.bins ws)).sl aB cB)) ag25 rfl rfl rfl) rfl ?_
 refine cl rfl cal35 rfl rfl (c_LongestX (b.withB (wbins b.bins ws)) aB cB hlB hr hckB _ _) ?_
 rintro _ _ _ ⟨⟨m2, hm2, rfl⟩, rfl, rfl⟩
 refine sp rfl (PE.move rfl) rfl ?_
 refine sp rfl (PE.extract rfl rfl) rfl ?_
 refine sp rfl (PE.extract rfl rfl) rfl ?_
 refine sp rfl (PE.assign rfl) rfl ?_
 refine sp rfl (PE.assign rfl) rfl ?_
 refine sy_seq ?_
 refine sy_tx' [0, 1, 2, 3, 4, 5, 6, 7, 8, 9, 10, 11, 12, 13, 14, 15, 16, 17, 18, 19, 20, 21, 22, 23, 24, 25, 26] rfl ?_
 rw [show (brnQ b (lls (q1 ++ pl2))).2.2 = (brnQ (b.withB (wbins b.bins ws)) (lls pl2)).2.2 by rw [lls_app, hq1]; exact after_brn hok hbn hcw]
 refine sp rfl (PE.move rfl) rfl ?_
 refine sp rfl (PE.neq rfl rfl) rfl ?_
 refine sp rfl (PE.move rfl) rfl ?_
 refine sy_case (t := 99) rfl (fun g99 => ?_) (fun g99 => ?_)
 exact absurd g99 (by simp)
 refine spG rfl rfl rfl rfl (PE.move rfl) rfl ?_
 refine spG rfl rfl rfl rfl (PE.neq rfl rfl) rfl ?_
 refine sp rfl (PE.pick rfl rfl rfl) rfl ?_
 refine sp rfl (PE.move rfl) rfl ?_
 refine sy_case (t := 103) rfl (fun g103 => ?_) (fun g103 => ?_)
 exact absurd g103 (by simp)
 refine spG rfl rfl rfl rfl (PE.move rfl) rfl ?_
 refine spG rfl rfl rfl rfl (PE.neq rfl rfl) rfl ?_
 refine sp rfl (PE.pick rfl rfl rfl) rfl ?_
 refine sp rfl (PE.move rfl) rfl ?_
 refine sy_case (t := 107) rfl (fun g107 => ?_) (fun g107 => ?_)
 exact absurd g107 (by simp)
 refine spG rfl rfl rfl rfl (PE.move rfl) rfl ?_
 refine spG rfl rfl rfl rfl (PE.move rfl) rfl ?_
 refine spG rfl rfl rfl rfl (PE.neqBool ub4 rfl rfl) rfl ?_
 refine sp rfl (PE.pick rfl rfl rfl) rfl ?_
 refine sp rfl (PE.move rfl) rfl ?_
 refine sy_case (t := 112) rfl (fun g112 => ?_) (fun g112 => ?_)
 exact absurd g112 (by simp)
 refine spG rfl rfl rfl rfl (PE.move rfl) rfl ?_
 refine spG rfl rfl rfl rfl (PE.neq rfl rfl) rfl ?_
 refine spG rfl rfl rfl rfl (PE.move rfl) rfl ?_
 refine sy_case (t := 115) rfl (fun g115 => ?_) (fun g115 => ?_)
 obtain ⟨k1, k2⟩ := after_kpt hok hpt1 (hlp1 ▸ hbn) hcw hm hm2 (of_decide_eq_true g115)
 rw [← hpll1] at k2
 refine spG rfl rfl rfl rfl (PE.move rfl) rfl ?_
 refine spG rfl rfl rfl rfl (PE.move rfl) rfl ?_
 refine spG rfl rfl rfl rfl (PE.move rfl) rfl ?_
 refine spG rfl rfl rfl rfl (PE.lenSl isl26 rfl) rfl ?_
 refine spG rfl rfl rfl rfl (PE.sub rfl rfl (by omega)) rfl ?_
 refine spG rfl rfl rfl rfl (PE.gtr rfl rfl) rfl ?_
 refine spG rfl rfl rfl rfl (PE.pick rfl rfl rfl) rfl ?_
 refine sp rfl (PE.pick rfl rfl rfl) rfl ?_
 refine sy_cond rfl (fun hc3 => ?_) (fun hc3 => ?_)
 simp only [decide_eq_true_eq] at hc3; omega
 refine sy_skip ?_
 first | exact sy_jend () (by repeat' first | exact Sub.nil | apply Sub.cons | rfl | (simp [lk]; omega)) (fun w h => (St.drop (h.del b12)).facts (fun g hg => by rcases List.mem_cons.1 hg with hg | hg <;> simp [hg])) | exact sy_jend () (by repeat' first | exact Sub.nil | apply Sub.cons | rfl | (simp [lk]; omega)) (fun w h => (h.del b12).facts (fun g hg => by rcases List.mem_cons.1 hg with hg | hg <;> simp [hg]))
 repeat refine spN rfl rfl rfl rfl rfl rfl rfl rfl ?_
 refine spG rfl rfl rfl rfl (PE.pick rfl rfl rfl) rfl ?_
 refine sp rfl (PE.pick rfl rfl rfl) rfl ?_
 refine sy_condF rfl ?_
 refine sy_skip ?_
 first | exact sy_jend () (by repeat' first | exact Sub.nil | apply Sub.cons | rfl | (simp [lk]; omega)) (fun w h => (St.drop (h.del b12)).facts (fun g hg => by rcases List.mem_cons.1 hg with hg | hg <;> simp [hg])) | exact sy_jend () (by repeat' first | exact Sub.nil | apply Sub.cons | rfl | (simp [lk]; omega)) (fun w h => (h.del b12).facts (fun g hg => by rcases List.mem_cons.1 hg with hg | hg <;> simp [hg]))
 refine sy_skip ?_
 first | exact sy_jend () (by repeat' first | exact Sub.nil | apply Sub.cons | rfl | (simp [lk]; omega)) (fun w h => (St.drop (h.del b12)).facts (fun g hg => by rcases List.mem_cons.1 hg with hg | hg <;> simp [hg])) | exact sy_jend () (by repeat' first | exact Sub.nil | apply Sub.cons | rfl | (simp [lk]; omega)) (fun w h => (h.del b12).facts (fun g hg => by rcases List.mem_cons.1 hg with hg | hg <;> simp [hg]))
 rintro ⟨⟩
 refine sy_seq ?_
 refine sy_seq ?_
 refine sy_tx' [0, 1, 2, 3, 4, 5] rfl ?_
 refine sp rfl (PE.move rfl) rfl ?_
 refine sp rfl (PE.gtr rfl rfl) rfl ?_
 refine sp rfl (PE.move rfl) rfl ?_
 refine sy_case (t := 126) rfl (fun g126 => ?_) (fun g126 => ?_)
 refine spG rfl rfl rfl rfl (PE.move rfl) rfl ?_
 refine spG rfl rfl rfl rfl (PE.leq rfl rfl) rfl ?_
 refine sp rfl (PE.pick rfl rfl rfl) rfl ?_
 refine sy_cond rfl (fun hc4 => ?_) (fun hc4 => ?_)
 try simp only [decide_eq_true_eq, decide_eq_false_iff_not, Bool.and_eq_true, Bool.or_eq_true, Bool.not_eq_true', Int.not_le, Int.not_lt] at hc4
 obtain ⟨n, rfl⟩ : ∃ n : Nat, m = n := ⟨m.toNat, by omega⟩
 refine sy_seq ?_
 refine sy_tx' [0, 1, 2, 3, 4, 5, 6, 7] rfl ?_
 refine spL rfl rfl (lhA (btl b (b.sl (some ⟨ba, oa, none⟩) cb)) ag25 rfl rfl rfl) rfl ?_
 refine sp rfl (PE.move rfl) rfl ?_
 refine cl rfl cal39 rfl rfl (c_PlanX b (some ⟨ba, oa, none⟩) cb hl hr hok hck (n := n) (by omega) ((kpt_pth (b.dsk_ok hok) (b.state_inS hok) hm n).2 (.inr (by omega))) _ _) ?_
 rintro _ _ R1 ⟨c3, p3, pl3, ap3, cp3, hpk, hlp3, rfl, rfl, hR1⟩
 obtain rfl := hR1.symm
 clear hR1
 have hpl3 : pl3.length = n := by have := congrArg List.length hlp3; rw [lls_len, List.length_map, hpk.len] at this; exact this
 have hpi3 : ∀ x ∈ pl3, x.l.length ≤ 9223372036854775807 := fun x hx => by have := lls_four hok hlp3 hpk.trs x hx; omega
 have hp3l := hpk.len
 have hpo3 : b.planned (lls pl3) = 0 := by rw [hlp3]; exact planned_of hck (by omega) hpk.trs
 refine sp rfl (PE.move rfl) rfl ?_
 refine sp rfl (PE.extract rfl rfl) rfl ?_
 refine sp rfl (PE.extract rfl rfl) rfl ?_
 refine sp rfl (PE.assign rfl) rfl ?_
 refine sp rfl (PE.assign rfl) rfl ?_
 refine sy_seq ?_
 refine sy_tx' [0, 1, 2, 3, 4, 5, 6, 7, 8] rfl ?_
 refine spL rfl rfl (lhA (btl b (b.sl (some ⟨ba, oa, none⟩) cb)) ag25 rfl rfl rfl) rfl ?_
 refine sp rfl (PE.move rfl) rfl ?_
 refine cl rfl cal29 rfl rfl (c_AfterX b (some ⟨ba, oa, none⟩) cb hl hr pl3 ap3 cp3 (by omega) hpi3 hpo3 _ _) ?_
 rintro _ _ R1 ⟨aB3, cB3, rfl, rfl, hR1⟩
 obtain rfl := hR1.symm
 clear hR1
 have hcold : (brnQ b (lls pl3)).2.2 = false := by rw [hlp3]; exact hpk.cold hok
 obtain ⟨ws, hbn, hcw, hBw⟩ := plB_cold hok hpo3 hcold
 rw [hcold, hBw]
 have hokB := withW_ok hok hcw
 have hckB : (b.withB (wbins b.bins ws)).check = 0 := check_of hokB (check_gangs (b := b) hck)
 have hlB : (b.withB (wbins b.bins ws)).bins.length ≤ 9223372036854775807 := by have := hokB.many; omega
 refine sp rfl (PE.move rfl) rfl ?_
 refine sp rfl (PE.extract rfl rfl) rfl ?_
 refine sp rfl (PE.extract rfl rfl) rfl ?_
 refine alc rfl zl25 rfl (fun b22 => ?_)
 refine stoE (l' := btl (b.withB (wbins b.bins ws)) ((b.withB (wbins b.bins ws)).sl aB3 cB3)) rfl rfl rfl cn25 rfl rfl rfl rfl (Nat.le_of_ble_eq_true rfl) ?_
 refine sp rfl (PE.assign rfl) rfl ?_
 refine sy_seq ?_
 refine sy_tx' [0, 1, 2, 3, 4, 5, 6] rfl ?_
 refine spL rfl rfl (lhA (btl (b.withB (wbins b.bins ws)) ((b.withB (wbins b.bins ws)).sl aB3 cB3)) ag25 rfl rfl rfl) rfl ?_
 refine cl rfl cal35 rfl rfl (c_LongestX (b.withB (wbins b.bins ws)) aB3 cB3 hlB hr hckB _ _) ?_
 rintro _ _ _ ⟨⟨m4, hm4, rfl⟩, rfl, rfl⟩
 obtain ⟨k1, k2⟩ := after_kpt hok hpk.trs (hlp3 ▸ hbn) hcw hm hm4 (by omega)
 refine sp rfl (PE.move rfl) rfl ?_
 refine sp rfl (PE.extract rfl rfl) rfl ?_
 refine sp rfl (PE.extract rfl rfl) rfl ?_
 refine sp rfl (PE.assign rfl) rfl ?_
 refine sp rfl (PE.assign rfl) rfl ?_
 refine sy_seq ?_
 refine sy_tx' [0, 1, 2, 3, 4, 5, 6, 7, 8, 9, 10, 11, 12, 13] rfl ?_
 refine sp rfl (PE.move rfl) rfl ?_
 refine sp rfl (PE.neq rfl rfl) rfl ?_
 refine sp rfl (PE.move rfl) rfl ?_
 refine sy_case (t := 149) rfl (fun g149 => ?_) (fun g149 => ?_)
 exact absurd g149 (by simp)
 refine spG rfl rfl rfl rfl (PE.move rfl) rfl ?_
 refine spG rfl rfl rfl rfl (PE.neq rfl rfl) rfl ?_
 refine sp rfl (PE.pick rfl rfl rfl) rfl ?_
 refine sp rfl (PE.move rfl) rfl ?_
 refine sy_case (t := 153) rfl (fun g153 => ?_) (fun g153 => ?_)
 exact absurd g153 (by simp)
 refine spG rfl rfl rfl rfl (PE.move rfl) rfl ?_
 refine spG rfl rfl rfl rfl (PE.neq rfl rfl) rfl ?_
 refine sp rfl (PE.pick rfl rfl rfl) rfl ?_
 refine sp rfl (PE.move rfl) rfl ?_
 refine sy_case (t := 157) rfl (fun g157 => ?_) (fun g157 => ?_)
 exact absurd g157 (by simp)
 refine spG rfl rfl rfl rfl (PE.move rfl) rfl ?_
 refine spG rfl rfl rfl rfl (PE.neq rfl rfl) rfl ?_
 refine sp rfl (PE.pick rfl rfl rfl) rfl ?_
 refine sy_cond rfl (fun hc5 => ?_) (fun hc5 => ?_)
 simp only [decide_eq_true_eq] at hc5; omega
 refine sy_skip ?_
 refine sy_seq ?_
 refine sy_tx' [0, 1] rfl ?_
 refine clV rfl cal18 rfl rfl (c_awake _ _) ?_
 refine sp rfl (PE.assign rfl) rfl ?_
 refine sy_ret ?_
 exact sy_return (vs := [_]) rfl (.cons (RV.tmp rfl) .nil) rfl ⟨rfl, rfl, rfl⟩ (fun w h => ((((h.del b22).del bt).del b5).del bs).facts (fun g hg => by simp [hg]))
 refine sy_skip ?_
 refine sy_seq ?_
 refine sy_tx' [0, 1] rfl ?_
 refine clV rfl cal18 rfl rfl (c_awake _ _) ?_
 refine sp rfl (PE.assign rfl) rfl ?_
 refine sy_ret ?_
 exact sy_return (vs := [_]) rfl (.cons (RV.tmp rfl) .nil) rfl ⟨rfl, rfl, rfl⟩ (fun w h => (((h.del bt).del b5).del bs).facts (fun g hg => by simp [hg]))
 repeat refine spN rfl rfl rfl rfl rfl rfl rfl rfl ?_
 refine sp rfl (PE.pick rfl rfl rfl) rfl ?_
 refine sy_condF rfl ?_
 refine sy_skip ?_
 refine sy_seq ?_
 refine sy_tx' [0, 1] rfl ?_
 refine clV rfl cal18 rfl rfl (c_awake _ _) ?_
 refine sp rfl (PE.assign rfl) rfl ?_
 refine sy_ret ?_
 exact sy_return (vs := [_]) rfl (.cons (RV.tmp rfl) .nil) rfl ⟨rfl, rfl, rfl⟩ (fun w h => (((h.del bt).del b5).del bs).facts (fun g hg => by simp [hg]))
 repeat refine spN rfl rfl rfl rfl rfl rfl rfl rfl ?_
 refine spG rfl rfl rfl rfl (PE.pick rfl rfl rfl) rfl ?_
 refine sp rfl (PE.pick rfl rfl rfl) rfl ?_
 refine sy_condF rfl ?_
 refine sy_skip ?_
 refine sy_seq ?_
 refine sy_seq ?_
 refine sy_tx' [0] rfl ?_
 refine sp rfl (PE.move rfl) rfl ?_
 refine sy_join (ι := Unit) (fun _ => ⟨[(5, .pointer (some ⟨b5, 0, none⟩)), (7, .int .i64 m)], (bt, cel 144 [.slice a2 l2.length c2, .int .i64 (tqt2), .int .u32 (mxt2)]) :: (b5, cel 25 (btl b (b.sl (some ⟨ba, oa, none⟩) cb))) :: (bs, cel 144 [.slice a1 l1.length c1, .int .i64 (tqb), .int .u32 (mxb)]) :: H, RowsA (some ⟨ba, oa, none⟩) 4 (brows b.bins) :: R⟩) ?_ ?_
 refine sy_cond rfl (fun hc2 => ?_) (fun hc2 => ?_)
 try simp only [decide_eq_true_eq, decide_eq_false_iff_not, Bool.and_eq_true, Bool.or_eq_true, Bool.not_eq_true', Int.not_le, Int.not_lt] at hc2
 obtain rfl : hot = false := by cases hot; rfl; exact absurd hc2 (by simp)
 obtain ⟨ws, hbn, hcw, hBw⟩ := plB_cold hok hpo1 (by rw [hQ])
 obtain rfl := hB.symm.trans hBw
 have hokB := withW_ok hok hcw
 have hckB : (b.withB (wbins b.bins ws)).check = 0 := check_of hokB (check_gangs (b := b) hck)
 have hlB : (b.withB (wbins b.bins ws)).bins.length ≤ 9223372036854775807 := by have := hokB.many; omega
 have hpo12 : b.planned (lls pl1 ++ lls pl2) = 0 := by rw [hlp1, hlp2, ← List.map_append]; exact planned_of hck (by rw [List.length_append]; omega) (fun l hl => by rcases List.mem_append.1 hl with hl | hl; exact hpt1 l hl; exact hpt2 l hl)
 have hpoB : (b.withB (wbins b.bins ws)).planned (lls pl2) = 0 := withW_planned hok hck hcw (by rw [hlp2]; exact plan_of_trs (d := b.dsk) (by omega) hpt2)
 refine sy_seq ?_
 refine sy_draw [0, 0, 2, 0, 14, 31, 63, 127, 127, 255, 1023] (.ld 0 (.tk 1 (.tk 3 (.big 2 (.big 4 (.big 5 (.tk 6 (.tk 7 (.tk 8 (.tk 9 (.tk 10 .done))))))))))) mixed (by kernel_rfl) ?_
 refine ld rfl rfl (lhA (btl b (b.sl (some ⟨ba, oa, none⟩) cb)) ag25 rfl rfl rfl) rfl ?_
 refine tk rfl (PE.move rfl) rfl ?_
 refine tk rfl (PE.move rfl) rfl ?_
 refine cl rfl cal21 rfl rfl (c_DupRowsO pl1 ap1 cp1 (by omega) (fun x hx => by have := lls_four hok hlp1 hpt1 x hx; omega) _ _) ?_
 rintro _ _ R1 ⟨q1, oq, hq1, rfl, rfl, hR1⟩
 obtain rfl := hR1.symm
 clear hR1
 have hq1l : q1.length = pl1.length := by have := congrArg List.length hq1; rwa [lls_len, lls_len] at this
 refine bg (fun w hs => ⟨(lhA (btl b (b.sl (some ⟨ba, oa, none⟩) cb)) ag25 rfl rfl rfl) w hs, trivial⟩) ?_
 refine apO oq rfl ap26 rfl rfl (rowsF (a := ap2) (sz := 1) (rows := plrows pl2)) (plrows_len pl2) (pl_onec pl2) (by rw [plrows_len, plrows_len]; omega) rfl (fun o82' => ?_)
 obtain ⟨o82, e82, g82⟩ : ∃ o82 : OSl 40 1 (plrows (q1 ++ pl2)), o82.fs = o82'.fs ∧ o82.G = o82'.G := ⟨o82'.cast (plrows_app q1 pl2).symm, rfl, rfl⟩
 rw [← e82]
 refine Sy.heap (fun w h => by rw [← g82] at h; exact h) ?_
 clear e82 g82
 refine Sy.heap (fun w h => St.innApp (l := q1) (k := pl2) h) ?_
 have hpi12 : ∀ x ∈ q1 ++ pl2, x.l.length ≤ 9223372036854775807 := fun x hx => by
   rcases List.mem_append.1 hx with hx | hx
   · have h1 : x.l ∈ lls pl1 := hq1 ▸ List.mem_map.2 ⟨x, hx, rfl⟩
     obtain ⟨y, hy, e⟩ := List.mem_map.1 h1
     rw [← e]; exact hpi1 y hy
   · exact hpi2 x hx
 have hpoq : b.planned (lls (q1 ++ pl2)) = 0 := by rw [lls_app, hq1]; exact hpo12
 refine bg (fun w hs => ⟨(lhA (btl b (b.sl (some ⟨ba, oa, none⟩) cb)) ag25 rfl rfl rfl) w hs, trivial⟩) ?_
 refine clV rfl cal27 rfl rfl (FnV.lendO o82 (fun v => [b.v (b.sl (some ⟨ba, oa, none⟩) cb), v]) (fun a5 c5 B9 => by rw [plrows_len]; exact c_KeepsK b (some ⟨ba, oa, none⟩) cb hl hr (q1 ++ pl2) a5 c5 (by rw [List.length_append]; omega) hpi12 hpoq _ _)) ?_
 refine bg (fun w hs => ⟨trivial, trivial⟩) ?_
 refine tk rfl (PE.move rfl) rfl ?_
 refine tk rfl (PE.extract rfl rfl) rfl ?_
 refine tk rfl (PE.extract rfl rfl) rfl ?_
 refine tk rfl (PE.assign rfl) rfl ?_
 refine tk rfl (PE.assign rfl) rfl ?_
 refine sy_seq ?_
 refine sy_tx' [0, 1, 2, 3, 4, 5, 6, 7] rfl ?_
 refine spL rfl rfl (lhA (btl (b.withB (wbins b.bins ws)) ((b.withB (wbins b.bins ws)).sl aB cB)) ag25 rfl rfl rfl) rfl ?_
 refine sp rfl (PE.move rfl) rfl ?_
 refine clV rfl cal27 rfl rfl (c_KeepsK (b.withB (wbins b.bins ws)) aB cB hlB hr pl2 ap2 cp2 (by omega) hpi2 hpoB _ _) ?_
 refine sp rfl (PE.move rfl) rfl ?_
 refine sp rfl (PE.extract rfl rfl) rfl ?_
 refine sp rfl (PE.extract rfl rfl) rfl ?_
 refine sp rfl (PE.assign rfl) rfl ?_
 refine sp rfl (PE.assign rfl) rfl ?_
 refine sy_seq ?_
 refine sy_tx' [0, 1, 2, 3, 4, 5, 6] rfl ?_
 refine spL rfl rfl (lhA (btl (b.withB (wbins b.bins ws)) ((b.withB (wbins b.bins ws)).sl aB cB)) ag25 rfl rfl rfl) rfl ?_
 refine cl rfl cal35 rfl rfl (c_LongestX (b.withB (wbins b.bins ws)) aB cB hlB hr hckB _ _) ?_
 rintro _ _ _ ⟨⟨m2, hm2, rfl⟩, rfl, rfl⟩
 refine sp rfl (PE.move rfl) rfl ?_
 refine sp rfl (PE.extract rfl rfl) rfl ?_
 refine sp rfl (PE.extract rfl rfl) rfl ?_
 refine sp rfl (PE.assign rfl) rfl ?_
 refine sp rfl (PE.assign rfl) rfl ?_
 refine sy_seq ?_
 refine sy_tx' [0, 1, 2, 3, 4, 5, 6, 7, 8, 9, 10, 11, 12, 13, 14, 15, 16, 17, 18, 19, 20, 21, 22, 23, 24, 25, 26] rfl ?_
 rw [show (brnQ b (lls (q1 ++ pl2))).2.2 = (brnQ (b.withB (wbins b.bins ws)) (lls pl2)).2.2 by rw [lls_app, hq1]; exact after_brn hok hbn hcw]
 refine sp rfl (PE.move rfl) rfl ?_
 refine sp rfl (PE.neq rfl rfl) rfl ?_
 refine sp rfl (PE.move rfl) rfl ?_
 refine sy_case (t := 99) rfl (fun g99 => ?_) (fun g99 => ?_)
 exact absurd g99 (by simp)
 refine spG rfl rfl rfl rfl (PE.move rfl) rfl ?_
 refine spG rfl rfl rfl rfl (PE.neq rfl rfl) rfl ?_
 refine sp rfl (PE.pick rfl rfl rfl) rfl ?_
 refine sp rfl (PE.move rfl) rfl ?_
 refine sy_case (t := 103) rfl (fun g103 => ?_) (fun g103 => ?_)
 exact absurd g103 (by simp)
 refine spG rfl rfl rfl rfl (PE.move rfl) rfl ?_
 refine spG rfl rfl rfl rfl (PE.neq rfl rfl) rfl ?_
 refine sp rfl (PE.pick rfl rfl rfl) rfl ?_
 refine sp rfl (PE.move rfl) rfl ?_
 refine sy_case (t := 107) rfl (fun g107 => ?_) (fun g107 => ?_)
 exact absurd g107 (by simp)
 refine spG rfl rfl rfl rfl (PE.move rfl) rfl ?_
 refine spG rfl rfl rfl rfl (PE.move rfl) rfl ?_
 refine spG rfl rfl rfl rfl (PE.neqBool ub4 rfl rfl) rfl ?_
 refine sp rfl (PE.pick rfl rfl rfl) rfl ?_
 refine sp rfl (PE.move rfl) rfl ?_
 refine sy_case (t := 112) rfl (fun g112 => ?_) (fun g112 => ?_)
 exact absurd g112 (by simp)
 refine spG rfl rfl rfl rfl (PE.move rfl) rfl ?_
 refine spG rfl rfl rfl rfl (PE.neq rfl rfl) rfl ?_
 refine spG rfl rfl rfl rfl (PE.move rfl) rfl ?_
 refine sy_case (t := 115) rfl (fun g115 => ?_) (fun g115 => ?_)
 obtain ⟨k1, k2⟩ := after_kpt hok hpt1 (hlp1 ▸ hbn) hcw hm hm2 (of_decide_eq_true g115)
 rw [← hpll1] at k2
 refine spG rfl rfl rfl rfl (PE.move rfl) rfl ?_
 refine spG rfl rfl rfl rfl (PE.move rfl) rfl ?_
 refine spG rfl rfl rfl rfl (PE.move rfl) rfl ?_
 refine spG rfl rfl rfl rfl (PE.lenSl isl26 rfl) rfl ?_
 refine spG rfl rfl rfl rfl (PE.sub rfl rfl (by omega)) rfl ?_
 refine spG rfl rfl rfl rfl (PE.gtr rfl rfl) rfl ?_
 refine spG rfl rfl rfl rfl (PE.pick rfl rfl rfl) rfl ?_
 refine sp rfl (PE.pick rfl rfl rfl) rfl ?_
 refine sy_cond rfl (fun hc3 => ?_) (fun hc3 => ?_)
 simp only [decide_eq_true_eq] at hc3; omega
 refine sy_skip ?_
 first | exact sy_jend () (by repeat' first | exact Sub.nil | apply Sub.cons | rfl | (simp [lk]; omega)) (fun w h => (St.drop (h.del b12)).facts (fun g hg => by rcases List.mem_cons.1 hg with hg | hg <;> simp [hg])) | exact sy_jend () (by repeat' first | exact Sub.nil | apply Sub.cons | rfl | (simp [lk]; omega)) (fun w h => (h.del b12).facts (fun g hg => by rcases List.mem_cons.1 hg with hg | hg <;> simp [hg]))
 repeat refine spN rfl rfl rfl rfl rfl rfl rfl rfl ?_
 refine spG rfl rfl rfl rfl (PE.pick rfl rfl rfl) rfl ?_
 refine sp rfl (PE.pick rfl rfl rfl) rfl ?_
 refine sy_condF rfl ?_
 refine sy_skip ?_
 first | exact sy_jend () (by repeat' first | exact Sub.nil | apply Sub.cons | rfl | (simp [lk]; omega)) (fun w h => (St.drop (h.del b12)).facts (fun g hg => by rcases List.mem_cons.1 hg with hg | hg <;> simp [hg])) | exact sy_jend () (by repeat' first | exact Sub.nil | apply Sub.cons | rfl | (simp [lk]; omega)) (fun w h => (h.del b12).facts (fun g hg => by rcases List.mem_cons.1 hg with hg | hg <;> simp [hg]))
 refine sy_skip ?_
 first | exact sy_jend () (by repeat' first | exact Sub.nil | apply Sub.cons | rfl | (simp [lk]; omega)) (fun w h => (St.drop (h.del b12)).facts (fun g hg => by rcases List.mem_cons.1 hg with hg | hg <;> simp [hg])) | exact sy_jend () (by repeat' first | exact Sub.nil | apply Sub.cons | rfl | (simp [lk]; omega)) (fun w h => (h.del b12).facts (fun g hg => by rcases List.mem_cons.1 hg with hg | hg <;> simp [hg]))
 rintro ⟨⟩
 refine sy_seq ?_
 refine sy_seq ?_
 refine sy_tx' [0, 1, 2, 3, 4, 5] rfl ?_
 refine sp rfl (PE.move rfl) rfl ?_
 refine sp rfl (PE.gtr rfl rfl) rfl ?_
 refine sp rfl (PE.move rfl) rfl ?_
 refine sy_case (t := 126) rfl (fun g126 => ?_) (fun g126 => ?_)
 refine spG rfl rfl rfl rfl (PE.move rfl) rfl ?_
 refine spG rfl rfl rfl rfl (PE.leq rfl rfl) rfl ?_
 refine sp rfl (PE.pick rfl rfl rfl) rfl ?_
 refine sy_cond rfl (fun hc4 => ?_) (fun hc4 => ?_)
 try simp only [decide_eq_true_eq, decide_eq_false_iff_not, Bool.and_eq_true, Bool.or_eq_true, Bool.not_eq_true', Int.not_le, Int.not_lt] at hc4
 obtain ⟨n, rfl⟩ : ∃ n : Nat, m = n := ⟨m.toNat, by omega⟩
 refine sy_seq ?_
 refine sy_tx' [0, 1, 2, 3, 4, 5, 6, 7] rfl ?_
 refine spL rfl rfl (lhA (btl b (b.sl (some ⟨ba, oa, none⟩) cb)) ag25 rfl rfl rfl) rfl ?_
 refine sp rfl (PE.move rfl) rfl ?_
 refine cl rfl cal39 rfl rfl (c_PlanX b (some ⟨ba, oa, none⟩) cb hl hr hok hck (n := n) (by omega) ((kpt_pth (b.dsk_ok hok) (b.state_inS hok) hm n).2 (.inr (by omega))) _ _) ?_
 rintro _ _ R1 ⟨c3, p3, pl3, ap3, cp3, hpk, hlp3, rfl, rfl, hR1⟩
 obtain rfl := hR1.symm
 clear hR1
 have hpl3 : pl3.length = n := by have := congrArg List.length hlp3; rw [lls_len, List.length_map, hpk.len] at this; exact this
 have hpi3 : ∀ x ∈ pl3, x.l.length ≤ 9223372036854775807 := fun x hx => by have := lls_four hok hlp3 hpk.trs x hx; omega
 have hp3l := hpk.len
 have hpo3 : b.planned (lls pl3) = 0 := by rw [hlp3]; exact planned_of hck (by omega) hpk.trs
 refine sp rfl (PE.move rfl) rfl ?_
 refine sp rfl (PE.extract rfl rfl) rfl ?_
 refine sp rfl (PE.extract rfl rfl) rfl ?_
 refine sp rfl (PE.assign rfl) rfl ?_
 refine sp rfl (PE.assign rfl) rfl ?_
 refine sy_seq ?_
 refine sy_tx' [0, 1, 2, 3, 4, 5, 6, 7, 8] rfl ?_
 refine spL rfl rfl (lhA (btl b (b.sl (some ⟨ba, oa, none⟩) cb)) ag25 rfl rfl rfl) rfl ?_
 refine sp rfl (PE.move rfl) rfl ?_
 refine cl rfl cal29 rfl rfl (c_AfterX b (some ⟨ba, oa, none⟩) cb hl hr pl3 ap3 cp3 (by omega) hpi3 hpo3 _ _) ?_
 rintro _ _ R1 ⟨aB3, cB3, rfl, rfl, hR1⟩
 obtain rfl := hR1.symm
 clear hR1
 have hcold : (brnQ b (lls pl3)).2.2 = false := by rw [hlp3]; exact hpk.cold hok
 obtain ⟨ws, hbn, hcw, hBw⟩ := plB_cold hok hpo3 hcold
 rw [hcold, hBw]
 have hokB := withW_ok hok hcw
 have hckB : (b.withB (wbins b.bins ws)).check = 0 := check_of hokB (check_gangs (b := b) hck)
 have hlB : (b.withB (wbins b.bins ws)).bins.length ≤ 9223372036854775807 := by have := hokB.many; omega
 refine sp rfl (PE.move rfl) rfl ?_
 refine sp rfl (PE.extract rfl rfl) rfl ?_
 refine sp rfl (PE.extract rfl rfl) rfl ?_
 refine alc rfl zl25 rfl (fun b22 => ?_)
 refine stoE (l' := btl (b.withB (wbins b.bins ws)) ((b.withB (wbins b.bins ws)).sl aB3 cB3)) rfl rfl rfl cn25 rfl rfl rfl rfl (Nat.le_of_ble_eq_true rfl) ?_
 refine sp rfl (PE.assign rfl) rfl ?_
 refine sy_seq ?_
 refine sy_tx' [0, 1, 2, 3, 4, 5, 6] rfl ?_
 refine spL rfl rfl (lhA (btl (b.withB (wbins b.bins ws)) ((b.withB (wbins b.bins ws)).sl aB3 cB3)) ag25 rfl rfl rfl) rfl ?_
 refine cl rfl cal35 rfl rfl (c_LongestX (b.withB (wbins b.bins ws)) aB3 cB3 hlB hr hckB _ _) ?_
 rintro _ _ _ ⟨⟨m4, hm4, rfl⟩, rfl, rfl⟩
 obtain ⟨k1, k2⟩ := after_kpt hok hpk.trs (hlp3 ▸ hbn) hcw hm hm4 (by omega)
 refine sp rfl (PE.move rfl) rfl ?_
 refine sp rfl (PE.extract rfl rfl) rfl ?_
 refine sp rfl (PE.extract rfl rfl) rfl ?_
 refine sp rfl (PE.assign rfl) rfl ?_
 refine sp rfl (PE.assign rfl) rfl ?_
 refine sy_seq ?_
 refine sy_tx' [0, 1, 2, 3, 4, 5, 6, 7, 8, 9, 10, 11, 12, 13] rfl ?_
 refine sp rfl (PE.move rfl) rfl ?_
 refine sp rfl (PE.neq rfl rfl) rfl ?_
 refine sp rfl (PE.move rfl) rfl ?_
 refine sy_case (t := 149) rfl (fun g149 => ?_) (fun g149 => ?_)
 exact absurd g149 (by simp)
 refine spG rfl rfl rfl rfl (PE.move rfl) rfl ?_
 refine spG rfl rfl rfl rfl (PE.neq rfl rfl) rfl ?_
 refine sp rfl (PE.pick rfl rfl rfl) rfl ?_
 refine sp rfl (PE.move rfl) rfl ?_
 refine sy_case (t := 153) rfl (fun g153 => ?_) (fun g153 => ?_)
 exact absurd g153 (by simp)
 refine spG rfl rfl rfl rfl (PE.move rfl) rfl ?_
 refine spG rfl rfl rfl rfl (PE.neq rfl rfl) rfl ?_
 refine sp rfl (PE.pick rfl rfl rfl) rfl ?_
 refine sp rfl (PE.move rfl) rfl ?_
 refine sy_case (t := 157) rfl (fun g157 => ?_) (fun g157 => ?_)
 exact absurd g157 (by simp)
 refine spG rfl rfl rfl rfl (PE.move rfl) rfl ?_
 refine spG rfl rfl rfl rfl (PE.neq rfl rfl) rfl ?_
 refine sp rfl (PE.pick rfl rfl rfl) rfl ?_
 refine sy_cond rfl (fun hc5 => ?_) (fun hc5 => ?_)
 simp only [decide_eq_true_eq] at hc5; omega
 refine sy_skip ?_
 refine sy_seq ?_
 refine sy_tx' [0, 1] rfl ?_
 refine clV rfl cal18 rfl rfl (c_awake _ _) ?_
 refine sp rfl (PE.assign rfl) rfl ?_
 refine sy_ret ?_
 exact sy_return (vs := [_]) rfl (.cons (RV.tmp rfl) .nil) rfl ⟨rfl, rfl, rfl⟩ (fun w h => ((((h.del b22).del bt).del b5).del bs).facts (fun g hg => by simp [hg]))
 refine sy_skip ?_
 refine sy_seq ?_
 refine sy_tx' [0, 1] rfl ?_
 refine clV rfl cal18 rfl rfl (c_awake _ _) ?_
 refine sp rfl (PE.assign rfl) rfl ?_
 refine sy_ret ?_
 exact sy_return (vs := [_]) rfl (.cons (RV.tmp rfl) .nil) rfl ⟨rfl, rfl, rfl⟩ (fun w h => (((h.del bt).del b5).del bs).facts (fun g hg => by simp [hg]))
 repeat refine spN rfl rfl rfl rfl rfl rfl rfl rfl ?_
 refine sp rfl (PE.pick rfl rfl rfl) rfl ?_
 refine sy_condF rfl ?_
 refine sy_skip ?_
 refine sy_seq ?_
 refine sy_tx' [0, 1] rfl ?_
 refine clV rfl cal18 rfl rfl (c_awake _ _) ?_
 refine sp rfl (PE.assign rfl) rfl ?_
 refine sy_ret ?_
 exact sy_return (vs := [_]) rfl (.cons (RV.tmp rfl) .nil) rfl ⟨rfl, rfl, rfl⟩ (fun w h => (((h.del bt).del b5).del bs).facts (fun g hg => by simp [hg]))
end Go.Proofs.Ytelegnmfhjfbaaa
